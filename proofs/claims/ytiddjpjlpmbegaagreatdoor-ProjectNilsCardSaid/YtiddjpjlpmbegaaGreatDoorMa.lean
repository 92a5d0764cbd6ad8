import GoSem.Step
set_option linter.unusedVariables false
set_option linter.unusedSimpArgs false
set_option linter.unnecessarySimpa false
set_option autoImplicit false
noncomputable section

namespace Go.DM

inductive T (α : Type) where
  | nil
  | node (v : Option α) (l r : T α)

def bitsF : Nat → Nat → List Bool
  | 0, _ => []
  | f + 1, n => match n with
    | 0 => []
    | m + 1 => (match m % 2 with | 0 => false | _ => true) :: bitsF f (m / 2)
def bits (n : Nat) : List Bool := bitsF n n
namespace T
variable {α : Type}
def getB (bs : List Bool) : T α → Option α :=
  List.rec (motive := fun _ => T α → Option α) (fun t => T.casesOn (motive := fun _ => Option α) t none (fun v _ _ => v))
    (fun b _ ih t => T.casesOn (motive := fun _ => Option α) t none (fun _ l r => Bool.casesOn (motive := fun _ => Option α) b (ih l) (ih r))) bs
def putB (x : Option α) (bs : List Bool) : T α → T α :=
  List.rec (motive := fun _ => T α → T α) (fun t => T.casesOn (motive := fun _ => T α) t (.node x .nil .nil) (fun _ l r => .node x l r))
    (fun b _ ih t => T.casesOn (motive := fun _ => T α) t
      (Bool.casesOn (motive := fun _ => T α) b (.node none (ih .nil) .nil) (.node none .nil (ih .nil)))
      (fun v l r => Bool.casesOn (motive := fun _ => T α) b (.node v (ih l) r) (.node v l (ih r)))) bs
def get (t : T α) (k : Nat) : Option α := getB (bits k) t
def put (t : T α) (k : Nat) (x : Option α) : T α := putB x (bits k) t
def set (t : T α) (k : Nat) (x : α) : T α := putB (some x) (bits k) t
def setL : List α → T α → Nat → T α
  | [], t, _ => t
  | x :: xs, t, i => setL xs (t.set i x) (i + 1)
def getL (t : T α) : Nat → Nat → Option (List α)
  | 0, _ => some []
  | n + 1, i => match t.get i with
    | none => none
    | some x => match t.getL n (i + 1) with
      | none => none
      | some xs => some (x :: xs)
end T

inductive DV where
  | bad
  | bool (b : Bool)
  | int (k : IntKind) (n : Int)
  | float (k : FloatKind) (bits : Nat)
  | str (s : List Nat)
  | ptr (b o : Nat)
  | nilp
  | hdl (t : TypeId)
  | slice (b o len cap sz : Nat) (ex : Bool)
  | nils
  | map (r : Nat)
  | nilm
  | func (fn : Fn) (first captured : List DV)
  | fbox (k b : Nat)
  | nilf
  | iface (t : TypeId) (v : DV)
  | nili
  | agg (l : List DV)
  | tuple (l : List DV)
  deriving Inhabited

def strEq : List Nat → List Nat → Bool
  | [], [] => true
  | a :: x, b :: y => match Nat.beq a b with | true => strEq x y | false => false
  | _, _ => false
def strLt : List Nat → List Nat → Bool
  | _, [] => false
  | [], _ :: _ => true
  | a :: x, b :: y => match Nat.blt a b with | true => true | false => match Nat.beq a b with | true => strLt x y | false => false
def intEq : Int → Int → Bool
  | .ofNat a, .ofNat b => Nat.beq a b
  | .negSucc a, .negSucc b => Nat.beq a b
  | _, _ => false
def kindNo : IntKind → Nat
  | .i8 => 0 | .i16 => 1 | .i32 => 2 | .i64 => 3 | .u8 => 4 | .u16 => 5 | .u32 => 6 | .u64 => 7
def kindEq (a b : IntKind) : Bool := Nat.beq (kindNo a) (kindNo b)
def fnEq : Fn → Fn → Bool
  | .func a, .func b => Nat.beq a b
  | .yield a, .yield b => Nat.beq a b
  | _, _ => false
mutual
def DV.beq (x y : DV) : Bool := match x, y with
  | .bool a, .bool b => match a, b with | true, true => true | false, false => true | _, _ => false
  | .int j a, .int k b => kindEq j k && intEq a b
  | .str a, .str b => strEq a b
  | .ptr a b, .ptr c d => Nat.beq a c && Nat.beq b d
  | .nilp, .nilp => true
  | .hdl a, .hdl b => Nat.beq a b
  | .slice a b c d z e, .slice a' b' c' d' z' e' => Nat.beq a a' && Nat.beq b b' && Nat.beq c c' && Nat.beq d d' && Nat.beq z z' && (match e, e' with | true, true => true | false, false => true | _, _ => false)
  | .nils, .nils => true
  | .map a, .map b => Nat.beq a b
  | .nilm, .nilm => true
  | .func f a b, .func g c d => fnEq f g && DV.beqL a c && DV.beqL b d
  | .fbox a b, .fbox c d => Nat.beq a c && Nat.beq b d
  | .nilf, .nilf => true
  | .iface t v, .iface u w => Nat.beq t u && DV.beq v w
  | .nili, .nili => true
  | .agg a, .agg b => DV.beqL a b
  | .tuple a, .tuple b => DV.beqL a b
  | _, _ => false
termination_by structural x
def DV.beqL (x y : List DV) : Bool := match x, y with
  | [], [] => true
  | a :: x, b :: y => DV.beq a b && DV.beqL x y
  | _, _ => false
termination_by structural x
end

mutual
def ofValue (v : Value) : DV := match v with
  | .bool b => .bool b
  | .int k n => .int k n
  | .float k n => .float k n
  | .string s => .str (s.data.toList.map UInt8.toNat)
  | .pointer none => .nilp
  | .slice none n c => match n, c with | 0, 0 => .nils | _, _ => .bad
  | .map none => .nilm
  | .nilFunc => .nilf
  | .nilIface => .nili
  | .iface t v => .iface t (ofValue v)
  | .agg cs => .agg (ofValueA cs)
  | .tuple cs => .tuple (ofValueA cs)
  | _ => .bad
termination_by structural v
def ofValueA (v : Array Value) : List DV := match v with
  | ⟨l⟩ => ofValueL l
termination_by structural v
def ofValueL (l : List Value) : List DV := match l with
  | [] => []
  | v :: vs => ofValue v :: ofValueL vs
termination_by structural l
end

inductive DObj where
  | cells (c : T DV) (n : Nat) (kin : Option (Nat × Nat))      -- group, shift
  | map (es : List (DV × DV))
  | loop (state : LoopState) (pending : Option Code) (fn : FuncId) (tmps : T DV) (params : List Tmp) (assign body : Code) (defers : Nat)
  | deferred (isOpen : Bool)
  | shuf (ls : List (List Nat))      -- a row of texts, in whatever order

inductive HS where
  | mk (heap : T DObj) (next : Nat) (groups : T (List Nat))

inductive DMode where
  | run
  | returning
  | panicking (chain : List (DV × Bool))

inductive DDef where
  | call (f : DV) (args : List DV)
  | collected (r : Nat)

inductive PItem where
  | run (i : Nat)
  | chk (i : Nat)

inductive DItem where
  | code (c : Code)
  | inBlock (id : Nat)
  | inLoop (body : Code)
  | inScope (body : Code)
  | inReg (all : Array Oper) (rest : List Oper)
  | inDraw (all : Array Oper) (plan : List PItem)
  | inRangeFunc (l : Nat)
  | endRangeFunc (l : Nat)
  | beginRound

inductive DF where
  | mk (fn : FuncId) (tmps : T DV) (todo : List DItem) (defers : List DDef) (mode : DMode) (kind : CallKind) (roundOf : Option Nat)

inductive DS where
  | mk (frs : List DF) (hs : HS)

/-! types -/
def sizeT (P : Program) (t : TypeId) : Option Nat := match P.types[t]? with | some i => some i.size | none => none
def bytesT (P : Program) (t : TypeId) : Option Nat := match P.types[t]? with | some i => some i.bytes | none => none
def under (P : Program) (t : TypeId) : Option TypeDesc := P.underlying t
def isAggD : TypeDesc → Bool
  | .struct _ | .array _ _ => true
  | _ => false
/-- none: one cell; some n: an aggregate of n cells -/
def shapeT (P : Program) (t : TypeId) : Option (Option Nat) := match under P t, sizeT P t with
  | some d, some n => (match isAggD d with | true => some (some n) | false => some none)
  | _, _ => none
def zeroT (P : Program) (t : TypeId) : Option DV := match P.types[t]? with
  | some i => (match i.zero with | some v => some (ofValue v) | none => none)
  | none => none
def DV.cells : DV → List DV
  | .agg l => l
  | v => [v]
def elemSize (P : Program) (t : TypeId) : Option Nat := match under P t with
  | some (.slice e) => sizeT P e
  | _ => none

/-! what an operation comes to -/
inductive Out where
  | val (v : DV) (h : HS)
  | enter (f : FuncId) (args : List DV) (h : HS)
  | round (l : Nat) (args : List DV)
  | defer (d : DDef)
  | recover
  | panic (v : DV)
  | fail

/-! heap -/
def newObj (h : HS) (o : DObj) (v : Nat → DV) : Out := match h with
  | .mk heap next g => .val (v next) (.mk (heap.set next o) (Nat.succ next) g)
def cellsOf (l : List DV) : DObj := .cells (T.setL l .nil 0) l.length none
def newPtr (h : HS) (l : List DV) : Out := newObj h (cellsOf l) fun b => .ptr b 0
def newSl (h : HS) (l : List DV) (len cap sz : Nat) (ex : Bool) : Out := newObj h (cellsOf l) fun b => .slice b 0 len cap sz ex
def getO (h : HS) (b : Nat) : Option DObj := match h with
  | .mk heap _ _ => heap.get b
def setO (h : HS) (b : Nat) (o : DObj) : HS := match h with
  | .mk heap n g => .mk (heap.set b o) n g
def load1 (h : HS) (b o : Nat) : Option DV := match getO h b with
  | some (.cells c _ _) => c.get o
  | _ => none
def loadN (h : HS) (b o n : Nat) : Option (List DV) := match getO h b with
  | some (.cells c _ _) => c.getL n o
  | _ => none
def delAll (b : Nat) : List Nat → T DObj → T DObj
  | [], h => h
  | m :: ms, h => match Nat.beq m b with | true => delAll b ms h | false => delAll b ms (h.put m none)
def cellOk : DV → Bool
  | .bad | .agg _ | .tuple _ => false
  | _ => true
def cellsOk : List DV → Bool
  | [] => true
  | v :: vs => match cellOk v with | true => cellsOk vs | false => false
/-- store cells, all within the block; kin go -/
def storeN (h : HS) (b o : Nat) (l : List DV) : Option HS := match h with
  | .mk heap next gs => match heap.get b with
    | some (.cells c n kin) => (match Nat.ble (o + l.length) n && cellsOk l with
      | false => none
      | true => match kin with
        | none => some (.mk (heap.set b (.cells (T.setL l c o) n none)) next gs)
        | some (g, _) => match gs.get g with
          | some ms => some (.mk ((delAll b ms heap).set b (.cells (T.setL l c o) n none)) next gs)
          | none => none)
    | _ => none

def loadV (P : Program) (h : HS) (t : TypeId) (b o : Nat) : Option DV := match shapeT P t with
  | some none => load1 h b o
  | some (some n) => (match loadN h b o n with | some l => some (.agg l) | none => none)
  | none => none
def storeV (P : Program) (h : HS) (t : TypeId) (b o : Nat) (v : DV) : Option HS := match sizeT P t with
  | some n => (match Nat.beq v.cells.length n with | true => storeN h b o v.cells | false => none)
  | none => none

/-- kin that reach past p go -/
def trimKin (p : Nat) : List Nat → T DObj → T DObj
  | [], h => h
  | m :: ms, h => match h.get m with
    | some (.cells _ n (some (_, sh))) => (match Nat.ble (sh + n) p with | true => trimKin p ms h | false => trimKin p ms (h.put m none))
    | _ => trimKin p ms h

def appendNat (heap : T DObj) (next : Nat) (gs : T (List Nat)) (b o len size : Nat) (c : T DV) (n : Nat) (kin : Option (Nat × Nat)) (new : List DV) (cnt : Nat) : Out :=
  match c.getL (len * size) o with
  | none => .fail
  | some old => match kin with
    | none => (match Nat.ble n (o + len * size) with
      | true => .val (.slice next 0 (len + cnt) (len + cnt) size false)
          (.mk ((heap.set b (.cells c n (some (next, 0)))).set next (.cells (T.setL (old ++ new) .nil 0) (old ++ new).length (some (next, o)))) (Nat.succ next) (gs.set next [next, b]))
      | false => .val (.slice next 0 (len + cnt) (len + cnt) size false)
          (.mk ((heap.put b none).set next (.cells (T.setL (old ++ new) .nil 0) (old ++ new).length none)) (Nat.succ next) gs))
    | some (g, sh) => match gs.get g with
      | none => .fail
      | some ms => .val (.slice next 0 (len + cnt) (len + cnt) size false)
          (.mk ((trimKin (sh + o + len * size) ms heap).set next (.cells (T.setL (old ++ new) .nil 0) (old ++ new).length (some (g, sh + o)))) (Nat.succ next) (gs.set g (next :: ms)))

def appendD (h : HS) (size : Nat) (s : DV) (new : List DV) (cnt : Nat) : Out := match s with
  | .nils => (match cnt with
    | 0 => .val .nils h
    | _ => newSl h new cnt cnt size false)
  | .slice b o len cap sz ex => (match cnt with
    | 0 => .val s h
    | _ => match Nat.ble (len + cnt) cap with
      | true => (match storeN h b (o + len * size) new with
        | some h => .val (.slice b o (len + cnt) cap sz ex) h
        | none => .fail)
      | false => match ex with
        | true => (match loadN h b o (len * size) with
          | some old => newSl h (old ++ new) (len + cnt) (len + cnt) size false
          | none => .fail)
        | false => match Nat.blt 0 cap && cellsOk new with
          | true => (match h with
            | .mk heap next gs => match heap.get b with
              | some (.cells c n kin) => appendNat heap next gs b o len size c n kin new cnt
              | _ => .fail)
          | false => .fail)
  | _ => .fail

/-! operands -/
def undefD : DV := .tuple []
def getT (tmps : T DV) (bs : List Bool) : DV := match T.getB bs tmps with
  | some v => v
  | none => .bad
def eval (tmps : T DV) (x : Operand) : DV := match x with
  | .tmp t => getT tmps (bits t)
  | .const v => ofValue v
  | .global _ => .bad
  | .func f => .func (.func f) [] []
def evalL (tmps : T DV) : List Operand → List DV
  | [] => []
  | x :: xs => eval tmps x :: evalL tmps xs
def evalParts (tmps : T DV) : List (Nat × Operand) → List (Nat × DV)
  | [] => []
  | (i, x) :: xs => (i, eval tmps x) :: evalParts tmps xs
def evalO (tmps : T DV) : Option Operand → Option DV
  | none => none
  | some x => some (eval tmps x)

/-! numbers; what comes out is forced -/
def forceN (n : Nat) (k : Nat → Out) : Out := Nat.casesOn (motive := fun _ => Out) n (k 0) (fun m => k (Nat.succ m))
def outI (k : IntKind) (n : Int) (h : HS) : Out := match n with
  | .ofNat m => forceN m fun m => .val (.int k (.ofNat m)) h
  | .negSucc m => forceN m fun m => .val (.int k (.negSucc m)) h
def outB (b : Bool) (h : HS) : Out := match b with
  | true => .val (.bool true) h
  | false => .val (.bool false) h
def outN (n : Nat) (h : HS) : Out := forceN n fun m => .val (.int .i64 (.ofNat m)) h
def outO (v : Option DV) (h : HS) : Out := match v with
  | some v => .val v h
  | none => .fail

def wrapK (k : IntKind) (n : Int) : Int := match k with
  | .i64 => (match n with
    | .ofNat m => (match Nat.blt m 9223372036854775808 with | true => n | false => IntKind.wrap .i64 n)
    | .negSucc _ => IntKind.wrap .i64 n)
  | k => IntKind.wrap k n
def intLt : Int → Int → Bool
  | .ofNat a, .ofNat b => Nat.blt a b
  | .ofNat _, .negSucc _ => false
  | .negSucc _, .ofNat _ => true
  | .negSucc a, .negSucc b => Nat.blt b a

def arith (op : BinOp) (k : IntKind) (a b : Int) (h : HS) : Out := match op with
  | .add => outI k (wrapK k (Int.add a b)) h
  | .sub => outI k (wrapK k (Int.sub a b)) h
  | .mul => outI k (wrapK k (Int.mul a b)) h
  | .quo => (match intEq b 0 with | true => .fail | false => outI k (k.wrap (Int.tdiv a b)) h)
  | .rem => (match intEq b 0 with | true => .fail | false => outI k (Int.tmod a b) h)
  | .eql => outB (intEq a b) h
  | .neq => outB (!intEq a b) h
  | .lss => outB (intLt a b) h
  | .leq => outB (!intLt b a) h
  | .gtr => outB (intLt b a) h
  | .geq => outB (!intLt a b) h
  | .and => (match a, b with | .ofNat x, .ofNat y => outI k (k.wrap (.ofNat (Nat.land x y))) h | _, _ => .fail)
  | .or => (match a, b with | .ofNat x, .ofNat y => outI k (k.wrap (.ofNat (Nat.lor x y))) h | _, _ => .fail)
  | .xor => (match a, b with | .ofNat x, .ofNat y => outI k (k.wrap (.ofNat (Nat.xor x y))) h | _, _ => .fail)
  | _ => .fail

def shiftD (op : BinOp) (k : IntKind) (a b : Int) (h : HS) : Out := match b with
  | .negSucc _ => .fail
  | .ofNat y =>
    match op, a with
    | .shl, a => outI k (k.wrap (Int.mul a (Int.ofNat (Nat.pow 2 (Nat.min y k.bits))))) h
    | .shr, .ofNat x => outI k (.ofNat (Nat.div x (Nat.pow 2 (Nat.min y k.bits)))) h
    | _, _ => .fail

def eqFields (P : Program) (eq : TypeId → DV → DV → Option Bool) : List Field → List DV → List DV → Option Bool
  | [], _, _ => some true
  | f :: fs, xs, ys => match decide (f.name = "_") with
    | true => eqFields P eq fs xs ys
    | false => match shapeT P f.type with
      | some none => (match xs[f.offset]?, ys[f.offset]? with
        | some a, some b => (match eq f.type a b with
          | some true => eqFields P eq fs xs ys
          | r => r)
        | _, _ => none)
      | some (some n) => (match eq f.type (.agg ((xs.drop f.offset).take n)) (.agg ((ys.drop f.offset).take n)) with
          | some true => eqFields P eq fs xs ys
          | r => r)
      | none => none
/-- plain equality at a type: scalars, strings, structs of them, nils -/
def eqD (P : Program) : (depth : Nat) → TypeId → DV → DV → Option Bool
  | 0, _, _, _ => none
  | d + 1, t, x, y => match under P t, x, y with
    | some .bool, .bool a, .bool b => some (a == b)
    | some (.int _), .int j a, .int k b => (match kindEq j k with | true => some (intEq a b) | false => none)
    | some .string, .str a, .str b => some (strEq a b)
    | some (.pointer _), .nilp, .nilp => some true
    | some (.pointer _), .nilp, .ptr _ _ => some false
    | some (.pointer _), .ptr _ _, .nilp => some false
    | some (.interface _), .nili, .nili => some true
    | some (.interface _), .nili, .iface _ _ => some false
    | some (.interface _), .iface _ _, .nili => some false
    | some (.interface _), .iface t v, .iface u w => (match Nat.beq t u with
      | false => some false
      | true => match P.types[t]? with
        | some i => (match i.comparable with | true => eqD P d t v w | false => none)
        | none => none)
    | some (.slice _), .nils, .nils => some true
    | some (.slice _), .nils, .slice _ _ _ _ _ _ => some false
    | some (.slice _), .slice _ _ _ _ _ _, .nils => some false
    | some (.map _ _), .nilm, .nilm => some true
    | some (.map _ _), .nilm, .map _ => some false
    | some (.map _ _), .map _, .nilm => some false
    | some (.func _ _ _), .nilf, .nilf => some true
    | some (.func _ _ _), .nilf, .func _ _ _ => some false
    | some (.func _ _ _), .func _ _ _, .nilf => some false
    | some (.struct fs), .agg xs, .agg ys => (match P.stoodInHeld t with
      | false => eqFields P (eqD P d) fs.toList xs ys
      | true => none)
    | _, _, _ => none

def binStr (op : BinOp) (a b : List Nat) (h : HS) : Out := match op with
  | .eql => outB (strEq a b) h
  | .neq => outB (!strEq a b) h
  | .lss => outB (strLt a b) h
  | .gtr => outB (!(strLt a b || strEq a b)) h
  | .leq => outB (strLt a b || strEq a b) h
  | .geq => outB (!strLt a b) h
  | .add => (match Nat.ble (a.length + b.length) 1000000 with | true => .val (.str (a ++ b)) h | false => .fail)
  | _ => .fail
def isConstO : Operand → Bool
  | .const _ => true
  | _ => false
/-- where '==' of the machine's asks nothing more -/
def guardOk (P : Program) (t : TypeId) (c : Bool) (x : DV) : Bool := match x with
  | .nili => c
  | .agg _ => !P.eqGuardType P.depth t
  | .bad => false
  | _ => true
def binEq (P : Program) (op : BinOp) (t : TypeId) (c : Bool) (x y : DV) (h : HS) : Out := match guardOk P t c x with
  | false => .fail
  | true => match op with
    | .eql => (match eqD P 100 t x y with | some b => outB b h | none => .fail)
    | .neq => (match eqD P 100 t x y with | some b => outB (!b) h | none => .fail)
    | _ => .fail
def isShift : BinOp → Bool
  | .shl | .shr => true
  | _ => false
def binD (P : Program) (op : BinOp) (t : TypeId) (c : Bool) (x y : DV) (h : HS) : Out := match x with
  | .int k a => (match y with
    | .int k' b => (match isShift op with
      | true => shiftD op k a b h
      | false => match kindEq k k' with
        | true => arith op k a b h
        | false => .fail)
    | _ => .fail)
  | .str a => (match y with
    | .str b => binStr op a b h
    | _ => .fail)
  | x => binEq P op t c x y h

def bytesD : List DV → Option (List Nat)
  | [] => some []
  | .int .u8 (.ofNat n) :: vs => (match Nat.blt n 256, bytesD vs with | true, some s => some (n :: s) | _, _ => none)
  | _ => none
def isU8 (P : Program) (e : TypeId) : Bool := match under P e with
  | some (.int .u8) => true
  | _ => false
def ofBytes (s : List Nat) : List DV := s.map fun c => .int .u8 (.ofNat c)
def convD (P : Program) (h : HS) (src dst : TypeId) (x : DV) : Out := match under P src with
  | none => .fail
  | some _ => match x with
  | .int _ n => (match under P dst with
    | some (.int k) => outI k (wrapK k n) h
    | _ => .fail)
  | .str s => (match under P dst with
    | some .string => .val x h
    | some (.slice e) => (match isU8 P e with | true => newSl h (ofBytes s) s.length s.length 1 false | false => .fail)
    | _ => .fail)
  | .nils => (match under P src, under P dst with
    | some (.slice e), some .string => (match isU8 P e with | true => .val (.str []) h | false => .fail)
    | _, _ => .fail)
  | .slice b o l cap _ _ => (match under P src, under P dst with
    | some (.slice e), some .string => (match isU8 P e with
      | true => (match loadN h b o l with
        | some vs => (match bytesD vs with | some s => .val (.str s) h | none => .fail)
        | none => .fail)
      | false => .fail)
    | some (.slice _), some (.slice e) => (match Nat.beq src dst, isU8 P e && Nat.blt 0 cap with
      | true, true => .val x h
      | _, _ => .fail)
    | _, _ => .fail)
  | _ => .fail

def asNat : DV → Option Nat
  | .int _ (.ofNat n) => some n
  | _ => none

def partD (P : Program) (t : TypeId) (cs : List DV) (off : Nat) : Option DV := match shapeT P t with
  | some none => cs[off]?
  | some (some n) => some (.agg ((cs.drop off).take n))
  | none => none

def partOk : DV → Bool
  | .bad | .tuple _ => false
  | _ => true
def fillD (place : Nat → Option (Nat × Nat)) : List (Nat × DV) → List DV → Option (List DV)
  | [], cells => some cells
  | (i, v) :: rest, cells => match place i with
    | none => none
    | some (off, size) => match Nat.beq v.cells.length size, Nat.ble (off + size) cells.length && partOk v with
      | true, true => fillD place rest (cells.take off ++ (v.cells ++ cells.drop (off + size)))
      | _, _ => none
def fieldPlace (P : Program) (fs : Array Field) (i : Nat) : Option (Nat × Nat) := match fs[i]? with
  | some f => (match sizeT P f.type with | some n => some (f.offset, n) | none => none)
  | none => none
def sizedAll (P : Program) : List Field → Bool
  | [] => true
  | f :: fs => match sizeT P f.type with | some _ => sizedAll P fs | none => false
def repl (l : List DV) : Nat → List DV
  | 0 => []
  | n + 1 => l ++ repl l n

def lowHigh (low high : Option DV) (len : Nat) : Option (Nat × Nat) :=
  match (match high with | none => some len | some v => asNat v), (match low with | none => some 0 | some v => asNat v) with
  | some h, some l => (match Nat.ble l h with | true => some (l, h) | false => none)
  | _, _ => none

def sliceOf (h : HS) (b o size cap : Nat) (ex : Bool) (l hi : Nat) (hs : Bool) (max : Option DV) : Out := match max with
  | some m => (match asNat m with
    | some m => (match Nat.ble hi m, Nat.ble m cap && hs with
      | true, true => .val (.slice b (o + l * size) (hi - l) (m - l) size true) h
      | _, _ => .fail)
    | none => .fail)
  | none => match Nat.ble hi cap with
    | true => .val (.slice b (o + l * size) (hi - l) (cap - l) size ex) h
    | false => .fail

def sliceD (P : Program) (h : HS) (t : TypeId) (x : DV) (low high max : Option DV) : Out := match x with
  | .str s => (match under P t, max, lowHigh low high s.length with
    | some .string, none, some (l, hi) => (match Nat.ble hi s.length with | true => .val (.str ((s.take hi).drop l)) h | false => .fail)
    | _, _, _ => .fail)
  | .nils => (match elemSize P t, lowHigh low high 0 with
    | some _, some (0, 0) => (match max with
      | none => .val .nils h
      | some m => (match asNat m, high.isSome with
        | some 0, true => .val .nils h
        | _, _ => .fail))
    | _, _ => .fail)
  | .ptr b o => (match under P t with
    | some (.array n e) => (match max, sizeT P e, lowHigh low high n with
      | none, some size, some (l, hi) => (match Nat.ble hi n with
        | true => (match getO h b with
          | some (.cells _ m _) => (match Nat.ble (o + n * size) m with | true => .val (.slice b (o + l * size) (hi - l) (n - l) size true) h | false => .fail)
          | _ => .fail)
        | false => .fail)
      | _, _, _ => .fail)
    | _ => .fail)
  | .slice b o len cap sz ex => (match elemSize P t, lowHigh low high len with
    | some size, some (l, hi) => (match Nat.beq sz size with | true => sliceOf h b o size cap ex l hi high.isSome max | false => .fail)
    | _, _ => .fail)
  | _ => .fail

def keyScalar : TypeDesc → Bool
  | .int _ | .string | .bool => true
  | _ => false
def keyFields (P : Program) (l : List DV) : List Field → Bool
  | [] => true
  | f :: fs => match decide (f.name = "_"), under P f.type, l[f.offset]? with
    | false, some d, some _ => (match keyScalar d with | true => keyFields P l fs | false => false)
    | _, _, _ => false
def keyOk (P : Program) (t : TypeId) (k : DV) : Bool := match under P t with
  | some d => (match keyScalar d with
    | true => true
    | false => match d, k with
      | .struct fs, .agg l => keyFields P l fs.toList
      | _, _ => false)
  | none => false
def mapFind (P : Program) (t : TypeId) (k : DV) : List (DV × DV) → Nat → Option (Option (Nat × DV))
  | [], _ => some none
  | (a, v) :: es, i => match eqD P 100 t k a with
    | some true => some (some (i, v))
    | some false => mapFind P t k es (i + 1)
    | none => none

def funcVal (f : DV) (args : List DV) (h : HS) : Out := match f with
  | .func (.func g) first cap => .enter g (first ++ (args ++ cap)) h
  | .func (.yield l) [] [] => .round l args
  | _ => .fail

def methFn (P : Program) (t : TypeId) (m : Method) : Option FuncId := match m.func with
  | some (f, pr) => (match m.path.isEmpty, under P t with
    | true, some (.pointer _) => (match pr with | true => some f | false => none)
    | true, some _ => (match pr with | true => none | false => some f)
    | _, _ => none)
  | none => none
def findMethod (P : Program) (t : TypeId) (name : String) : Option FuncId := match P.types[t]? with
  | some i => (match i.methods.toList.find? (fun m => m.name == name) with
    | some m => methFn P t m
    | none => none)
  | none => none

def notInt (P : Program) : Option TypeId → Bool
  | none => true
  | some t => match under P t with
    | none => false
    | some (.int _) => false
    | some _ => true
def elemInfo (P : Program) (t : TypeId) : Option (Nat × Nat × DV) := match under P t with
  | some (.slice e) => (match sizeT P e, bytesT P e, zeroT P e with
    | some s, some b, some z => (match partOk z && Nat.beq z.cells.length s with | true => some (s, b, z) | false => none)
    | _, _, _ => none)
  | _ => none
def lenD : DV → Nat
  | .slice _ _ n _ _ _ => n
  | _ => 0
def szOk (size : Nat) : DV → Bool
  | .slice _ _ _ _ sz _ => Nat.beq sz size
  | .nils => true
  | _ => false
/-- sums that no memory bears are left alone -/
def roomOk (s : DV) (cnt bytes : Nat) : Bool := Nat.ble ((2 * (lenD s + cnt) + 768) * bytes) 1000000000000 && Nat.ble (lenD s + cnt) 1000000000
def xAppend (P : Program) (h : HS) (ts : Array TypeId) (s x : DV) : Out := match ts[0]?, notInt P ts[1]? with
  | some t, true => (match elemInfo P t with
    | some (size, bytes, _) => (match szOk size s with
      | true => (match x with
        | .nils => appendD h size s [] 0
        | .slice b o n _ sz _ => (match Nat.beq sz size && roomOk s n bytes, loadN h b o (n * size) with | true, some l => appendD h size s l n | _, _ => .fail)
        | .str st => (match Nat.beq size 1 && roomOk s st.length bytes with | true => appendD h size s (ofBytes st) st.length | false => .fail)
        | _ => .fail)
      | false => .fail)
    | none => .fail)
  | _, _ => .fail
def xCopy (P : Program) (h : HS) (ts : Array TypeId) (s x : DV) : Out := match ts[0]? with
  | some t => (match elemSize P t, s with
    | some size, .slice b o len _ _ _ => (match x with
      | .slice b' o' n _ _ _ => (match Nat.min n len with
        | 0 => outN 0 h
        | k + 1 => match loadN h b' o' ((k + 1) * size) with
          | some l => (match storeN h b o l with | some h => outN (k + 1) h | none => .fail)
          | none => .fail)
      | .nils => outN 0 h
      | .str st => (match Nat.min st.length len with
        | 0 => outN 0 h
        | k + 1 => (match storeN h b o (ofBytes (st.take (k + 1))) with | some h => outN (k + 1) h | none => .fail))
      | _ => .fail)
    | some _, .nils => (match x with
      | .slice _ _ _ _ _ _ => outN 0 h
      | .nils => outN 0 h
      | _ => .fail)
    | _, _ => .fail)
  | none => .fail
def xLen (P : Program) (h : HS) (ts : Array TypeId) (x : DV) : Out := match ts[0]? with
  | some t => (match under P t, x with
    | some .string, .str s => outN s.length h
    | some (.slice _), .slice _ _ n _ _ _ => outN n h
    | some (.slice _), .nils => outN 0 h
    | some (.map _ _), .nilm => outN 0 h
    | some (.map _ _), .map r => (match getO h r with | some (.map es) => outN es.length h | _ => .fail)
    | _, _ => .fail)
  | none => .fail
def xCap (P : Program) (h : HS) (ts : Array TypeId) (x : DV) : Out := match ts[0]? with
  | some t => (match under P t, x with
    | some (.slice _), .nils => outN 0 h
    | some (.slice _), .slice _ _ _ c _ true => outN c h
    | _, _ => .fail)
  | none => .fail
def xMax (h : HS) (x y : DV) : Out := match x, y with
  | .int k a, .int _ b => outI k (match intLt a b with | true => b | false => a) h
  | _, _ => .fail
def xMin (h : HS) (x y : DV) : Out := match x, y with
  | .int k a, .int _ b => outI k (match intLt b a with | true => b | false => a) h
  | _, _ => .fail
def xBuiltin (P : Program) (tmps : T DV) (h : HS) (b : Builtin) (ts : Array TypeId) (args : List Operand) : Out := match b with
  | .len => (match args with | [x] => xLen P h ts (eval tmps x) | _ => .fail)
  | .append => (match args with | [s, x] => xAppend P h ts (eval tmps s) (eval tmps x) | _ => .fail)
  | .cap => (match args with | [x] => xCap P h ts (eval tmps x) | _ => .fail)
  | .copy => (match args with | [s, x] => xCopy P h ts (eval tmps s) (eval tmps x) | _ => .fail)
  | .max => (match args with | [x, y] => xMax h (eval tmps x) (eval tmps y) | _ => .fail)
  | .min => (match args with | [x, y] => xMin h (eval tmps x) (eval tmps y) | _ => .fail)
  | .recover => .recover
  | _ => .fail

def xPick (tmps : T DV) (h : HS) (c a b : Operand) : Out := match eval tmps c with
  | .bool t => (match t with | true => .val (eval tmps a) h | false => .val (eval tmps b) h)
  | _ => .fail
def xAlloc (P : Program) (h : HS) (e : TypeId) : Out := match zeroT P e with
  | some z => newPtr h z.cells
  | none => .fail
def xBox (h : HS) (v : DV) : Out := match partOk v with
  | true => newPtr h v.cells
  | false => .fail
def xBuild (P : Program) (tmps : T DV) (h : HS) (t : TypeId) (ps : List (Nat × Operand)) : Out := match zeroT P t, under P t with
  | some z, some (.struct fs) => (match sizedAll P fs.toList && partOk z with
    | true => (match fillD (fieldPlace P fs) (evalParts tmps ps) z.cells with | some l => .val (.agg l) h | none => .fail)
    | false => .fail)
  | some z, some (.array _ e) => (match sizeT P e, partOk z with
    | some size, true => (match fillD (fun i => some (i * size, size)) (evalParts tmps ps) z.cells with | some l => .val (.agg l) h | none => .fail)
    | _, _ => .fail)
  | _, _ => .fail
def xBuildSlice (P : Program) (tmps : T DV) (h : HS) (t : TypeId) (len : Nat) (ps : List (Nat × Operand)) : Out := match under P t with
  | some (.slice e) => (match sizeT P e, zeroT P e with
    | some size, some z => (match Nat.ble (len * size) 100000 && partOk z && Nat.beq z.cells.length size with
      | true => (match fillD (fun i => some (i * size, size)) (evalParts tmps ps) (repl z.cells len) with
        | some l => newSl h l len len size true
        | none => .fail)
      | false => .fail)
    | _, _ => .fail)
  | _ => .fail
def xLoad (P : Program) (h : HS) (t : TypeId) (a : DV) : Out := match a with
  | .ptr b o => outO (loadV P h t b o) h
  | _ => .fail
def xStore (P : Program) (h : HS) (t : TypeId) (a v : DV) : Out := match a with
  | .ptr b o => (match storeV P h t b o v with | some h => .val undefD h | none => .fail)
  | _ => .fail
def xNilCheck (h : HS) (x : DV) : Out := match x with
  | .ptr _ _ => .val x h
  | .func (.func _) _ _ => .val x h
  | .func (.yield _) _ _ => .val x h
  | _ => .fail
def xUn (op : UnOp) (h : HS) (x : DV) : Out := match op, x with
  | .not, .bool b => outB (!b) h
  | .neg, .int k n => outI k (k.wrap (Int.sub 0 n)) h
  | _, _ => .fail
def xIface (P : Program) (h : HS) (t : TypeId) (x : DV) : Out := match under P t with
  | some (.interface _) => .fail
  | some _ => .val (.iface t x) h
  | none => .fail
def xMakeMap (P : Program) (tmps : T DV) (h : HS) (t : TypeId) (r : Option Operand) : Out := match under P t with
  | some (.map _ _) => (match r with
  | none => newObj h (.map []) .map
  | some x => match eval tmps x with
    | .int _ _ => newObj h (.map []) .map
    | _ => .fail)
  | _ => .fail
def xMakeSlice (P : Program) (h : HS) (t : TypeId) (l c : DV) : Out := match asNat l, asNat c, under P t with
  | some l, some c, some (.slice e) => (match sizeT P e, zeroT P e with
    | some size, some z => (match Nat.ble l c && Nat.ble (c * size) 100000 && partOk z && Nat.beq z.cells.length size && Nat.ble c 100000, bytesT P e with
      | true, some n => (match Nat.ble (n * c) 100000000 with | true => newSl h (repl z.cells c) l c size true | false => .fail)
      | _, _ => .fail)
    | _, _ => .fail)
  | _, _, _ => .fail
def offOf (P : Program) (t : TypeId) (f : Nat) : Option Nat := match under P t with
  | some (.struct fs) => (match fs[f]? with
    | some f => (match sizeT P f.type with | some (_ + 1) => some f.offset | _ => none)
    | none => none)
  | _ => none
def xFieldAddr (P : Program) (h : HS) (t : TypeId) (x : DV) (f : Nat) : Out := match x with
  | .ptr b o => (match offOf P t f with | some d => forceN (o + d) fun o => .val (.ptr b o) h | none => .fail)
  | _ => .fail
def xField (P : Program) (h : HS) (t : TypeId) (x : DV) (f : Nat) : Out := match x with
  | .agg cs => (match under P t with
    | some (.struct fs) => (match fs[f]? with | some f => outO (partD P f.type cs f.offset) h | none => .fail)
    | _ => .fail)
  | _ => .fail
def ixAddr (h : HS) (b o size len : Nat) (i : DV) : Out := match asNat i with
  | some i => (match Nat.blt i len with | true => forceN (o + i * size) fun o => .val (.ptr b o) h | false => .fail)
  | none => .fail
def xIndexAddr (P : Program) (h : HS) (t : TypeId) (x i : DV) : Out := match x with
  | .slice b o len _ _ _ => (match elemSize P t with | some size => ixAddr h b o size len i | none => .fail)
  | .ptr b o => (match under P t with
    | some (.array len e) => (match sizeT P e with | some size => ixAddr h b o size len i | none => .fail)
    | _ => .fail)
  | _ => .fail
def xIndex (P : Program) (h : HS) (t : TypeId) (x i : DV) : Out := match x with
  | .str s => (match under P t, asNat i with
    | some .string, some i => (match s[i]? with | some c => .val (.int .u8 (.ofNat c)) h | none => .fail)
    | _, _ => .fail)
  | .agg cs => (match under P t, asNat i with
    | some (.array len e), some i => (match sizeT P e, Nat.blt i len with
      | some size, true => outO (partD P e cs (i * size)) h
      | _, _ => .fail)
    | _, _ => .fail)
  | _ => .fail
def xArrPtr (P : Program) (h : HS) (a : TypeId) (x : DV) : Out := match under P a, x with
  | some (.array n _), .slice b o len _ _ _ => (match Nat.ble n len && Nat.blt 0 n with | true => .val (.ptr b o) h | false => .fail)
  | _, _ => .fail
def entriesD (h : HS) (m : DV) : Option (List (DV × DV)) := match m with
  | .nilm => some []
  | .map r => (match getO h r with | some (.map es) => some es | _ => none)
  | _ => none
def xLookup (P : Program) (h : HS) (t : TypeId) (m k : DV) (ok : Bool) : Out := match under P t with
  | some (.map kt e) => (match keyOk P kt k, entriesD h m with
    | true, some es => (match mapFind P kt k es 0 with
      | some (some (_, v)) => .val (match ok with | true => .tuple [v, .bool true] | false => v) h
      | some none => (match zeroT P e with
        | some z => .val (match ok with | true => .tuple [z, .bool false] | false => z) h
        | none => .fail)
      | none => .fail)
    | _, _ => .fail)
  | _ => .fail
def plainKey : DV → Bool
  | .str _ => true
  | _ => false
def xMapUpdate (P : Program) (h : HS) (t : TypeId) (m k v : DV) : Out := match under P t, m with
  | some (.map kt _), .map r => (match keyOk P kt k, getO h r with
    | true, some (.map es) => (match mapFind P kt k es 0 with
      | some none => .val undefD (setO h r (.map (es ++ [(k, v)])))
      | some (some (i, _)) => (match plainKey k with
        | true => .val undefD (setO h r (.map (es.set i (k, v))))
        | false => .fail)
      | none => .fail)
    | _, _ => .fail)
  | _, _ => .fail
def xExtract (h : HS) (x : DV) (i : Nat) : Out := match x with
  | .tuple vs => outO vs[i]? h
  | _ => .fail
def xTypeAssert (P : Program) (h : HS) (x : DV) (a : TypeId) (ok : Bool) : Out := match under P a, zeroT P a with
  | some (.interface _), _ => .fail
  | some _, some z => (match x with
    | .nili => (match ok with | true => .val (.tuple [z, .bool false]) h | false => .fail)
    | .iface t v => (match Nat.beq t a, ok with
      | true, true => .val (.tuple [v, .bool true]) h
      | true, false => .val v h
      | false, true => .val (.tuple [z, .bool false]) h
      | false, false => .fail)
    | _ => .fail)
  | _, _ => .fail
def xCall (P : Program) (tmps : T DV) (h : HS) (c : Call) : Out := match c.callee with
  | .value f => funcVal (eval tmps f) (evalL tmps c.args.toList) h
  | .builtin b => xBuiltin P tmps h b c.argTypes c.args.toList
  | .invoke r name => (match eval tmps r with
    | .iface t v => (match findMethod P t name with
      | some f => .enter f (v :: evalL tmps c.args.toList) h
      | none => .fail)
    | _ => .fail)
def xDefer (tmps : T DV) (c : Call) : Out := match c.callee with
  | .value f => (match eval tmps f with
    | .func fn a b => .defer (.call (.func fn a b) (evalL tmps c.args.toList))
    | _ => .fail)
  | _ => .fail
def xPanic (x : DV) : Out := match x with
  | .iface _ _ => .panic x
  | _ => .fail

def xMakeFunc (fn : Fn) (a b : List DV) (h : HS) : Out := match fn with
  | .yield _ => .fail
  | fn => .val (.func fn a b) h

def exec (P : Program) (tmps : T DV) (h : HS) (op : Op) : Out :=
  match op with
  | .move x => .val (eval tmps x) h
  | .assign x => .val (eval tmps x) h
  | .pick c a b => xPick tmps h c a b
  | .alloc e => xAlloc P h e
  | .box _ x => xBox h (eval tmps x)
  | .build t ps => xBuild P tmps h t ps.toList
  | .buildSlice t len ps => xBuildSlice P tmps h t len ps.toList
  | .load t a => xLoad P h t (eval tmps a)
  | .store t a x => xStore P h t (eval tmps a) (eval tmps x)
  | .nilCheck x => xNilCheck h (eval tmps x)
  | .binOp op t x y _ => binD P op t (isConstO x || isConstO y) (eval tmps x) (eval tmps y) h
  | .unOp op _ x => xUn op h (eval tmps x)
  | .convert src dst x => convD P h src dst (eval tmps x)
  | .makeInterface t x => xIface P h t (eval tmps x)
  | .makeFunc fn first cap => xMakeFunc fn (evalL tmps first.toList) (evalL tmps cap.toList) h
  | .makeMap t r => xMakeMap P tmps h t r
  | .makeSlice t l c => xMakeSlice P h t (eval tmps l) (eval tmps c)
  | .slice t x lo hi mx => sliceD P h t (eval tmps x) (evalO tmps lo) (evalO tmps hi) (evalO tmps mx)
  | .fieldAddr t x f => xFieldAddr P h t (eval tmps x) f
  | .field t x f => xField P h t (eval tmps x) f
  | .indexAddr t x i => xIndexAddr P h t (eval tmps x) (eval tmps i)
  | .index t x i => xIndex P h t (eval tmps x) (eval tmps i)
  | .sliceToArrayPointer a x => xArrPtr P h a (eval tmps x)
  | .lookup t x k ok => xLookup P h t (eval tmps x) (eval tmps k) ok
  | .mapUpdate t m k x => xMapUpdate P h t (eval tmps m) (eval tmps k) (eval tmps x)
  | .extract x i => xExtract h (eval tmps x) i
  | .typeAssert x _ a ok => xTypeAssert P h (eval tmps x) a ok
  | .call c => xCall P tmps h c
  | .defer c => xDefer tmps c
  | .panic x => xPanic (eval tmps x)
  | _ => .fail

/-! regions that draw -/
def isEffect : Op → Bool
  | .store .. | .mapUpdate .. | .defer _ | .panic _ | .assign _ => true
  | .call c => (match c.callee with
    | .builtin .len | .builtin .cap | .builtin .max | .builtin .min => false
    | _ => true)
  | _ => false
def isRead : Op → Bool
  | .load .. | .lookup .. | .convert .. | .slice .. => true
  | .call _ => true
  | _ => false
def bit (b : Array Nat) (j i : Nat) : Bool := (b.getD j 0).testBit i
def opAt (ops : Array Oper) (i : Nat) : Op := (ops.getD i default).op
def planGo (b : Array Nat) : List Nat → Bool
  | [] => true
  | i :: rest => match rest with
    | [] => true
    | j :: _ => bit b j i && planGo b rest
/-- the effects up to the last one that lies before q -/
def gapOf (b : Array Nat) (q : Nat) : List Nat → Nat → Nat → Nat
  | [], _, g => g
  | e :: es, k, g => gapOf b q es (k + 1) (match bit b q e with | true => k + 1 | false => g)
def planBuild (ops : Array Oper) (b : Array Nat) (quiet : List (Nat × Nat)) : List Nat → Nat → List Nat → List PItem
  | [], g, _ => (quiet.filter fun q => Nat.beq q.2 g).map fun q => PItem.run q.1
  | e :: es, g, done =>
    ((quiet.filter fun q => Nat.beq q.2 g).map fun q => PItem.run q.1) ++ (.run e ::
      (((done ++ (quiet.filter fun q => Nat.beq q.2 g).map (·.1)).filter fun q => isRead (opAt ops q) && !bit b e q).map PItem.chk ++
        planBuild ops b quiet es (g + 1) (done ++ (quiet.filter fun q => Nat.beq q.2 g).map (·.1))))
def opNames (o : Op) : List Tmp := o.operands.toList.filterMap fun x => match x with | .tmp t => some t | _ => none
def guardTmp (ops : Array Oper) (j : Nat) : Option Tmp := match ops[j]? with
  | some o => o.dst
  | none => none
def namesOf (ops : Array Oper) (o : Oper) : List Tmp := match o.guard with
  | none => opNames o.op
  | some (j, _) => match guardTmp ops j with
    | some t => t :: opNames o.op
    | none => opNames o.op
/-- who writes which temporary: none: two do -/
def prodT : List Oper → Nat → T Nat → Option (T Nat)
  | [], _, t => some t
  | o :: os, i, t => match o.dst with
    | none => prodT os (i + 1) t
    | some d => match t.get d with
      | some _ => none
      | none => prodT os (i + 1) (t.set d i)
def nameOk (ops : Array Oper) (b : Array Nat) (pr : T Nat) (j : Nat) (t : Tmp) : Bool := match pr.get t with
  | none => true
  | some i => match isEffect (opAt ops i) with
    | false => bit b j i
    | true => isEffect (opAt ops j) || bit b j i || bit b i j
def namesOk (ops : Array Oper) (b : Array Nat) (pr : T Nat) : List Oper → Nat → Bool
  | [], _ => true
  | o :: os, j => (namesOf ops o).all (nameOk ops b pr j) && namesOk ops b pr os (j + 1)
def edgesOk : List Oper → Nat → Bool
  | [], _ => true
  | o :: os, i => o.after.toList.all (fun e => !Region.binds .any e || Nat.blt e.on i) && edgesOk os (i + 1)
/-- quiet operations as soon as the effects that they hang on are done; what reads is read again behind each later effect -/
def planOf (ops : Array Oper) : Option (List PItem) :=
  let b := Region.before ops
  let effs := (List.range ops.size).filter fun i => isEffect (opAt ops i)
  match prodT ops.toList 0 .nil with
  | none => none
  | some pr => match edgesOk ops.toList 0 && (planGo b effs && namesOk ops b pr ops.toList 0) with
    | false => none
    | true => some (planBuild ops b (((List.range ops.size).filter fun i => !isEffect (opAt ops i)).map fun q => (q, gapOf b q effs 0 0)) effs 0 [])

/-! the machine -/
def putT (nt : Nat) (tmps : T DV) (d : Option Tmp) (v : DV) : T DV := match d with
  | some d => T.putB (match Nat.blt d nt with | true => some v | false => none) (bits d) tmps
  | none => tmps
inductive W3 where
  | yes
  | no
  | bad
def wantedD (g : Option (Nat × Bool)) (ops : Array Oper) (tmps : T DV) : W3 := match g with
  | none => .yes
  | some (j, w) => match guardTmp ops j with
    | none => .no
    | some d => match getT tmps (bits d) with
      | .bool b => (match b with
        | true => (match w with | true => .yes | false => .no)
        | false => (match w with | true => .no | false => .yes))
      | .bad => .bad
      | _ => .no

inductive RO where
  | done (tmps : T DV) (h : HS)
  | out (rest : List Oper) (tmps : T DV) (h : HS) (o : Out)
def runOps (P : Program) (nt : Nat) (all : Array Oper) (ops : List Oper) : T DV → HS → RO :=
  List.rec (motive := fun _ => T DV → HS → RO) (fun tmps h => .done tmps h)
    (fun o rest ih tmps h => Oper.casesOn (motive := fun _ => RO) o fun dst op _ _ _ guard =>
      W3.casesOn (motive := fun _ => RO) (wantedD guard all tmps)
        (Out.casesOn (motive := fun _ => RO) (exec P tmps h op)
          (fun v h => ih (putT nt tmps dst v) h)
          (fun f args h' => .out (o :: rest) tmps h (.enter f args h'))
          (fun l args => .out (o :: rest) tmps h (.round l args))
          (fun d => .out (o :: rest) tmps h (.defer d))
          (.out (o :: rest) tmps h .recover)
          (fun v => .out (o :: rest) tmps h (.panic v))
          (.out (o :: rest) tmps h .fail))
        (ih (putT nt tmps dst undefD) h)
        (.out (o :: rest) tmps h .fail)) ops

def ntOf (P : Program) (fn : FuncId) : Nat := match P.funcs[fn]? with
  | some f => f.ntmps
  | none => 0
/-- a frame behind what its operation has come to -/
def finishT (nt : Nat) (todo : List DItem) (tmps : T DV) (v : DV) (k : List DItem → T DV → DF) : DF := match todo with
  | [] => k [] tmps
  | i :: rest => match i with
    | .inReg all ops => (match ops with
      | o :: ops => k (.inReg all ops :: rest) (putT nt tmps o.dst v)
      | [] => k todo tmps)
    | .inDraw all plan => (match plan with
      | .run i :: plan => k (.inDraw all plan :: rest) (putT nt tmps ((all.getD i default).dst) v)
      | _ => k todo tmps)
    | .inRangeFunc l => k (.endRangeFunc l :: rest) tmps
    | .beginRound => k rest tmps
    | _ => k todo tmps
def finish (P : Program) (fr : DF) (v : DV) : DF := match fr with
  | .mk fn tmps todo defers mode kind ro => finishT (ntOf P fn) todo tmps v fun todo tmps => .mk fn tmps todo defers mode kind ro

def argsT : List DV → T DV → Nat → T DV
  | [], t, _ => t
  | v :: vs, t, i => argsT vs (T.putB (some v) (bits i) t) (Nat.succ i)
def bodyOf (P : Program) (f : FuncId) : Option Code := match P.funcs[f]? with
  | some fn => fn.body
  | none => none
def enterF (P : Program) (f : FuncId) (args : List DV) (kind : CallKind) (rest : List DF) (h : HS) : Option DS := match bodyOf P f with
  | some c => some (.mk (.mk f (argsT args .nil 0) [.code c] [] .run kind none :: rest) h)
  | none => none
/-- the temporaries that a drawn region writes are forgotten -/
def wipeT : List Oper → T DV → T DV
  | [], t => t
  | o :: os, t => match o.dst with
    | some d => wipeT os (T.putB none (bits d) t)
    | none => wipeT os t
def calmT (todo : List DItem) (tmps : T DV) : T DV := match todo with
  | [] => tmps
  | i :: _ => match i with
    | .inDraw all _ => wipeT all.toList tmps
    | _ => tmps
def raiseF (fr : DF) (vs : List (DV × Bool)) : DF := match fr with
  | .mk fn tmps todo defers mode kind ro => match mode with
    | .run => .mk fn (calmT todo tmps) [] defers (.panicking vs) kind ro
    | .returning => .mk fn tmps [] defers (.panicking vs) kind ro
    | .panicking chain => .mk fn tmps [] defers (.panicking (vs ++ chain)) kind ro
def exitToD (id : Nat) : List DItem → Option (List DItem)
  | [] => none
  | i :: k => match i with
    | .inBlock id' => (match Nat.beq id' id with | true => some k | false => exitToD id k)
    | _ => exitToD id k
def setParams (nt : Nat) : List Tmp → List DV → T DV → Option (T DV)
  | [], [], tmps => some tmps
  | t :: ts, v :: vs, tmps => (match Nat.blt t nt with
    | true => setParams nt ts vs (tmps.set t v)
    | false => none)
  | _, _, _ => none

def resultsD (P : Program) (h : HS) (tmps : T DV) : List ResultVar → Option (List DV)
  | [] => some []
  | r :: rs => match r with
    | .tmp t => (match resultsD P h tmps rs with
      | some l => some (getT tmps (bits t) :: l)
      | none => none)
    | .cell a t => (match getT tmps (bits a) with
      | .ptr b o => (match loadV P h t b o, resultsD P h tmps rs with
        | some v, some l => some (v :: l)
        | _, _ => none)
      | _ => none)
def one (l : List DV) : DV := match l with
  | [v] => v
  | l => .tuple l

abbrev Intr := FuncId → List DV → HS → Option (DV × HS)

/-- apply what came of an operation at the top frame -/
def applyD (P : Program) (I : Intr) (fn : FuncId) (tmps : T DV) (todo : List DItem) (defers : List DDef) (kind : CallKind) (ro : Option Nat) (cs : List DF) (h : HS) (o : Out) : Option DS := match o with
  | .val v h => some (.mk (finish P (.mk fn tmps todo defers .run kind ro) v :: cs) h)
  | .enter f args h => (match I f args h with
    | some (v, h) => some (.mk (finish P (.mk fn tmps todo defers .run kind ro) v :: cs) h)
    | none => enterF P f args .normal (.mk fn tmps todo defers .run kind ro :: cs) h)
  | .round l args => (match getO h l with
    | some (.loop _ _ f ltmps params assign body _) => (match setParams (ntOf P f) params args ltmps with
      | some ltmps => some (.mk (.mk f ltmps [.code assign, .beginRound, .code body] [] .run .normal (some l) :: .mk fn tmps todo defers .run kind ro :: cs) h)
      | none => none)
    | _ => none)
  | .defer d => (match ro with
    | none => some (.mk (finish P (.mk fn tmps todo (d :: defers) .run kind ro) undefD :: cs) h)
    | some _ => none)
  | .recover => (match ro, kind with
    | none, .deferred => (match cs with
      | .mk fn' tmps' todo' defers' mode' kind' ro' :: rest => (match mode' with
        | .panicking ((v, false) :: older) => some (.mk (finish P (.mk fn tmps todo defers .run kind ro) v :: .mk fn' tmps' todo' defers' (.panicking ((v, true) :: older)) kind' ro' :: rest) h)
        | _ => some (.mk (finish P (.mk fn tmps todo defers .run kind ro) .nili :: cs) h))
      | [] => none)
    | none, .normal => some (.mk (finish P (.mk fn tmps todo defers .run kind ro) .nili :: cs) h)
    | _, _ => none)
  | .panic v => some (.mk (raiseF (.mk fn tmps todo defers .run kind ro) [(v, false)] :: cs) h)
  | .fail => none

def returnD (P : Program) (kind : CallKind) (cs : List DF) (h : HS) (v : DV) : Option DS := match cs with
  | [] => none
  | c :: rest => match kind with
    | .normal => (match c with
      | .mk fn tmps todo defers mode kind ro => match mode with
        | .run => some (.mk (finish P (.mk fn tmps todo defers .run kind ro) v :: rest) h)
        | _ => none)
    | .deferred => (match c with
      | .mk fn tmps todo defers mode kind ro => match mode with
        | .run => none
        | .returning => some (.mk cs h)
        | .panicking chain => match chain with
          | [] => some (.mk cs h)
          | x :: _ => match x.2 with
            | true => some (.mk (.mk fn tmps todo defers .returning kind ro :: rest) h)
            | false => some (.mk cs h))
    | _ => none

def leaveD (P : Program) (fn : FuncId) (tmps : T DV) (todo : List DItem) (defers : List DDef) (kind : CallKind) (ro : Option Nat) (cs : List DF) (h : HS) (jump : Option Code) : Option DS := match ro with
  | none => (match jump with
    | none => some (.mk (.mk fn tmps todo defers .returning kind ro :: cs) h)
    | some .ret => some (.mk (.mk fn tmps todo defers .returning kind ro :: cs) h)
    | _ => none)
  | some l => match defers with
    | [] => (match getO h l with
      | some (.loop _ _ f ltmps params assign body d) =>
        returnD P kind cs (setO h l (.loop (match jump with | none => .ready | some _ => .done) jump f ltmps params assign body d)) (.bool (match jump with | none => true | some _ => false))
      | _ => none)
    | _ => none

def unwindD (P : Program) (fn : FuncId) (tmps : T DV) (todo : List DItem) (defers : List DDef) (mode : DMode) (kind : CallKind) (ro : Option Nat) (cs : List DF) (h : HS) : Option DS := match defers with
  | d :: ds => (match d with
    | .collected r => (match getO h r with
      | some (.deferred true) => some (.mk (.mk fn tmps todo ds mode kind ro :: cs) (setO h r (.deferred false)))
      | _ => none)
    | .call f args => (match funcVal f args h with
      | .enter g as h => enterF P g as .deferred (.mk fn tmps todo ds mode kind ro :: cs) h
      | _ => none))
  | [] => match mode with
    | .panicking chain => (match cs with
      | c :: rest => some (.mk (raiseF c chain :: rest) h)
      | [] => none)
    | _ => match P.funcs[fn]? with
      | some f => (match resultsD P h tmps f.results.toList with
        | some l => returnD P kind cs h (one l)
        | none => none)
      | none => none

def stepOps (P : Program) (I : Intr) (fn : FuncId) (defers : List DDef) (kind : CallKind) (ro : Option Nat) (cs : List DF) (k : List DItem) (all : Array Oper) (r : RO) : Option DS := match r with
  | .done tmps h => some (.mk (.mk fn tmps k defers .run kind ro :: cs) h)
  | .out rest tmps h o => applyD P I fn tmps (.inReg all rest :: k) defers kind ro cs h o

def stepCode (P : Program) (I : Intr) (fn : FuncId) (tmps : T DV) (defers : List DDef) (kind : CallKind) (ro : Option Nat) (cs : List DF) (h : HS) (c : Code) (k : List DItem) : Option DS := match c with
  | .ret => leaveD P fn tmps (.code .ret :: k) defers kind ro cs h (some .ret)
  | .skip => some (.mk (.mk fn tmps k defers .run kind ro :: cs) h)
  | .label _ => some (.mk (.mk fn tmps k defers .run kind ro :: cs) h)
  | .seq a b => stepCode P I fn tmps defers kind ro cs h a (.code b :: k)
  | .cond c thn els => (match eval tmps c with
    | .bool t => (match t with
      | true => stepCode P I fn tmps defers kind ro cs h thn k
      | false => stepCode P I fn tmps defers kind ro cs h els k)
    | _ => none)
  | .block id body => stepCode P I fn tmps defers kind ro cs h body (.inBlock id :: k)
  | .loop body => stepCode P I fn tmps defers kind ro cs h body (.inLoop body :: k)
  | .scope body => stepCode P I fn tmps defers kind ro cs h body (.inScope body :: k)
  | .exit id => (match exitToD id k with
    | some k => some (.mk (.mk fn tmps k defers .run kind ro :: cs) h)
    | none => leaveD P fn tmps (.code (.exit id) :: k) defers kind ro cs h (some (.exit id)))
  | .goto _ => none
  | .region _ ops draw => (match draw with
    | false => stepOps P I fn defers kind ro cs k ops (runOps P (ntOf P fn) ops ops.toList tmps h)
    | true => match planOf ops with
      | some plan => some (.mk (.mk fn tmps (.inDraw ops plan :: k) defers .run kind ro :: cs) h)
      | none => none)
  | .rangeFunc f params assign body => (match eval tmps f with
    | .func (.func g) first cap => (match h with
      | .mk heap next gs => (match ro with
        | none => enterF P g (first ++ (.func (.yield (Nat.succ next)) [] [] :: cap)) .normal
            (.mk fn tmps (.inRangeFunc (Nat.succ next) :: k) (.collected next :: defers) .run kind ro :: cs)
            (.mk ((heap.set next (.deferred true)).set (Nat.succ next) (.loop .ready none fn tmps params.toList assign body next)) (Nat.succ (Nat.succ next)) gs)
        | some l0 => (match heap.get l0 with
          | some (.loop _ _ _ _ _ _ _ d) => enterF P g (first ++ (.func (.yield next) [] [] :: cap)) .normal
              (.mk fn tmps (.inRangeFunc next :: k) defers .run kind ro :: cs)
              (.mk (heap.set next (.loop .ready none fn tmps params.toList assign body d)) (Nat.succ next) gs)
          | _ => none)))
    | _ => none)
  | .refuse _ => none

def stepDraw (P : Program) (I : Intr) (fn : FuncId) (tmps : T DV) (defers : List DDef) (kind : CallKind) (ro : Option Nat) (cs : List DF) (h : HS) (all : Array Oper) (plan : List PItem) (k : List DItem) : Option DS := match plan with
  | [] => some (.mk (.mk fn tmps k defers .run kind ro :: cs) h)
  | p :: rest => match p with
    | .run i => (match all[i]? with
      | some o => (match wantedD o.guard all tmps with
        | .bad => none
        | .yes => applyD P I fn tmps (.inDraw all plan :: k) defers kind ro cs h (exec P tmps h o.op)
        | .no => some (.mk (.mk fn (putT (ntOf P fn) tmps o.dst undefD) (.inDraw all rest :: k) defers .run kind ro :: cs) h))
      | none => none)
    | .chk i => (match all[i]? with
      | some o => (match wantedD o.guard all tmps with
        | .bad => none
        | .yes => (match exec P tmps h o.op, o.dst with
          | .val v _, some d => (match DV.beq v (getT tmps (bits d)) with
            | true => some (.mk (.mk fn tmps (.inDraw all rest :: k) defers .run kind ro :: cs) h)
            | false => none)
          | _, _ => none)
        | .no => some (.mk (.mk fn tmps (.inDraw all rest :: k) defers .run kind ro :: cs) h))
      | none => none)

def stepRun (P : Program) (I : Intr) (fn : FuncId) (tmps : T DV) (todo : List DItem) (defers : List DDef) (kind : CallKind) (ro : Option Nat) (cs : List DF) (h : HS) : Option DS := match todo with
  | [] => leaveD P fn tmps [] defers kind ro cs h none
  | i :: k => match i with
    | .code c => stepCode P I fn tmps defers kind ro cs h c k
    | .inBlock _ => some (.mk (.mk fn tmps k defers .run kind ro :: cs) h)
    | .inScope _ => some (.mk (.mk fn tmps k defers .run kind ro :: cs) h)
    | .inLoop body => stepCode P I fn tmps defers kind ro cs h body todo
    | .inReg all rest => stepOps P I fn defers kind ro cs k all (runOps P (ntOf P fn) all rest tmps h)
    | .inDraw all plan => stepDraw P I fn tmps defers kind ro cs h all plan k
    | .inRangeFunc _ => none
    | .endRangeFunc l => (match getO h l with
      | some (.loop st pending f ltmps params assign body d) => (match st with
        | .busy => none
        | _ => some (.mk (.mk fn tmps (match pending with | some c => .code c :: k | none => k) defers .run kind ro :: cs) (setO h l (.loop .exhausted pending f ltmps params assign body d))))
      | _ => none)
    | .beginRound => (match ro with
      | some l => (match getO h l with
        | some (.loop .ready pending f ltmps params assign body d) => some (.mk (.mk fn tmps k defers .run kind ro :: cs) (setO h l (.loop .busy pending f ltmps params assign body d)))
        | _ => none)
      | none => none)

def step (P : Program) (I : Intr) (s : DS) : Option DS := match s with
  | .mk frs h => match frs with
    | [] => none
    | fr :: cs => match fr with
      | .mk fn tmps todo defers mode kind ro => match mode with
        | .run => stepRun P I fn tmps todo defers kind ro cs h
        | .returning => unwindD P fn tmps todo defers .returning kind ro cs h
        | .panicking chain => unwindD P fn tmps todo defers (.panicking chain) kind ro cs h

def runN (P : Program) (I : Intr) : Nat → DS → Option DS
  | 0, s => some s
  | n + 1, s => match step P I s with
    | some s => runN P I n s
    | none => none

/-! sorted keys of a map; functions without a body -/
def insKey (k : List Nat) : List (List Nat) → List (List Nat)
  | [] => [k]
  | a :: l => match strLt a k with | true => a :: insKey k l | false => k :: a :: l
def keysOf : List (DV × DV) → Option (List (List Nat))
  | [] => some []
  | (k, _) :: es => match k with
    | .str k => (match keysOf es with | some l => some (insKey k l) | none => none)
    | _ => none
def rising : List (List Nat) → Bool
  | a :: l => match l with
    | b :: _ => strLt a b && rising l
    | [] => true
  | [] => true
def shortAll : List (List Nat) → Bool
  | [] => true
  | k :: l => Nat.ble k.length 1000000 && shortAll l
def sortedKeys (h : HS) (r : Nat) : Option (DV × HS) := match getO h r with
  | some (.map es) => (match keysOf es with
    | some l => (match rising l && (shortAll l && Nat.ble l.length 1000000) with
      | true => (match l with
        | [] => some (.nils, h)
        | _ => (match newSl h (l.map DV.str) l.length l.length 1 false with
          | .val v h => some (v, h)
          | _ => none))
      | false => none)
    | none => none)
  | _ => none
def shuffled (h : HS) (r : Nat) : Option (DV × HS) := match getO h r with
  | some (.map es) => (match keysOf es with
    | some l => (match rising l && (shortAll l && Nat.ble l.length 1000000) with
      | true => (match l with
        | [] => some (.nils, h)
        | _ => (match newObj h (.shuf l) (fun b => .slice b 0 l.length l.length 1 false) with
          | .val v h => some (v, h)
          | _ => none))
      | false => none)
    | none => none)
  | _ => none
def setOf (h : HS) (b n : Nat) : Option (DV × HS) := match getO h b with
  | some (.shuf l) => (match rising l && (shortAll l && (Nat.ble l.length 1000000 && Nat.beq n l.length)) with
    | true => (match newSl h (l.map DV.str) l.length l.length 1 false with
      | .val v h => some (v, h)
      | _ => none)
    | false => none)
  | _ => none
def findByte (c : Nat) : List Nat → Nat → Int
  | [], _ => .negSucc 0
  | x :: xs, i => match Nat.beq x c with | true => .ofNat i | false => findByte c xs (Nat.succ i)
structure Nums where
  sorted : FuncId := 0
  collect : FuncId := 0
  setS : FuncId := 0
  ks : List (Nat × Nat) := []      -- maps.Keys, its iterator
  indexByte : FuncId := 0
  typeOf : FuncId := 0
  comparable : FuncId := 0
  rtype : TypeId := 0
  cmp : List TypeId := []
def memB (t : Nat) : List Nat → Bool
  | [] => false
  | x :: xs => match Nat.beq x t with | true => true | false => memB t xs
def findK (f : Nat) : List (Nat × Nat) → Option Nat
  | [] => none
  | (a, b) :: l => match Nat.beq a f with | true => some b | false => findK f l
def iterB (k : Nat) : List (Nat × Nat) → Bool
  | [] => false
  | (_, b) :: l => match Nat.beq b k with | true => true | false => iterB k l
def intr (P : Program) (N : Nums) : Intr := fun f args h =>
  match findK f N.ks with
  | some k => (match args with
    | [.map r] => (match newObj h (cellsOf [.map r]) (.fbox k) with | .val v h => some (v, h) | _ => none)
    | _ => none)
  | none => match Nat.beq f N.indexByte with
  | true => (match args with
    | [.str s, .int .u8 (.ofNat c)] => (match Nat.blt c 256 with | true => some (.int .i64 (findByte c s 0), h) | false => none)
    | _ => none)
  | false => match Nat.beq f N.sorted with
    | true => (match args with
      | [.fbox k b] => (match iterB k N.ks, load1 h b 0 with
        | true, some (.map r) => sortedKeys h r
        | _, _ => none)
      | _ => none)
    | false => match Nat.beq f N.collect with
    | true => (match args with
      | [.fbox k b] => (match iterB k N.ks, load1 h b 0 with
        | true, some (.map r) => shuffled h r
        | _, _ => none)
      | _ => none)
    | false => match Nat.beq f N.setS with
    | true => (match args with
      | [.slice b o n _ z _] => (match o, Nat.beq z 1 with
        | 0, true => setOf h b n
        | _, _ => none)
      | _ => none)
    | false => match Nat.beq f N.typeOf with
      | true => (match args with
        | [.iface t _] => some (.iface N.rtype (.agg [.hdl t]), h)
        | _ => none)
      | false => match Nat.beq f N.comparable with
        | true => (match args with
          | [.agg [.hdl t]] => (match memB t N.cmp, P.types[t]? with | true, some i => some (.bool i.comparable, h) | _, _ => none)
          | _ => none)
        | false => none

end Go.DM
