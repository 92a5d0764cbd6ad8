import Derived.Test.YtiddjpjlpmbegaaGreatDoorMa
import Derived.Below
import Derived.Control
import Derived.Laws.Sem
import Derived.Laws.Strings
import Derived.Laws.BitsLemmas
set_option linter.unusedVariables false
set_option linter.unusedSimpArgs false
set_option linter.unnecessarySimpa false
set_option autoImplicit false
set_option linter.unusedVariables false
namespace Go.DM
open Go.RowKit

/-! ### tries -/
theorem unbits_bitsF : ∀ (f n m : Nat), n ≤ f → m ≤ f → bitsF f n = bitsF f m → n = m := by
  intro f
  induction f with
  | zero => intro n m hn hm _; omega
  | succ f ih =>
    intro n m hn hm h
    cases n with
    | zero => cases m with
      | zero => rfl
      | succ m => simp [bitsF] at h
    | succ n => cases m with
      | zero => simp [bitsF] at h
      | succ m =>
        simp only [bitsF, List.cons.injEq] at h
        obtain ⟨h1, h2⟩ := h
        have := ih _ _ (by omega) (by omega) h2
        have hp : n % 2 = m % 2 := by
          rcases Nat.mod_two_eq_zero_or_one n with a | a <;> rcases Nat.mod_two_eq_zero_or_one m with b | b <;> simp [a, b] at h1 ⊢
        omega
theorem bitsF_more : ∀ (f n g : Nat), n ≤ f → n ≤ g → bitsF f n = bitsF g n := by
  intro f
  induction f with
  | zero => intro n g hn _; obtain rfl : n = 0 := by omega
            cases g <;> rfl
  | succ f ih =>
    intro n g hn hg
    cases n with
    | zero => cases g <;> rfl
    | succ n =>
      cases g with
      | zero => omega
      | succ g => simp only [bitsF]; rw [ih (n / 2) g (by omega) (by omega)]
theorem bits_inj {n m : Nat} (h : bits n = bits m) : n = m := by
  unfold bits at h
  rw [bitsF_more n n (n + m) (by omega) (by omega), bitsF_more m m (n + m) (by omega) (by omega)] at h
  exact unbits_bitsF _ _ _ (by omega) (by omega) h

namespace T
variable {α : Type}
theorem getB_nil (bs : List Bool) : getB bs (.nil : T α) = none := by cases bs <;> rfl
theorem getB_node_nil (v : Option α) (l r : T α) : getB [] (.node v l r) = v := rfl
theorem getB_node_f (v : Option α) (l r : T α) (bs : List Bool) : getB (false :: bs) (.node v l r) = getB bs l := rfl
theorem getB_node_t (v : Option α) (l r : T α) (bs : List Bool) : getB (true :: bs) (.node v l r) = getB bs r := rfl
theorem putB_nil_nil (x : Option α) : putB x [] (.nil : T α) = .node x .nil .nil := rfl
theorem putB_nil_node (x v : Option α) (l r : T α) : putB x [] (.node v l r) = .node x l r := rfl
theorem putB_f_nil (x : Option α) (bs : List Bool) : putB x (false :: bs) (.nil : T α) = .node none (putB x bs .nil) .nil := rfl
theorem putB_t_nil (x : Option α) (bs : List Bool) : putB x (true :: bs) (.nil : T α) = .node none .nil (putB x bs .nil) := rfl
theorem putB_f_node (x v : Option α) (l r : T α) (bs : List Bool) : putB x (false :: bs) (.node v l r) = .node v (putB x bs l) r := rfl
theorem putB_t_node (x v : Option α) (l r : T α) (bs : List Bool) : putB x (true :: bs) (.node v l r) = .node v l (putB x bs r) := rfl
theorem getB_putB (x : Option α) : ∀ (bs cs : List Bool) (t : T α), getB cs (putB x bs t) = if cs = bs then x else getB cs t := by
  intro bs
  induction bs with
  | nil =>
    intro cs t
    cases t <;> cases cs with
    | nil => simp [putB_nil_nil, putB_nil_node, getB_node_nil]
    | cons c cs => cases c <;> simp [putB_nil_nil, putB_nil_node, getB_node_f, getB_node_t, getB_nil]
  | cons b bs ih =>
    intro cs t
    cases t <;> cases b <;> cases cs with
    | nil => simp [putB_f_nil, putB_t_nil, putB_f_node, putB_t_node, getB_node_nil, getB_nil]
    | cons c cs => cases c <;> simp [putB_f_nil, putB_t_nil, putB_f_node, putB_t_node, getB_node_f, getB_node_t, getB_nil, ih]
theorem get_put (t : T α) (k j : Nat) (x : Option α) : (t.put k x).get j = if j = k then x else t.get j := by
  unfold get put
  rw [getB_putB]
  by_cases h : j = k
  · simp [h]
  · rw [if_neg h, if_neg (fun e => h (bits_inj e))]
theorem get_set (t : T α) (k j : Nat) (x : α) : (t.set k x).get j = if j = k then some x else t.get j := get_put t k j (some x)
theorem get_nil (k : Nat) : (T.nil : T α).get k = none := getB_nil _
theorem get_setL : ∀ (l : List α) (t : T α) (i j : Nat), (setL l t i).get j = if i ≤ j ∧ j < i + l.length then l[j - i]? else t.get j := by
  intro l
  induction l with
  | nil => intro t i j; simp only [setL, List.length_nil, Nat.add_zero]; rw [if_neg (by omega)]
  | cons x xs ih =>
    intro t i j
    simp only [setL, ih, get_set, List.length_cons]
    by_cases h1 : i + 1 ≤ j ∧ j < i + 1 + xs.length
    · rw [if_pos h1, if_pos (by omega)]
      obtain ⟨k, rfl⟩ : ∃ k, j = i + 1 + k := ⟨j - (i + 1), by omega⟩
      rw [show i + 1 + k - (i + 1) = k from by omega, show i + 1 + k - i = k + 1 from by omega]
      simp
    · rw [if_neg h1]
      by_cases h2 : j = i
      · subst h2; rw [if_pos rfl, if_pos (by omega)]; simp
      · rw [if_neg h2, if_neg (by omega)]
theorem getL_some : ∀ (n i : Nat) (t : T α) (l : List α), t.getL n i = some l → l.length = n ∧ ∀ j, j < n → t.get (i + j) = l[j]? := by
  intro n
  induction n with
  | zero => intro i t l h; simp only [getL, Option.some.injEq] at h; subst h; exact ⟨rfl, fun j hj => absurd hj (by omega)⟩
  | succ n ih =>
    intro i t l h
    unfold getL at h
    split at h
    · cases h
    · rename_i x hx
      split at h
      · cases h
      · rename_i xs hxs
        simp only [Option.some.injEq] at h
        subst h
        obtain ⟨h1, h2⟩ := ih _ _ _ hxs
        refine ⟨by simp [h1], fun j hj => ?_⟩
        cases j with
        | zero => simpa using hx
        | succ j => rw [show i + (j + 1) = i + 1 + j from by omega, h2 j (by omega)]; simp
end T

/-! ### what a value of the machine's stands for -/
/-- an embedding: a block of the abstract heap: its block, and where in it it begins -/
structure Emb where
  f : Nat → Option (Nat × Nat)
  sz : Nat → Nat      -- how many cells a block has
instance : CoeFun Emb (fun _ => Nat → Option (Nat × Nat)) := ⟨Emb.f⟩
def Emb.le (φ ψ : Emb) : Prop := (∀ b x, φ b = some x → ψ b = some x) ∧ ∀ b x, φ b = some x → ψ.sz x.1 = φ.sz x.1
theorem Emb.le_refl (φ : Emb) : φ.le φ := ⟨fun _ _ h => h, fun _ _ _ => rfl⟩
theorem Emb.le_trans {φ ψ χ : Emb} (h : φ.le ψ) (k : ψ.le χ) : φ.le χ := ⟨fun b x e => k.1 b x (h.1 b x e), fun b x e => (k.2 b x (h.1 b x e)).trans (h.2 b x e)⟩

def FnR (φ : Emb) : Fn → Fn → Prop
  | .yield l, f => ∃ r, φ l = some (r, 0) ∧ f = .yield r
  | f, g => g = f

mutual
def VR (P : Program) (φ : Emb) (d : DV) (v : Value) : Prop := match d with
  | .bad => True
  | .bool b => v = .bool b
  | .int k n => v = .int k n
  | .float k n => v = .float k n
  | .str l => ∃ s, v = .string s ∧ s.data.toList.map UInt8.toNat = l
  | .ptr b o => ∃ rb sh, φ b = some (rb, sh) ∧ v = .pointer (some ⟨rb, sh + o, none⟩)
  | .nilp => v = .pointer none
  | .hdl t => v = typeHandle P t
  | .slice b o len cap sz ex => ∃ rb ro rcap, v = .slice (some ⟨rb, ro, none⟩) len rcap ∧ len ≤ cap ∧ cap ≤ rcap ∧ (ex = true → rcap = cap) ∧ (rcap = 0 ∨ ∃ sh, φ b = some (rb, sh) ∧ ro = sh + o ∧ ro + rcap * sz ≤ φ.sz rb)
  | .nils => v = .slice none 0 0
  | .map r => ∃ rr, φ r = some (rr, 0) ∧ v = .map (some rr)
  | .nilm => v = .map none
  | .func fn a b => ∃ fn' a' b', v = .func fn' a' b' ∧ FnR φ fn fn' ∧ VRL P φ a a'.toList ∧ VRL P φ b b'.toList
  | .fbox k b => ∃ rb, v = .func (.func k) #[] #[.pointer (some ⟨rb, 0, none⟩)] ∧ φ b = some (rb, 0)
  | .nilf => v = .nilFunc
  | .iface t d => ∃ x, v = .iface t x ∧ VR P φ d x
  | .nili => v = .nilIface
  | .agg l => ∃ cs, v = .agg cs ∧ VRL P φ l cs.toList
  | .tuple l => ∃ cs, v = .tuple cs ∧ VRL P φ l cs.toList
termination_by structural d
def VRL (P : Program) (φ : Emb) (l : List DV) (vs : List Value) : Prop := match l with
  | [] => vs = []
  | d :: ds => ∃ x xs, vs = x :: xs ∧ VR P φ d x ∧ VRL P φ ds xs
termination_by structural l
end

variable {P : Program} {φ ψ : Emb}

theorem FnR.mono (h : φ.le ψ) {f g : Fn} (k : FnR φ f g) : FnR ψ f g := by
  cases f <;> simp only [FnR] at k ⊢ <;> try exact k
  obtain ⟨r, h1, h2⟩ := k
  exact ⟨r, h.1 _ _ h1, h2⟩
mutual
theorem VR.mono (h : φ.le ψ) (d : DV) (v : Value) (k : VR P φ d v) : VR P ψ d v := by
  cases d with
  | ptr b o => simp only [VR] at k ⊢; obtain ⟨rb, sh, h1, h2⟩ := k; exact ⟨rb, sh, h.1 _ _ h1, h2⟩
  | slice b o len cap sz ex =>
    simp only [VR] at k ⊢
    obtain ⟨rb, ro, rcap, h1, h2, h3, h4, h5⟩ := k
    refine ⟨rb, ro, rcap, h1, h2, h3, h4, ?_⟩
    rcases h5 with h5 | ⟨sh, h5, h6, h7⟩
    · exact .inl h5
    · refine .inr ⟨sh, h.1 _ _ h5, h6, ?_⟩
      have := h.2 _ _ h5
      simp only at this
      omega
  | map r => simp only [VR] at k ⊢; obtain ⟨rr, h1, h2⟩ := k; exact ⟨rr, h.1 _ _ h1, h2⟩
  | func fn a b =>
    simp only [VR] at k ⊢
    obtain ⟨fn', a', b', h1, h2, h3, h4⟩ := k
    exact ⟨fn', a', b', h1, h2.mono h, VRL.mono h a _ h3, VRL.mono h b _ h4⟩
  | fbox kf b => simp only [VR] at k ⊢; obtain ⟨rb, h1, h2⟩ := k; exact ⟨rb, h1, h.1 _ _ h2⟩
  | iface t d => simp only [VR] at k ⊢; obtain ⟨x, h1, h2⟩ := k; exact ⟨x, h1, VR.mono h d x h2⟩
  | agg l => simp only [VR] at k ⊢; obtain ⟨cs, h1, h2⟩ := k; exact ⟨cs, h1, VRL.mono h l _ h2⟩
  | tuple l => simp only [VR] at k ⊢; obtain ⟨cs, h1, h2⟩ := k; exact ⟨cs, h1, VRL.mono h l _ h2⟩
  | _ => simpa only [VR] using k
theorem VRL.mono (h : φ.le ψ) (l : List DV) (vs : List Value) (k : VRL P φ l vs) : VRL P ψ l vs := by
  cases l with
  | nil => simpa only [VRL] using k
  | cons d ds =>
    simp only [VRL] at k ⊢
    obtain ⟨x, xs, h1, h2, h3⟩ := k
    exact ⟨x, xs, h1, VR.mono h d x h2, VRL.mono h ds xs h3⟩
end
theorem VRL_iff {l : List DV} {vs : List Value} : VRL P φ l vs ↔ l.length = vs.length ∧ ∀ (i : Nat) (d : DV) (v : Value), l[i]? = some d → vs[i]? = some v → VR P φ d v := by
  induction l generalizing vs with
  | nil => simp only [VRL]; constructor
           · rintro rfl; simp
           · rintro ⟨h, _⟩; exact List.eq_nil_of_length_eq_zero h.symm
  | cons d ds ih =>
    simp only [VRL]
    constructor
    · rintro ⟨x, xs, rfl, h1, h2⟩
      obtain ⟨h3, h4⟩ := ih.1 h2
      refine ⟨by simp [h3], fun i d' v h5 h6 => ?_⟩
      cases i with
      | zero => simp at h5 h6; subst h5 h6; exact h1
      | succ i => simp at h5 h6; exact h4 i d' v h5 h6
    · rintro ⟨h1, h2⟩
      cases vs with
      | nil => simp at h1
      | cons x xs =>
        refine ⟨x, xs, rfl, h2 0 d x rfl rfl, ih.2 ⟨by simpa using h1, fun i d' v h5 h6 => h2 (i + 1) d' v (by simpa using h5) (by simpa using h6)⟩⟩
theorem VRL.length {l : List DV} {vs : List Value} (h : VRL P φ l vs) : l.length = vs.length := (VRL_iff.1 h).1
theorem VRL.get {l : List DV} {vs : List Value} (h : VRL P φ l vs) {i : Nat} {d : DV} (hd : l[i]? = some d) : ∃ v, vs[i]? = some v ∧ VR P φ d v := by
  obtain ⟨h1, h2⟩ := VRL_iff.1 h
  have hi : i < vs.length := by
    have := (List.getElem?_eq_some_iff.1 hd).1
    omega
  exact ⟨vs[i], List.getElem?_eq_getElem hi, h2 i d _ hd (List.getElem?_eq_getElem hi)⟩
theorem VRL.append {l m : List DV} {vs ws : List Value} (h : VRL P φ l vs) (k : VRL P φ m ws) : VRL P φ (l ++ m) (vs ++ ws) := by
  induction l generalizing vs with
  | nil => simp only [VRL] at h; subst h; simpa using k
  | cons d ds ih =>
    simp only [VRL] at h
    obtain ⟨x, xs, rfl, h1, h2⟩ := h
    exact ⟨x, xs ++ ws, rfl, h1, ih h2⟩
theorem VRL.drop {l : List DV} {vs : List Value} (h : VRL P φ l vs) (n : Nat) : VRL P φ (l.drop n) (vs.drop n) := by
  obtain ⟨h1, h2⟩ := VRL_iff.1 h
  exact VRL_iff.2 ⟨by simp [h1], fun i d v h3 h4 => h2 (n + i) d v (by simpa using h3) (by simpa using h4)⟩
theorem VRL.take {l : List DV} {vs : List Value} (h : VRL P φ l vs) (n : Nat) : VRL P φ (l.take n) (vs.take n) := by
  obtain ⟨h1, h2⟩ := VRL_iff.1 h
  refine VRL_iff.2 ⟨by simp [h1], fun i d v h3 h4 => ?_⟩
  simp only [List.getElem?_take] at h3 h4
  split at h3
  · rename_i hi; rw [if_pos hi] at h4; exact h2 i d v h3 h4
  · cases h3
theorem VRL.cons {d : DV} {l : List DV} {x : Value} {vs : List Value} (h : VR P φ d x) (k : VRL P φ l vs) : VRL P φ (d :: l) (x :: vs) := by
  simp only [VRL]; exact ⟨x, vs, rfl, h, k⟩
theorem VRL.nil : VRL P φ [] [] := by simp only [VRL]

/-! constants -/
mutual
theorem VR_ofValue (v : Value) : VR P φ (ofValue v) v := by
  cases v with
  | string s => exact ⟨s, rfl, rfl⟩
  | pointer a => cases a <;> simp only [ofValue, VR]
  | slice a n c =>
    cases a with
    | none => cases n <;> cases c <;> simp only [ofValue, VR]
    | some a => simp only [ofValue, VR]
  | map r => cases r <;> simp only [ofValue, VR]
  | iface t v => simp only [ofValue, VR]; exact ⟨v, rfl, VR_ofValue v⟩
  | agg cs => simp only [ofValue, VR]; exact ⟨cs, rfl, VR_ofValueA cs⟩
  | tuple cs => simp only [ofValue, VR]; exact ⟨cs, rfl, VR_ofValueA cs⟩
  | _ => simp only [ofValue, VR]
theorem VR_ofValueA (a : Array Value) : VRL P φ (ofValueA a) a.toList := by
  match a with
  | ⟨l⟩ => simp only [ofValueA]; exact VR_ofValueL l
theorem VR_ofValueL (l : List Value) : VRL P φ (ofValueL l) l := by
  cases l with
  | nil => simp only [ofValueL, VRL]
  | cons v vs => simp only [ofValueL]; exact VRL.cons (VR_ofValue v) (VR_ofValueL vs)
end
end Go.DM
set_option autoImplicit false
set_option linter.unusedVariables false
namespace Go.DM
open Go.RowKit

def HS.heap : HS → T DObj | .mk h _ _ => h
def HS.next : HS → Nat | .mk _ n _ => n
def HS.groups : HS → T (List Nat) | .mk _ _ g => g

def TR (P : Program) (φ : Emb) (t : T DV) (a : Array Value) : Prop := ∀ k, VR P φ (getT t (bits k)) (a.getD k undef)
def EntR (P : Program) (φ : Emb) : List (DV × DV) → List MapEntry → Prop
  | [], es => es = []
  | x :: xs, es => ∃ e es', es = e :: es' ∧ VR P φ x.1 e.key ∧ VR P φ x.2 e.val ∧ EntR P φ xs es'
/-- the entries' stamps -/
def Born (es : List MapEntry) (clock : Nat) : Prop := (∀ x, x ∈ es → x.born < clock) ∧ (es.map (·.born)).Nodup
/-- an object of the abstract heap, and the block that it stands for -/
def OR (P : Program) (φ : Emb) (w : World) (o : DObj) (rb sh : Nat) : Prop := match o with
  | .cells c n _ => ∃ rc elem fz, w.heap[rb]? = some (.cells rc elem fz) ∧ (sh + n ≤ rc.size ∧ rc.size = φ.sz rb) ∧ (fz.1 = fz.2 ∨ rc.size ≤ fz.1) ∧
      ∀ i d, c.get i = some d → i < n ∧ ∃ v, rc[sh + i]? = some v ∧ VR P φ d v
  | .map es => sh = 0 ∧ ∃ res clock, w.heap[rb]? = some (.map res clock) ∧ EntR P φ es res.toList ∧ Born res.toList clock
  | .loop st pend fn tmps params assign body d => sh = 0 ∧ ∃ l : Loop, w.heap[rb]? = some (.loop l) ∧ l.state = st ∧ l.pending = pend ∧ l.fn = fn ∧ TR P φ tmps l.tmps ∧
      ntOf P fn ≤ l.tmps.size ∧ l.params.toList = params ∧ l.assign = assign ∧ l.body = body ∧ φ d = some (l.defers, 0)
  | .deferred b => sh = 0 ∧ w.heap[rb]? = some (.deferred (match b with | true => some [] | false => none))
  | .shuf ls => sh = 0 ∧ ∃ rc elem fz, w.heap[rb]? = some (.cells rc elem fz) ∧ (ls.length ≤ rc.size ∧ rc.size = φ.sz rb) ∧ ∃ ss : List (List UInt8), rc.toList.take ls.length = ss.map (fun s => Value.string ⟨s.toArray⟩) ∧ (ss.map (·.map UInt8.toNat)).Perm ls

structure HR (P : Program) (w0 : World) (φ : Emb) (h : HS) (w : World) : Prop where
  below : Below w0.heap.size w0 w
  dom : ∀ b rb sh, φ b = some (rb, sh) → b < h.next ∧ w0.heap.size ≤ rb ∧ rb < w.heap.size
  objs : ∀ b rb sh o, φ b = some (rb, sh) → h.heap.get b = some o → OR P φ w o rb sh
  fresh : ∀ b, h.next ≤ b → h.heap.get b = none
  gfresh : ∀ g, h.next ≤ g → h.groups.get g = none
  kin : ∀ b c n g s, h.heap.get b = some (.cells c n (some (g, s))) → ∃ ms, h.groups.get g = some ms ∧ b ∈ ms
  gmem : ∀ g ms m, h.groups.get g = some ms → m ∈ ms → ∃ x, φ m = some x
  apart : ∀ b b' rb sh sh' o o', φ b = some (rb, sh) → φ b' = some (rb, sh') → h.heap.get b = some o → h.heap.get b' = some o' → b ≠ b' →
    ∃ c n c' n' g s s', o = .cells c n (some (g, s)) ∧ o' = .cells c' n' (some (g, s')) ∧ sh + s' = sh' + s

variable {P : Program} {φ ψ : Emb} {w0 w w' : World} {h : HS}

theorem TR.mono (hl : φ.le ψ) {t : T DV} {a : Array Value} (k : TR P φ t a) : TR P ψ t a := fun i => VR.mono hl _ _ (k i)
theorem EntR.mono (hl : φ.le ψ) {l : List (DV × DV)} {es : List MapEntry} (k : EntR P φ l es) : EntR P ψ l es := by
  induction l generalizing es with
  | nil => exact k
  | cons x xs ih =>
    obtain ⟨e, es', h1, h2, h3, h4⟩ := k
    exact ⟨e, es', h1, VR.mono hl _ _ h2, VR.mono hl _ _ h3, ih h4⟩
theorem frozen_of_block {w w' : World} {b : Nat} (he : w'.heap[b]? = w.heap[b]?) (i : Nat) : w'.frozen? ⟨b, i, none⟩ = w.frozen? ⟨b, i, none⟩ := by
  simp only [World.frozen?, he]
theorem frozen_beyond {w : World} {rb i : Nat} {rc : Array Value} {elem : TypeId} {fz : Nat × Nat} (h1 : w.heap[rb]? = some (.cells rc elem fz)) (h3 : fz.1 = fz.2 ∨ rc.size ≤ fz.1) (hi : i < rc.size) : w.frozen? ⟨rb, i, none⟩ = false := by
  obtain ⟨lo, hi'⟩ := fz
  simp only [World.frozen?, h1]
  simp only at h3
  rw [Bool.and_eq_false_iff]
  simp only [decide_eq_false_iff_not]
  omega
theorem OR.mono (hl : φ.le ψ) {o : DObj} {rb sh : Nat} (hz : ψ.sz rb = φ.sz rb) (he : w'.heap[rb]? = w.heap[rb]?) (k : OR P φ w o rb sh) : OR P ψ w' o rb sh := by
  cases o with
  | cells c n kin =>
    obtain ⟨rc, elem, fz, h1, h2, h3, h4⟩ := k
    refine ⟨rc, elem, fz, he.trans h1, ⟨h2.1, h2.2.trans hz.symm⟩, h3, fun i d hd => ?_⟩
    obtain ⟨h5, v, h6, h7⟩ := h4 i d hd
    exact ⟨h5, v, h6, VR.mono hl _ _ h7⟩
  | map es =>
    obtain ⟨h0, res, clock, h1, h2⟩ := k
    exact ⟨h0, res, clock, he.trans h1, h2.1.mono hl, h2.2⟩
  | loop st pend fn tmps params assign body d =>
    obtain ⟨h0, l, h1, h2, h3, h4, h5, h6, h7, h8, h9, h10⟩ := k
    exact ⟨h0, l, he.trans h1, h2, h3, h4, h5.mono hl, h6, h7, h8, h9, hl.1 _ _ h10⟩
  | deferred b => exact ⟨k.1, he.trans k.2⟩
  | shuf ls =>
    obtain ⟨h0, rc, elem, fz, h1, h2, h3⟩ := k
    exact ⟨h0, rc, elem, fz, he.trans h1, ⟨h2.1, h2.2.trans hz.symm⟩, h3⟩

theorem getO_heap {b : Nat} {x : Option DObj} (e : getO h b = x) : h.heap.get b = x := by cases h; exact e
/-! ### reading -/
theorem HR.load {b o rb sh : Nat} {d : DV} (H : HR P w0 φ h w) (hb : φ b = some (rb, sh)) (hl : load1 h b o = some d) :
    ∃ v, w.cell? ⟨rb, sh + o, none⟩ = some v ∧ VR P φ d v := by
  unfold load1 at hl
  have hg : ∀ x, getO h b = some x → h.heap.get b = some x := by cases h; exact fun x e => e
  split at hl
  · rename_i c n kin he
    obtain ⟨rc, elem, fz, h1, h2, h3, h4⟩ := H.objs b rb sh _ hb (hg _ he)
    obtain ⟨h5, v, h6, h7⟩ := h4 _ _ hl
    exact ⟨v, by simp [World.cell?, h1, h6], h7⟩
  · cases hl
theorem HR.loadN {b o n rb sh : Nat} {l : List DV} (H : HR P w0 φ h w) (hb : φ b = some (rb, sh)) (hl : loadN h b o n = some l) :
    l.length = n ∧ ∀ i, i < n → ∃ d v, l[i]? = some d ∧ w.cell? ⟨rb, sh + o + i, none⟩ = some v ∧ VR P φ d v := by
  unfold DM.loadN at hl
  have hg : ∀ x, getO h b = some x → h.heap.get b = some x := by cases h; exact fun x e => e
  split at hl
  · rename_i c m kin he
    obtain ⟨rc, elem, fz, h1, h2, h3, h4⟩ := H.objs b rb sh _ hb (hg _ he)
    obtain ⟨h5, h6⟩ := T.getL_some _ _ _ _ hl
    refine ⟨h5, fun i hi => ?_⟩
    have hi' : i < l.length := by omega
    obtain ⟨h7, v, h8, h9⟩ := h4 (o + i) l[i] (by rw [h6 i hi, List.getElem?_eq_getElem hi'])
    refine ⟨l[i], v, List.getElem?_eq_getElem hi', ?_, h9⟩
    simp only [World.cell?, h1]
    rw [Nat.add_assoc]
    simpa using h8
  · cases hl

/-! ### the world turns -/
theorem HR.world (H : HR P w0 φ h w) (hb : Below w0.heap.size w w') (hk : ∀ b rb sh, φ b = some (rb, sh) → w'.heap[rb]? = w.heap[rb]?) : HR P w0 φ h w' := {
  below := H.below.trans hb
  dom b rb sh e := let ⟨h1, h2, h3⟩ := H.dom b rb sh e; ⟨h1, h2, Nat.lt_of_lt_of_le h3 hb.size⟩
  objs b rb sh o e ho := (H.objs b rb sh o e ho).mono (Emb.le_refl φ) rfl (hk b rb sh e)
  fresh := H.fresh
  gfresh := H.gfresh
  kin := H.kin
  gmem := H.gmem
  apart := H.apart }
theorem HR.drew (H : HR P w0 φ h w) (n : Nat) : HR P w0 φ h { w with drawn := n } :=
  H.world ⟨rfl, rfl, rfl, Nat.le_refl _, fun _ _ => rfl⟩ (fun _ _ _ _ => rfl)

/-- one more block -/
def Emb.put (φ : Emb) (b : Nat) (x : Nat × Nat) (m : Nat) : Emb := ⟨fun c => if c = b then some x else φ c, fun r => if r = x.1 then m else φ.sz r⟩
theorem Emb.le_put {φ : Emb} {b : Nat} {x : Nat × Nat} {m : Nat} (h : φ b = none) (hz : ∀ c y, φ c = some y → y.1 = x.1 → φ.sz y.1 = m) : φ.le (φ.put b x m) := by
  constructor
  · intro c y e
    show (if c = b then some x else φ c) = some y
    by_cases hc : c = b
    · subst hc; rw [h] at e; cases e
    · rw [if_neg hc]; exact e
  · intro c y e
    show (if y.1 = x.1 then m else φ.sz y.1) = φ.sz y.1
    by_cases hc : y.1 = x.1
    · rw [if_pos hc]; exact (hz c y e hc).symm
    · rw [if_neg hc]
theorem put_f {φ : Emb} {b c m : Nat} {x : Nat × Nat} : (φ.put b x m) c = if c = b then some x else φ c := rfl
theorem put_sz {φ : Emb} {b r m : Nat} {x : Nat × Nat} : (φ.put b x m).sz r = if r = x.1 then m else φ.sz r := rfl
theorem heap_push_old {w : World} (o : Obj) {k : Nat} (hk : k < w.heap.size) : ({ w with heap := w.heap.push o } : World).heap[k]? = w.heap[k]? := by
  show (w.heap.push o)[k]? = _
  rw [Array.getElem?_push, if_neg (by omega)]
theorem heap_push_new {w : World} (o : Obj) : ({ w with heap := w.heap.push o } : World).heap[w.heap.size]? = some o := by
  show (w.heap.push o)[w.heap.size]? = _
  simp
theorem below_push (H : HR P w0 φ h w) (o : Obj) : Below w0.heap.size w { w with heap := w.heap.push o } :=
  ⟨rfl, rfl, rfl, by simp, fun k hk => heap_push_old o (Nat.lt_of_lt_of_le hk H.below.size)⟩
theorem HR.pushReal (H : HR P w0 φ h w) (o : Obj) : HR P w0 φ h { w with heap := w.heap.push o } :=
  H.world (below_push H o) fun b rb sh e => heap_push_old o (H.dom b rb sh e).2.2
/-- the abstract heap alone has a new object -/
theorem HR.newD {heap : T DObj} {next : Nat} {g : T (List Nat)} (H : HR P w0 φ (.mk heap next g) w) (o : DObj) (ho : ∀ c n x, o ≠ .cells c n (some x)) :
    HR P w0 φ (.mk (heap.set next o) (Nat.succ next) g) w := {
  below := H.below
  dom b rb sh e := let ⟨h1, h2, h3⟩ := H.dom b rb sh e; ⟨Nat.lt_succ_of_lt h1, h2, h3⟩
  objs b rb sh o' e ho' := by
    have h1 : b < next := (H.dom b rb sh e).1
    simp only [HS.heap, T.get_set, if_neg (Nat.ne_of_lt h1)] at ho'
    exact H.objs b rb sh o' e ho'
  fresh b hb := by
    simp only [HS.heap, HS.next, T.get_set] at hb ⊢
    rw [if_neg (by omega)]; exact H.fresh b (by simp only [HS.next]; omega)
  gfresh b hb := H.gfresh b (by simp only [HS.next] at hb ⊢; omega)
  kin b c n gg s e := by
    simp only [HS.heap, T.get_set] at e
    by_cases hb : b = next
    · rw [if_pos hb] at e; simp only [Option.some.injEq] at e; exact absurd e (ho _ _ _)
    · rw [if_neg hb] at e; exact H.kin b c n gg s e
  gmem := H.gmem
  apart b b' rb sh sh' o1 o2 e1 e2 h1 h2 hne := by
    have k1 : b < next := (H.dom b _ _ e1).1
    have k2 : b' < next := (H.dom b' _ _ e2).1
    simp only [HS.heap, T.get_set, if_neg (Nat.ne_of_lt k1)] at h1
    simp only [HS.heap, T.get_set, if_neg (Nat.ne_of_lt k2)] at h2
    exact H.apart b b' rb sh sh' o1 o2 e1 e2 h1 h2 hne }
theorem HR.newSz (H : HR P w0 φ h w) (m : Nat) : ∀ c y, φ c = some y → y.1 = w.heap.size → φ.sz y.1 = m := by
  intro c y e hy
  have := (H.dom c y.1 y.2 e).2.2
  omega
/-- a new block stands for an object of the abstract heap that stood for none -/
theorem HR.bind (H : HR P w0 φ h w) {b m : Nat} (hb : φ b = none) (hn : b < h.next) (x : Obj)
    (hx : ∀ o, h.heap.get b = some o → OR P (φ.put b (w.heap.size, 0) m) { w with heap := w.heap.push x } o w.heap.size 0) :
    HR P w0 (φ.put b (w.heap.size, 0) m) h { w with heap := w.heap.push x } := {
  below := H.below.trans (below_push H x)
  dom c rb sh e := by
    rw [put_f] at e
    by_cases hc : c = b
    · rw [if_pos hc] at e
      simp only [Option.some.injEq, Prod.mk.injEq] at e
      refine ⟨hc ▸ hn, by rw [← e.1]; exact H.below.size, by rw [← e.1]; simp⟩
    · rw [if_neg hc] at e
      obtain ⟨h1, h2, h3⟩ := H.dom c rb sh e
      exact ⟨h1, h2, by simp; omega⟩
  objs c rb sh o' e ho' := by
    have hle : φ.le (φ.put b (w.heap.size, 0) m) := Emb.le_put hb (H.newSz m)
    by_cases hc : c = b
    · subst hc
      simp only [put_f, if_true, Option.some.injEq, Prod.mk.injEq] at e
      obtain ⟨rfl, rfl⟩ := e
      exact hx _ ho'
    · have e' : φ c = some (rb, sh) := by simpa only [put_f, if_neg hc] using e
      exact (H.objs c rb sh o' e' ho').mono hle (by rw [put_sz, if_neg (by have := (H.dom c rb sh e').2.2; simp only; omega)]) (heap_push_old x (H.dom c rb sh e').2.2)
  fresh := H.fresh
  gfresh := H.gfresh
  kin := H.kin
  gmem g ms m' h1 h2 := let ⟨x, hx⟩ := H.gmem g ms m' h1 h2; ⟨x, (Emb.le_put (m := m) hb (H.newSz m)).1 _ _ hx⟩
  apart c c' rb sh sh' o1 o2 e1 e2 h1 h2 hne := by
    by_cases hc : c = b
    · by_cases hc' : c' = b
      · exact absurd (hc.trans hc'.symm) hne
      · simp only [put_f, if_pos hc, Option.some.injEq, Prod.mk.injEq] at e1
        simp only [put_f, if_neg hc'] at e2
        have := (H.dom c' _ _ e2).2.2
        omega
    · simp only [put_f, if_neg hc] at e1
      by_cases hc' : c' = b
      · simp only [put_f, if_pos hc', Option.some.injEq, Prod.mk.injEq] at e2
        have := (H.dom c _ _ e1).2.2
        omega
      · simp only [put_f, if_neg hc'] at e2
        exact H.apart c c' rb sh sh' o1 o2 e1 e2 h1 h2 hne }
/-- both have a new one -/
theorem HR.new {heap : T DObj} {next : Nat} {g : T (List Nat)} (H : HR P w0 φ (.mk heap next g) w) (o : DObj) (ho : ∀ c n x, o ≠ .cells c n (some x)) (x : Obj) {m : Nat}
    (hx : OR P (φ.put next (w.heap.size, 0) m) { w with heap := w.heap.push x } o w.heap.size 0) :
    φ.le (φ.put next (w.heap.size, 0) m) ∧ HR P w0 (φ.put next (w.heap.size, 0) m) (.mk (heap.set next o) (Nat.succ next) g) { w with heap := w.heap.push x } := by
  have hn : φ next = none := by
    cases e : φ next with
    | none => rfl
    | some y => exact absurd (H.dom next y.1 y.2 e).1 (by simp [HS.next])
  exact ⟨Emb.le_put hn (H.newSz m), (H.newD o ho).bind hn (by simp [HS.next]) x (fun o' e => by
    simp only [HS.heap, T.get_set, if_true, Option.some.injEq] at e
    exact e ▸ hx)⟩
/-- an object that is no row is written -/
theorem HR.setObj {heap : T DObj} {next : Nat} {g : T (List Nat)} (H : HR P w0 φ (.mk heap next g) w) {b rb sh : Nat} {o o' : DObj} (hb : φ b = some (rb, sh)) (ho : heap.get b = some o)
    (hc : ∀ c n k, o ≠ .cells c n k) (hc' : ∀ c n k, o' ≠ .cells c n k) (x : Obj)
    (hx : OR P φ { w with heap := w.heap.setIfInBounds rb x } o' rb sh) :
    HR P w0 φ (.mk (heap.set b o') next g) { w with heap := w.heap.setIfInBounds rb x } := by
  have hd := H.dom b rb sh hb
  have hne : ∀ c rc s o2, φ c = some (rc, s) → heap.get c = some o2 → c ≠ b → rc ≠ rb := by
    rintro c rc s o2 e h2 hcb rfl
    obtain ⟨c1, n1, _, _, _, _, _, h3, h4, _⟩ := H.apart b c rc sh s o o2 hb e ho h2 (Ne.symm hcb)
    exact hc _ _ _ h3
  have hold : ∀ k, k ≠ rb → ({ w with heap := w.heap.setIfInBounds rb x } : World).heap[k]? = w.heap[k]? := by
    intro k hk
    show (w.heap.setIfInBounds rb x)[k]? = _
    rw [Array.getElem?_setIfInBounds, if_neg (fun e => hk e.symm)]
  exact {
    below := H.below.trans ⟨rfl, rfl, rfl, by simp, fun k hk => hold k (by omega)⟩
    dom := fun c rc s e => by
      obtain ⟨h1, h2, h3⟩ := H.dom c rc s e
      exact ⟨h1, h2, by simpa using h3⟩
    objs := fun c rc s o2 e h2 => by
      simp only [HS.heap, T.get_set] at h2
      by_cases hcb : c = b
      · subst hcb
        rw [if_pos rfl] at h2
        simp only [Option.some.injEq] at h2
        subst h2
        rw [hb] at e
        simp only [Option.some.injEq, Prod.mk.injEq] at e
        obtain ⟨rfl, rfl⟩ := e
        exact hx
      · rw [if_neg hcb] at h2
        exact (H.objs c rc s o2 e h2).mono (Emb.le_refl φ) rfl (hold rc (hne c rc s o2 e h2 hcb))
    fresh := fun c hcn => by
      simp only [HS.heap, T.get_set]
      have h1 : b < next := hd.1
      simp only [HS.next] at hcn
      rw [if_neg (by omega)]
      exact H.fresh c hcn
    gfresh := H.gfresh
    kin := fun c cc n gg s e => by
      simp only [HS.heap, T.get_set] at e
      by_cases hcb : c = b
      · rw [if_pos hcb] at e
        simp only [Option.some.injEq] at e
        exact absurd e (hc' _ _ _)
      · rw [if_neg hcb] at e
        exact H.kin c cc n gg s e
    gmem := H.gmem
    apart := fun c c' rc s s' o1 o2 e1 e2 h1 h2 hcc => by
      simp only [HS.heap, T.get_set] at h1 h2
      by_cases hcb : c = b
      · subst hcb
        rw [if_neg (Ne.symm hcc)] at h2
        rw [hb] at e1
        simp only [Option.some.injEq, Prod.mk.injEq] at e1
        exact absurd e1.1.symm (hne c' rc s' o2 e2 h2 (Ne.symm hcc))
      · rw [if_neg hcb] at h1
        by_cases hcb' : c' = b
        · subst hcb'
          rw [hb] at e2
          simp only [Option.some.injEq, Prod.mk.injEq] at e2
          exact absurd e2.1.symm (hne c rc s o1 e1 h1 hcc)
        · rw [if_neg hcb'] at h2
          exact H.apart c c' rc s s' o1 o2 e1 e2 h1 h2 hcc }
end Go.DM
set_option autoImplicit false
set_option linter.unusedVariables false
namespace Go.DM
open Go.RowKit
variable {P : Program} {φ ψ : Emb} {w0 w w' : World} {h : HS}

theorem add_at (b o n : Nat) : (⟨b, o, none⟩ : Addr).add n = ⟨b, o + n, none⟩ := by
  unfold Addr.add; split
  · simp_all
  · rfl

/-! ### many cells written -/
def putCells (rb off : Nat) : List Value → World → World
  | [], w => w
  | v :: vs, w => putCells rb (off + 1) vs (w.setCell ⟨rb, off, none⟩ v)
theorem setCell_heap_ne (w : World) (rb off : Nat) (v : Value) {k : Nat} (hk : k ≠ rb) : (w.setCell ⟨rb, off, none⟩ v).heap[k]? = w.heap[k]? := Below.heap_setCell w _ _ _ hk
theorem setCell_heap_eq {w : World} {rb off : Nat} {v : Value} {c : Array Value} {e : TypeId} {fz : Nat × Nat} (h : w.heap[rb]? = some (.cells c e fz)) :
    (w.setCell ⟨rb, off, none⟩ v).heap[rb]? = some (.cells (c.setIfInBounds off v) e fz) := by
  simp only [World.setCell, Array.getElem?_modify, if_true, h, Option.map_some]
  rfl
theorem putCells_spec (rb : Nat) (e : TypeId) (fz : Nat × Nat) : ∀ (vs : List Value) (off : Nat) (w : World) (c : Array Value), w.heap[rb]? = some (.cells c e fz) →
    ((putCells rb off vs w).os = w.os ∧ (putCells rb off vs w).tape = w.tape ∧ (putCells rb off vs w).output = w.output ∧ (putCells rb off vs w).drawn = w.drawn ∧
      (putCells rb off vs w).heap.size = w.heap.size) ∧
    (∀ k, k ≠ rb → (putCells rb off vs w).heap[k]? = w.heap[k]?) ∧
    ∃ c', (putCells rb off vs w).heap[rb]? = some (.cells c' e fz) ∧ c'.size = c.size ∧
      ∀ k, c'[k]? = if off ≤ k ∧ k < off + vs.length ∧ k < c.size then vs[k - off]? else c[k]? := by
  intro vs
  induction vs with
  | nil =>
    intro off w c h
    refine ⟨⟨rfl, rfl, rfl, rfl, rfl⟩, fun _ _ => rfl, c, h, rfl, fun k => ?_⟩
    rw [if_neg (by simp; omega)]
  | cons v vs ih =>
    intro off w c h
    obtain ⟨⟨i1, i2, i3, i4, i5⟩, h2, c', h3, h4, h5⟩ := ih (off + 1) (w.setCell ⟨rb, off, none⟩ v) (c.setIfInBounds off v) (setCell_heap_eq h)
    refine ⟨⟨i1, i2, i3, i4, i5.trans (by simp [World.setCell])⟩, fun k hk => (h2 k hk).trans (setCell_heap_ne w rb off v hk), c', h3, by simpa using h4, fun k => ?_⟩
    rw [h5 k]
    simp only [Array.size_setIfInBounds, List.length_cons]
    by_cases h6 : off + 1 ≤ k ∧ k < off + 1 + vs.length ∧ k < c.size
    · rw [if_pos h6, if_pos (by omega)]
      obtain ⟨j, rfl⟩ : ∃ j, k = off + 1 + j := ⟨k - (off + 1), by omega⟩
      rw [show off + 1 + j - (off + 1) = j from by omega, show off + 1 + j - off = j + 1 from by omega]
      simp
    · rw [if_neg h6, Array.getElem?_setIfInBounds]
      by_cases h7 : off = k
      · subst h7
        by_cases h8 : off < c.size
        · rw [if_pos rfl, if_pos h8, if_pos (by omega)]; simp
        · rw [if_pos rfl, if_neg h8, if_neg (by omega)]
          rw [Array.getElem?_eq_none (by omega)]
      · rw [if_neg h7, if_neg (by omega)]
def plainV : Value → Prop
  | .agg _ | .tuple _ => False
  | _ => True
theorem run_store1 {w : World} {a : Addr} {v old : Value} (hp : plainV v) (hc : w.cell? a = some old) (hf : w.frozen? a = false) (k : Sem Unit) :
    (Sem.store .plain a v k).run P w = k.run P (w.setCell a v) := by
  cases v <;> simp only [plainV] at hp <;> simp [Sem.run, hc, hf]
theorem run_storeCells (rb : Nat) (e : TypeId) (fz : Nat × Nat) (o : Nat) : ∀ (vs : List Value) (i : Nat) (w : World) (c : Array Value), w.heap[rb]? = some (.cells c e fz) →
    (∀ v, v ∈ vs → plainV v) → o + i + vs.length ≤ c.size → (∀ j, j < vs.length → w.frozen? ⟨rb, o + i + j, none⟩ = false) →
    (storeCells ⟨rb, o, none⟩ vs i).run P w = .ok () (putCells rb (o + i) vs w) := by
  intro vs
  induction vs with
  | nil => intro i w c _ _ _ _; rfl
  | cons v vs ih =>
    intro i w c h hp hs hf
    simp only [List.length_cons] at hs hf
    unfold storeCells putCells
    have hcell : w.cell? ⟨rb, o + i, none⟩ = some c[o + i] := by
      simp only [World.cell?, h, Option.isSome_none, Bool.false_eq_true, if_false]
      exact Array.getElem?_eq_getElem (by omega)
    have hfz : w.frozen? ⟨rb, o + i, none⟩ = false := by simpa using hf 0 (by omega)
    show (Sem.bind (store ((⟨rb, o, none⟩ : Addr).add i) v) _).run P w = _
    rw [add_at]
    show (Sem.store .plain ⟨rb, o + i, none⟩ v _).run P w = _
    rw [run_store1 (hp v (by simp)) hcell hfz]
    have := ih (i + 1) (w.setCell ⟨rb, o + i, none⟩ v) _ (setCell_heap_eq h) (fun x hx => hp x (by simp [hx])) (by simp; omega) (fun j hj => by
      have h1 := hf (j + 1) (by omega)
      rw [show o + (i + 1) + j = o + i + (j + 1) from by omega]
      rw [← h1]
      simp only [World.frozen?, setCell_heap_eq h, h])
    exact this

/-! ### cells stored in both heaps -/
theorem delAll_get (b : Nat) : ∀ (ms : List Nat) (t : T DObj) (c : Nat), (delAll b ms t).get c = if c ∈ ms ∧ c ≠ b then none else t.get c := by
  intro ms
  induction ms with
  | nil => intro t c; simp [delAll]
  | cons m ms ih =>
    intro t c
    unfold delAll
    split
    · rename_i hm
      have : m = b := Nat.eq_of_beq_eq_true hm
      subst this
      rw [ih]
      by_cases h1 : c ∈ ms ∧ c ≠ m
      · rw [if_pos h1, if_pos ⟨by simp [h1.1], h1.2⟩]
      · rw [if_neg h1, if_neg (by rintro ⟨h2, h3⟩; simp only [List.mem_cons] at h2; rcases h2 with h2 | h2; exact h3 h2; exact h1 ⟨h2, h3⟩)]
    · rename_i hm
      have hne : m ≠ b := fun e => by rw [e] at hm; simp at hm
      rw [ih, T.get_put]
      by_cases h1 : c ∈ ms ∧ c ≠ b
      · rw [if_pos h1, if_pos ⟨by simp [h1.1], h1.2⟩]
      · rw [if_neg h1]
        by_cases h2 : c = m
        · rw [if_pos h2, if_pos ⟨by simp [h2], h2 ▸ hne⟩]
        · rw [if_neg h2, if_neg (by rintro ⟨h3, h4⟩; simp only [List.mem_cons] at h3; rcases h3 with h3 | h3; exact h2 h3; exact h1 ⟨h3, h4⟩)]
theorem cellsOk_iff {l : List DV} : cellsOk l = true ↔ ∀ d, d ∈ l → cellOk d = true := by
  induction l with
  | nil => simp [cellsOk]
  | cons d ds ih =>
    simp only [cellsOk]
    cases hd : cellOk d with
    | true => simp [ih, hd]
    | false => simp [hd]
theorem plainV_of {d : DV} {v : Value} (hd : cellOk d = true) (h : VR P φ d v) : plainV v := by
  cases d <;> simp only [cellOk, Bool.false_eq_true] at hd <;> simp only [VR] at h
  case str => obtain ⟨s, rfl, _⟩ := h; trivial
  case ptr => obtain ⟨rb, sh, _, rfl⟩ := h; trivial
  case slice => obtain ⟨_, _, _, rfl, _⟩ := h; trivial
  case map => obtain ⟨rr, _, rfl⟩ := h; trivial
  case func => obtain ⟨_, _, _, rfl, _⟩ := h; trivial
  case fbox => obtain ⟨_, rfl, _⟩ := h; trivial
  case iface => obtain ⟨x, rfl, _⟩ := h; trivial
  all_goals (subst h; trivial)
theorem VRL.plain {l : List DV} {vs : List Value} (hd : cellsOk l = true) (h : VRL P φ l vs) : ∀ v, v ∈ vs → plainV v := by
  induction l generalizing vs with
  | nil => simp only [VRL] at h; subst h; simp
  | cons d ds ih =>
    simp only [VRL] at h
    obtain ⟨x, xs, rfl, h1, h2⟩ := h
    have hd' := cellsOk_iff.1 hd
    intro v hv
    simp only [List.mem_cons] at hv
    rcases hv with rfl | hv
    · exact plainV_of (hd' d (by simp)) h1
    · exact ih (cellsOk_iff.2 fun d hd => hd' d (by simp [hd])) h2 v hv
theorem HR.storeN {b o rb sh : Nat} {l : List DV} {h' : HS} {vs : List Value} (H : HR P w0 φ h w) (hb : φ b = some (rb, sh)) (hs : DM.storeN h b o l = some h') (hv : VRL P φ l vs) :
    (storeCells ⟨rb, sh + o, none⟩ vs).run P w = .ok () (putCells rb (sh + o) vs w) ∧ HR P w0 φ h' (putCells rb (sh + o) vs w) ∧ h'.next = h.next ∧ cellsOk l = true ∧ ∀ c, φ c = none → h'.heap.get c = h.heap.get c := by
  obtain ⟨heap, next, gs⟩ := h
  simp only [DM.storeN] at hs
  split at hs
  · rename_i c n kin he
    split at hs
    · cases hs
    · rename_i hcond
      simp only [Bool.and_eq_true] at hcond
      obtain ⟨hle, hok⟩ := hcond
      have hle : o + l.length ≤ n := Nat.le_of_ble_eq_true hle
      obtain ⟨rc, elem, fz, h1, h2, h3, h4⟩ := H.objs b rb sh _ hb he
      have hlen : vs.length = l.length := (VRL.length hv).symm
      obtain ⟨⟨i1, i2, i3, i4, i5⟩, j2, c', k1, k2, k3⟩ := putCells_spec rb elem fz vs (sh + o) w rc h1
      have hrun := run_storeCells (P := P) rb elem fz (sh + o) vs 0 w rc h1 (VRL.plain hok hv) (by have := h2.1; omega) (fun j hj => by rw [Nat.add_zero, Nat.add_assoc]; exact frozen_beyond h1 h3 (by have := h2.1; omega))
      rw [Nat.add_zero] at hrun
      have hd := H.dom b rb sh hb
      have hbelow : Below w0.heap.size w (putCells rb (sh + o) vs w) := ⟨i1, i2, i3, Nat.le_of_eq i5.symm, fun k hk => j2 k (by omega)⟩
      have hnew : OR P φ (putCells rb (sh + o) vs w) (.cells (T.setL l c o) n none) rb sh := by
        refine ⟨c', elem, fz, k1, ⟨by have := h2.1; omega, k2.trans h2.2⟩, by rw [k2]; exact h3, fun i d hd' => ?_⟩
        · rw [T.get_setL] at hd'
          rw [k3]
          by_cases hin : o ≤ i ∧ i < o + l.length
          · rw [if_pos hin] at hd'
            obtain ⟨v, h6, h7⟩ := VRL.get hv hd'
            refine ⟨by omega, v, ?_, h7⟩
            rw [if_pos (by have := h2.1; omega), show sh + i - (sh + o) = i - o from by omega]
            exact h6
          · rw [if_neg hin] at hd'
            obtain ⟨h6, v, h7, h8⟩ := h4 i d hd'
            refine ⟨h6, v, ?_, h8⟩
            rw [if_neg (by omega)]
            exact h7
      -- what is left of the heap
      have key : ∀ (heap1 : T DObj), (∀ c' o', (heap1.get c') = some o' → c' ≠ b → heap.get c' = some o' ∧ ∀ rc' s', φ c' = some (rc', s') → rc' ≠ rb) → (heap1.get b = some (.cells (T.setL l c o) n none)) →
          HR P w0 φ (.mk heap1 next gs) (putCells rb (sh + o) vs w) := by
        intro heap1 hold hnewb
        exact {
          below := H.below.trans hbelow
          dom := fun c1 r1 s1 e => by
            obtain ⟨a1, a2, a3⟩ := H.dom c1 r1 s1 e
            exact ⟨a1, a2, by omega⟩
          objs := fun c1 r1 s1 o1 e e1 => by
            by_cases hcb : c1 = b
            · subst hcb
              simp only [HS.heap, hnewb, Option.some.injEq] at e1
              subst e1
              rw [hb] at e
              simp only [Option.some.injEq, Prod.mk.injEq] at e
              obtain ⟨rfl, rfl⟩ := e
              exact hnew
            · obtain ⟨a1, a2⟩ := hold c1 o1 e1 hcb
              exact (H.objs c1 r1 s1 o1 e a1).mono (Emb.le_refl φ) rfl (j2 r1 (a2 _ _ e))
          fresh := fun c1 hc1 => by
            cases e : heap1.get c1 with
            | none => exact e
            | some o1 =>
              have hcb : c1 ≠ b := fun e2 => by subst e2; have := hd.1; simp only [HS.next] at hc1 this; omega
              have := (hold c1 o1 e hcb).1
              rw [show heap.get c1 = none from H.fresh c1 hc1] at this
              cases this
          gfresh := H.gfresh
          kin := fun c1 cc n1 g1 s1 e => by
            by_cases hcb : c1 = b
            · subst hcb
              simp only [HS.heap, hnewb, Option.some.injEq, DObj.cells.injEq, reduceCtorEq, and_false] at e
            · exact H.kin c1 cc n1 g1 s1 (hold c1 _ e hcb).1
          gmem := H.gmem
          apart := fun c1 c2 r1 s1 s2 o1 o2 e1 e2 d1 d2 hne => by
            by_cases hcb : c1 = b
            · subst hcb
              rw [hb] at e1
              simp only [Option.some.injEq, Prod.mk.injEq] at e1
              exact absurd e1.1.symm ((hold c2 o2 d2 (Ne.symm hne)).2 _ _ e2)
            · by_cases hcb' : c2 = b
              · subst hcb'
                rw [hb] at e2
                simp only [Option.some.injEq, Prod.mk.injEq] at e2
                exact absurd e2.1.symm ((hold c1 o1 d1 hcb).2 _ _ e1)
              · exact H.apart c1 c2 r1 s1 s2 o1 o2 e1 e2 (hold c1 o1 d1 hcb).1 (hold c2 o2 d2 hcb').1 hne }
      refine ⟨hrun, ?_⟩
      split at hs
      · simp only [Option.some.injEq] at hs
        subst hs
        refine ⟨key _ (fun c1 o1 e hcb => ?_) (by simp [T.get_set]), rfl, hok, fun c1 h1 => by simp only [HS.heap, T.get_set]; rw [if_neg (fun e => by rw [e, hb] at h1; cases h1)]⟩
        rw [T.get_set, if_neg hcb] at e
        refine ⟨e, fun r1 s1 e1 e2 => ?_⟩
        subst e2
        obtain ⟨_, _, _, _, _, _, _, e3, _⟩ := H.apart b c1 _ sh s1 _ o1 hb e1 he e (Ne.symm hcb)
        simp at e3
      · rename_i g s
        split at hs
        · rename_i ms hms
          simp only [Option.some.injEq] at hs
          subst hs
          refine ⟨key _ (fun c1 o1 e hcb => ?_) (by simp [T.get_set]), rfl, hok, fun c1 h1 => by
            simp only [HS.heap, T.get_set, delAll_get]
            rw [if_neg (fun e => by rw [e, hb] at h1; cases h1), if_neg (fun e => by obtain ⟨x, hx⟩ := H.gmem g ms c1 hms e.1; rw [h1] at hx; cases hx)]⟩
          rw [T.get_set, if_neg hcb, delAll_get] at e
          split at e
          · cases e
          · rename_i hnot
            refine ⟨e, fun r1 s1 e1 e2 => ?_⟩
            subst e2
            obtain ⟨_, _, c2, n2, g2, _, s2, e3, e4, _⟩ := H.apart b c1 _ sh s1 _ o1 hb e1 he e (Ne.symm hcb)
            simp only [DObj.cells.injEq, Option.some.injEq, Prod.mk.injEq] at e3
            obtain ⟨_, _, rfl, _⟩ := e3
            subst e4
            obtain ⟨ms', m1, m2⟩ := H.kin c1 _ _ _ _ e
            simp only [HS.groups] at m1
            rw [hms] at m1
            simp only [Option.some.injEq] at m1
            subst m1
            exact hnot ⟨m2, hcb⟩
        · cases hs
  · cases hs
end Go.DM
set_option autoImplicit false
set_option linter.unusedVariables false
set_option linter.unusedSimpArgs false
namespace Go.DM
open Go.RowKit
variable {P : Program} {φ ψ : Emb} {w0 w w' : World} {h h' : HS}

def DefR (P : Program) (φ : Emb) : DDef → Deferred → Prop
  | .call f args, d => ∃ fn first cap args', VR P φ f (.func fn first cap) ∧ VRL P φ args args'.toList ∧ d = ⟨.fn fn cap, first ++ args'⟩
  | .collected r, d => ∃ rr, φ r = some (rr, 0) ∧ d = ⟨.collected rr, #[]⟩
/-- the old blocks that stand for nothing yet are as they were -/
def Kept (φ φ' : Emb) (h h' : HS) : Prop := h.next ≤ h'.next ∧ ∀ c, c < h.next → φ c = none → h'.heap.get c = h.heap.get c ∧ φ' c = none
def ValR (P : Program) (w0 : World) (φ : Emb) (h : HS) (v : DV) (h' : HS) (r : Result Next) : Prop :=
  ∃ φ' w' nx x, r = .ok nx w' ∧ (nx = .value x ∨ (nx = .skip ∧ x = undef)) ∧ φ.le φ' ∧ HR P w0 φ' h' w' ∧ VR P φ' v x ∧ Kept φ φ' h h'
def OutR (P : Program) (w0 : World) (φ : Emb) (h : HS) (w : World) (o : Out) (r : Result Next) : Prop := match o with
  | .val v h' => ValR P w0 φ h v h' r
  | .enter f args h' => h' = h ∧ ∃ args', VRL P φ args args'.toList ∧ r = (callFunc f args').run P w
  | .round l args => ∃ rl args', φ l = some (rl, 0) ∧ VRL P φ args args'.toList ∧ r = (Instr.yield rl args').run P w
  | .defer d => ∃ d', r = .ok (.defer d') w ∧ DefR P φ d d'
  | .recover => r = .ok .recover w
  | .panic v => ∃ x, r = .halt (.panic x) w ∧ VR P φ v x
  | .fail => True

theorem Kept.refl (φ : Emb) (h : HS) : Kept φ φ h h := ⟨Nat.le_refl _, fun _ _ e => ⟨rfl, e⟩⟩
theorem ValR.pure (H : HR P w0 φ h w) {v : DV} {x : Value} (hv : VR P φ v x) : ValR P w0 φ h v h (.ok (.value x) w) :=
  ⟨φ, w, .value x, x, rfl, .inl rfl, Emb.le_refl φ, H, hv, Kept.refl φ h⟩
theorem ValR.skip {v : DV} (H : HR P w0 φ h' w') (hk : Kept φ φ h h') (hv : v = undefD) : ValR P w0 φ h v h' (.ok .skip w') :=
  ⟨φ, w', .skip, undef, rfl, .inr ⟨rfl, rfl⟩, Emb.le_refl φ, H, by subst hv; exact ⟨#[], rfl, rfl⟩, hk⟩

/-! ### types -/
theorem info_of {t : TypeId} {i : TypeInfo} (e : P.types[t]? = some i) : P.info? t = some i := by
  have ht := (Array.getElem?_eq_some_iff.1 e).1
  unfold Tables.info?
  rw [if_pos ht]
  exact e
theorem run_typeInfo {t : TypeId} {i : TypeInfo} (e : P.types[t]? = some i) : (typeInfo t).run P w = .ok i w := by
  simp [typeInfo, info_of e]
theorem run_sizeOf {t : TypeId} {n : Nat} (e : sizeT P t = some n) : (sizeOf t).run P w = .ok n w := by
  unfold sizeT at e
  split at e
  · rename_i i hi
    simp only [Option.some.injEq] at e
    simp [sizeOf, run_typeInfo hi, e]
  · cases e
theorem run_underlying {t : TypeId} {d : TypeDesc} (e : under P t = some d) : (underlying t).run P w = .ok d w := by
  unfold under at e
  simp [underlying, e]
theorem run_isAgg {t : TypeId} {d : TypeDesc} (e : under P t = some d) : (isAgg t).run P w = .ok (isAggD d) w := by
  simp only [isAgg, Sem.run_bind, run_underlying e, Result.andThen_ok]
  cases d <;> rfl
theorem run_zero {t : TypeId} {z : DV} (e : zeroT P t = some z) : ∃ v, (zeroValue t).run P w = .ok v w ∧ z = ofValue v := by
  unfold zeroT at e
  split at e
  · rename_i i hi
    split at e
    · rename_i v hv
      simp only [Option.some.injEq] at e
      exact ⟨v, by simp [zeroValue, run_typeInfo hi, hv], e.symm⟩
    · cases e
  · cases e
theorem shape_none {t : TypeId} (e : shapeT P t = some none) : ∃ d n, under P t = some d ∧ isAggD d = false ∧ sizeT P t = some n := by
  unfold shapeT at e
  split at e
  · rename_i d n h1 h2
    cases hd : isAggD d with
    | true => rw [hd] at e; simp at e
    | false => exact ⟨d, n, h1, hd, h2⟩
  · cases e
theorem shape_some {t : TypeId} {n : Nat} (e : shapeT P t = some (some n)) : ∃ d, under P t = some d ∧ isAggD d = true ∧ sizeT P t = some n := by
  unfold shapeT at e
  split at e
  · rename_i d m h1 h2
    cases hd : isAggD d with
    | true => rw [hd] at e; simp at e; subst e; exact ⟨d, h1, hd, h2⟩
    | false => rw [hd] at e; simp at e
  · cases e

/-! ### cells of a value -/
theorem VR.cells {d : DV} {v : Value} (hv : VR P φ d v) (hd : ∀ l, d ≠ .tuple l) (hb : d ≠ .bad) : VRL P φ d.cells v.cells.toList := by
  cases d
  case bad => exact absurd rfl hb
  case agg l => simp only [VR] at hv; obtain ⟨cs, rfl, h⟩ := hv; exact h
  case tuple l => exact absurd rfl (hd l)
  all_goals
    have hx : ∀ cs, v ≠ .agg cs := by
      intro cs e
      subst e
      simp only [VR] at hv
      first | (cases hv; done) | (obtain ⟨_, h1, _⟩ := hv; cases h1; done) | (obtain ⟨_, _, h1⟩ := hv; cases h1; done) | (obtain ⟨_, _, _, h1⟩ := hv; cases h1; done) | (obtain ⟨_, _, _, h1, _⟩ := hv; cases h1; done) | (obtain ⟨_, _, h1, _⟩ := hv; cases h1; done)
    have hc : v.cells = #[v] := by cases v <;> first | rfl | exact absurd rfl (hx _)
    rw [hc]
    exact VRL.cons hv VRL.nil

/-! ### loads and stores -/
theorem run_loadCellsFrom (rb : Nat) : ∀ (n i o : Nat) (acc : Array Value) (vs : List Value), vs.length = n → (∀ j, j < n → w.cell? ⟨rb, o + i + j, none⟩ = vs[j]?) →
    (loadCellsFrom ⟨rb, o, none⟩ i n acc).run P w = .ok (acc ++ vs.toArray) w := by
  intro n
  induction n with
  | zero => intro i o acc vs hl _; obtain rfl := List.eq_nil_of_length_eq_zero hl; simp [loadCellsFrom]
  | succ n ih =>
    intro i o acc vs hl hc
    cases vs with
    | nil => simp at hl
    | cons v vs =>
      have h0 := hc 0 (by omega)
      simp only [Nat.add_zero, List.getElem?_cons_zero] at h0
      simp only [loadCellsFrom, Sem.run_bind, add_at, run_load, h0, Result.andThen_ok]
      rw [ih (i + 1) o (acc.push v) vs (by simpa using hl) (fun j hj => by
        have := hc (j + 1) (by omega)
        rw [show o + (i + 1) + j = o + i + (j + 1) from by omega, this]
        simp)]
      simp
theorem run_loadCells (rb o n : Nat) (vs : List Value) (hl : vs.length = n) (hc : ∀ j, j < n → w.cell? ⟨rb, o + j, none⟩ = vs[j]?) :
    (loadCells ⟨rb, o, none⟩ n).run P w = .ok vs.toArray w := by
  unfold loadCells
  rw [run_loadCellsFrom rb n 0 o #[] vs hl (by simpa using hc)]
  simp
theorem HR.loadL {b o n rb sh : Nat} {l : List DV} (H : HR P w0 φ h w) (hb : φ b = some (rb, sh)) (hl : DM.loadN h b o n = some l) :
    ∃ vs : List Value, vs.length = n ∧ (∀ j, j < n → w.cell? ⟨rb, sh + o + j, none⟩ = vs[j]?) ∧ VRL P φ l vs := by
  obtain ⟨h1, h2⟩ := H.loadN hb hl
  refine ⟨(List.range n).map fun j => (w.cell? ⟨rb, sh + o + j, none⟩).getD undef, by simp, fun j hj => ?_, VRL_iff.2 ⟨by simp [h1], fun i d v h3 h4 => ?_⟩⟩
  · obtain ⟨d, v, _, h3, _⟩ := h2 j hj
    simp [hj, h3]
  · have hi : i < n := by
      have := (List.getElem?_eq_some_iff.1 h3).1
      omega
    obtain ⟨d', v', h5, h6, h7⟩ := h2 i hi
    rw [h3] at h5
    simp only [Option.some.injEq] at h5
    subst h5
    simp [hi, h6] at h4
    subst h4
    exact h7
theorem run_loadV {t : TypeId} {b o rb sh : Nat} {d : DV} (H : HR P w0 φ h w) (hb : φ b = some (rb, sh)) (hl : loadV P h t b o = some d) :
    ∃ v, (loadVar t ⟨rb, sh + o, none⟩).run P w = .ok v w ∧ VR P φ d v := by
  unfold loadV at hl
  split at hl
  · rename_i hs
    obtain ⟨dd, n, h1, h2, h3⟩ := shape_none hs
    obtain ⟨v, h4, h5⟩ := H.load hb hl
    exact ⟨v, by simp [loadVar, run_isAgg h1, h2, h4], h5⟩
  · rename_i n hs
    obtain ⟨dd, h1, h2, h3⟩ := shape_some hs
    split at hl
    · rename_i l hl'
      simp only [Option.some.injEq] at hl
      subst hl
      obtain ⟨vs, h4, h5, h6⟩ := H.loadL hb hl'
      refine ⟨.agg vs.toArray, ?_, vs.toArray, rfl, by simpa using h6⟩
      simp only [loadVar, Sem.run_bind, run_isAgg h1, h2, Result.andThen_ok, if_true, run_sizeOf h3, run_loadCells rb (sh + o) n vs h4 h5, Sem.run_pure]
    · cases hl
  · cases hl
theorem run_storeV {t : TypeId} {b o rb sh : Nat} {d : DV} {v : Value} (H : HR P w0 φ h w) (hb : φ b = some (rb, sh)) (hs : storeV P h t b o d = some h') (hv : VR P φ d v) :
    ∃ w', (storeVar t ⟨rb, sh + o, none⟩ v).run P w = .ok () w' ∧ HR P w0 φ h' w' ∧ Kept φ φ h h' := by
  unfold storeV at hs
  split at hs
  · rename_i n hn
    split at hs
    · rename_i hlen
      have hlen : d.cells.length = n := Nat.eq_of_beq_eq_true hlen
      have hok : cellsOk d.cells = true := by
        obtain ⟨heap, next, gs⟩ := h
        simp only [DM.storeN] at hs
        split at hs
        · split at hs
          · cases hs
          · rename_i hc; simp only [Bool.and_eq_true] at hc; exact hc.2
        · cases hs
      have hvc : VRL P φ d.cells v.cells.toList := by
        refine hv.cells (fun l e => ?_) (fun e => ?_)
        · subst e; simp [DV.cells, cellsOk, cellOk] at hok
        · subst e; simp [DV.cells, cellsOk, cellOk] at hok
      obtain ⟨h1, h2, h3, _, h4⟩ := H.storeN hb hs hvc
      have hsz : v.cells.size = n := by have := VRL.length hvc; simp at this; omega
      refine ⟨_, ?_, h2, by rw [h3]; exact Nat.le_refl _, fun c hc he => ⟨h4 c he, he⟩⟩
      simp only [storeVar, Sem.run_bind, run_sizeOf hn, Result.andThen_ok, hsz, ne_eq, not_true_eq_false, if_false, Sem.run_pure]
      exact h1
    · cases hs
  · cases hs
end Go.DM
set_option autoImplicit false
set_option linter.unusedVariables false
set_option linter.unusedSimpArgs false
namespace Go.DM
open Go.RowKit
variable {P : Program} {φ ψ : Emb} {w0 w w' : World} {h h' : HS}

/-! ### new rows -/
theorem get_cellsT (l : List DV) (i : Nat) : (T.setL l .nil 0).get i = l[i]? := by
  rw [T.get_setL]
  by_cases hi : i < l.length
  · rw [if_pos (by omega)]; simp
  · rw [if_neg (by omega), T.get_nil, List.getElem?_eq_none (by omega)]
theorem OR_row {l : List DV} {vs : List Value} (hv : VRL P φ l vs) (rb : Nat) (rc : Array Value) (elem : TypeId) (fz : Nat × Nat) (hw : w.heap[rb]? = some (.cells rc elem fz)) (hf : fz.1 = fz.2 ∨ rc.size ≤ fz.1) (hrc : ∀ i, i < l.length → rc[i]? = vs[i]?) (hs : l.length ≤ rc.size) (hz : rc.size = φ.sz rb) (kin : Option (Nat × Nat)) :
    OR P φ w (.cells (T.setL l .nil 0) l.length kin) rb 0 := by
  refine ⟨rc, elem, fz, hw, ⟨by omega, hz⟩, hf, fun i d hd => ?_⟩
  · rw [get_cellsT] at hd
    have hi : i < l.length := (List.getElem?_eq_some_iff.1 hd).1
    obtain ⟨v, h1, h2⟩ := VRL.get hv hd
    exact ⟨hi, v, by rw [Nat.zero_add, hrc i hi]; exact h1, h2⟩
theorem HR.nextNone {heap : T DObj} {next : Nat} {g : T (List Nat)} (H : HR P w0 φ (.mk heap next g) w) : φ next = none := by
  cases e : φ next with
  | none => rfl
  | some y => exact absurd (H.dom next y.1 y.2 e).1 (by simp [HS.next])
theorem Kept.new {heap : T DObj} {next : Nat} {g : T (List Nat)} (o : DObj) (x : Nat × Nat) (m : Nat) : Kept φ (φ.put next x m) (.mk heap next g) (.mk (heap.set next o) (Nat.succ next) g) := by
  refine ⟨by simp [HS.next], fun c hc he => ⟨?_, ?_⟩⟩
  · simp only [HS.heap, T.get_set]; rw [if_neg (by simp only [HS.next] at hc; omega)]
  · rw [put_f, if_neg (by simp only [HS.next] at hc; omega)]; exact he
/-- a new row in both: its cells are the list's, the real one may have more -/
theorem HR.row {heap : T DObj} {next : Nat} {g : T (List Nat)} (H : HR P w0 φ (.mk heap next g) w) {l : List DV} {vs : List Value} (hv : VRL P φ l vs) (rc : Array Value) (elem : TypeId) (fz : Nat × Nat)
    (hf : fz.1 = fz.2 ∨ rc.size ≤ fz.1) (hrc : ∀ i, i < l.length → rc[i]? = vs[i]?) (hs : l.length ≤ rc.size) :
    φ.le (φ.put next (w.heap.size, 0) rc.size) ∧ HR P w0 (φ.put next (w.heap.size, 0) rc.size) (.mk (heap.set next (cellsOf l)) (Nat.succ next) g) { w with heap := w.heap.push (.cells rc elem fz) } ∧
      Kept φ (φ.put next (w.heap.size, 0) rc.size) (.mk heap next g) (.mk (heap.set next (cellsOf l)) (Nat.succ next) g) := by
  have h1 : φ.le (φ.put next (w.heap.size, 0) rc.size) := Emb.le_put H.nextNone (H.newSz rc.size)
  obtain ⟨h2, h3⟩ := H.new (cellsOf l) (by intro c n x e; simp [cellsOf] at e) (.cells rc elem fz) (OR_row (VRL.mono h1 _ _ hv) _ rc elem fz (heap_push_new _) hf hrc hs (by rw [put_sz, if_pos rfl]) none)
  exact ⟨h2, h3, Kept.new _ _ _⟩
theorem put_self {φ : Emb} {b m : Nat} {x : Nat × Nat} : (φ.put b x m) b = some x := by simp [put_f]
theorem newPtr_sim {l : List DV} {vs : List Value} (H : HR P w0 φ h w) (hv : VRL P φ l vs) (elem : TypeId) {r : Result Next}
    (hr : r = .ok (.value (.pointer (some ⟨w.heap.size, 0, none⟩))) { w with heap := w.heap.push (.cells vs.toArray elem) }) : OutR P w0 φ h w (newPtr h l) r := by
  obtain ⟨heap, next, g⟩ := h
  obtain ⟨h1, h2, h3⟩ := H.row hv vs.toArray elem (0, 0) (.inl rfl) (fun i _ => by simp) (by have := VRL.length hv; simp; omega)
  exact ⟨_, _, _, _, hr, .inl rfl, h1, h2, ⟨w.heap.size, 0, put_self, by simp⟩, h3⟩
theorem newSl_sim' {l : List DV} {vs : List Value} (H : HR P w0 φ h w') (hv : VRL P φ l vs) (rc : Array Value) (elem : TypeId) (fz : Nat × Nat) (hf : fz.1 = fz.2 ∨ rc.size ≤ fz.1) (hrc : ∀ i, i < l.length → rc[i]? = vs[i]?) (hs : l.length ≤ rc.size)
    {len cap sz rcap : Nat} {ex : Bool} (h1 : len ≤ cap) (h2 : cap ≤ rcap) (h3 : ex = true → rcap = cap) (h4 : rcap * sz ≤ rc.size) {r : Result Next}
    (hr : r = .ok (.value (.slice (some ⟨w'.heap.size, 0, none⟩) len rcap)) { w' with heap := w'.heap.push (.cells rc elem fz) }) : OutR P w0 φ h w (newSl h l len cap sz ex) r := by
  obtain ⟨heap, next, g⟩ := h
  obtain ⟨k1, k2, k3⟩ := H.row hv rc elem fz hf hrc hs
  exact ⟨_, _, _, _, hr, .inl rfl, k1, k2, ⟨_, _, rcap, rfl, h1, h2, h3, .inr ⟨0, put_self, by simp, by rw [put_sz, if_pos rfl]; simpa using h4⟩⟩, k3⟩
theorem newSl_sim {l : List DV} {vs : List Value} (H : HR P w0 φ h w) (hv : VRL P φ l vs) (rc : Array Value) (elem : TypeId) (hrc : ∀ i, i < l.length → rc[i]? = vs[i]?) (hs : l.length ≤ rc.size)
    {len cap sz rcap : Nat} {ex : Bool} (h1 : len ≤ cap) (h2 : cap ≤ rcap) (h3 : ex = true → rcap = cap) (h4 : rcap * sz ≤ rc.size) {r : Result Next}
    (hr : r = .ok (.value (.slice (some ⟨w.heap.size, 0, none⟩) len rcap)) { w with heap := w.heap.push (.cells rc elem) }) : OutR P w0 φ h w (newSl h l len cap sz ex) r :=
  newSl_sim' H hv rc elem (0, 0) (.inl rfl) hrc hs h1 h2 h3 h4 hr
theorem newMap_sim (H : HR P w0 φ h w) {r : Result Next} (hr : r = .ok (.value (.map (some w.heap.size))) { w with heap := w.heap.push (.map #[] 0) }) : OutR P w0 φ h w (newObj h (.map []) .map) r := by
  obtain ⟨heap, next, g⟩ := h
  obtain ⟨h2, h3⟩ := H.new (.map []) (by intro c n x e; cases e) (.map #[] 0) (m := 0) ⟨rfl, #[], 0, heap_push_new _, rfl, (by intro x hx; cases hx), List.nodup_nil⟩
  exact ⟨_, _, _, _, hr, .inl rfl, h2, h3, ⟨w.heap.size, put_self, rfl⟩, Kept.new _ _ _⟩

/-- a value with its block at another place -/
def reloc (b : Nat) : DV → DV
  | .ptr _ o => .ptr b o
  | .slice _ o l c s e => .slice b o l c s e
  | .map _ => .map b
  | v => v
/-- the machine has made one object, and it may stand for whatever free block of the abstract heap -/
def NewR (P : Program) (φ : Emb) (w : World) (obj : DObj) (v : DV) (r : Result Next) : Prop :=
  (∀ c n x, obj ≠ .cells c n (some x)) ∧ ∃ x o' m d, r = .ok (.value x) { w with drawn := d, heap := w.heap.push o' } ∧
    ∀ ψ b, φ.le (Emb.put ψ b (w.heap.size, 0) m) → OR P (Emb.put ψ b (w.heap.size, 0) m) { w with drawn := d, heap := w.heap.push o' } obj w.heap.size 0 ∧ VR P (Emb.put ψ b (w.heap.size, 0) m) (reloc b v) x
/-- what a quiet operation comes to: nothing new, or one object -/
def QR (P : Program) (w0 : World) (φ : Emb) (h : HS) (w : World) (o : Out) (r : Result Next) : Prop := match o with
  | .fail => True
  | o => (∃ v x, o = .val v h ∧ VR P φ v x ∧ r = .ok (.value x) w) ∨
    (∃ obj v, (∀ b, reloc b v = reloc b (reloc h.next v)) ∧ o = newObj h obj (fun b => reloc b v) ∧ NewR P φ w obj v r) ∨
    ((∃ v, o = .val v h) ∧ OutR P w0 φ h w o r)
theorem QR.pure {v : DV} {x : Value} (hv : VR P φ v x) {r : Result Next} (hr : r = .ok (.value x) w) : QR P w0 φ h w (.val v h) r := .inl ⟨v, x, rfl, hv, hr⟩
theorem QR.out {o : Out} {r : Result Next} (H : HR P w0 φ h w) (q : QR P w0 φ h w o r) : OutR P w0 φ h w o r := by
  have main : ((∃ v x, o = .val v h ∧ VR P φ v x ∧ r = .ok (.value x) w) ∨
    (∃ obj v, (∀ b, reloc b v = reloc b (reloc h.next v)) ∧ o = newObj h obj (fun b => reloc b v) ∧ NewR P φ w obj v r) ∨
    ((∃ v, o = .val v h) ∧ OutR P w0 φ h w o r)) → OutR P w0 φ h w o r := by
    rintro (⟨v, x, rfl, hv, rfl⟩ | ⟨obj, v, _, rfl, hk, x, o', m, d, rfl, hn⟩ | ⟨_, hh⟩)
    · exact ValR.pure H hv
    · obtain ⟨heap, next, g⟩ := h
      have Hd := H.drew d
      have hle : φ.le (φ.put next (w.heap.size, 0) m) := Emb.le_put H.nextNone (H.newSz m)
      obtain ⟨h1, h2⟩ := hn φ next hle
      obtain ⟨_, h4⟩ := Hd.new obj hk o' (m := m) h1
      exact ⟨_, _, _, _, rfl, .inl rfl, hle, h4, h2, Kept.new _ _ _⟩
    · exact hh
  cases o with
  | fail => trivial
  | val v h' => exact main q
  | enter f args h' => exact main q
  | round l args => exact main q
  | defer d => exact main q
  | recover => exact main q
  | panic v => exact main q
theorem newPtr_q {l : List DV} {vs : List Value} (hv : VRL P φ l vs) (elem : TypeId) {r : Result Next}
    (hr : r = .ok (.value (.pointer (some ⟨w.heap.size, 0, none⟩))) { w with heap := w.heap.push (.cells vs.toArray elem) }) : QR P w0 φ h w (newPtr h l) r := by
  obtain ⟨heap, next, g⟩ := h
  refine .inr (.inl ⟨cellsOf l, .ptr 0 0, fun _ => rfl, rfl, by intro c n x e; simp [cellsOf] at e, _, _, vs.toArray.size, w.drawn, hr, fun ψ b hle => ?_⟩)
  exact ⟨OR_row (VRL.mono hle _ _ hv) _ vs.toArray elem (0, 0) (heap_push_new _) (.inl rfl) (fun i _ => by simp) (by have := VRL.length hv; simp; omega) (by rw [put_sz, if_pos rfl]) none, w.heap.size, 0, put_self, by simp⟩
theorem newSl_q' {l : List DV} {vs : List Value} (hv : VRL P φ l vs) (rc : Array Value) (elem : TypeId) (fz : Nat × Nat) (hf : fz.1 = fz.2 ∨ rc.size ≤ fz.1) (hrc : ∀ i, i < l.length → rc[i]? = vs[i]?) (hs : l.length ≤ rc.size)
    {len cap sz rcap d : Nat} {ex : Bool} (h1 : len ≤ cap) (h2 : cap ≤ rcap) (h3 : ex = true → rcap = cap) (h4 : rcap * sz ≤ rc.size) {r : Result Next}
    (hr : r = .ok (.value (.slice (some ⟨w.heap.size, 0, none⟩) len rcap)) { w with drawn := d, heap := w.heap.push (.cells rc elem fz) }) : QR P w0 φ h w (newSl h l len cap sz ex) r := by
  obtain ⟨heap, next, g⟩ := h
  refine .inr (.inl ⟨cellsOf l, .slice 0 0 len cap sz ex, fun _ => rfl, rfl, by intro c n x e; simp [cellsOf] at e, _, _, rc.size, d, hr, fun ψ b hle => ?_⟩)
  exact ⟨OR_row (VRL.mono hle _ _ hv) _ rc elem fz (by show (w.heap.push _)[w.heap.size]? = _; simp) hf hrc hs (by rw [put_sz, if_pos rfl]) none,
    _, _, rcap, rfl, h1, h2, h3, .inr ⟨0, put_self, by simp, by rw [put_sz, if_pos rfl]; simpa using h4⟩⟩
theorem newMap_q {r : Result Next} (hr : r = .ok (.value (.map (some w.heap.size))) { w with heap := w.heap.push (.map #[] 0) }) : QR P w0 φ h w (newObj h (.map []) .map) r := by
  obtain ⟨heap, next, g⟩ := h
  refine .inr (.inl ⟨.map [], .map 0, fun _ => rfl, rfl, (by intro c n x e; cases e), _, _, 0, w.drawn, hr, fun ψ b hle => ?_⟩)
  exact ⟨⟨rfl, #[], 0, heap_push_new _, rfl, (by intro x hx; cases hx), List.nodup_nil⟩, w.heap.size, put_self, rfl⟩
theorem newSl_q {l : List DV} {vs : List Value} (hv : VRL P φ l vs) (rc : Array Value) (elem : TypeId) (hrc : ∀ i, i < l.length → rc[i]? = vs[i]?) (hs : l.length ≤ rc.size)
    {len cap sz rcap : Nat} {ex : Bool} (h1 : len ≤ cap) (h2 : cap ≤ rcap) (h3 : ex = true → rcap = cap) (h4 : rcap * sz ≤ rc.size) {r : Result Next}
    (hr : r = .ok (.value (.slice (some ⟨w.heap.size, 0, none⟩) len rcap)) { w with heap := w.heap.push (.cells rc elem) }) : QR P w0 φ h w (newSl h l len cap sz ex) r :=
  newSl_q' hv rc elem (0, 0) (.inl rfl) hrc hs (d := w.drawn) h1 h2 h3 h4 hr

/-! ### single operations, over plain values -/
theorem pick_sim {tmps : T DV} {ρ : Operand → Value} {o : Oper} {c a b : Operand} (H : HR P w0 φ h w) (ho : o.op = .pick c a b) (hc : VR P φ (eval tmps c) (ρ c)) (ha : VR P φ (eval tmps a) (ρ a)) (hb : VR P φ (eval tmps b) (ρ b)) :
    OutR P w0 φ h w (xPick tmps h c a b) ((execOp ρ o).run P w) := by
  unfold xPick
  split
  · rename_i t ht
    rw [ht] at hc
    simp only [VR] at hc
    have hr : (execOp ρ o).run P w = .ok (.value (if t then ρ a else ρ b)) w := by simp [execOp, ho, hc, asBool]
    cases t with
    | true => exact hr ▸ ValR.pure H ha
    | false => exact hr ▸ ValR.pure H hb
  · trivial
theorem alloc_q {ρ : Operand → Value} {o : Oper} {e : TypeId} (ho : o.op = .alloc e) : QR P w0 φ h w (xAlloc P h e) ((execOp ρ o).run P w) := by
  unfold xAlloc
  split
  · rename_i z hz
    obtain ⟨v, h1, rfl⟩ := run_zero (w := w) hz
    have hcells : VRL P φ (ofValue v).cells v.cells.toList ∨ (ofValue v) = .bad ∨ ∃ l, ofValue v = .tuple l := by
      by_cases hb : ofValue v = .bad
      · exact .inr (.inl hb)
      · by_cases ht : ∃ l, ofValue v = .tuple l
        · exact .inr (.inr ht)
        · exact .inl ((VR_ofValue v).cells (fun l e => ht ⟨l, e⟩) hb)
    have hcells' : VRL P φ (ofValue v).cells v.cells.toList := by
      rcases hcells with hc | hc | ⟨l, hc⟩
      · exact hc
      · rw [hc]
        cases v <;> (try simp only [ofValue] at hc) <;> first | (cases hc; done) | exact VRL.cons (d := .bad) trivial VRL.nil
      · cases v with
        | tuple cs => simp only [ofValue, DV.cells, Value.cells]; exact VRL.cons (VR_ofValue (.tuple cs)) VRL.nil
        | pointer a => cases a <;> simp only [ofValue] at hc <;> cases hc
        | slice a n c => cases a with
          | none => cases n <;> cases c <;> simp only [ofValue] at hc <;> cases hc
          | some a => simp only [ofValue] at hc; cases hc
        | map a => cases a <;> simp only [ofValue] at hc <;> cases hc
        | _ => simp only [ofValue] at hc; cases hc
    refine newPtr_q hcells' e ?_
    simp [execOp, ho, Instr.alloc, h1, newVar, newRow]
  · trivial
theorem partOk_cells {d : DV} {v : Value} (hp : partOk d = true) (hv : VR P φ d v) : VRL P φ d.cells v.cells.toList :=
  hv.cells (fun l e => by subst e; cases hp) (fun e => by subst e; cases hp)
theorem box_q {ρ : Operand → Value} {o : Oper} {e : TypeId} {x : Operand} {d : DV} (ho : o.op = .box e x) (hv : VR P φ d (ρ x)) : QR P w0 φ h w (xBox h d) ((execOp ρ o).run P w) := by
  unfold xBox
  split
  · rename_i hp
    exact newPtr_q (partOk_cells hp hv) e (by simp [execOp, ho, Instr.box, newVar, newRow])
  · trivial
theorem load_sim {ρ : Operand → Value} {o : Oper} {t : TypeId} {x : Operand} {d : DV} (H : HR P w0 φ h w) (ho : o.op = .load t x) (hv : VR P φ d (ρ x)) : OutR P w0 φ h w (xLoad P h t d) ((execOp ρ o).run P w) := by
  unfold xLoad
  split
  · rename_i b off
    simp only [VR] at hv
    obtain ⟨rb, sh, h1, h2⟩ := hv
    unfold outO
    split
    · rename_i v hl
      obtain ⟨x', h3, h4⟩ := run_loadV H h1 hl
      have hr : (execOp ρ o).run P w = .ok (.value x') w := by simp [execOp, ho, Instr.loadAt, h2, Instr.sureAddr, h3]
      exact hr ▸ ValR.pure H h4
    · trivial
  · trivial
theorem store_sim {ρ : Operand → Value} {o : Oper} {t : TypeId} {a x : Operand} {d v : DV} (H : HR P w0 φ h w) (ho : o.op = .store t a x) (hd : VR P φ d (ρ a)) (hv : VR P φ v (ρ x)) : OutR P w0 φ h w (xStore P h t d v) ((execOp ρ o).run P w) := by
  unfold xStore
  split
  · rename_i b off
    simp only [VR] at hd
    obtain ⟨rb, sh, h1, h2⟩ := hd
    split
    · rename_i h' hs
      obtain ⟨w', h3, h4, h5⟩ := run_storeV H h1 hs hv
      have hr : (execOp ρ o).run P w = .ok .skip w' := by simp [execOp, ho, Instr.storeAt, h2, Instr.sureAddr, h3]
      exact hr ▸ ValR.skip h4 h5 rfl
    · trivial
  · trivial
theorem nilCheck_sim {ρ : Operand → Value} {o : Oper} {x : Operand} {d : DV} (H : HR P w0 φ h w) (ho : o.op = .nilCheck x) (hv : VR P φ d (ρ x)) : OutR P w0 φ h w (xNilCheck h d) ((execOp ρ o).run P w) := by
  unfold xNilCheck
  split
  · rename_i b off
    have hv' := hv
    simp only [VR] at hv
    obtain ⟨rb, sh, h1, h2⟩ := hv
    have hr : (execOp ρ o).run P w = .ok (.value (ρ x)) w := by simp [execOp, ho, h2]
    exact hr ▸ ValR.pure H hv'
  · rename_i f a b
    have hv' := hv
    simp only [VR, FnR] at hv
    obtain ⟨fn', a', b', h1, h2, h3, h4⟩ := hv
    subst h2
    have hr : (execOp ρ o).run P w = .ok (.value (ρ x)) w := by simp [execOp, ho, h1]
    exact hr ▸ ValR.pure H hv'
  · rename_i f a b
    have hv' := hv
    simp only [VR, FnR] at hv
    obtain ⟨fn', a', b', h1, ⟨r, _, h2⟩, h3, h4⟩ := hv
    subst h2
    have hr : (execOp ρ o).run P w = .ok (.value (ρ x)) w := by simp [execOp, ho, h1]
    exact hr ▸ ValR.pure H hv'
  · trivial
theorem iface_sim {ρ : Operand → Value} {o : Oper} {t : TypeId} {x : Operand} {d : DV} (H : HR P w0 φ h w) (ho : o.op = .makeInterface t x) (hv : VR P φ d (ρ x)) : OutR P w0 φ h w (xIface P h t d) ((execOp ρ o).run P w) := by
  unfold xIface
  split
  · trivial
  · rename_i dd hd hne
    have hr : (execOp ρ o).run P w = .ok (.value (.iface t (ρ x))) w := by
      simp only [execOp, ho, Instr.makeInterface, Sem.run_bind, run_underlying hne, Result.andThen_ok]
      cases dd <;> first | rfl | exact absurd rfl (hd _)
    exact hr ▸ ValR.pure H ⟨_, rfl, hv⟩
  · trivial
theorem makeMap_q {tmps : T DV} {ρ : Operand → Value} {o : Oper} {t : TypeId} {r : Option Operand} (ho : o.op = .makeMap t r) (hv : ∀ x, r = some x → VR P φ (eval tmps x) (ρ x)) :
    QR P w0 φ h w (xMakeMap P tmps h t r) ((execOp ρ o).run P w) := by
  unfold xMakeMap
  split
  case h_2 => trivial
  rename_i k e hu
  split
  · exact newMap_q (by simp [execOp, ho, Instr.makeMap])
  · rename_i x
    split
    · rename_i kk n hx
      have := hv x rfl
      rw [hx] at this
      simp only [VR] at this
      exact newMap_q (by simp [execOp, ho, Instr.makeMap, run_underlying hu, this, asInt, asIntOf])
    · trivial
theorem un_sim {ρ : Operand → Value} {o : Oper} {op : UnOp} {t : TypeId} {x : Operand} {d : DV} (H : HR P w0 φ h w) (ho : o.op = .unOp op t x) (hv : VR P φ d (ρ x)) : OutR P w0 φ h w (xUn op h d) ((execOp ρ o).run P w) := by
  unfold xUn
  split
  · rename_i b
    simp only [VR] at hv
    have hr : (execOp ρ o).run P w = .ok (.value (.bool (!b))) w := by simp [execOp, ho, hv, Op.unary]
    unfold outB
    cases b <;> exact hr ▸ ValR.pure H rfl
  · rename_i k n
    simp only [VR] at hv
    have hr : (execOp ρ o).run P w = .ok (.value (.int k (k.wrap (0 - n)))) w := by simp [execOp, ho, hv, Op.unary, Op.intArith]
    have : k.wrap (Int.sub 0 n) = k.wrap (0 - n) := rfl
    unfold outI forceN
    rw [this]
    split <;> rename_i m hm <;> cases m <;> (refine hr ▸ ValR.pure H ?_) <;> (simp only [VR]; rw [hm])
  · trivial
theorem alloc_sim {ρ : Operand → Value} {o : Oper} {e : TypeId} (H : HR P w0 φ h w) (ho : o.op = .alloc e) : OutR P w0 φ h w (xAlloc P h e) ((execOp ρ o).run P w) := (alloc_q ho).out H
theorem box_sim {ρ : Operand → Value} {o : Oper} {e : TypeId} {x : Operand} {d : DV} (H : HR P w0 φ h w) (ho : o.op = .box e x) (hv : VR P φ d (ρ x)) : OutR P w0 φ h w (xBox h d) ((execOp ρ o).run P w) := (box_q ho hv).out H
theorem makeMap_sim {tmps : T DV} {ρ : Operand → Value} {o : Oper} {t : TypeId} {r : Option Operand} (H : HR P w0 φ h w) (ho : o.op = .makeMap t r) (hv : ∀ x, r = some x → VR P φ (eval tmps x) (ρ x)) :
    OutR P w0 φ h w (xMakeMap P tmps h t r) ((execOp ρ o).run P w) := (makeMap_q ho hv).out H
end Go.DM
set_option autoImplicit false
set_option linter.unusedVariables false
set_option linter.unusedSimpArgs false
namespace Go.DM
open Go.RowKit
variable {P : Program} {φ ψ : Emb} {w0 w w' : World} {h h' : HS}

theorem outI_sim {k : IntKind} {n : Int} {r : Result Next} (H : HR P w0 φ h w) (hr : r = .ok (.value (.int k n)) w) : OutR P w0 φ h w (outI k n h) r := by
  subst hr
  unfold outI forceN
  split <;> rename_i m <;> cases m <;> exact ValR.pure H rfl
theorem outB_sim {b : Bool} {r : Result Next} (H : HR P w0 φ h w) (hr : r = .ok (.value (.bool b)) w) : OutR P w0 φ h w (outB b h) r := by
  subst hr
  unfold outB
  cases b <;> exact ValR.pure H rfl
theorem outN_sim {n : Nat} {r : Result Next} (H : HR P w0 φ h w) (hr : r = .ok (.value (.int .i64 n)) w) : OutR P w0 φ h w (outN n h) r := by
  subst hr
  unfold outN forceN
  cases n <;> exact ValR.pure H rfl

/-! ### numbers -/
theorem intEq_eq (a b : Int) : intEq a b = (a == b) := by
  rw [Bool.eq_iff_iff]
  cases a with
  | ofNat x => cases b with
    | ofNat y => simp [intEq]; omega
    | negSucc y => simp [intEq]
  | negSucc x => cases b with
    | ofNat y => simp [intEq]
    | negSucc y => simp [intEq]
theorem intLt_eq (a b : Int) : intLt a b = decide (a < b) := by
  rw [Bool.eq_iff_iff]
  cases a with
  | ofNat x => cases b with
    | ofNat y => simp [intLt, Nat.blt_eq]
    | negSucc y => simp only [intLt, Bool.false_eq_true, decide_eq_true_eq, false_iff]; simp; omega
  | negSucc x => cases b with
    | ofNat y => simp only [intLt, decide_eq_true_eq, true_iff]; simp; omega
    | negSucc y => simp only [intLt, Nat.blt_eq, decide_eq_true_eq]; omega
theorem wrapK_eq (k : IntKind) (n : Int) : wrapK k n = k.wrap n := by
  unfold wrapK
  split
  · split
    · rename_i m
      split
      · rename_i hb
        have hb : m < 9223372036854775808 := by simpa [Nat.blt_eq] using hb
        rw [IntKind.wrap_i64]
        show (m : Int) = ((m : Int) + 9223372036854775808) % 18446744073709551616 - 9223372036854775808
        omega
      · rfl
    · rfl
  · rfl
theorem kindEq_eq {a b : IntKind} (h : kindEq a b = true) : a = b := by
  cases a <;> cases b <;> first | rfl | (simp [kindEq, kindNo] at h)
theorem wrap_mod (k : IntKind) (a : Nat) : k.wrap ((a % 2 ^ k.bits : Nat) : Int) = k.wrap (Int.ofNat a) := by
  have : (((a % 2 ^ k.bits : Nat) : Int) % (2 ^ k.bits : Int)) = (Int.ofNat a % (2 ^ k.bits : Int)) := by
    rw [Int.natCast_emod]
    push_cast
    exact Int.emod_emod _ _
  simp only [IntKind.wrap, this]
theorem bits_and (k : IntKind) (x y : Nat) : k.wrap ((BitVec.ofInt k.bits (Int.ofNat x) &&& BitVec.ofInt k.bits (Int.ofNat y)).toNat) = k.wrap (Int.ofNat (Nat.land x y)) := by
  have : (BitVec.ofInt k.bits (Int.ofNat x) &&& BitVec.ofInt k.bits (Int.ofNat y)).toNat = Nat.land x y % 2 ^ k.bits := by
    show (BitVec.ofInt k.bits (x : Int) &&& BitVec.ofInt k.bits (y : Int)).toNat = (x &&& y) % 2 ^ k.bits
    rw [BitVec.toNat_and]
    simp only [BitVec.toNat_ofInt, Int.natCast_emod, Nat.and_mod_two_pow]
    norm_cast
  rw [this]
  exact wrap_mod k _
theorem bits_or (k : IntKind) (x y : Nat) : k.wrap ((BitVec.ofInt k.bits (Int.ofNat x) ||| BitVec.ofInt k.bits (Int.ofNat y)).toNat) = k.wrap (Int.ofNat (Nat.lor x y)) := by
  have : (BitVec.ofInt k.bits (Int.ofNat x) ||| BitVec.ofInt k.bits (Int.ofNat y)).toNat = Nat.lor x y % 2 ^ k.bits := by
    show (BitVec.ofInt k.bits (x : Int) ||| BitVec.ofInt k.bits (y : Int)).toNat = (x ||| y) % 2 ^ k.bits
    rw [BitVec.toNat_or]
    simp only [BitVec.toNat_ofInt, Nat.or_mod_two_pow]
    norm_cast
  rw [this]
  exact wrap_mod k _
theorem bits_xor (k : IntKind) (x y : Nat) : k.wrap ((BitVec.ofInt k.bits (Int.ofNat x) ^^^ BitVec.ofInt k.bits (Int.ofNat y)).toNat) = k.wrap (Int.ofNat (Nat.xor x y)) := by
  have : (BitVec.ofInt k.bits (Int.ofNat x) ^^^ BitVec.ofInt k.bits (Int.ofNat y)).toNat = Nat.xor x y % 2 ^ k.bits := by
    show (BitVec.ofInt k.bits (x : Int) ^^^ BitVec.ofInt k.bits (y : Int)).toNat = (x ^^^ y) % 2 ^ k.bits
    rw [BitVec.toNat_xor]
    simp only [BitVec.toNat_ofInt, Nat.xor_mod_two_pow]
    norm_cast
  rw [this]
  exact wrap_mod k _
theorem arith_sim {op : BinOp} {k : IntKind} {a b : Int} (H : HR P w0 φ h w) (hns : isShift op = false) (t : TypeId) :
    OutR P w0 φ h w (arith op k a b h) ((do let v ← binOp op t (.int k a) (.int k b); pure (.value v) : Sem Next).run P w) := by
  unfold arith
  cases op <;> simp only [isShift, Bool.true_eq_false] at hns <;> simp only
  case add => exact outI_sim H (by rw [wrapK_eq]; simp [binOp, Op.intArith])
  case sub => exact outI_sim H (by rw [wrapK_eq]; simp [binOp, Op.intArith]; rfl)
  case mul => exact outI_sim H (by rw [wrapK_eq]; simp [binOp, Op.intArith])
  case quo =>
    split
    · trivial
    · rename_i hb
      rw [intEq_eq] at hb
      have hb : b ≠ 0 := by simpa using hb
      exact outI_sim H (by simp [binOp, Op.intDiv, hb])
  case rem =>
    split
    · trivial
    · rename_i hb
      rw [intEq_eq] at hb
      have hb : b ≠ 0 := by simpa using hb
      exact outI_sim H (by simp [binOp, Op.intDiv, hb])
  case and =>
    split
    · exact outI_sim H (by simp only [binOp, Op.intBits, if_true, ne_eq, not_true_eq_false, if_false]; simp only [Sem.run_bind, Sem.run_pure, Result.andThen_ok]; rw [bits_and])
    · trivial
  case or =>
    split
    · exact outI_sim H (by simp only [binOp, Op.intBits, if_true, ne_eq, not_true_eq_false, if_false]; simp only [Sem.run_bind, Sem.run_pure, Result.andThen_ok]; rw [bits_or])
    · trivial
  case xor =>
    split
    · exact outI_sim H (by simp only [binOp, Op.intBits, if_true, ne_eq, not_true_eq_false, if_false]; simp only [Sem.run_bind, Sem.run_pure, Result.andThen_ok]; rw [bits_xor])
    · trivial
  case eql => exact outB_sim H (by rw [intEq_eq]; simp [binOp, Op.intCmp])
  case neq => exact outB_sim H (by rw [intEq_eq]; simp [binOp, Op.intCmp]; rfl)
  case lss => exact outB_sim H (by rw [intLt_eq]; simp [binOp, Op.intCmp])
  case leq => exact outB_sim H (by rw [intLt_eq]; simp [binOp, Op.intCmp]; rw [← decide_not]; simp)
  case gtr => exact outB_sim H (by rw [intLt_eq]; simp [binOp, Op.intCmp])
  case geq => exact outB_sim H (by rw [intLt_eq]; simp [binOp, Op.intCmp]; rw [← decide_not]; simp)
  all_goals trivial
theorem shift_sim {op : BinOp} {k k' : IntKind} {a b : Int} (H : HR P w0 φ h w) (hns : isShift op = true) (t : TypeId) :
    OutR P w0 φ h w (shiftD op k a b h) ((do let v ← binOp op t (.int k a) (.int k' b); pure (.value v) : Sem Next).run P w) := by
  unfold shiftD
  split
  · trivial
  · rename_i y
    split
    · refine outI_sim H ?_
      simp only [binOp, Op.shift]
      rw [if_neg (by simp)]
      simp only [Sem.run_bind, Sem.run_pure, Result.andThen_ok]
      congr
    · rename_i x
      refine outI_sim H ?_
      simp only [binOp, Op.shift]
      rw [if_neg (by simp)]
      simp only [Sem.run_bind, Sem.run_pure, Result.andThen_ok]
      have : (Int.ofNat x).fdiv (2 ^ min (Int.ofNat y).toNat k.bits) = Int.ofNat (Nat.div x (Nat.pow 2 (Nat.min y k.bits))) := by
        have := Int.ofNat_fdiv x (2 ^ min y k.bits)
        push_cast at this
        exact this.symm
      rw [this]
    · trivial
end Go.DM
set_option autoImplicit false
set_option linter.unusedVariables false
set_option linter.unusedSimpArgs false
namespace Go.DM
open Go.RowKit
variable {P : Program} {φ ψ : Emb} {w0 w w' : World} {h h' : HS}

/-! ### strings -/
theorem strEq_eq : ∀ (a b : List UInt8), strEq (a.map UInt8.toNat) (b.map UInt8.toNat) = (a == b) := by
  intro a
  induction a with
  | nil => intro b; cases b <;> rfl
  | cons x xs ih =>
    intro b
    cases b with
    | nil => rfl
    | cons y ys =>
      simp only [List.map_cons, strEq]
      cases hb : Nat.beq x.toNat y.toNat with
      | true =>
        have : x = y := UInt8.toNat_inj.1 (Nat.eq_of_beq_eq_true hb)
        subst this
        simp [ih]
      | false =>
        have : x ≠ y := fun e => by subst e; simp at hb
        simp [this]
theorem strLt_eq : ∀ (a b : List UInt8), strLt (a.map UInt8.toNat) (b.map UInt8.toNat) = Op.bytesLess a b := by
  intro a
  induction a with
  | nil => intro b; cases b <;> rfl
  | cons x xs ih =>
    intro b
    cases b with
    | nil => rfl
    | cons y ys =>
      simp only [List.map_cons, strLt, Op.bytesLess]
      cases hb : Nat.blt x.toNat y.toNat with
      | true =>
        have h1 : x.toNat < y.toNat := by simpa [Nat.blt_eq] using hb
        have h2 : x < y := UInt8.lt_iff_toNat_lt.2 h1
        simp [h2]
      | false =>
        have h1 : ¬ x.toNat < y.toNat := fun e => by rw [show Nat.blt x.toNat y.toNat = true from by simpa [Nat.blt_eq] using e] at hb; cases hb
        have h2 : ¬ x < y := fun e => h1 (UInt8.lt_iff_toNat_lt.1 e)
        cases hc : Nat.beq x.toNat y.toNat with
        | true =>
          have : x = y := UInt8.toNat_inj.1 (Nat.eq_of_beq_eq_true hc)
          subst this
          simp [ih, h2]
        | false =>
          have : x ≠ y := fun e => by subst e; simp at hc
          simp [this, h2]
theorem str_size {s : ByteArray} {l : List Nat} (h : s.data.toList.map UInt8.toNat = l) : l.length = s.size := by
  subst h; simp
theorem binStr_sim {op : BinOp} {s s' : ByteArray} {l l' : List Nat} (H : HR P w0 φ h w) (h1 : s.data.toList.map UInt8.toNat = l) (h2 : s'.data.toList.map UInt8.toNat = l') (t : TypeId) :
    OutR P w0 φ h w (binStr op l l' h) ((do let v ← binOp op t (.string s) (.string s'); pure (.value v) : Sem Next).run P w) := by
  have e1 : s.toList = s.data.toList := ByteArray.toList_eq s
  have e2 : s'.toList = s'.data.toList := ByteArray.toList_eq s'
  have he : strEq l l' = (s.toList == s'.toList) := by rw [← h1, ← h2, strEq_eq, e1, e2]
  have hl : strLt l l' = Op.bytesLess s.toList s'.toList := by rw [← h1, ← h2, strLt_eq, e1, e2]
  unfold binStr
  split
  · exact outB_sim H (by rw [he]; simp [binOp, Op.stringOp])
  · exact outB_sim H (by rw [he]; simp [binOp, Op.stringOp])
  · exact outB_sim H (by rw [hl]; simp [binOp, Op.stringOp])
  · exact outB_sim H (by rw [hl, he]; simp [binOp, Op.stringOp])
  · exact outB_sim H (by rw [hl, he]; simp [binOp, Op.stringOp])
  · exact outB_sim H (by rw [hl]; simp [binOp, Op.stringOp])
  · split
    · rename_i hb
      have hb := Nat.le_of_ble_eq_true hb
      rw [str_size h1, str_size h2] at hb
      have hr : (do let v ← binOp .add t (.string s) (.string s'); pure (.value v) : Sem Next).run P w = .ok (.value (.string (s ++ s'))) w := by
        simp only [binOp, Op.stringOp]
        rw [if_neg (by simp [IntKind.max, IntKind.signed, IntKind.bits]; omega)]
        simp
      exact hr ▸ ValR.pure H ⟨s ++ s', rfl, by rw [← h1, ← h2]; simp [ByteArray.data_append]⟩
    · trivial
  · trivial
end Go.DM
set_option autoImplicit false
set_option linter.unusedVariables false
set_option linter.unusedSimpArgs false
namespace Go.DM
open Go.RowKit
variable {P : Program} {φ ψ : Emb} {w0 w w' : World} {h h' : HS}

theorem run_part {t : TypeId} {l : List DV} {cs : Array Value} {off : Nat} {d : DV} (hv : VRL P φ l cs.toList) (hp : partD P t l off = some d) : ∃ v, (part t cs off).run P w = .ok v w ∧ VR P φ d v := by
  unfold partD at hp
  split at hp
  · rename_i hs
    obtain ⟨dd, n, h1, h2, h3⟩ := shape_none hs
    obtain ⟨v, h4, h5⟩ := VRL.get hv hp
    have h4 : cs[off]? = some v := by simpa using h4
    exact ⟨v, by simp [part, run_isAgg h1, h2, h4], h5⟩
  · rename_i n hs
    obtain ⟨dd, h1, h2, h3⟩ := shape_some hs
    simp only [Option.some.injEq] at hp
    subst hp
    refine ⟨.agg (cs.extract off (off + n)), by simp [part, run_isAgg h1, h2, run_sizeOf h3], _, rfl, ?_⟩
    have := (hv.drop off).take n
    simpa [List.take_drop, Array.toList_extract, List.extract_eq_take_drop] using this
  · cases hp

theorem eqFields_sim {d n : Nat} (ih : ∀ t x y vx vy b, eqD P d t x y = some b → VR P φ x vx → VR P φ y vy → (Op.equalIn n t vx vy).run P w = .ok b w) :
    ∀ (fs : List Field) (xs ys : List DV) (cx cy : Array Value) (b : Bool), eqFields P (eqD P d) fs xs ys = some b → VRL P φ xs cx.toList → VRL P φ ys cy.toList →
      ((do
        let r ← forIn fs ((none, ()) : Option Bool × Unit) fun f _ => do
          if f.name ≠ "_" then
            if !(← Op.equalIn n f.type (← part f.type cx f.offset) (← part f.type cy f.offset)) then
              pure (ForInStep.done (some false, ()))
            else pure (ForInStep.yield (none, ()))
          else pure (ForInStep.yield (none, ()))
        match r.1 with
        | some a => pure a
        | none => pure true : Sem Bool)).run P w = .ok b w := by
  intro fs
  induction fs with
  | nil => intro xs ys cx cy b h1 h2 h3; simp only [eqFields, Option.some.injEq] at h1; subst h1; rfl
  | cons f fs ihf =>
    intro xs ys cx cy b h1 h2 h3
    unfold eqFields at h1
    have key : ∀ a c, partD P f.type xs f.offset = some a → partD P f.type ys f.offset = some c → (match eqD P d f.type a c with | some true => eqFields P (eqD P d) fs xs ys | r => r) = some b → f.name ≠ "_" →
        ((do
        let r ← forIn (f :: fs) ((none, ()) : Option Bool × Unit) fun f _ => do
          if f.name ≠ "_" then
            if !(← Op.equalIn n f.type (← part f.type cx f.offset) (← part f.type cy f.offset)) then
              pure (ForInStep.done (some false, ()))
            else pure (ForInStep.yield (none, ()))
          else pure (ForInStep.yield (none, ()))
        match r.1 with
        | some a => pure a
        | none => pure true : Sem Bool)).run P w = .ok b w := by
      intro a c ha hc hm hn
      obtain ⟨v1, r1, q1⟩ := run_part (w := w) h2 ha
      obtain ⟨v2, r2, q2⟩ := run_part (w := w) h3 hc
      cases he : eqD P d f.type a c with
      | none => rw [he] at hm; simp at hm
      | some bb =>
        rw [he] at hm
        have hrun := ih _ _ _ _ _ _ he q1 q2
        cases bb with
        | true =>
          have := ihf xs ys cx cy b hm h2 h3
          simp only [List.forIn_cons, ne_eq, hn, not_false_eq_true, if_true, bind_assoc, Sem.run_bind, r1, r2, hrun, Result.andThen_ok, Bool.not_true, Bool.false_eq_true, if_false, Sem.run_pure] at this ⊢
          simpa using this
        | false =>
          simp only [Option.some.injEq] at hm
          subst hm
          simp [List.forIn_cons, hn, r1, r2, hrun]
    split at h1
    · rename_i hn
      have hn : f.name = "_" := by simpa using hn
      have := ihf xs ys cx cy b h1 h2 h3
      simp only [List.forIn_cons, ne_eq, hn, not_true_eq_false, if_false, Sem.run_bind, Sem.run_pure, Result.andThen_ok] at this ⊢
      simpa using this
    · rename_i hn
      have hn : f.name ≠ "_" := by simpa using hn
      split at h1
      · rename_i hs
        split at h1
        · rename_i a c ha hc
          exact key a c (by simp only [partD, hs]; exact ha) (by simp only [partD, hs]; exact hc) h1 hn
        · cases h1
      · rename_i m hs
        exact key _ _ (by simp only [partD, hs]) (by simp only [partD, hs]) h1 hn
      · cases h1
theorem bytes_beq (s s' : ByteArray) : (s == s') = (s.data.toList == s'.data.toList) := by
  rcases s with ⟨a⟩
  rcases s' with ⟨b⟩
  rcases a with ⟨a⟩
  rcases b with ⟨b⟩
  show ((⟨a⟩ : Array UInt8) == ⟨b⟩) = (a == b)
  simp
theorem equalIn_struct {n : Nat} {t : TypeId} {fs : Array Field} (hu : under P t = some (.struct fs)) (hst : P.stoodInHeld t = false) (cx cy : Array Value) :
    (Op.equalIn (n + 1) t (.agg cx) (.agg cy)).run P w = ((do
        let r ← forIn fs.toList ((none, ()) : Option Bool × Unit) fun f _ => do
          if f.name ≠ "_" then
            if !(← Op.equalIn n f.type (← part f.type cx f.offset) (← part f.type cy f.offset)) then
              pure (ForInStep.done (some false, ()))
            else pure (ForInStep.yield (none, ()))
          else pure (ForInStep.yield (none, ()))
        match r.1 with
        | some a => pure a
        | none => pure true : Sem Bool)).run P w := by
  conv => lhs; unfold Op.equalIn
  rw [Sem.run_bind, run_underlying hu, Result.andThen_ok]
  dsimp only
  rw [Sem.run_bind, run_program, Result.andThen_ok, hst, if_neg (by simp), ← Array.forIn_toList]
  rw [Sem.run_bind, Sem.run_bind]
  congr 1
  funext r w'
  rcases r with ⟨r, u⟩
  cases r <;> rfl
set_option maxHeartbeats 1000000 in
theorem eqD_sim : ∀ (d n : Nat) (t : TypeId) (x y : DV) (vx vy : Value) (b : Bool), d ≤ n → eqD P d t x y = some b → VR P φ x vx → VR P φ y vy → (Op.equalIn n t vx vy).run P w = .ok b w := by
  intro d
  induction d with
  | zero => intro n t x y vx vy b _ h; simp [eqD] at h
  | succ d ih =>
    intro n t x y vx vy b hn h hx hy
    obtain ⟨n, rfl⟩ : ∃ m, n = m + 1 := ⟨n - 1, by omega⟩
    unfold eqD at h
    split at h
    case h_1 hu =>
      simp only [VR] at hx hy; subst hx hy
      simp only [Option.some.injEq] at h; subst h
      simp [Op.equalIn, run_underlying hu]
    case h_2 hu =>
      simp only [VR] at hx hy; subst hx hy
      split at h
      · rename_i hk
        have := kindEq_eq hk; subst this
        simp only [Option.some.injEq] at h; subst h
        rw [intEq_eq]
        simp [Op.equalIn, run_underlying hu]
      · cases h
    case h_3 hu =>
      simp only [VR] at hx hy
      obtain ⟨s, rfl, rfl⟩ := hx
      obtain ⟨s', rfl, rfl⟩ := hy
      simp only [Option.some.injEq] at h; subst h
      rw [strEq_eq]
      simp only [Op.equalIn, Sem.run_bind, run_underlying hu, Result.andThen_ok, Sem.run_pure]
      rw [bytes_beq]
    case h_4 hu => simp only [VR] at hx hy; subst hx hy; simp only [Option.some.injEq] at h; subst h; simp [Op.equalIn, run_underlying hu]
    case h_5 hu => simp only [VR] at hx hy; subst hx; obtain ⟨_, _, _, rfl⟩ := hy; simp only [Option.some.injEq] at h; subst h; simp [Op.equalIn, run_underlying hu]
    case h_6 hu => simp only [VR] at hx hy; subst hy; obtain ⟨_, _, _, rfl⟩ := hx; simp only [Option.some.injEq] at h; subst h; simp [Op.equalIn, run_underlying hu]
    case h_7 hu => simp only [VR] at hx hy; subst hx hy; simp only [Option.some.injEq] at h; subst h; simp [Op.equalIn, run_underlying hu]
    case h_8 hu => simp only [VR] at hx hy; subst hx; obtain ⟨_, rfl, _⟩ := hy; simp only [Option.some.injEq] at h; subst h; simp [Op.equalIn, run_underlying hu]
    case h_9 hu => simp only [VR] at hx hy; subst hy; obtain ⟨_, rfl, _⟩ := hx; simp only [Option.some.injEq] at h; subst h; simp [Op.equalIn, run_underlying hu]
    case h_10 hu =>
      simp only [VR] at hx hy
      obtain ⟨v1, rfl, q1⟩ := hx
      obtain ⟨v2, rfl, q2⟩ := hy
      split at h
      · rename_i hne
        simp only [Option.some.injEq] at h; subst h
        rename_i tt _ uu _ _
        have : tt ≠ uu := fun e => by subst e; simp at hne
        simp [Op.equalIn, run_underlying hu, this]
      · rename_i heq
        have := Nat.eq_of_beq_eq_true heq
        subst this
        split at h
        · rename_i i hi
          split at h
          · rename_i hc
            have := ih n _ _ _ _ _ _ (by omega) h q1 q2
            simp [Op.equalIn, run_underlying hu, run_typeInfo hi, hc, this]
          · cases h
        · cases h
    case h_11 hu => simp only [VR] at hx hy; subst hx hy; simp only [Option.some.injEq] at h; subst h; simp [Op.equalIn, run_underlying hu]
    case h_12 hu => simp only [VR] at hx hy; subst hx; obtain ⟨_, _, _, rfl, _⟩ := hy; simp only [Option.some.injEq] at h; subst h; simp [Op.equalIn, run_underlying hu]
    case h_13 hu => simp only [VR] at hx hy; subst hy; obtain ⟨_, _, _, rfl, _⟩ := hx; simp only [Option.some.injEq] at h; subst h; simp [Op.equalIn, run_underlying hu]
    case h_14 hu => simp only [VR] at hx hy; subst hx hy; simp only [Option.some.injEq] at h; subst h; simp [Op.equalIn, run_underlying hu]
    case h_15 hu => simp only [VR] at hx hy; subst hx; obtain ⟨_, _, rfl⟩ := hy; simp only [Option.some.injEq] at h; subst h; simp [Op.equalIn, run_underlying hu]
    case h_16 hu => simp only [VR] at hx hy; subst hy; obtain ⟨_, _, rfl⟩ := hx; simp only [Option.some.injEq] at h; subst h; simp [Op.equalIn, run_underlying hu]
    case h_17 hu => simp only [VR] at hx hy; subst hx hy; simp only [Option.some.injEq] at h; subst h; simp [Op.equalIn, run_underlying hu]
    case h_18 hu => simp only [VR] at hx hy; subst hx; obtain ⟨_, _, _, rfl, _⟩ := hy; simp only [Option.some.injEq] at h; subst h; simp [Op.equalIn, run_underlying hu]
    case h_19 hu => simp only [VR] at hx hy; subst hy; obtain ⟨_, _, _, rfl, _⟩ := hx; simp only [Option.some.injEq] at h; subst h; simp [Op.equalIn, run_underlying hu]
    case h_20 hu =>
      simp only [VR] at hx hy
      obtain ⟨cx, rfl, q1⟩ := hx
      obtain ⟨cy, rfl, q2⟩ := hy
      split at h
      · rename_i hst
        have := eqFields_sim (P := P) (φ := φ) (w := w) (d := d) (n := n) (fun t x y vx vy b => ih n t x y vx vy b (by omega)) _ _ _ cx cy b h q1 q2
        rw [equalIn_struct hu hst]
        exact this
      · cases h
    · cases h
end Go.DM
set_option autoImplicit false
set_option linter.unusedVariables false
set_option linter.unusedSimpArgs false
namespace Go.DM
open Go.RowKit
variable {P : Program} {φ ψ : Emb} {w0 w w' : World} {h h' : HS}

/-! ### '==' and the like -/
theorem guard_not_eq (op : BinOp) (t : TypeId) (x y : Operand) (a b : Value) (h1 : op ≠ .eql) (h2 : op ≠ .neq) : (eqGuard op t x y a b).run P w = .ok () w := by
  unfold eqGuard
  cases op <;> first | rfl | exact absurd rfl h1 | exact absurd rfl h2
theorem guard_scalar (op : BinOp) (t : TypeId) (x y : Operand) (a b : Value) (h1 : a ≠ .nilIface) (h2 : ∀ c, a ≠ .agg c) : (eqGuard op t x y a b).run P w = .ok () w := by
  unfold eqGuard
  cases op <;> try rfl
  all_goals
    cases a <;> first | rfl | exact absurd rfl h1 | exact absurd rfl (h2 _)
theorem guard_nil (op : BinOp) (t : TypeId) (x y : Operand) (b : Value) (h1 : (isConstO x || isConstO y) = true) : (eqGuard op t x y .nilIface b).run P w = .ok () w := by
  unfold eqGuard
  cases op <;> try rfl
  all_goals
    cases b <;> try rfl
    cases x <;> cases y <;> first | rfl | (simp [isConstO] at h1)
theorem guard_agg (op : BinOp) (t : TypeId) (x y : Operand) (c : Array Value) (b : Value) (h1 : P.eqGuardType P.depth t = false) : (eqGuard op t x y (.agg c) b).run P w = .ok () w := by
  unfold eqGuard
  cases op <;> try rfl
  all_goals
    cases b <;> try rfl
    simp [h1]
theorem guardOk_run {op : BinOp} {t : TypeId} {x y : Operand} {d : DV} {a b : Value} (hg : guardOk P t (isConstO x || isConstO y) d = true) (hv : VR P φ d a) : (eqGuard op t x y a b).run P w = .ok () w := by
  cases d <;> simp only [guardOk, Bool.false_eq_true] at hg <;> simp only [VR] at hv
  case nili => subst hv; exact guard_nil op t x y b hg
  case agg => obtain ⟨c, rfl, _⟩ := hv; exact guard_agg op t x y c b (by simpa using hg)
  case str => obtain ⟨s, rfl, _⟩ := hv; exact guard_scalar op t x y _ b (by simp) (by simp)
  case ptr => obtain ⟨_, _, _, rfl⟩ := hv; exact guard_scalar op t x y _ b (by simp) (by simp)
  case slice => obtain ⟨_, _, _, rfl, _⟩ := hv; exact guard_scalar op t x y _ b (by simp) (by simp)
  case map => obtain ⟨_, _, rfl⟩ := hv; exact guard_scalar op t x y _ b (by simp) (by simp)
  case func => obtain ⟨_, _, _, rfl, _⟩ := hv; exact guard_scalar op t x y _ b (by simp) (by simp)
  case iface => obtain ⟨_, rfl, _⟩ := hv; exact guard_scalar op t x y _ b (by simp) (by simp)
  case fbox => obtain ⟨_, rfl, _⟩ := hv; exact guard_scalar op t x y _ b (by simp) (by simp)
  case tuple => obtain ⟨_, rfl, _⟩ := hv; exact guard_scalar op t x y _ b (by simp) (by simp)
  case hdl => subst hv; exact guard_scalar op t x y _ b (by simp [typeHandle]) (by simp [typeHandle])
  all_goals (subst hv; exact guard_scalar op t x y _ b (by simp) (by simp))
/-- a value that is no number and no text, beside anything: '==' is Op.equal -/
theorem binOp_eql {t : TypeId} {d e : DV} {a b : Value} (hv : VR P φ d a) (h1 : ∀ k n, d ≠ .int k n) (h2 : ∀ s, d ≠ .str s) (h3 : d ≠ .bad) (h4 : ∀ k n, d ≠ .float k n) :
    (binOp .eql t a b).run P w = ((Op.equal t a b).run P w).andThen (fun r w => .ok (.bool r) w) ∧ (binOp .neq t a b).run P w = ((Op.equal t a b).run P w).andThen (fun r w => .ok (.bool (!r)) w) := by
  have key : ∀ (a : Value), (∀ k n, a ≠ .int k n) → (∀ s, a ≠ .string s) → (∀ k n, a ≠ .float k n) → (∀ k n m, a ≠ .complex k n m) →
      (binOp .eql t a b).run P w = ((Op.equal t a b).run P w).andThen (fun r w => .ok (.bool r) w) ∧ (binOp .neq t a b).run P w = ((Op.equal t a b).run P w).andThen (fun r w => .ok (.bool (!r)) w) := by
    intro a k1 k2 k3 k4
    cases a <;> first | exact absurd rfl (k1 _ _) | exact absurd rfl (k2 _) | exact absurd rfl (k3 _ _) | exact absurd rfl (k4 _ _ _) | (constructor <;> cases b <;> simp [binOp, Sem.run_bind])
  cases d <;> simp only [VR] at hv
  case bad => exact absurd rfl h3
  case int => exact absurd rfl (h1 _ _)
  case float => exact absurd rfl (h4 _ _)
  case str => exact absurd rfl (h2 _)
  case ptr => obtain ⟨_, _, _, rfl⟩ := hv; exact key _ (by simp) (by simp) (by simp) (by simp)
  case slice => obtain ⟨_, _, _, rfl, _⟩ := hv; exact key _ (by simp) (by simp) (by simp) (by simp)
  case map => obtain ⟨_, _, rfl⟩ := hv; exact key _ (by simp) (by simp) (by simp) (by simp)
  case func => obtain ⟨_, _, _, rfl, _⟩ := hv; exact key _ (by simp) (by simp) (by simp) (by simp)
  case iface => obtain ⟨_, rfl, _⟩ := hv; exact key _ (by simp) (by simp) (by simp) (by simp)
  case fbox => obtain ⟨_, rfl, _⟩ := hv; exact key _ (by simp) (by simp) (by simp) (by simp)
  case tuple => obtain ⟨_, rfl, _⟩ := hv; exact key _ (by simp) (by simp) (by simp) (by simp)
  case agg => obtain ⟨_, rfl, _⟩ := hv; exact key _ (by simp) (by simp) (by simp) (by simp)
  case hdl => subst hv; exact key _ (by simp [typeHandle]) (by simp [typeHandle]) (by simp [typeHandle]) (by simp [typeHandle])
  all_goals (subst hv; exact key _ (by simp) (by simp) (by simp) (by simp))
theorem bin_run {ρ : Operand → Value} {o : Oper} {op : BinOp} {t yt : TypeId} {x y : Operand} (ho : o.op = .binOp op t x y yt) (hg : (eqGuard op t x y (ρ x) (ρ y)).run P w = .ok () w) :
    (execOp ρ o).run P w = (do let v ← binOp op t (ρ x) (ρ y); pure (.value v) : Sem Next).run P w := by
  simp only [execOp, ho, Sem.run_bind, hg, Result.andThen_ok]
theorem bin_sim {ρ : Operand → Value} {o : Oper} {op : BinOp} {t yt : TypeId} {x y : Operand} {d e : DV} (H : HR P w0 φ h w) (ho : o.op = .binOp op t x y yt) (hd : VR P φ d (ρ x)) (he : VR P φ e (ρ y)) :
    OutR P w0 φ h w (binD P op t (isConstO x || isConstO y) d e h) ((execOp ρ o).run P w) := by
  unfold binD
  split
  · rename_i k a
    simp only [VR] at hd
    rw [bin_run ho (by rw [hd]; exact guard_scalar _ _ _ _ _ _ (by simp) (by simp)), hd]
    split
    · rename_i k' b
      simp only [VR] at he
      rw [he]
      split
      · rename_i hs; exact shift_sim H hs t
      · rename_i hs
        split
        · rename_i hk
          have := kindEq_eq hk; subst this
          exact arith_sim H hs t
        · trivial
    · trivial
  · rename_i l
    simp only [VR] at hd
    obtain ⟨s, h1, h2⟩ := hd
    rw [bin_run ho (by rw [h1]; exact guard_scalar _ _ _ _ _ _ (by simp) (by simp)), h1]
    split
    · rename_i l'
      simp only [VR] at he
      obtain ⟨s', h3, h4⟩ := he
      rw [h3]
      exact binStr_sim H h2 h4 t
    · trivial
  · rename_i hni hns
    unfold binEq
    split
    · trivial
    · rename_i hg
      have hb : d ≠ .bad := fun e => by subst e; simp [guardOk] at hg
      rw [bin_run ho (guardOk_run hg hd)]
      split
      · split
        · rename_i b hq
          by_cases hf : ∀ k n, d ≠ .float k n
          · exact outB_sim H (by
              have := (binOp_eql (t := t) (b := ρ y) (w := w) (e := e) hd hni hns hb hf).1
              simp only [Sem.run_bind, this, Op.equal, eqD_sim 100 Op.maxDepth t d e _ _ b (by decide) hq hd he, Result.andThen_ok, Sem.run_pure])
          · exfalso
            apply hf
            intro k n e'
            subst e'
            unfold eqD at hq
            split at hq <;> simp_all
        · trivial
      · split
        · rename_i b hq
          by_cases hf : ∀ k n, d ≠ .float k n
          · exact outB_sim H (by
              have := (binOp_eql (t := t) (b := ρ y) (w := w) (e := e) hd hni hns hb hf).2
              simp only [Sem.run_bind, this, Op.equal, eqD_sim 100 Op.maxDepth t d e _ _ b (by decide) hq hd he, Result.andThen_ok, Sem.run_pure])
          · exfalso
            apply hf
            intro k n e'
            subst e'
            unfold eqD at hq
            split at hq <;> simp_all
        · trivial
      · trivial
end Go.DM
