import Derived.Test.YtiddjpjlpmbegaaGreatDoorRows
import Derived.ProofKit
import GoSem.ClaimGoes
namespace Go.Proofs.YtiddjpjlpmbegaaGreatDoor
open Go
set_option maxRecDepth 100000
open Go.ChangeShapes Go.WideShapes Go.ChangeAt Go.RowKit
theorem noGo : (Tryz.prog.funcs.all fun fn => !fn.goes) = true := by kernel_rfl
theorem any_false {α : Type} {p : α → Bool} : ∀ {l : List α}, (∀ x, x ∈ l → p x = false) → l.any p = false
  | [], _ => rfl
  | a :: l, h => by rw [List.any_cons, h a (List.mem_cons_self ..), any_false fun x hx => h x (List.mem_cons_of_mem _ hx)]; rfl
theorem noGoAt {g : Nat} {fn : Func} (h : Tryz.prog.funcs[g]? = some fn) : fn.goes = false := by
  have h1 := Array.all_eq_true_iff_forall_mem.1 noGo fn (Array.mem_of_getElem? h)
  simpa using h1
theorem noGoes (f : FuncId) : Tryz.prog.goes f = false := by
  unfold Program.goes
  have h1 : (Tryz.prog.closure f).any (fun g => (Tryz.prog.funcs[g]?).any Func.goes) = false := by
    rw [List.any_eq_false]
    intro g _
    cases e : Tryz.prog.funcs[g]? with
    | none => simp
    | some fn => simp [noGoAt e]
  have h2 : Tryz.prog.funcs.any Func.goes = false := by
    rw [Array.any_eq_false]
    intro i hi
    have e : Tryz.prog.funcs[i]? = some Tryz.prog.funcs[i] := Array.getElem?_eq_getElem hi
    simp [noGoAt e]
  rw [h1, h2]
  simp
theorem goesNot : false = Rows.projectNilsRow.goesBy Tryz.prog := by
  unfold OpenClaim.goesBy Program.goesAt Program.goesFrom
  cases Tryz.prog.funcNamed Rows.projectNilsRow.func <;> simp [noGoes, Rows.projectNilsRow]
end Go.Proofs.YtiddjpjlpmbegaaGreatDoor
