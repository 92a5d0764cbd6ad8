import Derived.Test.YtiddjpjlpmbegaaGreatDoorWb
import Derived.Test.YtiddjpjlpmbegaaGreatDoorWc
import Derived.Test.YtiddjpjlpmbegaaGreatDoorWd
import Derived.Test.YtiddjpjlpmbegaaGreatDoorWh
import Derived.ChangeAgain
namespace Go.Proofs.YtiddjpjlpmbegaaGreatDoor
open Go
set_option maxRecDepth 100000
open Go.ChangeShapes Go.WideShapes Go.ChangeAt Go.RowKit
theorem shaped_of_heap {P : Program} {w w' : World} (hh : w.heap = w'.heap) (h : w.Shaped P) : w'.Shaped P := by
  refine ⟨fun g zero t hg hz => ?_, fun k hk1 hk2 => ?_⟩
  · obtain ⟨cs, h1, h2, h3⟩ := h.1 g zero t hg hz
    exact ⟨cs, hh ▸ h1, h2, fun hb => Row.ok_of_shape (fun b x hx => by simpa [World.shape?, ← hh] using hx) (h3 hb)⟩
  · have h1 := h.2 k hk1 hk2
    rw [hh] at h1
    exact h1
theorem shapedCall (os : Os) (args : Array Value) : ((startWorld os).forCall (fun _ _ => 0) ⟨#[], args, []⟩).Shaped Tryz.prog := shaped_of_heap (w := startWorld os) (by simp [World.forCall, Input.heap]) (shapedAt os)
theorem layFits_none {P : Program} {w : World} {l : List (String × DataW Unit)} {B : List Nat} (h : w.layFits P l B = true) : w.layFits P l [] = true := by
  unfold World.layFits at h ⊢
  split at h
  · rename_i y hy
    simp only [Bool.and_eq_true, List.all_eq_true] at h ⊢
    exact ⟨⟨h.1.1, fun r hr => ⟨(h.1.2 r hr).1, rfl⟩⟩, fun _ hx => by cases hx⟩
  · cases h
theorem layVars_other {P : Program} {w : World} {l : List (String × DataW Unit)} {B : List Nat} {g : Nat} (h : w.layFits P l B = true) (hg : g ∈ B) : (w.layVars P l).heap[g]? = w.heap[g]? := by
  unfold World.layFits at h
  unfold World.layVars
  split at h
  · rename_i y hy
    simp only [Bool.and_eq_true, decide_eq_true_eq, List.all_eq_true, Bool.not_eq_true'] at h
    have hlt : g < w.heap.size := h.2 g hg
    have hno : g ∉ y.1.map (·.1) := by
      intro hm
      obtain ⟨r, hr, e⟩ := List.mem_map.1 hm
      have := (h.1.2 r hr).2
      rw [e] at this
      simp [hg] at this
    show (⟨Lay.setRows w.heap.toList y.1 ++ y.2⟩ : Array Obj)[g]? = _
    rw [← Array.getElem?_toList, ← Array.getElem?_toList]
    show (Lay.setRows w.heap.toList y.1 ++ y.2)[g]? = _
    rw [List.getElem?_append_left (by rw [Lay.setRows_length]; simpa using hlt), Lay.setRows_other _ _ _ hno]
  · cases h
theorem handleAtB_same {P : Program} {w w' : World} {x : String × DataW Unit} (h : w'.var? P x.1 = w.var? P x.1) : handleAtB P w' x = handleAtB P w x := by
  unfold handleAtB handleAtF handleAt0
  rw [h]
theorem var_same {P : Program} {w w' : World} {n : String} {g : Nat} (hg : P.globalNamed n = some g) (hh : w'.heap[g]? = w.heap[g]?) : w'.var? P n = w.var? P n := by
  unfold World.var?
  rw [hg]
  simp only [Option.bind_some]
  rw [hh]
theorem start_first (os : Os) : (startWorld os).heap[0]? = (handleWorld os).heap[0]? := by
  unfold startWorld
  exact layVars_other (layFitsAt os) (List.mem_singleton.2 rfl)
theorem handleAt (os : Os) : (listed.filter fun x => x.2.handleName?.isSome).all (handleAtB Tryz.prog (startWorld os)) = true := by
  rw [List.all_eq_true]
  intro x hx
  have h1 := List.all_eq_true.1 (handleThere os) x hx
  have h2 : x.1 = "errors.errorType" := by
    have : x.1 ∈ (listed.filter fun x => x.2.handleName?.isSome).map (·.1) := List.mem_map.2 ⟨x, hx, rfl⟩
    rw [handleNames] at this
    simpa using this
  rw [handleAtB_same (w := handleWorld os) (var_same (h2 ▸ handleGlobal) (start_first os))]
  exact h1
theorem met_plain (os : Os) : laidMet Tryz.prog plainListed (startWorld os) := by
  have e1 : (plainListed.filter fun x => (plainListed.map (·.1)).contains x.1) = plainListed := List.filter_eq_self.2 fun x hx => List.contains_iff_mem.2 (List.mem_map.2 ⟨x, hx, rfl⟩)
  have e2 : (plainListed.filter fun x => !(plainListed.map (·.1)).contains x.1) = [] := List.filter_eq_nil_iff.2 fun x hx => by rw [List.contains_iff_mem.2 (List.mem_map.2 ⟨x, hx, rfl⟩)]; simp
  exact laidMet_layVars (w0 := handleWorld os) (plainListed.map (·.1)) [] (by rw [e1, startWorld]) (by rw [e1]; exact layFits_none (layFitsAt os)) (by rw [e1]; exact layIfacesAt os) (by rw [e2]; exact LaidIn.none)
theorem met (os : Os) (args : Array Value) : laidMetH Tryz.prog listed ((startWorld os).forCall (fun _ _ => 0) ⟨#[], args, []⟩).memory :=
  laidMetH.of_heap (w := startWorld os) (by simp [World.memory, World.forCall, Input.heap]) (laidMetH_of_parts (met_plain os) (handleAt os))
end Go.Proofs.YtiddjpjlpmbegaaGreatDoor
