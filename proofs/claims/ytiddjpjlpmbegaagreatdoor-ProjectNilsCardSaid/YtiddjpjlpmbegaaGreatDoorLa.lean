import Derived.Shelf.SlIter.Nil
import Derived.Shelf.SlIter.Collect
import Derived.Shelf.SortM.Plain
import Derived.Shelf.SortM.SortNone
import Derived.Shelf.Slices.Clone
import Derived.Shelf.Slices.CompactS
import Derived.Ground.Names2Prog
import Derived.Ground.NamesProg
import Derived.Ground.GgzProg
import Derived.Ground.SlgmProg
import Derived.Test.YtiddjpjlpmbegaaGreatDoorProg
import Derived.Test.YtiddjpjlpmbegaaGreatDoorMf
import Derived.StringKeys
import Derived.KernelRfl
set_option linter.unusedVariables false
set_option linter.unusedSimpArgs false
set_option linter.unnecessarySimpa false
/-
  DERIVED: THE SHELF's CONTRACTS AT THIS DUMP, IN PLAIN WORDS (tools/lay-plain.mjs out of 'TryzLay.lean', which tools/lay-shelf.mjs wrote): THE SAME DECLARATIONS UNDER THE SAME NAMES: 'import', 'namespace', 'open', 'def', 'theorem' AND NOTHING ELSE: no command of the shelf's: FOR A HAND-IN. Each laying: the table of numbers ('.._ren') and one theorem, a field a fact of the dump's own or the kernel's comparison; each contract: ONE APPLICATION.
-/
namespace Go.Proofs
open Go.Shelf
def Tryz.keys102_ren : Go.Shelf.Ren := ⟨fun | 7 => 102 | 10 => 152 | n => n, fun | 23 => 98 | 26 => 9 | 3 => 33 | 28 => 201 | 0 => 0 | 27 => 200 | 33 => 116 | 4 => 4 | n => n, fun | n => n⟩
theorem Tryz.keys102 : Go.Proofs.SlLaysZ.n7 Tryz.prog Tryz.keys102_ren := {
  mixed := by kernel_rfl
  f7 := ⟨Tryz.f102.name, by decide, Tryz.func102.trans (congrArg some (by kernel_rfl))⟩
  f10 := ⟨Tryz.f152.name, by decide, Tryz.func152.trans (congrArg some (by kernel_rfl))⟩
  t0 := Tryz.underlying0
  a0 := Tryz.isAgg0
  z0 := Tryz.sizeOf0
  v0 := Tryz.zeroValue0
  t4 := Tryz.underlying4
  a4 := Tryz.isAgg4
  z4 := Tryz.sizeOf4
  v4 := Tryz.zeroValue4
  t23 := Tryz.underlying98
  a23 := Tryz.isAgg98
  z23 := Tryz.sizeOf98
  v23 := Tryz.zeroValue98
  t26 := Tryz.underlying9
  a26 := Tryz.isAgg9
  z26 := Tryz.sizeOf9
  v26 := Tryz.zeroValue9
  t27 := Tryz.underlying200
  a27 := Tryz.isAgg200
  z27 := Tryz.sizeOf200
  v27 := Tryz.zeroValue200
  t28 := Tryz.underlying201
  a28 := Tryz.isAgg201
  z28 := Tryz.sizeOf201
  v28 := Tryz.zeroValue201
  t33 := Tryz.underlying116
  a33 := Tryz.isAgg116
  z33 := Tryz.sizeOf116
  v33 := Tryz.zeroValue116 }
def Tryz.keys277_ren : Go.Shelf.Ren := ⟨fun | 7 => 277 | 10 => 340 | n => n, fun | 23 => 375 | 26 => 9 | 3 => 28 | 28 => 201 | 0 => 0 | 27 => 200 | 33 => 116 | 4 => 4 | n => n, fun | n => n⟩
theorem Tryz.keys277 : Go.Proofs.SlLaysZ.n7 Tryz.prog Tryz.keys277_ren := {
  mixed := by kernel_rfl
  f7 := ⟨Tryz.f277.name, by decide, Tryz.func277.trans (congrArg some (by kernel_rfl))⟩
  f10 := ⟨Tryz.f340.name, by decide, Tryz.func340.trans (congrArg some (by kernel_rfl))⟩
  t0 := Tryz.underlying0
  a0 := Tryz.isAgg0
  z0 := Tryz.sizeOf0
  v0 := Tryz.zeroValue0
  t4 := Tryz.underlying4
  a4 := Tryz.isAgg4
  z4 := Tryz.sizeOf4
  v4 := Tryz.zeroValue4
  t23 := Tryz.underlying375
  a23 := Tryz.isAgg375
  z23 := Tryz.sizeOf375
  v23 := Tryz.zeroValue375
  t26 := Tryz.underlying9
  a26 := Tryz.isAgg9
  z26 := Tryz.sizeOf9
  v26 := Tryz.zeroValue9
  t27 := Tryz.underlying200
  a27 := Tryz.isAgg200
  z27 := Tryz.sizeOf200
  v27 := Tryz.zeroValue200
  t28 := Tryz.underlying201
  a28 := Tryz.isAgg201
  z28 := Tryz.sizeOf201
  v28 := Tryz.zeroValue201
  t33 := Tryz.underlying116
  a33 := Tryz.isAgg116
  z33 := Tryz.sizeOf116
  v33 := Tryz.zeroValue116 }
def Tryz.sorted205_ren : Go.Shelf.Ren := ⟨fun | 6 => 205 | 8 => 101 | 9 => 211 | 11 => 151 | 13 => 263 | 12 => 262 | 23 => 328 | 24 => 329 | 14 => 319 | 15 => 320 | 16 => 321 | 17 => 322 | 18 => 323 | 19 => 324 | 20 => 325 | 21 => 326 | 22 => 327 | 25 => 377 | 26 => 378 | 27 => 379 | 28 => 380 | 29 => 381 | 30 => 266 | 31 => 423 | n => n, fun | 26 => 9 | 28 => 201 | 24 => 28 | 0 => 0 | 3 => 3 | 37 => 351 | 48 => 349 | 50 => 87 | 4 => 4 | 40 => 509 | 39 => 508 | 45 => 340 | 5 => 5 | 9 => 9 | 51 => 558 | 55 => 561 | 57 => 602 | 58 => 38 | 33 => 116 | n => n, fun | n => n⟩
theorem Tryz.sorted205 : Go.Proofs.SlLaysZ.n6 Tryz.prog Tryz.sorted205_ren := {
  mixed := by kernel_rfl
  f6 := ⟨Tryz.f205.name, by decide, Tryz.func205.trans (congrArg some (by kernel_rfl))⟩
  f8 := ⟨Tryz.f101.name, by decide, Tryz.func101.trans (congrArg some (by kernel_rfl))⟩
  f11 := ⟨Tryz.f151.name, by decide, Tryz.func151.trans (congrArg some (by kernel_rfl))⟩
  t0 := Tryz.underlying0
  a0 := Tryz.isAgg0
  z0 := Tryz.sizeOf0
  v0 := Tryz.zeroValue0
  t24 := Tryz.underlying28
  a24 := Tryz.isAgg28
  z24 := Tryz.sizeOf28
  v24 := Tryz.zeroValue28
  t26 := Tryz.underlying9
  a26 := Tryz.isAgg9
  z26 := Tryz.sizeOf9
  v26 := Tryz.zeroValue9
  t28 := Tryz.underlying201
  a28 := Tryz.isAgg201
  z28 := Tryz.sizeOf201
  v28 := Tryz.zeroValue201
  i26 := by kernel_rfl }
def Tryz.collect101_ren : Go.Shelf.Ren := ⟨fun | 8 => 101 | 11 => 151 | n => n, fun | 26 => 9 | 28 => 201 | 24 => 28 | 0 => 0 | 33 => 116 | 4 => 4 | n => n, fun | n => n⟩
theorem Tryz.collect101 : Go.Proofs.SlLaysZ.n8 Tryz.prog Tryz.collect101_ren := {
  mixed := by kernel_rfl
  f8 := ⟨Tryz.f101.name, by decide, Tryz.func101.trans (congrArg some (by kernel_rfl))⟩
  f11 := ⟨Tryz.f151.name, by decide, Tryz.func151.trans (congrArg some (by kernel_rfl))⟩
  t0 := Tryz.underlying0
  a0 := Tryz.isAgg0
  z0 := Tryz.sizeOf0
  v0 := Tryz.zeroValue0
  t24 := Tryz.underlying28
  a24 := Tryz.isAgg28
  z24 := Tryz.sizeOf28
  v24 := Tryz.zeroValue28
  t26 := Tryz.underlying9
  a26 := Tryz.isAgg9
  z26 := Tryz.sizeOf9
  v26 := Tryz.zeroValue9
  t28 := Tryz.underlying201
  a28 := Tryz.isAgg201
  z28 := Tryz.sizeOf201
  v28 := Tryz.zeroValue201
  i26 := by kernel_rfl }
def Tryz.sort211_ren : Go.Shelf.Ren := ⟨fun | 6 => 211 | 8 => 263 | 9 => 262 | 19 => 328 | 20 => 329 | 21 => 319 | 22 => 320 | 23 => 321 | 24 => 322 | 25 => 323 | 26 => 324 | 27 => 325 | 28 => 326 | 29 => 327 | 36 => 377 | 31 => 378 | 32 => 379 | 37 => 380 | 38 => 381 | 39 => 266 | 41 => 423 | n => n, fun | 27 => 28 | 29 => 9 | 3 => 3 | 32 => 351 | 26 => 28 | 0 => 0 | 44 => 349 | 46 => 87 | 4 => 4 | 36 => 509 | 35 => 508 | 41 => 340 | 5 => 5 | 9 => 9 | 53 => 558 | 57 => 561 | 63 => 602 | 64 => 38 | n => n, fun | n => n⟩
theorem Tryz.sort211 : Go.Proofs.SlLaysM.n6 Tryz.prog Tryz.sort211_ren := {
  mixed := by kernel_rfl
  f6 := ⟨Tryz.f211.name, by decide, Tryz.func211.trans (congrArg some (by kernel_rfl))⟩
  f8 := Tryz.func263.trans (congrArg some (by kernel_rfl))
  f9 := ⟨Tryz.f262.name, by decide, Tryz.func262.trans (congrArg some (by kernel_rfl))⟩
  f19 := Tryz.func328.trans (congrArg some (by kernel_rfl))
  f20 := Tryz.func329.trans (congrArg some (by kernel_rfl))
  f21 := ⟨Tryz.f319.name, by decide, Tryz.func319.trans (congrArg some (by kernel_rfl))⟩
  f22 := ⟨Tryz.f320.name, by decide, Tryz.func320.trans (congrArg some (by kernel_rfl))⟩
  f23 := ⟨Tryz.f321.name, by decide, Tryz.func321.trans (congrArg some (by kernel_rfl))⟩
  f24 := ⟨Tryz.f322.name, by decide, Tryz.func322.trans (congrArg some (by kernel_rfl))⟩
  f25 := ⟨Tryz.f323.name, by decide, Tryz.func323.trans (congrArg some (by kernel_rfl))⟩
  f26 := ⟨Tryz.f324.name, by decide, Tryz.func324.trans (congrArg some (by kernel_rfl))⟩
  f27 := ⟨Tryz.f325.name, by decide, Tryz.func325.trans (congrArg some (by kernel_rfl))⟩
  f28 := ⟨Tryz.f326.name, by decide, Tryz.func326.trans (congrArg some (by kernel_rfl))⟩
  f29 := ⟨Tryz.f327.name, by decide, Tryz.func327.trans (congrArg some (by kernel_rfl))⟩
  f31 := Tryz.func378.trans (congrArg some (by kernel_rfl))
  f32 := Tryz.func379.trans (congrArg some (by kernel_rfl))
  f36 := ⟨Tryz.f377.name, by decide, Tryz.func377.trans (congrArg some (by kernel_rfl))⟩
  f37 := ⟨Tryz.f380.name, by decide, Tryz.func380.trans (congrArg some (by kernel_rfl))⟩
  f38 := ⟨Tryz.f381.name, by decide, Tryz.func381.trans (congrArg some (by kernel_rfl))⟩
  f39 := ⟨Tryz.f266.name, by decide, Tryz.func266.trans (congrArg some (by kernel_rfl))⟩
  f41 := ⟨Tryz.f423.name, by decide, Tryz.func423.trans (congrArg some (by kernel_rfl))⟩
  t0 := Tryz.underlying0
  a0 := Tryz.isAgg0
  z0 := Tryz.sizeOf0
  v0 := Tryz.zeroValue0
  t3 := Tryz.underlying3
  a3 := Tryz.isAgg3
  z3 := Tryz.sizeOf3
  v3 := Tryz.zeroValue3
  t4 := Tryz.underlying4
  a4 := Tryz.isAgg4
  z4 := Tryz.sizeOf4
  v4 := Tryz.zeroValue4
  t5 := Tryz.underlying5
  a5 := Tryz.isAgg5
  z5 := Tryz.sizeOf5
  v5 := Tryz.zeroValue5
  t9 := Tryz.underlying9
  a9 := Tryz.isAgg9
  z9 := Tryz.sizeOf9
  v9 := Tryz.zeroValue9
  t26 := Tryz.underlying28
  a26 := Tryz.isAgg28
  z26 := Tryz.sizeOf28
  v26 := Tryz.zeroValue28
  t27 := Tryz.underlying28
  a27 := Tryz.isAgg28
  z27 := Tryz.sizeOf28
  v27 := Tryz.zeroValue28
  t29 := Tryz.underlying9
  a29 := Tryz.isAgg9
  z29 := Tryz.sizeOf9
  v29 := Tryz.zeroValue9
  t32 := Tryz.underlying351
  a32 := Tryz.isAgg351
  z32 := Tryz.sizeOf351
  v32 := Tryz.zeroValue351
  t35 := Tryz.underlying508
  a35 := Tryz.isAgg508
  z35 := Tryz.sizeOf508
  v35 := Tryz.zeroValue508
  t36 := Tryz.underlying509
  a36 := Tryz.isAgg509
  z36 := Tryz.sizeOf509
  v36 := Tryz.zeroValue509
  t41 := Tryz.underlying340
  a41 := Tryz.isAgg340
  z41 := Tryz.sizeOf340
  v41 := Tryz.zeroValue340
  t44 := Tryz.underlying349
  a44 := Tryz.isAgg349
  z44 := Tryz.sizeOf349
  v44 := Tryz.zeroValue349
  t46 := Tryz.underlying87
  a46 := Tryz.isAgg87
  z46 := Tryz.sizeOf87
  v46 := Tryz.zeroValue87
  t53 := Tryz.underlying558
  a53 := Tryz.isAgg558
  z53 := Tryz.sizeOf558
  v53 := Tryz.zeroValue558
  t57 := Tryz.underlying561
  a57 := Tryz.isAgg561
  z57 := Tryz.sizeOf561
  v57 := Tryz.zeroValue561
  t63 := Tryz.underlying602
  a63 := Tryz.isAgg602
  z63 := Tryz.sizeOf602
  v63 := Tryz.zeroValue602
  t64 := Tryz.underlying38
  a64 := Tryz.isAgg38
  z64 := Tryz.sizeOf38
  v64 := Tryz.zeroValue38 }
def Tryz.clone210_ren : Go.Shelf.Ren := ⟨fun | 16 => 210 | n => n, fun | 24 => 28 | 9 => 9 | 4 => 4 | n => n, fun | n => n⟩
theorem Tryz.clone210 : Go.Proofs.Lays2.n16 Tryz.prog Tryz.clone210_ren := {
  mixed := by kernel_rfl
  f16 := Tryz.func210.trans (congrArg some (by kernel_rfl))
  t4 := Tryz.underlying4
  a4 := Tryz.isAgg4
  z4 := Tryz.sizeOf4
  v4 := Tryz.zeroValue4
  t9 := Tryz.underlying9
  a9 := Tryz.isAgg9
  z9 := Tryz.sizeOf9
  v9 := Tryz.zeroValue9
  t24 := Tryz.underlying28
  a24 := Tryz.isAgg28
  z24 := Tryz.sizeOf28
  v24 := Tryz.zeroValue28
  i9 := by kernel_rfl }
def Tryz.compact212_ren : Go.Shelf.Ren := ⟨fun | 194 => 212 | n => n, fun | 31 => 28 | 9 => 9 | 3 => 3 | 4 => 4 | 0 => 0 | n => n, fun | n => n⟩
theorem Tryz.compact212 : Go.Proofs.Lays.n194 Tryz.prog Tryz.compact212_ren := {
  mixed := by kernel_rfl
  f194 := Tryz.func212.trans (congrArg some (by kernel_rfl))
  t0 := Tryz.underlying0
  a0 := Tryz.isAgg0
  z0 := Tryz.sizeOf0
  v0 := Tryz.zeroValue0
  t3 := Tryz.underlying3
  a3 := Tryz.isAgg3
  z3 := Tryz.sizeOf3
  v3 := Tryz.zeroValue3
  t4 := Tryz.underlying4
  a4 := Tryz.isAgg4
  z4 := Tryz.sizeOf4
  v4 := Tryz.zeroValue4
  t9 := Tryz.underlying9
  a9 := Tryz.isAgg9
  z9 := Tryz.sizeOf9
  v9 := Tryz.zeroValue9
  t31 := Tryz.underlying28
  a31 := Tryz.isAgg28
  z31 := Tryz.sizeOf28
  v31 := Tryz.zeroValue28 }
end Go.Proofs
namespace Go.Proofs
open Go.RowKit Go.Maps Go.Sort Go.Shelf Go.DM
open Go.WideElems (Fit rd rg pl)
open Go.WideMaps Go.WideShapes Go.MapKept

theorem cell_lt {W : World} {b : Nat} {v : Value} (h : W.cell? ⟨b, 0, none⟩ = some v) : b < W.heap.size := by
  rcases Nat.lt_or_ge b W.heap.size with h1 | h1
  · exact h1
  · simp [World.cell?, Array.getElem?_eq_none h1] at h
/-- slices.Sort's two contracts at this dump, at the fence that asks nothing. -/
theorem Tryz.sorts205 (m : Nat) : AnyZ.SortsIn Tryz.prog Tryz.sorted205_ren Fence.wide m :=
  ⟨fun blk off cap ss W hH hblk hsz => callsIn_wide.2 (AnyM.slices_Sort_string Tryz.sort211 blk off cap ss W hH hblk hsz),
   fun p cap W => callsIn_wide.2 (AnyM.slices_Sort_string_none Tryz.sort211 p cap W)⟩
theorem Tryz.keysSpec102 : KeysSpec Tryz.prog 102 152 98 := fun mb W => (callsIn_wide (n := 5)).1 (AnyZ.keys_in Tryz.keys102 Fence.wide 5 trivial rfl mb W)
theorem Tryz.keysSpec277 : KeysSpec Tryz.prog 277 340 375 := fun mb W => (callsIn_wide (n := 5)).1 (AnyZ.keys_in Tryz.keys277 Fence.wide 5 trivial rfl mb W)

/-- what an iterator of maps.Keys gives at a map -/
structure Given (P : Program) (k : FuncId) (blk n : Nat) (ks : List (List UInt8)) (W : World) : Prop where
  ex : ∃ S : List (List UInt8) → Prop, SeqGives Fence.wide 2 P k #[.pointer (some ⟨blk, 0, none⟩)] encStr S n W ∧ ∀ ss, S ss → ss.Perm ks
set_option maxHeartbeats 1000000 in
theorem Tryz.given {ρ : Ren} (L : SlLaysZ.n10 Tryz.prog ρ) (h9 : ρ.t 26 = 9) {W : World} {blk b : Nat} {es : Array MapEntry} {clock : Nat} {ks : List (List UInt8)} (hc : W.cell? ⟨blk, 0, none⟩ = some (.map (some b))) (hb : W.heap[b]? = some (.map es clock))
    (hborn : Born es.toList clock) (hkeys : es.toList.map (·.key) = ks.map (fun s => Value.string ⟨s.toArray⟩)) (hnd : ks.Nodup) (hkl : ∀ s, s ∈ ks → s.length ≤ 1000000) (hlen : ks.length ≤ 1000000) : Given Tryz.prog (ρ.f 10) blk es.size ks W := by
  have hblk := cell_lt hc
  have hes : es.size = ks.length := by have := congrArg List.length hkeys; simpa using this
  have hml : (1000000 : Nat) ≤ maxLen := by decide
  have hk9 : Tryz.prog.underlying 9 = some .string := by kernel_rfl
  have hkey : ∀ s, s ∈ ks → ∃ l, keyOf Tryz.prog 9 (.string ⟨s.toArray⟩) = some l ∧ l = .string s := fun s hs =>
    ⟨_, keyOf_string_mk hk9 (by have := hkl s hs; show s.toArray.size ≤ _; simp; omega), by simp⟩
  have hentry : ∀ x, x ∈ es.toList → ∃ s, s ∈ ks ∧ x.key = .string ⟨s.toArray⟩ := by
    intro x hx
    have : x.key ∈ es.toList.map (·.key) := List.mem_map.2 ⟨x, hx, rfl⟩
    rw [hkeys] at this
    obtain ⟨s, hs, e⟩ := List.mem_map.1 this
    exact ⟨s, hs, e.symm⟩
  have Ft : Fit (H := Unit) Tryz.prog 9 (fun _ => some (.nil, [])) es clock := by
    refine ⟨by omega, ⟨hborn.1, hborn.2, ?_⟩, fun x hx => ?_⟩
    · rw [hkeys, List.nodup_iff_pairwise_ne, List.pairwise_map]
      exact hnd.imp fun {a b} h e => h (by simpa using e)
    · obtain ⟨s, hs, e⟩ := hentry x hx
      obtain ⟨l, hl, _⟩ := hkey s hs
      exact ⟨(l, .nil), by simp [Go.WideElems.rd, e, hl]⟩
  have hown : W.ownsMap (H := Unit) Tryz.prog 9 (fun _ => some (.nil, [])) b es.size (.map ((es.toList.map (rg Tryz.prog 9 fun _ => some (.nil, []))).foldr DataW.insert [])) := ⟨es, clock, hb, Ft, Nat.le_refl _, rfl⟩
  have hsize : Maps.size (H := Unit) (.map ((es.toList.map (rg Tryz.prog 9 fun _ => some (.nil, []))).foldr DataW.insert [])) = es.size := by
    simp [Maps.size, DataW.length_sorted]
  have hstr : (strKeys (H := Unit) (.map ((es.toList.map (rg Tryz.prog 9 fun _ => some (.nil, []))).foldr DataW.insert []))).Perm ks := by
    have h1 : (strKeys (H := Unit) (.map ((es.toList.map (rg Tryz.prog 9 fun _ => some (.nil, []))).foldr DataW.insert []))).Perm ((es.toList.map (rg Tryz.prog 9 fun _ => some ((.nil : DataW Unit), []))).map fun p => strOf p.1) := (WideShapes.sorted_perm _).map _
    refine h1.trans ?_
    rw [List.map_map]
    have : es.toList.map ((fun p : Lit × DataW Unit => strOf p.1) ∘ rg Tryz.prog 9 fun _ => some (.nil, [])) = ks := by
      have h2 : es.toList.map ((fun p : Lit × DataW Unit => strOf p.1) ∘ rg Tryz.prog 9 fun _ => some (.nil, [])) = (es.toList.map (·.key)).map fun v => match v with | .string s => s.data.toList | _ => [] := by
        rw [List.map_map]
        refine List.map_congr_left fun x hx => ?_
        obtain ⟨s, hs, e⟩ := hentry x hx
        obtain ⟨l, hl, rfl⟩ := hkey s hs
        simp [Function.comp, Go.WideElems.rg, Go.WideElems.rd, e, hl, strOf]
      rw [h2, hkeys, List.map_map]
      simp [Function.comp_def]
    rw [this]
  have hseq := AnyZ.keys_gives (ρ := ρ) L Fence.wide 2 trivial rfl (by omega) blk b es.size _ W hblk hc (by rw [h9]; exact hown)
  rw [hsize] at hseq
  exact ⟨_, hseq, fun ss h => h.trans hstr⟩
theorem Tryz.sortSpec {ρ : Ren} (L : SlLaysZ.n10 Tryz.prog ρ) (h9 : ρ.t 26 = 9) (he : ∀ args w, (callFunc (ρ.f 10) args).run Tryz.prog w = .ok (.enter (ρ.f 10) args) w) : SortSpec Tryz.prog 205 (ρ.f 10) 9 := by
  intro W blk b es clock ks hc hb hborn hkeys hnd hkl hlen
  obtain ⟨S, hseq, hS1⟩ := Tryz.given L h9 hc hb hborn hkeys hnd hkl hlen
  have hes : es.size = ks.length := by have := congrArg List.length hkeys; simpa using this
  have hml : (1000000 : Nat) ≤ maxLen := by decide
  have hS := AnyZ.sorted_in Tryz.sorted205 Fence.wide 5 trivial trivial trivial trivial rfl (by omega) (Tryz.sorts205 _) (enters_of Tryz.func211 (by kernel_rfl) rfl) (ρ.f 10) #[.pointer (some ⟨blk, 0, none⟩)] trivial he S es.size (by omega) (by omega) _ hseq
  refine ((callsIn_wide (n := 5)).1 hS).mono ?_
  rintro e w' ⟨v, ss, rfl, hperm, hrow, hnil, hbel⟩
  have hpk := hS1 ss hperm
  refine ⟨v, rfl, ?_, ?_, hbel⟩
  · rw [← hpk.length_eq, ← mergeSort_of_perm hpk]
    exact hrow
  · rw [hnil]
    constructor
    · rintro rfl; exact List.eq_nil_of_length_eq_zero hpk.length_eq.symm
    · rintro rfl; exact List.eq_nil_of_length_eq_zero hpk.length_eq
theorem Tryz.collectSpec {ρ : Ren} (L : SlLaysZ.n10 Tryz.prog ρ) (h9 : ρ.t 26 = 9) (he : ∀ args w, (callFunc (ρ.f 10) args).run Tryz.prog w = .ok (.enter (ρ.f 10) args) w) : CollectSpec Tryz.prog 101 (ρ.f 10) 9 := by
  intro W blk b es clock ks hc hb hborn hkeys hnd hkl hlen
  obtain ⟨S, hseq, hS1⟩ := Tryz.given L h9 hc hb hborn hkeys hnd hkl hlen
  have hes : es.size = ks.length := by have := congrArg List.length hkeys; simpa using this
  have hml : (1000000 : Nat) ≤ maxLen := by decide
  have hS := AnyZ.collect_in Tryz.collect101 Fence.wide 4 trivial trivial rfl (by omega) (ρ.f 10) #[.pointer (some ⟨blk, 0, none⟩)] trivial he S es.size (by omega) (by omega) _ hseq
  refine ((callsIn_wide (n := 4)).1 hS).mono ?_
  rintro e w' ⟨v, ss, rfl, hperm, hrow, hnil, hbel⟩
  exact ⟨v, rfl, ss, hS1 ss hperm, hrow, hnil, hbel⟩
theorem Tryz.keys10_102 : SlLaysZ.n10 Tryz.prog Tryz.keys102_ren := { Tryz.keys102 with }
theorem Tryz.keys10_277 : SlLaysZ.n10 Tryz.prog Tryz.keys277_ren := { Tryz.keys277 with }
theorem Tryz.enter152 : ∀ args w, (callFunc 152 args).run Tryz.prog w = .ok (.enter 152 args) w := enters_of Tryz.func152 (by kernel_rfl) rfl
theorem Tryz.enter340 : ∀ args w, (callFunc 340 args).run Tryz.prog w = .ok (.enter 340 args) w := enters_of Tryz.func340 (by kernel_rfl) rfl
theorem Tryz.at102 : Tryz.keys102_ren.f 10 = 152 ∧ Tryz.keys102_ren.t 26 = 9 := ⟨rfl, rfl⟩
theorem Tryz.at277 : Tryz.keys277_ren.f 10 = 340 ∧ Tryz.keys277_ren.t 26 = 9 := ⟨rfl, rfl⟩
theorem Tryz.sortSpec152 : SortSpec Tryz.prog 205 152 9 := by
  have h := Tryz.sortSpec Tryz.keys10_102 Tryz.at102.2 (by rw [Tryz.at102.1]; exact Tryz.enter152)
  rw [Tryz.at102.1] at h
  exact h
theorem Tryz.sortSpec340 : SortSpec Tryz.prog 205 340 9 := by
  have h := Tryz.sortSpec Tryz.keys10_277 Tryz.at277.2 (by rw [Tryz.at277.1]; exact Tryz.enter340)
  rw [Tryz.at277.1] at h
  exact h
theorem Tryz.collectSpec152 : CollectSpec Tryz.prog 101 152 9 := by
  have h := Tryz.collectSpec Tryz.keys10_102 Tryz.at102.2 (by rw [Tryz.at102.1]; exact Tryz.enter152)
  rw [Tryz.at102.1] at h
  exact h
theorem Tryz.collectSpec340 : CollectSpec Tryz.prog 101 340 9 := by
  have h := Tryz.collectSpec Tryz.keys10_277 Tryz.at277.2 (by rw [Tryz.at277.1]; exact Tryz.enter340)
  rw [Tryz.at277.1] at h
  exact h
end Go.Proofs
namespace Go.Proofs
open Go.RowKit Go.Maps Go.Sort Go.Shelf Go.DM
open Go.Lib (compact compact_all keeps)

/-- a row of unlike texts, none is left out -/
theorem compact_unlike {ss : List (List UInt8)} (h : ss.Nodup) : compact ss = ss := by
  refine compact_all ss fun j hj => ?_
  unfold keeps
  by_cases h0 : j = 0
  · simp [h0]
  · have hj1 : j - 1 < ss.length := by omega
    have : ss[j] ≠ ss[j - 1] := fun e => by
      have h2 := List.pairwise_iff_getElem.1 h (j - 1) j hj1 hj (by omega)
      exact h2 e.symm
    simp [h0, getElem!_pos, hj, hj1, this]
set_option maxRecDepth 100000 in
set_option maxHeartbeats 2000000 in
theorem Tryz.setSpec : SetSpec Tryz.prog 150 9 := by
  intro W a o cap ss hcell hnd hlen hcap
  have h210 : Fence.wide.fn 210 := trivial
  have h211 : Fence.wide.fn 211 := trivial
  have h212 : Fence.wide.fn 212 := trivial
  refine (callsIn_wide (n := 5)).1 ?_
  refine callsIn_of_wp Tryz.func150 rfl trivial ?_ rfl
  simp only [Tryz.ntmps150, List.size_toArray, List.length_cons, List.length_nil, Nat.reduceAdd, Nat.reduceSub, Array.replicate_succ, Array.replicate_zero, List.push_toArray, List.append_toArray, List.nil_append, List.cons_append]
  have hz : ∀ j, j < (ss.map fun s => (⟨s.toArray⟩ : ByteArray)).length → W.cell? ⟨a, o + j, none⟩ = some (.string ((ss.map fun s => (⟨s.toArray⟩ : ByteArray)).getD j ByteArray.empty)) := by
    intro j hj
    have hj' : j < ss.length := by simpa using hj
    rw [hcell j ss[j] (List.getElem?_eq_getElem hj')]
    simp [List.getD_eq_getElem?_getD, hj']
  have cC := callsIn_wide (n := 4) |>.2 (Any.slices_Clone_string Tryz.clone210 a o ss.length cap (ss.map fun s => (⟨s.toArray⟩ : ByteArray)) W (by simp) (by omega) hz)
  gi_wp2_with (gi_at_call 210; refine cC.mono ?_; rintro e W1 ⟨v, rfl, hrow, hnil, hb⟩)
  rcases hrow.2 with ⟨hv, _⟩ | ⟨gb, cap1, cur, rfl, hbase, hgb, r1, r2, r3, r4⟩
  · exact absurd hv hnil
  · have hgl : gb < W1.heap.size := (Array.getElem?_eq_some_iff.1 hgb).1
    have hH : Holds encStr W1 gb 0 ss.toArray := holds_of_block hgb (by
      rw [Nat.mul_one] at r4
      rw [r4, List.take_of_length_le (by simp), List.map_map]
      rfl)
    have hsl : (ss.mergeSort leB).length = ss.length := by simp
    have cS : CallsIn Fence.wide 4 Tryz.prog 211 #[.slice (some ⟨gb, 0, none⟩) ss.length cap1] W1 fun e w' => e = .returned (.tuple #[]) ∧ w'.ownsRow W.heap.size 9 1 (.slice (some ⟨gb, 0, none⟩) ss.length cap1) ss.length ((ss.mergeSort leB).map encStr) ∧ Below W.heap.size W w' := by
      refine callsIn_wide.2 ((AnyM.slices_Sort_string Tryz.sort211 gb 0 cap1 ss W1 hH hgl (by omega)).mono ?_)
      rintro e W2 ⟨rfl, nn, os, rfl⟩
      exact ⟨rfl, ownsRow_sorted (by simp) hbase hgb r1 r2 r3, hb.grown (grownBy_sorted _) hb.size (fun j hj => by cases hj; exact hbase)⟩
    gi_wp2_with (gi_at_call 211; refine cS.mono ?_; rintro e W2 ⟨rfl, hrow2, hb2⟩)
    rcases hrow2.2 with ⟨hv, _⟩ | ⟨gb', cap2, cur2, hv, hbase2, hgb2, q1, q2, q3, q4⟩
    · cases hv
    · simp only [Value.slice.injEq, Option.some.injEq, Addr.mk.injEq, and_true, true_and] at hv
      obtain ⟨rfl, rfl⟩ := hv
      have hH2 : Holds encStr W2 gb 0 (ss.mergeSort leB).toArray := holds_of_block hgb2 (by rw [Nat.mul_one, ← hsl] at q4; exact q4)
      have hcomp : compact (ss.mergeSort leB) = ss.mergeSort leB := compact_unlike ((List.mergeSort_perm ss leB).nodup_iff.2 hnd)
      have cK : CallsIn Fence.wide 4 Tryz.prog 212 #[.slice (some ⟨gb, 0, none⟩) ss.length cap1] W2 fun e w' => e = .returned (.slice (some ⟨gb, 0, none⟩) ss.length cap1) ∧ w'.ownsRow W.heap.size 9 1 (.slice (some ⟨gb, 0, none⟩) ss.length cap1) ss.length ((ss.mergeSort leB).map encStr) ∧ Below W.heap.size W w' := by
        have h := Any.slices_Compact_string Tryz.compact212 gb 0 cap1 (ss.mergeSort leB) W2 hH2 (by omega) (by omega)
        rw [hcomp, hsl] at h
        refine callsIn_wide.2 (h.mono ?_)
        rintro e W3 ⟨rfl, q, rfl⟩
        refine ⟨rfl, ?_, ?_⟩
        · rw [Nat.sub_self, List.replicate_zero, List.append_nil, ← grow_empty (putRow _ _ _ _ _)]
          exact ownsRow_sorted (ss := ss) (ts := ss.mergeSort leB) (n := q) (os := #[]) hsl hbase hgb2 q1 q2 q3
        · rw [Nat.sub_self, List.replicate_zero, List.append_nil, ← grow_empty (putRow _ _ _ _ _)]
          exact hb2.grown (grownBy_sorted _) hb2.size (fun j hj => by cases hj; exact hbase)
      gi_wp2_with (gi_at_call 212; refine cK.mono ?_; rintro e W3 ⟨rfl, hrow3, hb3⟩)
      go_ret
      exact ⟨_, rfl, hrow3, by simp, hb3⟩
end Go.Proofs
namespace Go.Proofs
open Go.RowKit Go.DM

theorem Tryz.noCountB : (Tryz.prog.funcs.toList.all fun fn => !(fn.name == "runtime.NumGoroutine")) = true := by kernel_rfl
theorem Tryz.noCount : NoCount Tryz.prog := by
  intro f fn hf hn
  have h := List.all_eq_true.1 Tryz.noCountB fn (by
    have := Array.mem_of_getElem? hf
    simpa using this)
  simp [hn] at h
theorem Tryz.mixed : Tryz.prog.follows .mixedOrders = true := by kernel_rfl
noncomputable def Tryz.nums : Nums := { sorted := 205, collect := 101, setS := 150, ks := [(102, 152), (277, 340)], indexByte := 469, typeOf := 169, comparable := 641, rtype := 384, cmp := [23] }
noncomputable def Tryz.intr : Intr := Go.DM.intr Tryz.prog Tryz.nums
noncomputable def Tryz.bodyD (f : Nat) : Code := (bodyOf Tryz.prog f).getD .skip
theorem some_getD {α : Type} {o : Option α} {d : α} (h : o.isSome = true) : o = some (o.getD d) := by cases o; cases h; rfl
theorem Tryz.body102 : bodyOf Tryz.prog 102 = some (Tryz.bodyD 102) := some_getD (by kernel_rfl)
theorem Tryz.body277 : bodyOf Tryz.prog 277 = some (Tryz.bodyD 277) := some_getD (by kernel_rfl)
theorem Tryz.body205 : bodyOf Tryz.prog 205 = some (Tryz.bodyD 205) := some_getD (by kernel_rfl)
theorem Tryz.body101 : bodyOf Tryz.prog 101 = some (Tryz.bodyD 101) := some_getD (by kernel_rfl)
theorem Tryz.body150 : bodyOf Tryz.prog 150 = some (Tryz.bodyD 150) := some_getD (by kernel_rfl)
noncomputable def Tryz.funcD (f : Nat) : Func := (Tryz.prog.funcs[f]?).getD default
theorem Tryz.ext469 : Ext1 Tryz.prog 469 Extern.BytealgIndexByte.indexByte (Tryz.funcD 469) := ⟨some_getD (by kernel_rfl), by kernel_rfl, by kernel_rfl, by kernel_rfl, by kernel_rfl⟩
theorem Tryz.ext169 : Ext1 Tryz.prog 169 Extern.ReflectliteType.typeOf (Tryz.funcD 169) := ⟨some_getD (by kernel_rfl), by kernel_rfl, by kernel_rfl, by kernel_rfl, by kernel_rfl⟩
theorem Tryz.typeOfRun : ∀ t y w, (Extern.ReflectliteType.typeOf #[.iface t y]).run Tryz.prog w = .ok (.iface 384 (.agg #[typeHandle Tryz.prog t])) w := fun _ _ _ => by kernel_rfl
noncomputable def cmpE : Array Value → Sem Value := Extern.ReflectliteType.method fun t => do Extern.Rtype.noPackHeld "Comparable" t; pure (.bool (← typeInfo t).comparable)
theorem Tryz.ext641 : Ext1 Tryz.prog 641 cmpE (Tryz.funcD 641) := ⟨some_getD (by kernel_rfl), by kernel_rfl, by kernel_rfl, by kernel_rfl, by kernel_rfl⟩
theorem Tryz.cmp23 : ∀ w, (cmpE #[.agg #[typeHandle Tryz.prog 23]]).run Tryz.prog w = .ok (.bool ((Tryz.prog.types[23]?).getD default).comparable) w := fun _ => by kernel_rfl
theorem Tryz.intrOk : IntrOk Tryz.prog Tryz.intr := by
  refine intr_ok Tryz.noCount ?_ Tryz.body205 Tryz.body101 ⟨9, Tryz.setSpec⟩ Tryz.body150 Tryz.ext469 Tryz.ext169 Tryz.typeOfRun Tryz.ext641 ?_
  · intro f k hfk
    simp only [Tryz.nums, List.mem_cons, List.not_mem_nil, or_false, Prod.mk.injEq] at hfk
    rcases hfk with ⟨rfl, rfl⟩ | ⟨rfl, rfl⟩
    · exact ⟨⟨98, _, Tryz.keysSpec102, Tryz.body102⟩, ⟨9, Tryz.sortSpec152⟩, 9, Tryz.collectSpec152⟩
    · exact ⟨⟨375, _, Tryz.keysSpec277, Tryz.body277⟩, ⟨9, Tryz.sortSpec340⟩, 9, Tryz.collectSpec340⟩
  · intro t i ht hi w
    simp only [Tryz.nums, List.mem_singleton] at ht
    subst ht
    have := Tryz.cmp23 w
    rw [hi] at this
    exact this
end Go.Proofs
#print axioms Go.Proofs.Tryz.intrOk
set_option autoImplicit false
namespace Go.DM
noncomputable abbrev Q : Program := Go.Proofs.Tryz.prog
noncomputable def ct (l : List DV) : T DV := T.setL l .nil 0
noncomputable def nU (n : Nat) : DV := .int .u8 (.ofNat n)
noncomputable def nI (n : Nat) : DV := .int .i64 (.ofNat n)
noncomputable def nUs : List Nat → List DV
  | [] => []
  | n :: l => nU n :: nUs l
noncomputable def nN {α : Type} (a b : T α) : T α := .node none a b
end Go.DM
