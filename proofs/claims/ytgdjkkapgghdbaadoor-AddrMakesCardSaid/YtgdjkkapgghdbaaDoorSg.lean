/-
  The library's sorting, laid at this program; addresses sorted: what comes is in order, and has what was there.
-/
import Derived.Test.YtgdjkkapgghdbaaDoorSf
import Derived.Test.YtgdjkkapgghdbaaDoorGa
namespace Go.Proofs.YtgdjkkapgghdbaaDoor
open Go.RowKit
set_option linter.unusedVariables false
set_option linter.unusedSimpArgs false
set_option maxRecDepth 20000
set_option maxHeartbeats 2000000
def sortL_ren : Go.Shelf.Ren := ⟨fun | 6 => 28 | 15 => 42 | 14 => 41 | 28 => 57 | 29 => 58 | 20 => 49 | 21 => 50 | 22 => 51 | 23 => 52 | 24 => 53 | 25 => 54 | 26 => 55 | 27 => 56 | 46 => 64 | 47 => 65 | 48 => 66 | 49 => 67 | 50 => 68 | 57 => 73 | n => n, fun | 22 => 37 | 24 => 23 | 25 => 52 | 3 => 3 | 39 => 50 | 0 => 0 | 53 => 84 | 55 => 22 | 4 => 4 | 46 => 77 | 45 => 76 | 50 => 81 | 5 => 5 | 9 => 9 | 66 => 88 | 70 => 92 | 76 => 101 | 77 => 102 | n => n, fun | n => n⟩
theorem sortL : Go.Proofs.SlLaysF.n6 Tryd.prog sortL_ren where
  mixed := by kernel_rfl
  f6 := ⟨ "slices.SortFunc[[]sheafer/api.Addr,sheafer/api.Addr]", by decide, Tryd.func28.trans (congrArg some (by kernel_rfl))⟩
  f14 := ⟨ "slices.pdqsortCmpFunc[sheafer/api.Addr]", by decide, Tryd.func41.trans (congrArg some (by kernel_rfl))⟩
  f15 := Tryd.func42.trans (congrArg some (by kernel_rfl))
  f20 := ⟨ "slices.insertionSortCmpFunc[sheafer/api.Addr]", by decide, Tryd.func49.trans (congrArg some (by kernel_rfl))⟩
  f21 := ⟨ "slices.heapSortCmpFunc[sheafer/api.Addr]", by decide, Tryd.func50.trans (congrArg some (by kernel_rfl))⟩
  f22 := ⟨ "slices.breakPatternsCmpFunc[sheafer/api.Addr]", by decide, Tryd.func51.trans (congrArg some (by kernel_rfl))⟩
  f23 := ⟨ "slices.choosePivotCmpFunc[sheafer/api.Addr]", by decide, Tryd.func52.trans (congrArg some (by kernel_rfl))⟩
  f24 := ⟨ "slices.reverseRangeCmpFunc[sheafer/api.Addr]", by decide, Tryd.func53.trans (congrArg some (by kernel_rfl))⟩
  f25 := ⟨ "slices.partialInsertionSortCmpFunc[sheafer/api.Addr]", by decide, Tryd.func54.trans (congrArg some (by kernel_rfl))⟩
  f26 := ⟨ "slices.partitionEqualCmpFunc[sheafer/api.Addr]", by decide, Tryd.func55.trans (congrArg some (by kernel_rfl))⟩
  f27 := ⟨ "slices.partitionCmpFunc[sheafer/api.Addr]", by decide, Tryd.func56.trans (congrArg some (by kernel_rfl))⟩
  f28 := Tryd.func57.trans (congrArg some (by kernel_rfl))
  f29 := Tryd.func58.trans (congrArg some (by kernel_rfl))
  f46 := ⟨ "slices.siftDownCmpFunc[sheafer/api.Addr]", by decide, Tryd.func64.trans (congrArg some (by kernel_rfl))⟩
  f47 := Tryd.func65.trans (congrArg some (by kernel_rfl))
  f48 := Tryd.func66.trans (congrArg some (by kernel_rfl))
  f49 := ⟨ "slices.medianAdjacentCmpFunc[sheafer/api.Addr]", by decide, Tryd.func67.trans (congrArg some (by kernel_rfl))⟩
  f50 := ⟨ "slices.medianCmpFunc[sheafer/api.Addr]", by decide, Tryd.func68.trans (congrArg some (by kernel_rfl))⟩
  f57 := ⟨ "slices.order2CmpFunc[sheafer/api.Addr]", by decide, Tryd.func73.trans (congrArg some (by kernel_rfl))⟩
  t0 := Tryd.underlying0
  a0 := Tryd.isAgg0
  z0 := Tryd.sizeOf0
  v0 := Tryd.zeroValue0
  t3 := Tryd.underlying3
  a3 := Tryd.isAgg3
  z3 := Tryd.sizeOf3
  v3 := Tryd.zeroValue3
  t4 := Tryd.underlying4
  a4 := Tryd.isAgg4
  z4 := Tryd.sizeOf4
  v4 := Tryd.zeroValue4
  t5 := Tryd.underlying5
  a5 := Tryd.isAgg5
  z5 := Tryd.sizeOf5
  v5 := Tryd.zeroValue5
  t9 := Tryd.underlying9
  a9 := Tryd.isAgg9
  z9 := Tryd.sizeOf9
  v9 := Tryd.zeroValue9
  t22 := Tryd.underlying37
  a22 := Tryd.isAgg37
  z22 := Tryd.sizeOf37
  v22 := Tryd.zeroValue37
  a24 := Tryd.isAgg23
  z24 := Tryd.sizeOf23
  t25 := Tryd.underlying52
  a25 := Tryd.isAgg52
  z25 := Tryd.sizeOf52
  v25 := Tryd.zeroValue52
  t39 := Tryd.underlying50
  a39 := Tryd.isAgg50
  z39 := Tryd.sizeOf50
  v39 := Tryd.zeroValue50
  t45 := Tryd.underlying76
  a45 := Tryd.isAgg76
  z45 := Tryd.sizeOf76
  v45 := Tryd.zeroValue76
  t46 := Tryd.underlying77
  a46 := Tryd.isAgg77
  z46 := Tryd.sizeOf77
  v46 := Tryd.zeroValue77
  t50 := Tryd.underlying81
  a50 := Tryd.isAgg81
  z50 := Tryd.sizeOf81
  v50 := Tryd.zeroValue81
  t53 := Tryd.underlying84
  a53 := Tryd.isAgg84
  z53 := Tryd.sizeOf84
  v53 := Tryd.zeroValue84
  t55 := Tryd.underlying22
  a55 := Tryd.isAgg22
  z55 := Tryd.sizeOf22
  v55 := Tryd.zeroValue22
  t66 := Tryd.underlying88
  a66 := Tryd.isAgg88
  z66 := Tryd.sizeOf88
  v66 := Tryd.zeroValue88
  t70 := Tryd.underlying92
  a70 := Tryd.isAgg92
  z70 := Tryd.sizeOf92
  v70 := Tryd.zeroValue92
  t76 := Tryd.underlying101
  a76 := Tryd.isAgg101
  z76 := Tryd.sizeOf101
  v76 := Tryd.zeroValue101
  t77 := Tryd.underlying102
  a77 := Tryd.isAgg102
  z77 := Tryd.sizeOf102
  v77 := Tryd.zeroValue102
abbrev A64 := { a : Int // 0 ≤ a ∧ a ≤ 18446744073709551615 }
instance : Inhabited A64 := ⟨⟨0, by omega, by omega⟩⟩
def encA (x : A64) : Value := .int .u64 x.1
def cfA (x y : A64) : Int := if x.1 < y.1 then -1 else if y.1 < x.1 then 1 else 0
theorem ltA (x y : A64) : ltOf cfA x y = decide (x.1 < y.1) := by
  unfold ltOf cfA
  by_cases h1 : x.1 < y.1
  · simp [h1]
  · by_cases h2 : y.1 < x.1 <;> simp [h1, h2]
theorem swoA : Sort.SWO (ltOf cfA) where
  irrefl x := by rw [ltA]; simp
  trans x y z h1 h2 := by rw [ltA] at *; simp at *; omega
  ntrans x y z h1 h2 := by rw [ltA] at *; simp at *; omega
theorem totA (x y : A64) (h1 : ltOf cfA x y = false) (h2 : ltOf cfA y x = false) : x = y := by
  rw [ltA] at *
  simp at *
  exact Subtype.ext (by omega)
theorem cmpA_calls (x y : A64) (W : World) : Calls Tryd.prog 29 #[.int .u64 x.1, .int .u64 y.1] W fun e w' => e = .returned (.int .i64 (cfA x y)) ∧ ∃ q, w' = W.drewN q := by
  obtain ⟨x, hx⟩ := x
  obtain ⟨y, hy⟩ := y
  by_cases h1 : x < y
  · have e : cfA ⟨x, hx⟩ ⟨y, hy⟩ = -1 := by unfold cfA; rw [if_pos h1]
    rw [e]
    go_enter Tryd.func29, Tryd.ntmps29
    go_wp2
    go_ret
    exact ⟨rfl, 0, rfl⟩
  · have e : cfA ⟨x, hx⟩ ⟨y, hy⟩ = min (x - y) 1 := by
      unfold cfA
      rw [if_neg h1]
      dsimp only at h1 ⊢
      by_cases h2 : y < x
      · rw [if_pos h2]; omega
      · rw [if_neg h2]; omega
    rw [e]
    have hw : IntKind.u64.wrap (x - y) = x - y := wrU (by omega) (by omega)
    go_enter Tryd.func29, Tryd.ntmps29
    go_wp2
    go_ret
    exact ⟨rfl, 0, rfl⟩
theorem up64 : ∀ {l : List Int}, (∀ a ∈ l, U a) → ∃ L : List A64, L.map (·.1) = l
  | [], _ => ⟨[], rfl⟩
  | a :: l, h => by
    obtain ⟨L, hL⟩ := up64 (l := l) fun b hb => h b (by simp [hb])
    exact ⟨⟨a, h a (by simp)⟩ :: L, by simp [hL]⟩
theorem rcA_map (L : List A64) : rcA (L.map (·.1)) = L.map fun x => AV.c (.v (encA x)) := by
  unfold rcA
  induction L with
  | nil => rfl
  | cons x L ih =>
    rw [List.map_cons, List.flatMap_cons, List.map_append, ih]
    rfl
theorem sortA_fn (l : List Int) (hl : l.length ≤ 1000000) (hu : ∀ a ∈ l, U a) : ∃ s : List Int, s.Perm l ∧ s.Pairwise (· ≤ ·) ∧
    Fn Tryd.prog 28 [.row 1000 23 1 l.length, .fn 29 []] [(1000, rcA l)] (.tup []) [(1000, rcA s)] := by
  obtain ⟨L, rfl⟩ := up64 hu
  have hle : ∀ x y : A64, (!ltOf cfA y x) = decide (x.1 ≤ y.1) := fun x y => by
    rw [ltA, ← decide_not]
    exact decide_eq_decide.2 (by omega)
  refine ⟨(L.mergeSort fun x y => !ltOf cfA y x).map (·.1), (List.mergeSort_perm _ _).map _, ?_, ?_⟩
  · have h := List.pairwise_mergeSort (le := fun x y : A64 => !ltOf cfA y x) (fun x y z h1 h2 => by
      rw [hle] at *
      simp at *
      omega) (fun x y => by
      rw [hle, hle]
      simp
      omega) L
    rw [List.pairwise_map]
    exact h.imp fun {x y} hxy => by
      rw [hle] at hxy
      simpa using hxy
  · rw [rcA_map, rcA_map, List.length_map]
    refine Fn.sorting (enc := encA) (fun _ => rfl) L _ (List.length_mergeSort _) (fun blk cap w hne hH hblk => ?_) fun p cap w => ?_
    · have eg : ∀ args w, (callFunc 29 args).run Tryd.prog w = .ok (.enter 29 args) w := enters_of Tryd.func29 (by kernel_rfl) rfl
      have hc : CmpReads Tryd.prog 29 #[] encA cfA blk 0 L.toArray.size w := fun m os dk hdk x y => cmpA_calls x y _
      have h := Any.slices_SortFunc_total sortL encA (fun _ => rfl) cfA swoA 29 #[] blk 0 cap L.toArray w eg hc.lays hH hblk (by simp at hl ⊢; omega) totA
      exact h
    · exact AnyF.slices_SortFunc_none (P := Tryd.prog) (ρ := sortL_ren) { sortL with } p cap _ w
end Go.Proofs.YtgdjkkapgghdbaaDoor

