/-
  The library's sorting, laid at this program; addresses sorted: what comes is in order, and has what was there.
-/
import Derived.Test.YtmlalhmljmajbaaSf
import Derived.Test.YtmlalhmljmajbaaGa
namespace Go.Proofs.Ytmlalhmljmajbaa
open Go.RowKit
set_option linter.unusedVariables false
set_option linter.unusedSimpArgs false
set_option maxRecDepth 20000
set_option maxHeartbeats 2000000
def sortL_ren : Go.Shelf.Ren := ⟨fun | 6 => 55 | 15 => 69 | 14 => 68 | 28 => 83 | 29 => 84 | 20 => 75 | 21 => 76 | 22 => 77 | 23 => 78 | 24 => 79 | 25 => 80 | 26 => 81 | 27 => 82 | 46 => 90 | 47 => 91 | 48 => 92 | 49 => 93 | 50 => 94 | 57 => 98 | n => n, fun | 22 => 22 | 24 => 24 | 25 => 70 | 3 => 3 | 39 => 60 | 0 => 0 | 53 => 117 | 55 => 23 | 4 => 4 | 46 => 111 | 45 => 110 | 50 => 82 | 5 => 5 | 9 => 9 | 66 => 121 | 70 => 125 | 76 => 128 | 77 => 129 | n => n, fun | n => n⟩
theorem sortL : Go.Proofs.SlLaysF.n6 Try.prog sortL_ren where
  mixed := by kernel_rfl
  f6 := ⟨ "slices.SortFunc[[]sheafer/api.Addr,sheafer/api.Addr]", by decide, Try.func55.trans (congrArg some (by kernel_rfl))⟩
  f14 := ⟨ "slices.pdqsortCmpFunc[sheafer/api.Addr]", by decide, Try.func68.trans (congrArg some (by kernel_rfl))⟩
  f15 := Try.func69.trans (congrArg some (by kernel_rfl))
  f20 := ⟨ "slices.insertionSortCmpFunc[sheafer/api.Addr]", by decide, Try.func75.trans (congrArg some (by kernel_rfl))⟩
  f21 := ⟨ "slices.heapSortCmpFunc[sheafer/api.Addr]", by decide, Try.func76.trans (congrArg some (by kernel_rfl))⟩
  f22 := ⟨ "slices.breakPatternsCmpFunc[sheafer/api.Addr]", by decide, Try.func77.trans (congrArg some (by kernel_rfl))⟩
  f23 := ⟨ "slices.choosePivotCmpFunc[sheafer/api.Addr]", by decide, Try.func78.trans (congrArg some (by kernel_rfl))⟩
  f24 := ⟨ "slices.reverseRangeCmpFunc[sheafer/api.Addr]", by decide, Try.func79.trans (congrArg some (by kernel_rfl))⟩
  f25 := ⟨ "slices.partialInsertionSortCmpFunc[sheafer/api.Addr]", by decide, Try.func80.trans (congrArg some (by kernel_rfl))⟩
  f26 := ⟨ "slices.partitionEqualCmpFunc[sheafer/api.Addr]", by decide, Try.func81.trans (congrArg some (by kernel_rfl))⟩
  f27 := ⟨ "slices.partitionCmpFunc[sheafer/api.Addr]", by decide, Try.func82.trans (congrArg some (by kernel_rfl))⟩
  f28 := Try.func83.trans (congrArg some (by kernel_rfl))
  f29 := Try.func84.trans (congrArg some (by kernel_rfl))
  f46 := ⟨ "slices.siftDownCmpFunc[sheafer/api.Addr]", by decide, Try.func90.trans (congrArg some (by kernel_rfl))⟩
  f47 := Try.func91.trans (congrArg some (by kernel_rfl))
  f48 := Try.func92.trans (congrArg some (by kernel_rfl))
  f49 := ⟨ "slices.medianAdjacentCmpFunc[sheafer/api.Addr]", by decide, Try.func93.trans (congrArg some (by kernel_rfl))⟩
  f50 := ⟨ "slices.medianCmpFunc[sheafer/api.Addr]", by decide, Try.func94.trans (congrArg some (by kernel_rfl))⟩
  f57 := ⟨ "slices.order2CmpFunc[sheafer/api.Addr]", by decide, Try.func98.trans (congrArg some (by kernel_rfl))⟩
  t0 := Try.underlying0
  a0 := Try.isAgg0
  z0 := Try.sizeOf0
  v0 := Try.zeroValue0
  t3 := Try.underlying3
  a3 := Try.isAgg3
  z3 := Try.sizeOf3
  v3 := Try.zeroValue3
  t4 := Try.underlying4
  a4 := Try.isAgg4
  z4 := Try.sizeOf4
  v4 := Try.zeroValue4
  t5 := Try.underlying5
  a5 := Try.isAgg5
  z5 := Try.sizeOf5
  v5 := Try.zeroValue5
  t9 := Try.underlying9
  a9 := Try.isAgg9
  z9 := Try.sizeOf9
  v9 := Try.zeroValue9
  t22 := Try.underlying22
  a22 := Try.isAgg22
  z22 := Try.sizeOf22
  v22 := Try.zeroValue22
  a24 := Try.isAgg24
  z24 := Try.sizeOf24
  t25 := Try.underlying70
  a25 := Try.isAgg70
  z25 := Try.sizeOf70
  v25 := Try.zeroValue70
  t39 := Try.underlying60
  a39 := Try.isAgg60
  z39 := Try.sizeOf60
  v39 := Try.zeroValue60
  t45 := Try.underlying110
  a45 := Try.isAgg110
  z45 := Try.sizeOf110
  v45 := Try.zeroValue110
  t46 := Try.underlying111
  a46 := Try.isAgg111
  z46 := Try.sizeOf111
  v46 := Try.zeroValue111
  t50 := Try.underlying82
  a50 := Try.isAgg82
  z50 := Try.sizeOf82
  v50 := Try.zeroValue82
  t53 := Try.underlying117
  a53 := Try.isAgg117
  z53 := Try.sizeOf117
  v53 := Try.zeroValue117
  t55 := Try.underlying23
  a55 := Try.isAgg23
  z55 := Try.sizeOf23
  v55 := Try.zeroValue23
  t66 := Try.underlying121
  a66 := Try.isAgg121
  z66 := Try.sizeOf121
  v66 := Try.zeroValue121
  t70 := Try.underlying125
  a70 := Try.isAgg125
  z70 := Try.sizeOf125
  v70 := Try.zeroValue125
  t76 := Try.underlying128
  a76 := Try.isAgg128
  z76 := Try.sizeOf128
  v76 := Try.zeroValue128
  t77 := Try.underlying129
  a77 := Try.isAgg129
  z77 := Try.sizeOf129
  v77 := Try.zeroValue129
/-- a number of 64 bits -/
abbrev A64 := { a : Int // 0 ≤ a ∧ a ≤ 18446744073709551615 }
instance : Inhabited A64 := ⟨⟨0, by omega, by omega⟩⟩
def encA (x : A64) : Value := .int .u64 x.1
def cfA (x y : A64) : Int := if x.1 < y.1 then -1 else if y.1 < x.1 then 1 else 0
theorem ltA (x y : A64) : ltOf cfA x y = decide (x.1 < y.1) := by
  unfold ltOf cfA
  by_cases h1 : x.1 < y.1
  · simp [h1]
  · by_cases h2 : y.1 < x.1 <;> simp [h1, h2]
theorem swoA : Sort.SWO (ltOf cfA) where
  irrefl x := by rw [ltA]; simp
  trans x y z h1 h2 := by rw [ltA] at *; simp at *; omega
  ntrans x y z h1 h2 := by rw [ltA] at *; simp at *; omega
theorem totA (x y : A64) (h1 : ltOf cfA x y = false) (h2 : ltOf cfA y x = false) : x = y := by
  rw [ltA] at *
  simp at *
  exact Subtype.ext (by omega)
theorem cmpA_calls (x y : A64) (W : World) : Calls Try.prog 56 #[.int .u64 x.1, .int .u64 y.1] W fun e w' => e = .returned (.int .i64 (cfA x y)) ∧ ∃ q, w' = W.drewN q := by
  obtain ⟨x, hx⟩ := x
  obtain ⟨y, hy⟩ := y
  by_cases h1 : x < y
  · have e : cfA ⟨x, hx⟩ ⟨y, hy⟩ = -1 := by unfold cfA; rw [if_pos h1]
    rw [e]
    go_enter Try.func56, Try.ntmps56
    go_wp2
    go_ret
    exact ⟨rfl, 0, rfl⟩
  · have e : cfA ⟨x, hx⟩ ⟨y, hy⟩ = min (x - y) 1 := by
      unfold cfA
      rw [if_neg h1]
      dsimp only at h1 ⊢
      by_cases h2 : y < x
      · rw [if_pos h2]; omega
      · rw [if_neg h2]; omega
    rw [e]
    have hw : IntKind.u64.wrap (x - y) = x - y := wrU (by omega) (by omega)
    go_enter Try.func56, Try.ntmps56
    go_wp2
    go_ret
    exact ⟨rfl, 0, rfl⟩
theorem up64 : ∀ {l : List Int}, (∀ a ∈ l, U a) → ∃ L : List A64, L.map (·.1) = l
  | [], _ => ⟨[], rfl⟩
  | a :: l, h => by
    obtain ⟨L, hL⟩ := up64 (l := l) fun b hb => h b (by simp [hb])
    exact ⟨⟨a, h a (by simp)⟩ :: L, by simp [hL]⟩
theorem rcA_map (L : List A64) : rcA (L.map (·.1)) = L.map fun x => AV.c (.v (encA x)) := by
  unfold rcA
  induction L with
  | nil => rfl
  | cons x L ih =>
    rw [List.map_cons, List.flatMap_cons, List.map_append, ih]
    rfl
/-- the library's sorting of addresses: what comes rises, and is what was there -/
theorem sortA_fn (l : List Int) (hl : l.length ≤ 1000000) (hu : ∀ a ∈ l, U a) : ∃ s : List Int, s.Perm l ∧ s.Pairwise (· ≤ ·) ∧
    Fn Try.prog 55 [.row 1000 24 1 l.length, .fn 56 []] [(1000, rcA l)] (.tup []) [(1000, rcA s)] := by
  obtain ⟨L, rfl⟩ := up64 hu
  have hle : ∀ x y : A64, (!ltOf cfA y x) = decide (x.1 ≤ y.1) := fun x y => by
    rw [ltA, ← decide_not]
    exact decide_eq_decide.2 (by omega)
  refine ⟨(L.mergeSort fun x y => !ltOf cfA y x).map (·.1), (List.mergeSort_perm _ _).map _, ?_, ?_⟩
  · have h := List.pairwise_mergeSort (le := fun x y : A64 => !ltOf cfA y x) (fun x y z h1 h2 => by
      rw [hle] at *
      simp at *
      omega) (fun x y => by
      rw [hle, hle]
      simp
      omega) L
    rw [List.pairwise_map]
    exact h.imp fun {x y} hxy => by
      rw [hle] at hxy
      simpa using hxy
  · rw [rcA_map, rcA_map, List.length_map]
    refine Fn.sorting (enc := encA) (fun _ => rfl) L _ (List.length_mergeSort _) (fun blk cap w hne hH hblk => ?_) fun p cap w => ?_
    · have eg : ∀ args w, (callFunc 56 args).run Try.prog w = .ok (.enter 56 args) w := enters_of Try.func56 (by kernel_rfl) rfl
      have hc : CmpReads Try.prog 56 #[] encA cfA blk 0 L.toArray.size w := fun m os dk hdk x y => cmpA_calls x y _
      have h := Any.slices_SortFunc_total sortL encA (fun _ => rfl) cfA swoA 56 #[] blk 0 cap L.toArray w eg hc.lays hH hblk (by simp at hl ⊢; omega) totA
      exact h
    · exact AnyF.slices_SortFunc_none (P := Try.prog) (ρ := sortL_ren) { sortL with } p cap _ w
end Go.Proofs.Ytmlalhmljmajbaa

