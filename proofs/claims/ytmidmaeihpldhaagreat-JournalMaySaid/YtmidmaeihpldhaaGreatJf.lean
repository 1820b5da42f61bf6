/-
  Marks made, taken back, kept; reckoned.
-/
import Derived.Test.YtmidmaeihpldhaaGreatSf
import Derived.Test.YtmidmaeihpldhaaGreatTc
import Derived.Test.YtmidmaeihpldhaaGreatLc
import Derived.Test.YtmidmaeihpldhaaGreatRa
import Derived.Test.YtmidmaeihpldhaaGreatAvW
set_option linter.unusedSimpArgs false
set_option linter.unusedVariables false
namespace Go.Proofs.YtmidmaeihpldhaaGreat.ax
open Go.RowKit
set_option maxRecDepth 20000
set_option maxHeartbeats 2000000
def sortL_ren : Go.Shelf.Ren := ⟨fun | 6 => 127 | 15 => 140 | 14 => 139 | 28 => 151 | 29 => 152 | 20 => 143 | 21 => 144 | 22 => 145 | 23 => 146 | 24 => 147 | 25 => 148 | 26 => 149 | 27 => 150 | 46 => 153 | 47 => 154 | 48 => 155 | 49 => 156 | 50 => 157 | 57 => 158 | n => n, fun | 22 => 31 | 24 => 58 | 25 => 160 | 3 => 3 | 39 => 96 | 0 => 0 | 53 => 195 | 55 => 57 | 4 => 4 | 46 => 188 | 45 => 187 | 50 => 192 | 5 => 5 | 9 => 9 | 66 => 198 | 70 => 202 | 76 => 204 | 77 => 205 | n => n, fun | n => n⟩
theorem sortL : Go.Proofs.SlLaysF.n6 Tryz.prog sortL_ren where
  mixed := by kernel_rfl
  f6 := ⟨ "slices.SortFunc[[]sheafer/api.Addr,sheafer/api.Addr]", by decide, Tryz.func127.trans (congrArg some (by kernel_rfl))⟩
  f14 := ⟨ "slices.pdqsortCmpFunc[sheafer/api.Addr]", by decide, Tryz.func139.trans (congrArg some (by kernel_rfl))⟩
  f15 := Tryz.func140.trans (congrArg some (by kernel_rfl))
  f20 := ⟨ "slices.insertionSortCmpFunc[sheafer/api.Addr]", by decide, Tryz.func143.trans (congrArg some (by kernel_rfl))⟩
  f21 := ⟨ "slices.heapSortCmpFunc[sheafer/api.Addr]", by decide, Tryz.func144.trans (congrArg some (by kernel_rfl))⟩
  f22 := ⟨ "slices.breakPatternsCmpFunc[sheafer/api.Addr]", by decide, Tryz.func145.trans (congrArg some (by kernel_rfl))⟩
  f23 := ⟨ "slices.choosePivotCmpFunc[sheafer/api.Addr]", by decide, Tryz.func146.trans (congrArg some (by kernel_rfl))⟩
  f24 := ⟨ "slices.reverseRangeCmpFunc[sheafer/api.Addr]", by decide, Tryz.func147.trans (congrArg some (by kernel_rfl))⟩
  f25 := ⟨ "slices.partialInsertionSortCmpFunc[sheafer/api.Addr]", by decide, Tryz.func148.trans (congrArg some (by kernel_rfl))⟩
  f26 := ⟨ "slices.partitionEqualCmpFunc[sheafer/api.Addr]", by decide, Tryz.func149.trans (congrArg some (by kernel_rfl))⟩
  f27 := ⟨ "slices.partitionCmpFunc[sheafer/api.Addr]", by decide, Tryz.func150.trans (congrArg some (by kernel_rfl))⟩
  f28 := Tryz.func151.trans (congrArg some (by kernel_rfl))
  f29 := Tryz.func152.trans (congrArg some (by kernel_rfl))
  f46 := ⟨ "slices.siftDownCmpFunc[sheafer/api.Addr]", by decide, Tryz.func153.trans (congrArg some (by kernel_rfl))⟩
  f47 := Tryz.func154.trans (congrArg some (by kernel_rfl))
  f48 := Tryz.func155.trans (congrArg some (by kernel_rfl))
  f49 := ⟨ "slices.medianAdjacentCmpFunc[sheafer/api.Addr]", by decide, Tryz.func156.trans (congrArg some (by kernel_rfl))⟩
  f50 := ⟨ "slices.medianCmpFunc[sheafer/api.Addr]", by decide, Tryz.func157.trans (congrArg some (by kernel_rfl))⟩
  f57 := ⟨ "slices.order2CmpFunc[sheafer/api.Addr]", by decide, Tryz.func158.trans (congrArg some (by kernel_rfl))⟩
  t0 := Tryz.underlying0
  a0 := Tryz.isAgg0
  z0 := Tryz.sizeOf0
  v0 := Tryz.zeroValue0
  t3 := Tryz.underlying3
  a3 := Tryz.isAgg3
  z3 := Tryz.sizeOf3
  v3 := Tryz.zeroValue3
  t4 := Tryz.underlying4
  a4 := Tryz.isAgg4
  z4 := Tryz.sizeOf4
  v4 := Tryz.zeroValue4
  t5 := Tryz.underlying5
  a5 := Tryz.isAgg5
  z5 := Tryz.sizeOf5
  v5 := Tryz.zeroValue5
  t9 := Tryz.underlying9
  a9 := Tryz.isAgg9
  z9 := Tryz.sizeOf9
  v9 := Tryz.zeroValue9
  t22 := Tryz.underlying31
  a22 := Tryz.isAgg31
  z22 := Tryz.sizeOf31
  v22 := Tryz.zeroValue31
  a24 := Tryz.isAgg58
  z24 := Tryz.sizeOf58
  t25 := Tryz.underlying160
  a25 := Tryz.isAgg160
  z25 := Tryz.sizeOf160
  v25 := Tryz.zeroValue160
  t39 := Tryz.underlying96
  a39 := Tryz.isAgg96
  z39 := Tryz.sizeOf96
  v39 := Tryz.zeroValue96
  t45 := Tryz.underlying187
  a45 := Tryz.isAgg187
  z45 := Tryz.sizeOf187
  v45 := Tryz.zeroValue187
  t46 := Tryz.underlying188
  a46 := Tryz.isAgg188
  z46 := Tryz.sizeOf188
  v46 := Tryz.zeroValue188
  t50 := Tryz.underlying192
  a50 := Tryz.isAgg192
  z50 := Tryz.sizeOf192
  v50 := Tryz.zeroValue192
  t53 := Tryz.underlying195
  a53 := Tryz.isAgg195
  z53 := Tryz.sizeOf195
  v53 := Tryz.zeroValue195
  t55 := Tryz.underlying57
  a55 := Tryz.isAgg57
  z55 := Tryz.sizeOf57
  v55 := Tryz.zeroValue57
  t66 := Tryz.underlying198
  a66 := Tryz.isAgg198
  z66 := Tryz.sizeOf198
  v66 := Tryz.zeroValue198
  t70 := Tryz.underlying202
  a70 := Tryz.isAgg202
  z70 := Tryz.sizeOf202
  v70 := Tryz.zeroValue202
  t76 := Tryz.underlying204
  a76 := Tryz.isAgg204
  z76 := Tryz.sizeOf204
  v76 := Tryz.zeroValue204
  t77 := Tryz.underlying205
  a77 := Tryz.isAgg205
  z77 := Tryz.sizeOf205
  v77 := Tryz.zeroValue205
abbrev A64 := { a : Int // 0 ≤ a ∧ a ≤ 18446744073709551615 }
instance : Inhabited A64 := ⟨⟨0, by omega, by omega⟩⟩
def encA (x : A64) : Value := .int .u64 x.1
def cfA (x y : A64) : Int := if x.1 < y.1 then -1 else if y.1 < x.1 then 1 else 0
theorem ltA (x y : A64) : ltOf cfA x y = decide (x.1 < y.1) := by
  unfold ltOf cfA
  by_cases h1 : x.1 < y.1
  · simp [h1]
  · by_cases h2 : y.1 < x.1 <;> simp [h1, h2]
theorem swoA : Sort.SWO (ltOf cfA) where
  irrefl x := by rw [ltA]; simp
  trans x y z h1 h2 := by rw [ltA] at *; simp at *; omega
  ntrans x y z h1 h2 := by rw [ltA] at *; simp at *; omega
theorem totA (x y : A64) (h1 : ltOf cfA x y = false) (h2 : ltOf cfA y x = false) : x = y := by
  rw [ltA] at *
  simp at *
  exact Subtype.ext (by omega)
theorem cmpA_calls (x y : A64) (W : World) : Calls Tryz.prog 128 #[.int .u64 x.1, .int .u64 y.1] W fun e w' => e = .returned (.int .i64 (cfA x y)) ∧ ∃ q, w' = W.drewN q := by
  obtain ⟨x, hx⟩ := x
  obtain ⟨y, hy⟩ := y
  by_cases h1 : x < y
  · have e : cfA ⟨x, hx⟩ ⟨y, hy⟩ = -1 := by unfold cfA; rw [if_pos h1]
    rw [e]
    go_enter Tryz.func128, Tryz.ntmps128
    go_wp2
    go_ret
    exact ⟨rfl, 0, rfl⟩
  · have e : cfA ⟨x, hx⟩ ⟨y, hy⟩ = min (x - y) 1 := by
      unfold cfA
      rw [if_neg h1]
      dsimp only at h1 ⊢
      by_cases h2 : y < x
      · rw [if_pos h2]; omega
      · rw [if_neg h2]; omega
    rw [e]
    have hw : IntKind.u64.wrap (x - y) = x - y := wrU (by omega) (by omega)
    go_enter Tryz.func128, Tryz.ntmps128
    go_wp2
    go_ret
    exact ⟨rfl, 0, rfl⟩
theorem up64 : ∀ {l : List Int}, (∀ a ∈ l, U a) → ∃ L : List A64, L.map (·.1) = l
  | [], _ => ⟨[], rfl⟩
  | a :: l, h => by
    obtain ⟨L, hL⟩ := up64 (l := l) fun b hb => h b (by simp [hb])
    exact ⟨⟨a, h a (by simp)⟩ :: L, by simp [hL]⟩
theorem rcA_map (L : List A64) : rcA (L.map (·.1)) = L.map fun x => AV.c (.v (encA x)) := by
  unfold rcA
  induction L with
  | nil => rfl
  | cons x L ih =>
    rw [List.map_cons, List.flatMap_cons, List.map_append, ih]
    rfl
theorem sortA_fn (l : List Int) (hl : l.length ≤ 1000000) (hu : ∀ a ∈ l, U a) : ∃ s : List Int, s.Perm l ∧ s.Pairwise (· ≤ ·) ∧
    Fn Tryz.prog 127 [.row 1000 58 1 l.length, .fn 128 []] [(1000, rcA l)] (.tup []) [(1000, rcA s)] := by
  obtain ⟨L, rfl⟩ := up64 hu
  have hle : ∀ x y : A64, (!ltOf cfA y x) = decide (x.1 ≤ y.1) := fun x y => by
    rw [ltA, ← decide_not]
    exact decide_eq_decide.2 (by omega)
  refine ⟨(L.mergeSort fun x y => !ltOf cfA y x).map (·.1), (List.mergeSort_perm _ _).map _, ?_, ?_⟩
  · have h := List.pairwise_mergeSort (le := fun x y : A64 => !ltOf cfA y x) (fun x y z h1 h2 => by
      rw [hle] at *
      simp at *
      omega) (fun x y => by
      rw [hle, hle]
      simp
      omega) L
    rw [List.pairwise_map]
    exact h.imp fun {x y} hxy => by
      rw [hle] at hxy
      simpa using hxy
  · rw [rcA_map, rcA_map, List.length_map]
    refine Fn.sorting (enc := encA) (fun _ => rfl) L _ (List.length_mergeSort _) (fun blk cap w hne hH hblk => ?_) fun p cap w => ?_
    · have eg : ∀ args w, (callFunc 128 args).run Tryz.prog w = .ok (.enter 128 args) w := enters_of Tryz.func128 (by kernel_rfl) rfl
      have hc : CmpReads Tryz.prog 128 #[] encA cfA blk 0 L.toArray.size w := fun m os dk hdk x y => cmpA_calls x y _
      have h := Any.slices_SortFunc_total sortL encA (fun _ => rfl) cfA swoA 128 #[] blk 0 cap L.toArray w eg hc.lays hH hblk (by simp at hl ⊢; omega) totA
      exact h
    · exact AnyF.slices_SortFunc_none (P := Tryz.prog) (ρ := sortL_ren) { sortL with } p cap _ w
end Go.Proofs.YtmidmaeihpldhaaGreat.ax
namespace Go.Proofs.YtmidmaeihpldhaaGreat.ax
open Go.RowKit
open Nat (reduceBEq)
set_option maxRecDepth 20000
set_option maxHeartbeats 2000000
theorem ddN_succ {s : List Int} {i : Nat} {b : Int} (hb : s[i]? = some b) : (ddN s (i + 1) = ddN s i ∧ 0 < i ∧ s[i - 1]? = some b) ∨ (ddN s (i + 1) = ddN s i ++ [b] ∧ (0 < i → s[i - 1]? ≠ some b)) := by
  have e : ddN s (i + 1) = if 0 < i ∧ s[i - 1]? = some b then ddN s i else ddN s i ++ [b] := by
    show (match s[i]? with | none => _ | some b => _) = _
    rw [hb]
  by_cases h : 0 < i ∧ s[i - 1]? = some b
  · exact .inl ⟨by rw [e, if_pos h], h⟩
  · exact .inr ⟨by rw [e, if_neg h], fun h1 h2 => h ⟨h1, h2⟩⟩
theorem mem_take_of {s : List Int} {i j : Nat} {b : Int} (h : s[j]? = some b) (hj : j < i) : b ∈ s.take i := by
  refine List.mem_of_getElem? (i := j) ?_
  rw [List.getElem?_take, if_pos hj, h]
theorem ddN_mem (s : List Int) : ∀ i, i ≤ s.length → ∀ x, x ∈ ddN s i ↔ x ∈ s.take i
  | 0, _, x => by simp [ddN]
  | i + 1, h, x => by
    have ih := ddN_mem s i (by omega) x
    have hb : s[i]? = some (s[i]'(by omega)) := List.getElem?_eq_getElem (by omega)
    have et : s.take (i + 1) = s.take i ++ [s[i]'(by omega)] := by rw [List.take_add_one, hb]; rfl
    rw [et, List.mem_append, List.mem_singleton]
    rcases ddN_succ hb with ⟨e, h0, h1⟩ | ⟨e, _⟩
    · rw [e, ih]
      refine ⟨.inl, fun h => h.elim id fun hx => ?_⟩
      rw [hx]
      exact mem_take_of h1 (by omega)
    · rw [e, List.mem_append, List.mem_singleton, ih]
theorem ddN_lt (s : List Int) (hs : s.Pairwise (· ≤ ·)) : ∀ i, i ≤ s.length → (ddN s i).Pairwise (· < ·)
  | 0, _ => by simp [ddN]
  | i + 1, h => by
    have ih := ddN_lt s hs i (by omega)
    have hb : s[i]? = some (s[i]'(by omega)) := List.getElem?_eq_getElem (by omega)
    rcases ddN_succ hb with ⟨e, _⟩ | ⟨e, h1⟩
    · rw [e]; exact ih
    · rw [e, List.pairwise_append]
      refine ⟨ih, List.pairwise_singleton _ _, fun a ha b hb' => ?_⟩
      rw [List.mem_singleton] at hb'
      subst hb'
      have ha' := (ddN_mem s i (by omega) a).1 ha
      obtain ⟨j, hj⟩ := List.mem_iff_getElem?.1 ha'
      rw [List.getElem?_take] at hj
      split at hj
      · rename_i hji
        have hp := List.pairwise_iff_getElem.1 hs
        have haj : s[j]'(by omega) = a := (List.getElem?_eq_some_iff.1 hj).2
        have h2 := hp j i (by omega) (by omega) hji
        rw [haj] at h2
        have h3 := h1 (by omega)
        rw [List.getElem?_eq_getElem (by omega)] at h3
        have h4 : s[i - 1]'(by omega) ≠ s[i]'(by omega) := fun e => h3 (by rw [e])
        have h5 := hp (i - 1) i (by omega) (by omega) (by omega)
        rcases Nat.lt_or_ge j (i - 1) with h6 | h6
        · have h7 := hp j (i - 1) (by omega) (by omega) h6
          rw [haj] at h7
          omega
        · have : j = i - 1 := by omega
          subst this
          rw [haj] at h4
          omega
      · cases hj
theorem rise_eq : ∀ {a b : List Int}, a.Pairwise (· < ·) → b.Pairwise (· < ·) → (∀ x, x ∈ a ↔ x ∈ b) → a = b
  | [], [], _, _, _ => rfl
  | [], y :: b, _, _, h => by have := (h y).2 (by simp); simp at this
  | x :: a, [], _, _, h => by have := (h x).1 (by simp); simp at this
  | x :: a, y :: b, ha, hb, h => by
    rw [List.pairwise_cons] at ha hb
    have hx := (h x).1 (by simp)
    have hy := (h y).2 (by simp)
    rw [List.mem_cons] at hx hy
    have e : x = y := by
      rcases hx with hx | hx
      · exact hx
      · rcases hy with hy | hy
        · exact hy.symm
        · have h1 := ha.1 y hy
          have h2 := hb.1 x hx
          omega
    subst e
    rw [rise_eq ha.2 hb.2 fun z => by
      have hz := h z
      rw [List.mem_cons, List.mem_cons] at hz
      constructor
      · intro hm
        rcases hz.1 (.inr hm) with e | hm'
        · have := ha.1 z hm; omega
        · exact hm'
      · intro hm
        rcases hz.2 (.inr hm) with e | hm'
        · have := hb.1 z hm; omega
        · exact hm']
theorem sorted_any (ex : Bool) (l : List Int) (hl : l.length ≤ 1000000) (hu : ∀ a ∈ l, U a) : ∃ r : List Int, r.Pairwise (· < ·) ∧ (∀ x, x ∈ r ↔ x ∈ l) ∧ r.length ≤ l.length ∧ Fn Tryz.prog 102 [asl ex l] [] (asl false r) [] := by
  obtain ⟨s, hp, hs, so⟩ := sortA_fn l hl hu
  have hlen := hp.length_eq
  have cl := cloneA_fn ex l hl
  have co := (compact_cells s (by omega)).weaken (H2 := [(1000, rcA (ddN s s.length))]) (AV.le_refl _) (leHp (ds := rcA (List.replicate (s.length - (ddN s s.length).length) 0)) (by rw [rcA_app]; simp [hget]))
  rw [hlen] at co
  have hdl := ddN_le s l.length
  refine ⟨ddN s l.length, ddN_lt s hs _ (by omega), fun x => ?_, hdl, ?_⟩
  · rw [ddN_mem s _ (by omega), ← hlen, List.take_length]
    exact hp.mem_iff
  · have hrow : Fn Tryz.prog 102 [asl ex l] [] (.row 5 58 1 (ddN s l.length).length) [(5, rcA (ddN s l.length))] := by
      generalize ddN s l.length = r at co hdl ⊢
      unfold rcA at cl so co ⊢
      (refine fn_of Tryz.func102 rfl (by rfl) ?_; simp only [Tryz.ntmps102, List.length_cons, List.length_nil, Nat.reduceAdd, Nat.reduceSub, List.replicate, List.cons_append, List.nil_append])
      (repeat (any_goals (first | ((with_reducible refine evL_call ?_ ?_ ?_); rfl; rfl; intro K hK; (first | (apply opA_callR (cl) (fun r => 5); rfl; rfl; rfl; rfl; exact Tryz.func15; kernel_rfl; rfl; rfl; (intro r hr q hq h; simp only [List.map_cons, List.map_nil, List.cons_append, List.nil_append, List.mem_cons, List.not_mem_nil, or_false] at hr hq; (try dsimp only at h); first | omega); (simp only [argsOk, argOk, AV.ren, AV.renL, renL_map, List.mem_cons, List.not_mem_nil, forall_eq_or_imp, forall_eq, newOk, List.contains_cons, List.contains_nil, AV.refsL, AV.refs, refsL_map, AV.inN, AV.inNL, inH, inNL_map, go_sem])) | (apply opA_callR (so) (fun r => 5); rfl; rfl; rfl; rfl; exact Tryz.func127; kernel_rfl; rfl; rfl; (intro r hr q hq h; simp only [List.map_cons, List.map_nil, List.cons_append, List.nil_append, List.mem_cons, List.not_mem_nil, or_false] at hr hq; (try dsimp only at h); first | omega); (simp only [argsOk, argOk, AV.ren, AV.renL, renL_map, List.mem_cons, List.not_mem_nil, forall_eq_or_imp, forall_eq, newOk, List.contains_cons, List.contains_nil, AV.refsL, AV.refs, refsL_map, AV.inN, AV.inNL, inH, inNL_map, go_sem])) | (apply opA_callR (co) (fun r => 5); rfl; rfl; rfl; rfl; exact Tryz.func129; kernel_rfl; rfl; rfl; (intro r hr q hq h; simp only [List.map_cons, List.map_nil, List.cons_append, List.nil_append, List.mem_cons, List.not_mem_nil, or_false] at hr hq; (try dsimp only at h); first | omega); (simp only [argsOk, argOk, AV.ren, AV.renL, renL_map, List.mem_cons, List.not_mem_nil, forall_eq_or_imp, forall_eq, newOk, List.contains_cons, List.contains_nil, AV.refsL, AV.refs, refsL_map, AV.inN, AV.inNL, inH, inNL_map, go_sem]))); (simp only [hputs, hdels, renH, AV.ren, AV.renL, renL_map, go_sem]; refine hK _ ?_; clear hK K)) | ((with_reducible refine evL_one ?_ ?_); rfl; intro K hK; simp only [go_sem]; ((repeat (refine ndI (by first | assumption) ?_)); refine hK _ ?_; clear hK K)) | (with_reducible first | (refine evL_nil ?_; refine hR _ ?_; clear hR R) | ((first | refine evC_seq ?_); intro Ψ hΨ hΨ') | (refine evC_region ?_; intro R hR) | (refine hΨ _ ?_; clear hΨ hΨ' Ψ) | refine evC_ret ?_))))
      all_goals (refine ⟨by simp, ⟨_, ?_, AV.le_refl _⟩, leH_get (by simp [leH, hget])⟩; simp only [Tryz.results102, resL, ldA, oneOf, go_sem])
    have h := Fn.frzG (d := 5) (pcs := (ddN s l.length).flatMap apv) hrow
    simp only [AV.frz, beq_self_eq_true, if_true] at h
    rw [if_pos (flat_length apv_len _).symm] at h
    exact h
end Go.Proofs.YtmidmaeihpldhaaGreat.ax
namespace Go.Proofs.YtmidmaeihpldhaaGreat.ax
open Go.RowKit
open Nat (reduceBEq)
set_option maxRecDepth 20000
set_option maxHeartbeats 2000000
abbrev nilX : AV := .agg [.c (.v (.slice none 0 0)), .c (.v (.slice none 0 0)), .c (.v (.slice none 0 0))]
theorem nilX_le : nilX.le (xsA ⟨[], [], []⟩) := AV.le_agg ⟨AV.le_nil _ _, AV.le_nil _ _, AV.le_nil _ _, trivial⟩
abbrev res2 (r : Xs × Int) : AV := .tup [xsA r.1, vi .i64 r.2]
theorem nil2 (e : Int) : (AV.tup [nilX, vi .i64 e]).le (res2 (⟨[], [], []⟩, e)) := AV.le_tupL ⟨nilX_le, AV.le_refl _, trivial⟩
theorem new_fn (ex : Bool) (l : List Int) (hl : l.length ≤ 1000000) (hu : ∀ a ∈ l, U a) : ∃ r : List Int, r.Pairwise (· < ·) ∧ (∀ x, x ∈ r ↔ x ∈ l) ∧ r.length ≤ l.length ∧ Fn Tryz.prog 62 [asl ex l] [] (res2 (if r.length ≤ 400 then (⟨r, [], []⟩, 0) else (⟨[], [], []⟩, 6))) [] := by
  obtain ⟨r, h1, h2, h3, so⟩ := sorted_any ex l hl hu
  refine ⟨r, h1, h2, h3, ?_⟩
  by_cases h : r.length ≤ 400
  · have e : decide ((r.length : Int) > 400) = false := decide_eq_false (by omega)
    rw [if_pos h]
    (refine fn_of Tryz.func62 rfl (by rfl) ?_; simp only [Tryz.ntmps62, List.length_cons, List.length_nil, Nat.reduceAdd, Nat.reduceSub, List.replicate, List.cons_append, List.nil_append])
    (repeat (any_goals (first | ((with_reducible refine evL_call ?_ ?_ ?_); rfl; rfl; intro K hK; ((apply opA_callB (so); rfl; rfl; rfl; rfl; exact Tryz.func102); kernel_rfl; rfl; (simp only [go_sem, e]; rfl); (first | simp [AV.inNL, AV.inN])); (simp only [go_sem, e]; refine hK _ ?_; clear hK K)) | ((with_reducible refine evL_one ?_ ?_); rfl; intro K hK; simp only [go_sem, e]; ((repeat (refine ndI (by first | assumption) ?_)); refine hK _ ?_; clear hK K)) | (with_reducible first | (refine evL_nil ?_; refine hR _ ?_; clear hR R) | ((first | refine evC_seq ?_); intro Ψ hΨ hΨ') | (refine evC_region ?_; intro R hR) | (refine hΨ _ ?_; clear hΨ hΨ' Ψ) | refine evC_skip ?_ | refine evC_ret ?_) | ((with_reducible apply evC_cond); rfl; rfl; all_goals (intro hc; first | (cases hc; done) | (try simp only at hc))))))
    all_goals exact ⟨by simp, ⟨_, rfl, AV.le_tupL ⟨AV.le_agg ⟨AV.le_refl _, AV.le_nil _ _, AV.le_nil _ _, trivial⟩, AV.le_refl _, trivial⟩⟩, leH_get (by simp [leH, hget])⟩
  · have e : decide ((r.length : Int) > 400) = true := decide_eq_true (by omega)
    rw [if_neg h]
    (refine fn_of Tryz.func62 rfl (by rfl) ?_; simp only [Tryz.ntmps62, List.length_cons, List.length_nil, Nat.reduceAdd, Nat.reduceSub, List.replicate, List.cons_append, List.nil_append])
    (repeat (any_goals (first | ((with_reducible refine evL_call ?_ ?_ ?_); rfl; rfl; intro K hK; ((apply opA_callB (so); rfl; rfl; rfl; rfl; exact Tryz.func102); kernel_rfl; rfl; (simp only [go_sem, e]; rfl); (first | simp [AV.inNL, AV.inN])); (simp only [go_sem, e]; refine hK _ ?_; clear hK K)) | ((with_reducible refine evL_one ?_ ?_); rfl; intro K hK; simp only [go_sem, e]; ((repeat (refine ndI (by first | assumption) ?_)); refine hK _ ?_; clear hK K)) | (with_reducible first | (refine evL_nil ?_; refine hR _ ?_; clear hR R) | ((first | refine evC_seq ?_); intro Ψ hΨ hΨ') | (refine evC_region ?_; intro R hR) | (refine hΨ _ ?_; clear hΨ hΨ' Ψ) | refine evC_ret ?_) | ((with_reducible refine hΨ' _ _ ?_ ?_); (focus (simp; done)); clear hΨ hΨ' Ψ) | ((with_reducible apply evC_cond); rfl; rfl; all_goals (intro hc; first | (cases hc; done) | (try simp only at hc))))))
    all_goals exact ⟨by simp, ⟨_, rfl, nil2 _⟩, leH_get (by simp [leH, hget])⟩
end Go.Proofs.YtmidmaeihpldhaaGreat.ax
namespace Go.Proofs.YtmidmaeihpldhaaGreat.ax
open Go.RowKit
set_option maxRecDepth 20000
set_option maxHeartbeats 2000000
structure Dd where
  kind : Int
  s : Sp
  v : Nat
def Dd.ok (d : Dd) : Prop := (-9223372036854775808 ≤ d.kind ∧ d.kind ≤ 9223372036854775807) ∧ d.s.ok ∧ d.v < WW
end Go.Proofs.YtmidmaeihpldhaaGreat.ax
namespace Go.Proofs.YtmidmaeihpldhaaGreat.ax
open Go.RowKit
section
variable {α : Type} {key : α → Int}
end
structure Vx (x : Xs) : Prop where
  ra : Rises aKey x.ad
  rs : Rises Sp.key x.sp
  rp : Rises Pg.key x.pg
  nz : ∀ p ∈ x.pg, p.v ≠ 0
  la : x.ad.length ≤ 400
  ls : x.sp.length ≤ 400
  lp : x.pg.length ≤ 400
theorem Vx.few {x : Xs} (h : Vx x) : x.few := ⟨by have := h.la; omega, by have := h.ls; omega, by have := h.lp; omega⟩
end Go.Proofs.YtmidmaeihpldhaaGreat.ax
namespace Go.Proofs.YtmidmaeihpldhaaGreat.ax
open Go.RowKit
open Nat (reduceBEq)
set_option maxRecDepth 20000
set_option maxHeartbeats 2000000
theorem St.le_set {T : List AV} {H : List (Nat × List AV)} {k : Nat} {x y : AV} (hx : T.getD k .any = x) (hk : k < T.length) (h : x.le y) : (St.mk T H).le (St.mk (T.set k y) H) :=
  ⟨by simp, fun i => by
    show (T.getD i .any).le ((T.set k y).getD i .any)
    rw [List.getD_eq_getElem?_getD, List.getD_eq_getElem?_getD]
    by_cases e : k = i
    · subst e
      rw [List.getElem?_set_self hk, ← List.getD_eq_getElem?_getD, hx]
      exact h
    · rw [List.getElem?_set_ne e]
      exact AV.le_refl _, fun _ _ h => h⟩
theorem St.le_trans {a b c : St} (h : a.le b) (g : b.le c) : a.le c :=
  ⟨h.1.trans g.1, fun i S ι w v hv => g.2 i S ι w v (h.2 i S ι w v hv), fun r cs hr => h.3 r cs (g.3 r cs hr)⟩
def posD : List Int → Int → Nat
  | [], _ => 0
  | y :: l, x => if y < x then posD l x + 1 else 0
theorem posD_le : ∀ (l : List Int) (x : Int), posD l x ≤ l.length
  | [], _ => Nat.le_refl _
  | y :: l, x => by
    have := posD_le l x
    unfold posD
    split
    · rw [List.length_cons]; omega
    · exact Nat.zero_le _
theorem posD_lt : ∀ {l : List Int} {x : Int} {i : Nat} {y : Int}, i < posD l x → l[i]? = some y → y < x
  | [], x, i, y, h, hy => by cases hy
  | z :: l, x, i, y, h, hy => by
    unfold posD at h
    split at h
    · rename_i hz
      cases i with
      | zero => cases hy; exact hz
      | succ i => exact posD_lt (Nat.lt_of_succ_lt_succ h) hy
    · omega
theorem posD_ge : ∀ {l : List Int} {x : Int} {y : Int}, l[posD l x]? = some y → x ≤ y
  | [], x, y, hy => by cases hy
  | z :: l, x, y, hy => by
    unfold posD at hy
    split at hy
    · exact posD_ge (l := l) hy
    · rename_i hz
      cases hy
      omega
def insD (l : List Int) (x : Int) : List Int := if l[posD l x]? = some x then l else l.take (posD l x) ++ ([x] ++ l.drop (posD l x))
def resD (l : List Int) : Nat → List Int
  | 0 => []
  | i + 1 => match l[i]? with
    | none => resD l i
    | some x => insD (resD l i) x
theorem insD_len (l : List Int) (x : Int) : (insD l x).length ≤ l.length + 1 := by
  unfold insD
  split
  · omega
  · simp; have := posD_le l x; omega
theorem resD_len (l : List Int) : ∀ i, (resD l i).length ≤ i
  | 0 => Nat.le_refl _
  | i + 1 => by
    have ih := resD_len l i
    unfold resD
    split
    · omega
    · have := insD_len (resD l i) ‹Int›; omega
theorem asl_map (l : List Int) : l.flatMap apv = l.map fun a => PV.v (.int .u64 a) := by
  induction l with
  | nil => rfl
  | cons a l ih => rw [List.flatMap_cons, ih]; rfl
theorem asl_drop (l : List Int) (k : Nat) : (l.flatMap apv).drop k = (l.drop k).flatMap apv := by
  rw [asl_map, asl_map, List.map_drop]
theorem sortedR_fn (ex : Bool) (l : List Int) (hl : l.length ≤ 100000) : Fn Tryz.prog 64 [asl ex l] [] (asl false (resD l l.length)) [] := by
  obtain ⟨tot, htot⟩ : ∃ t, resD l l.length = t := ⟨_, rfl⟩
  rw [htot]
  (refine fn_of Tryz.func64 rfl (by rfl) ?_; simp only [Tryz.ntmps64, List.length_cons, List.length_nil, Nat.reduceAdd, Nat.reduceSub, List.replicate, List.cons_append, List.nil_append])
  (repeat (any_goals (first | ((with_reducible refine evL_one ?_ ?_); rfl; intro K hK; simp only [go_sem]; ((repeat (refine ndI (by first | assumption) ?_)); refine hK _ ?_; clear hK K)) | (with_reducible first | (refine evL_nil ?_; refine hR _ ?_; clear hR R) | ((first | refine evC_seq ?_ | refine evC_block ?_); intro Ψ hΨ hΨ') | (refine evC_region ?_; intro R hR) | (refine hΨ _ ?_; clear hΨ hΨ' Ψ)))))
  refine evC_upto l.length (fun i => ⟨[asl ex l, .any, .any, asl false (resD l i), vi .i64 (i : Int), .any, .any, .any, .any, .any, .any, .any, .any, .any, .any, .any, .any, .any, .any, .any, .any, .any, .any, .any, .any, .any, .any, .any, .any, .any, .any, .any, .any, .any, .any, .any, .any, .any, .any, .any, .any, .any, .any, .any, .any, .any, .any, .any, .any, .any, .any, .any, .any, .any, .any, .any, .any, .any, .any], []⟩) (St.le_trans (St.le_set (k := 3) (x := .c (.v (.slice none 0 0))) rfl (by simp) (AV.le_nil false 1)) (St.le_of (by simp [leT, resD]) (by simp [leH]))) ?_
  intro i hi Ψ hΨ hΨ'
  (try dsimp only at hΨ ⊢)
  rcases Nat.lt_or_ge i l.length with hlt | hge
  · have k1 : (decide ((i : Int) < (l.length : Int))) = true := by simp; omega
    have k7 : (i : Int) + 1 = ((i + 1 : Nat) : Int) := by omega
    obtain ⟨x, hx⟩ : ∃ x, l[i]? = some x := ⟨_, List.getElem?_eq_getElem hlt⟩
    have k2 := asl_at hx
    have hol := resD_len l i
    have hrs : resD l (i + 1) = insD (resD l i) x := by
      show (match l[i]? with | none => _ | some x => _) = _
      rw [hx]
    rw [hrs] at hΨ
    generalize resD l i = out at hol hΨ ⊢
    obtain ⟨p, hp⟩ : ∃ p, posD out x = p := ⟨_, rfl⟩
    obtain ⟨nxt, hnx⟩ : ∃ r, insD out x = r := ⟨_, rfl⟩
    have hpl : p ≤ out.length := by rw [← hp]; exact posD_le out x
    have hlow : ∀ a y, a < p → out[a]? = some y → y < x := fun a y ha hy => posD_lt (by rw [hp]; exact ha) hy
    have hge' : ∀ y, out[p]? = some y → x ≤ y := fun y hy => posD_ge (by rw [hp]; exact hy)
    have hdup : out[p]? = some x → nxt = out := fun h => by rw [← hnx]; unfold insD; rw [hp, if_pos h]
    have hnew : out[p]? ≠ some x → nxt = out.take p ++ ([x] ++ out.drop p) := fun h => by rw [← hnx]; unfold insD; rw [hp, if_neg h]
    rw [hnx] at hΨ
    clear hrs hp hnx
    (repeat (any_goals (first | ((with_reducible refine evL_one ?_ ?_); rfl; intro K hK; simp (disch := omega) only [go_sem, k1]; ((repeat (refine ndI (by first | assumption | rfl) ?_)); refine hK _ ?_; clear hK K)) | (with_reducible first | (refine evL_nil ?_; refine hR _ ?_; clear hR R) | ((first | refine evC_seq ?_ | refine evC_block ?_); intro Ψ hΨ hΨ') | (refine evC_region ?_; intro R hR) | (refine hΨ _ ?_; clear hΨ hΨ' Ψ) | refine evC_skip ?_) | ((with_reducible apply evC_cond); rfl; rfl; all_goals (intro hc; first | (cases hc; done) | (try simp only at hc))))))
    refine evC_upto p (fun a => ⟨[asl ex l, .any, .any, asl false out, vi .i64 (i : Int), vi .i64 (a : Int), .any, .any, .any, .any, .any, .any, .any, .any, .any, .any, .any, .any, .any, .any, .any, .any, .any, .any, .any, .any, .any, .any, .any, .any, .any, .any, .any, .any, .any, .any, .any, .any, .any, .any, .any, .any, .any, .any, .any, .any, .any, .any, .any, .any, .any, .any, .any, .any, .any, .any, .any, .any, .any], []⟩) (St.le_of (by simp [leT]) (by simp [leH])) ?_
    intro a ha Ψ hΨ hΨ'
    (try dsimp only at hΨ ⊢)
    rcases Nat.lt_or_ge a p with halt | hage
    · obtain ⟨y, hy⟩ : ∃ y, out[a]? = some y := ⟨_, List.getElem?_eq_getElem (by omega)⟩
      have n1 : (decide ((a : Int) < (out.length : Int))) = true := by simp; omega
      have n2 : (decide (y < x)) = true := decide_eq_true (hlow a y halt hy)
      have n3 := asl_at hy
      have n7 : (a : Int) + 1 = ((a + 1 : Nat) : Int) := by omega
      have hal : a < out.length := by omega
      (have W := ndI n1 (ndI n2 (ndI n3 (ndI n7 (ndI k2 @wrI)))); (repeat (any_goals (first | ((with_reducible refine evL_one ?_ ?_); rfl; intro K hK; simp (disch := omega) only [go_sem, W, Nat.mul_one]; ((repeat (refine ndI (by first | assumption | rfl) ?_)); refine hK _ ?_; clear hK K)) | (with_reducible first | (refine evL_nil ?_; refine hR _ ?_; clear hR R) | ((first | refine evC_seq ?_ | refine evC_block ?_); intro Ψ hΨ hΨ') | (refine evC_region ?_; intro R hR) | (refine hΨ _ ?_; clear hΨ hΨ' Ψ) | refine evC_skip ?_) | ((with_reducible refine hΨ' _ _ ?_ ?_); (focus (simp; done)); clear hΨ hΨ' Ψ) | ((with_reducible apply evC_cond); rfl; rfl; all_goals (intro hc; first | (cases hc; done) | (try simp only at hc))) | ((with_reducible refine evD_nil ?_ ?_); kernel_rfl; (with_reducible refine hR _ ?_); clear hR R) | ((first | ((first | ((with_reducible apply evD_any); rfl; rfl) | ((with_reducible apply evD_gany); rfl; rfl; rfl; rfl; rfl)); (simp (disch := omega) only [rdE, rdOf, go_sem, W, Nat.mul_one]; rfl); (intro τ hA hQ hN; ((try simp only [agree, Op.operands, Call.operands, go_sem, W, Nat.mul_one, go_sem, List.mem_cons, List.not_mem_nil, forall_eq_or_imp, forall_eq, List.append_toArray, Option.toArray] at hA); (try simp only [go_sem, W, Nat.mul_one, List.mem_cons, List.not_mem_nil, forall_eq_or_imp, forall_eq] at hQ hN); (first | (revert hA; intro hA)); (first | (revert hQ; intro hQ)); (first | (revert hN; intro hN)); simp (disch := omega) only [go_sem, W, Nat.mul_one, go_sem, hA, hQ, hN]; (repeat (refine ndI (by first | assumption | omega | rfl) ?_)); (first | apply eff_rd))))); (simp (disch := omega) only [St.eff, setO, hputs, go_sem, W, Nat.mul_one])) | ((with_reducible refine evC_draw ?_ ?_ ?_ ?_); kernel_rfl; kernel_rfl; (first | kernel_rfl); intro R hR)))))
      all_goals exact hΨ _ halt (St.le_of (by simp [leT]) (by simp [leH]))
    · have eap : a = p := by omega
      rw [eap]
      obtain ⟨T, hT⟩ : ∃ T, (out.take p).flatMap apv = T := ⟨_, rfl⟩
      obtain ⟨D, hD⟩ : ∃ D, (out.drop p).flatMap apv = D := ⟨_, rfl⟩
      have f1 : (out.flatMap apv).take p = T := by rw [asl_take, hT]
      have f2 : ((out.flatMap apv).drop p).take (out.length - p) = D := by
        rw [asl_drop, hD, List.take_of_length_le]
        rw [← hD, flat_length apv_len, List.length_drop]
        omega
      have f3 : T.length = p := by rw [← hT, flat_length apv_len, List.length_take]; omega
      have f4 : D.length = out.length - p := by rw [← hD, flat_length apv_len, List.length_drop]; omega
      have heq : out[p]? ≠ some x → AV.c (.sl false 1 (p + (1 + (out.length - p))) (T ++ (PV.v (.int .u64 x) :: D))) = asl false nxt := fun h => by
        rw [hnew h]
        unfold asl
        rw [List.flatMap_append, List.flatMap_append, hT, hD, List.length_append, List.length_append, List.length_take, List.length_drop, Nat.min_eq_left hpl]
        rfl
      rcases Nat.lt_or_ge p out.length with hpL | hpL
      · obtain ⟨y, hy⟩ : ∃ y, out[p]? = some y := ⟨_, List.getElem?_eq_getElem hpL⟩
        have n1 : (decide ((p : Int) < (out.length : Int))) = true := by simp; omega
        have n2 : (decide (y < x)) = false := decide_eq_false (by have := hge' y hy; omega)
        have n3 := asl_at hy
        by_cases hyx : y = x
        · have n4 : (y == x) = true := by simp [hyx]
          have en := hdup (by rw [hy, hyx])
          (have W := ndI n1 (ndI n2 (ndI n3 (ndI n4 (ndI k2 (ndI k7 @wrI))))); (repeat (any_goals (first | ((with_reducible refine evL_one ?_ ?_); rfl; intro K hK; simp (disch := omega) only [go_sem, W, Nat.mul_one]; ((repeat (refine ndI (by first | assumption | rfl) ?_)); refine hK _ ?_; clear hK K)) | (with_reducible first | (refine evL_nil ?_; refine hR _ ?_; clear hR R) | ((first | refine evC_seq ?_); intro Ψ hΨ hΨ') | (refine evC_region ?_; intro R hR) | (refine hΨ _ ?_; clear hΨ hΨ' Ψ) | refine evC_exit ?_) | ((with_reducible refine hΨ' _ _ ?_ ?_); (focus (simp; done)); clear hΨ hΨ' Ψ) | ((with_reducible apply evC_cond); rfl; rfl; all_goals (intro hc; first | (cases hc; done) | (try simp only at hc))) | ((with_reducible refine evD_nil ?_ ?_); kernel_rfl; (with_reducible refine hR _ ?_); clear hR R) | ((first | ((first | ((with_reducible apply evD_any); rfl; rfl) | ((with_reducible apply evD_gany); rfl; rfl; rfl; rfl; rfl)); (simp (disch := omega) only [rdE, rdOf, go_sem, W, Nat.mul_one]; rfl); (intro τ hA hQ hN; ((try simp only [agree, Op.operands, Call.operands, go_sem, W, Nat.mul_one, go_sem, List.mem_cons, List.not_mem_nil, forall_eq_or_imp, forall_eq, List.append_toArray, Option.toArray] at hA); (try simp only [go_sem, W, Nat.mul_one, List.mem_cons, List.not_mem_nil, forall_eq_or_imp, forall_eq] at hQ hN); (first | (revert hA; intro hA)); (first | (revert hQ; intro hQ)); (first | (revert hN; intro hN)); simp (disch := omega) only [go_sem, W, Nat.mul_one, go_sem, hA, hQ, hN]; (repeat (refine ndI (by first | assumption | omega | rfl) ?_)); (first | apply eff_rd))))); (simp (disch := omega) only [St.eff, setO, hputs, go_sem, W, Nat.mul_one])) | ((with_reducible refine evC_draw ?_ ?_ ?_ ?_); kernel_rfl; kernel_rfl; (first | kernel_rfl); intro R hR)))))
          all_goals exact hΨ _ hlt (St.le_of (by simp [leT, en]) (by simp [leH]))
        · have n4 : (y == x) = false := by simp [hyx]
          have en := heq (by rw [hy]; exact fun e => hyx (Option.some.inj e))
          (have W := ndI n1 (ndI n2 (ndI n3 (ndI n4 (ndI k2 (ndI k7 (ndI f1 (ndI f2 @wrI))))))); (repeat (any_goals (first | ((with_reducible refine evL_one ?_ ?_); rfl; intro K hK; simp (disch := omega) only [go_sem, W, en, eq_self, decide_true, Nat.mul_one]; ((repeat (refine ndI (by first | assumption | rfl) ?_)); refine hK _ ?_; clear hK K)) | (with_reducible first | (refine evL_nil ?_; refine hR _ ?_; clear hR R) | ((first | refine evC_seq ?_); intro Ψ hΨ hΨ') | (refine evC_region ?_; intro R hR) | (refine hΨ _ ?_; clear hΨ hΨ' Ψ) | refine evC_skip ?_ | refine evC_exit ?_) | ((with_reducible refine hΨ' _ _ ?_ ?_); (focus (simp; done)); clear hΨ hΨ' Ψ) | ((with_reducible apply evC_cond); rfl; rfl; all_goals (intro hc; first | (cases hc; done) | (try simp only at hc))) | ((with_reducible refine evD_nil ?_ ?_); kernel_rfl; (with_reducible refine hR _ ?_); clear hR R) | ((first | ((first | ((with_reducible apply evD_any); rfl; rfl) | ((with_reducible apply evD_gany); rfl; rfl; rfl; rfl; rfl)); (simp (disch := omega) only [rdE, rdOf, go_sem, W, en, eq_self, decide_true, Nat.mul_one]; rfl); (intro τ hA hQ hN; ((try simp only [agree, Op.operands, Call.operands, go_sem, W, en, eq_self, decide_true, Nat.mul_one, go_sem, List.mem_cons, List.not_mem_nil, forall_eq_or_imp, forall_eq, List.append_toArray, Option.toArray] at hA); (try simp only [go_sem, W, en, eq_self, decide_true, Nat.mul_one, List.mem_cons, List.not_mem_nil, forall_eq_or_imp, forall_eq] at hQ hN); (first | (revert hA; intro hA)); (first | (revert hQ; intro hQ)); (first | (revert hN; intro hN)); simp (disch := omega) only [go_sem, W, en, eq_self, decide_true, Nat.mul_one, go_sem, hA, hQ, hN]; (repeat (refine ndI (by first | assumption | omega | rfl) ?_)); (first | apply eff_rd)))) | ((with_reducible apply evD_append_flat); rfl; rfl; rfl; rfl; (focus (simp only [go_sem]; try rfl)); (first | omega); (first | omega); rfl; rfl; (focus (first | omega | (simp (disch := omega) only [go_sem, W, en, eq_self, decide_true, Nat.mul_one, spl, List.length_append, List.length_map, List.length_take, List.length_drop, List.length_replicate]; omega))); (focus (first | omega | (focus (simp [spl]; done)))); (focus (first | omega)); rfl; (focus (first | omega))) | ((first | ((with_reducible apply evD_one); rfl)); apply opF_buildSlice_flat; rfl; rfl; (focus (simp only [go_sem]; try rfl)); (focus (simp only [go_sem]; try rfl)); rfl; (first | omega); (first | omega); (first | omega); (simp (disch := omega) only [go_sem, W, en, eq_self, decide_true, Nat.mul_one]; rfl); rfl; (focus ((simp (disch := omega) only [unC, Option.map_some]); (try rfl))))); (simp (disch := omega) only [St.eff, setO, hputs, go_sem, W, en, eq_self, decide_true, Nat.mul_one])) | ((with_reducible refine evC_draw ?_ ?_ ?_ ?_); kernel_rfl; kernel_rfl; (first | kernel_rfl); intro R hR)))))
          all_goals exact hΨ _ hlt (St.le_of (by simp [leT]) (by simp [leH]))
      · have n1 : (decide ((p : Int) < (out.length : Int))) = false := by simp; omega
        have en := heq (by rw [List.getElem?_eq_none hpL]; exact fun e => by cases e)
        (have W := ndI n1 (ndI k2 (ndI k7 (ndI f1 (ndI f2 @wrI)))); (repeat (any_goals (first | ((with_reducible refine evL_one ?_ ?_); rfl; intro K hK; simp (disch := omega) only [go_sem, W, en, eq_self, decide_true, Nat.mul_one]; ((repeat (refine ndI (by first | assumption | rfl) ?_)); refine hK _ ?_; clear hK K)) | (with_reducible first | (refine evL_nil ?_; refine hR _ ?_; clear hR R) | ((first | refine evC_seq ?_); intro Ψ hΨ hΨ') | (refine evC_region ?_; intro R hR) | (refine hΨ _ ?_; clear hΨ hΨ' Ψ) | refine evC_skip ?_ | refine evC_exit ?_) | ((with_reducible refine hΨ' _ _ ?_ ?_); (focus (simp; done)); clear hΨ hΨ' Ψ) | ((with_reducible apply evC_cond); rfl; rfl; all_goals (intro hc; first | (cases hc; done) | (try simp only at hc))) | ((with_reducible refine evD_nil ?_ ?_); kernel_rfl; (with_reducible refine hR _ ?_); clear hR R) | ((first | ((with_reducible apply evD_skip); rfl; rfl; rfl; rfl) | ((first | ((with_reducible apply evD_any); rfl; rfl)); (simp (disch := omega) only [rdE, rdOf, go_sem, W, en, eq_self, decide_true, Nat.mul_one]; rfl); (intro τ hA hQ hN; ((try simp only [agree, Op.operands, Call.operands, go_sem, W, en, eq_self, decide_true, Nat.mul_one, go_sem, List.mem_cons, List.not_mem_nil, forall_eq_or_imp, forall_eq, List.append_toArray, Option.toArray] at hA); (try simp only [go_sem, W, en, eq_self, decide_true, Nat.mul_one, List.mem_cons, List.not_mem_nil, forall_eq_or_imp, forall_eq] at hQ hN); (first | (revert hA; intro hA)); (first | (revert hQ; intro hQ)); (first | (revert hN; intro hN)); simp (disch := omega) only [go_sem, W, en, eq_self, decide_true, Nat.mul_one, go_sem, hA, hQ, hN]; (repeat (refine ndI (by first | assumption | omega | rfl) ?_)); (first | apply eff_rd)))) | ((with_reducible apply evD_append_flat); rfl; rfl; rfl; rfl; (focus (simp only [go_sem]; try rfl)); (first | omega); (first | omega); rfl; rfl; (focus (first | omega | (simp (disch := omega) only [go_sem, W, en, eq_self, decide_true, Nat.mul_one, spl, List.length_append, List.length_map, List.length_take, List.length_drop, List.length_replicate]; omega))); (focus (first | omega | (focus (simp [spl]; done)))); (focus (first | omega)); rfl; (focus (first | omega))) | ((first | ((with_reducible apply evD_one); rfl)); apply opF_buildSlice_flat; rfl; rfl; (focus (simp only [go_sem]; try rfl)); (focus (simp only [go_sem]; try rfl)); rfl; (first | omega); (first | omega); (first | omega); (simp (disch := omega) only [go_sem, W, en, eq_self, decide_true, Nat.mul_one]; rfl); rfl; (focus ((simp (disch := omega) only [unC, Option.map_some]); (try rfl))))); (simp (disch := omega) only [St.eff, setO, hputs, go_sem, W, en, eq_self, decide_true, Nat.mul_one])) | ((with_reducible refine evC_draw ?_ ?_ ?_ ?_); kernel_rfl; kernel_rfl; (first | kernel_rfl); intro R hR)))))
        all_goals exact hΨ _ hlt (St.le_of (by simp [leT]) (by simp [leH]))
  · have k1 : (decide ((i : Int) < (l.length : Int))) = false := by simp; omega
    obtain rfl : i = l.length := by omega
    rw [htot]
    (repeat (any_goals (first | ((with_reducible refine evL_one ?_ ?_); rfl; intro K hK; simp only [go_sem, k1]; ((repeat (refine ndI (by first | assumption) ?_)); refine hK _ ?_; clear hK K)) | (with_reducible first | (refine evL_nil ?_; refine hR _ ?_; clear hR R) | ((first | refine evC_seq ?_); intro Ψ hΨ hΨ') | (refine evC_region ?_; intro R hR) | (refine hΨ _ ?_; clear hΨ hΨ' Ψ) | refine evC_ret ?_ | refine evC_exit ?_) | ((with_reducible refine hΨ' _ _ ?_ ?_); (focus (simp; done)); clear hΨ hΨ' Ψ) | ((with_reducible apply evC_cond); rfl; rfl; all_goals (intro hc; first | (cases hc; done) | (try simp only at hc))))))
    all_goals (refine ⟨by simp, ⟨_, ?_, AV.le_refl _⟩, leH_get (by simp [leH, hget])⟩; simp only [Tryz.results64, resL, ldA, oneOf, go_sem])
end Go.Proofs.YtmidmaeihpldhaaGreat.ax
namespace Go.Proofs.YtmidmaeihpldhaaGreat.ax
open Go.RowKit
theorem insD_cons (y : Int) (l : List Int) (x : Int) : insD (y :: l) x = if y < x then y :: insD l x else if y = x then y :: l else x :: y :: l := by
  by_cases h : y < x
  · rw [if_pos h]
    unfold insD
    have e : posD (y :: l) x = posD l x + 1 := by show (if y < x then _ else _) = _; rw [if_pos h]
    rw [e, List.getElem?_cons_succ]
    split <;> simp
  · rw [if_neg h]
    unfold insD
    have e : posD (y :: l) x = 0 := by show (if y < x then _ else _) = _; rw [if_neg h]
    rw [e, List.getElem?_cons_zero]
    by_cases h2 : y = x
    · rw [if_pos (by rw [h2]), if_pos h2]
    · rw [if_neg (fun e => h2 (Option.some.inj e)), if_neg h2]
      rfl
theorem insD_mem : ∀ (l : List Int) (x z : Int), z ∈ insD l x ↔ z = x ∨ z ∈ l
  | [], x, z => by simp [insD, posD]
  | y :: l, x, z => by
    have ih := insD_mem l x z
    rw [insD_cons]
    split
    · rw [List.mem_cons, List.mem_cons, ih]
      constructor
      · rintro (h | h | h)
        · exact .inr (.inl h)
        · exact .inl h
        · exact .inr (.inr h)
      · rintro (h | h | h)
        · exact .inr (.inl h)
        · exact .inl h
        · exact .inr (.inr h)
    · split
      · rename_i h
        rw [List.mem_cons, h]
        constructor
        · exact .inr
        · rintro (h | h)
          · exact .inl h
          · exact h
      · rw [List.mem_cons]
theorem insD_lt : ∀ (l : List Int) (x : Int), l.Pairwise (· < ·) → (insD l x).Pairwise (· < ·)
  | [], x, _ => by simp [insD, posD]
  | y :: l, x, h => by
    rw [List.pairwise_cons] at h
    have ih := insD_lt l x h.2
    rw [insD_cons]
    split
    · rename_i hyx
      rw [List.pairwise_cons]
      refine ⟨fun z hz => ?_, ih⟩
      rcases (insD_mem l x z).1 hz with rfl | hz
      · exact hyx
      · exact h.1 z hz
    · split
      · exact List.pairwise_cons.2 h
      · rw [List.pairwise_cons]
        refine ⟨fun z hz => ?_, List.pairwise_cons.2 h⟩
        rcases List.mem_cons.1 hz with rfl | hz
        · omega
        · have := h.1 z hz; omega
theorem resD_all (l : List Int) : ∀ i, i ≤ l.length → (resD l i).Pairwise (· < ·) ∧ ∀ x, x ∈ resD l i ↔ x ∈ l.take i
  | 0, _ => by simp [resD]
  | i + 1, h => by
    obtain ⟨h1, h2⟩ := resD_all l i (by omega)
    have hb : l[i]? = some (l[i]'(by omega)) := List.getElem?_eq_getElem (by omega)
    have e : resD l (i + 1) = insD (resD l i) (l[i]'(by omega)) := by
      show (match l[i]? with | none => _ | some x => _) = _
      rw [hb]
    rw [e]
    refine ⟨insD_lt _ _ h1, fun x => ?_⟩
    rw [insD_mem, h2, List.take_add_one, hb, List.mem_append, or_comm]
    simp
theorem res_uniq {l r : List Int} (h1 : r.Pairwise (· < ·)) (h2 : ∀ x, x ∈ r ↔ x ∈ l) : resD l l.length = r := by
  obtain ⟨g1, g2⟩ := resD_all l l.length (Nat.le_refl _)
  refine rise_eq g1 h1 fun x => ?_
  rw [g2, h2, List.take_length]
end Go.Proofs.YtmidmaeihpldhaaGreat.ax
namespace Go.Proofs.YtmidmaeihpldhaaGreat.ax
open Go.RowKit
open Nat (reduceBEq)
set_option maxRecDepth 20000
set_option maxHeartbeats 2000000
theorem cmpN_lt0 (x y : Nat) : decide (cmpN x y < 0) = decide (x < y) := by
  unfold cmpN
  by_cases h : x < y
  · simp [h]
  · by_cases h2 : y < x <;> simp [h, h2]
theorem before_fn (s t : Sp) (hs : s.ok) (ht : t.ok) : Fn Tryz.prog 105 [spA s, spA t] [] (vb (decide (s.key < t.key))) [] := by
  have cm := refcmp_fn s.k t.k hs.2 ht.2
  have e3 := cmpN_lt0 s.k t.k
  have hk := Sp.key_lt hs ht
  obtain ⟨r, hr⟩ : ∃ r, decide (s.key < t.key) = r := ⟨_, rfl⟩
  rw [hr]
  generalize cmpN s.k t.k = c at cm e3
  rcases Int.lt_trichotomy s.a t.a with h | h | h
  · have e1 : decide (s.a < t.a) = true := decide_eq_true h
    have er : r = true := by rw [← hr]; exact decide_eq_true (hk.2 (.inl h))
    obtain ⟨sa, sk⟩ := s
    obtain ⟨ta, tk⟩ := t
    clear hk hr
    dsimp only at *
    (refine fn_of Tryz.func105 rfl (by rfl) ?_; simp only [Tryz.ntmps105, List.length_cons, List.length_nil, Nat.reduceAdd, Nat.reduceSub, List.replicate, List.cons_append, List.nil_append])
    (repeat (any_goals (first | ((with_reducible refine evL_one ?_ ?_); rfl; intro K hK; simp only [go_sem, e1]; ((repeat (refine ndI (by first | assumption) ?_)); refine hK _ ?_; clear hK K)) | (with_reducible first | (refine evL_nil ?_; refine hR _ ?_; clear hR R) | ((first | refine evC_seq ?_); intro Ψ hΨ hΨ') | (refine evC_region ?_; intro R hR) | (refine hΨ _ ?_; clear hΨ hΨ' Ψ) | refine evC_ret ?_) | ((with_reducible apply evL_unmet); rfl; rfl; rfl; (try simp only [go_sem, e1])) | ((with_reducible apply evL_grd); rfl; rfl; rfl; all_goals (intro hb; first | (cases hb; done) | ((try simp only [Bool.not_true, Bool.not_false] at hb); (first | ((fail_if_success (with_reducible intro _)); simp only [go_sem, e1]))))))))
    all_goals rw [er]
    all_goals (refine ⟨by simp, ⟨_, ?_, AV.le_refl _⟩, leH_get (by simp [leH, hget])⟩; simp only [Tryz.results105, resL, ldA, oneOf, go_sem])
  · have e1 : decide (s.a < t.a) = false := decide_eq_false (by omega)
    have e2 : (s.a == t.a) = true := by simpa using h
    have er : decide (s.k < t.k) = r := by
      rw [← hr]
      exact decide_eq_decide.2 ⟨fun g => hk.2 (.inr ⟨h, g⟩), fun g => by rcases hk.1 g with g | g; omega; exact g.2⟩
    rw [er] at e3
    obtain ⟨sa, sk⟩ := s
    obtain ⟨ta, tk⟩ := t
    clear hk hr er
    dsimp only at *
    (refine fn_of Tryz.func105 rfl (by rfl) ?_; simp only [Tryz.ntmps105, List.length_cons, List.length_nil, Nat.reduceAdd, Nat.reduceSub, List.replicate, List.cons_append, List.nil_append])
    (have W := ndI e1 (ndI e2 e3); (repeat (any_goals (first | ((with_reducible refine evL_one ?_ ?_); rfl; intro K hK; simp only [go_sem, W]; ((repeat (refine ndI (by first | assumption) ?_)); refine hK _ ?_; clear hK K)) | (with_reducible first | (refine evL_nil ?_; refine hR _ ?_; clear hR R) | ((first | refine evC_seq ?_); intro Ψ hΨ hΨ') | (refine evC_region ?_; intro R hR) | (refine hΨ _ ?_; clear hΨ hΨ' Ψ) | refine evC_ret ?_) | ((with_reducible apply evL_grd); rfl; rfl; rfl; all_goals (intro hb; first | (cases hb; done) | ((try simp only [Bool.not_true, Bool.not_false] at hb); (first | ((with_reducible intro K hK); (first | ((apply opA_callB (cm); rfl; rfl; rfl; rfl; exact Tryz.func107); kernel_rfl; rfl; (simp only [go_sem, W]; rfl); (first | simp [AV.inNL, AV.inN])) | skip); simp only [go_sem, W]; ((repeat (refine ndI (by first | assumption) ?_)); refine hK _ ?_; clear hK K))))))))))
    all_goals (refine ⟨by simp, ⟨_, ?_, AV.le_refl _⟩, leH_get (by simp [leH, hget])⟩; simp only [Tryz.results105, resL, ldA, oneOf, go_sem])
  · have e1 : decide (s.a < t.a) = false := decide_eq_false (by omega)
    have e2 : (s.a == t.a) = false := by
      rw [beq_eq_false_iff_ne]; omega
    have er : r = false := by rw [← hr]; exact decide_eq_false fun g => by rcases hk.1 g with g | g; omega; omega
    obtain ⟨sa, sk⟩ := s
    obtain ⟨ta, tk⟩ := t
    clear hk hr
    dsimp only at *
    (refine fn_of Tryz.func105 rfl (by rfl) ?_; simp only [Tryz.ntmps105, List.length_cons, List.length_nil, Nat.reduceAdd, Nat.reduceSub, List.replicate, List.cons_append, List.nil_append])
    (repeat (any_goals (first | ((with_reducible refine evL_one ?_ ?_); rfl; intro K hK; simp only [go_sem, e1, e2]; ((repeat (refine ndI (by first | assumption) ?_)); refine hK _ ?_; clear hK K)) | (with_reducible first | (refine evL_nil ?_; refine hR _ ?_; clear hR R) | ((first | refine evC_seq ?_); intro Ψ hΨ hΨ') | (refine evC_region ?_; intro R hR) | (refine hΨ _ ?_; clear hΨ hΨ' Ψ) | refine evC_ret ?_) | ((with_reducible apply evL_grd); rfl; rfl; rfl; all_goals (intro hb; first | (cases hb; done) | ((try simp only [Bool.not_true, Bool.not_false] at hb); (first | ((with_reducible intro K hK); (first | skip); simp only [go_sem, e1, e2]; ((repeat (refine ndI (by first | assumption) ?_)); refine hK _ ?_; clear hK K)) | ((fail_if_success (with_reducible intro _)); simp only [go_sem, e1, e2]))))))))
    all_goals rw [er]
    all_goals (refine ⟨by simp, ⟨_, ?_, AV.le_refl _⟩, leH_get (by simp [leH, hget])⟩; simp only [Tryz.results105, resL, ldA, oneOf, go_sem])
theorem sameA_fn (e1 e2 : Bool) (l m : List Int) (hl : l.length ≤ 1000000) (hm : m.length ≤ 1000000) : Fn Tryz.prog 106 [asl e1 l, asl e2 m] [] (vb (decide (l = m))) [] := by
  by_cases hlen : l.length = m.length
  · have k0 : ((l.length : Int) != (m.length : Int)) = false := by rw [hlen]; simp
    obtain ⟨r, hr⟩ : ∃ r, decide (l = m) = r := ⟨_, rfl⟩
    rw [hr]
    (refine fn_of Tryz.func106 rfl (by rfl) ?_; simp only [Tryz.ntmps106, List.length_cons, List.length_nil, Nat.reduceAdd, Nat.reduceSub, List.replicate, List.cons_append, List.nil_append])
    (repeat (any_goals (first | ((with_reducible refine evL_one ?_ ?_); rfl; intro K hK; simp only [go_sem, k0]; ((repeat (refine ndI (by first | assumption) ?_)); refine hK _ ?_; clear hK K)) | (with_reducible first | (refine evL_nil ?_; refine hR _ ?_; clear hR R) | ((first | refine evC_seq ?_ | refine evC_block ?_); intro Ψ hΨ hΨ') | (refine evC_region ?_; intro R hR) | (refine hΨ _ ?_; clear hΨ hΨ' Ψ) | refine evC_skip ?_) | ((with_reducible apply evC_cond); rfl; rfl; all_goals (intro hc; first | (cases hc; done) | (try simp only at hc))))))
    refine evC_loop (α := { i : Nat // i ≤ l.length ∧ ∀ j, j < i → l[j]? = m[j]? }) (fun p => ⟨[asl e1 l, asl e2 m, .any, .any, vb false, vi .i64 (p.1 : Int), .any, .any, .any, .any, .any, .any, .any, .any, .any, .any, .any, .any, .any, .any, .any, .any, .any, .any, .any, .any], []⟩) (fun p => l.length - p.1) ⟨0, Nat.zero_le _, fun j hj => by omega⟩ (St.le_of (by simp [leT]) (by simp [leH])) ?_
    rintro ⟨i, hi, hno⟩ Ψ hΨ hΨ'
    (try dsimp only at hi hΨ ⊢)
    rcases Nat.lt_or_ge i l.length with hlt | hge
    · have k1 : (decide ((i : Int) < (l.length : Int))) = true := decide_eq_true (by omega)
      have k7 : (i : Int) + 1 = ((i + 1 : Nat) : Int) := by omega
      obtain ⟨x, hx⟩ : ∃ x, l[i]? = some x := ⟨_, List.getElem?_eq_getElem hlt⟩
      obtain ⟨y, hy⟩ : ∃ y, m[i]? = some y := ⟨_, List.getElem?_eq_getElem (by omega)⟩
      have hlm : i < m.length := by omega
      have k2 := asl_at hx
      have k3 := asl_at hy
      have k4 := a_ne x y
      by_cases hxy : x = y
      · rw [decide_eq_true hxy, Bool.not_true] at k4
        (have W := ndI k1 (ndI k2 (ndI k3 (ndI k4 (ndI k7 @wrI)))); (repeat (any_goals (first | ((with_reducible refine evL_one ?_ ?_); rfl; intro K hK; simp (disch := omega) only [go_sem, W, Nat.mul_one]; ((repeat (refine ndI (by first | assumption | rfl) ?_)); refine hK _ ?_; clear hK K)) | (with_reducible first | (refine evL_nil ?_; refine hR _ ?_; clear hR R) | ((first | refine evC_seq ?_ | refine evC_block ?_); intro Ψ hΨ hΨ') | (refine evC_region ?_; intro R hR) | (refine hΨ _ ?_; clear hΨ hΨ' Ψ) | refine evC_skip ?_) | ((with_reducible refine hΨ' _ _ ?_ ?_); (focus (simp; done)); clear hΨ hΨ' Ψ) | ((with_reducible apply evC_cond); rfl; rfl; all_goals (intro hc; first | (cases hc; done) | (try simp only at hc))) | ((with_reducible refine evD_nil ?_ ?_); kernel_rfl; (with_reducible refine hR _ ?_); clear hR R) | (((with_reducible apply evD_any); rfl; rfl; (simp (disch := omega) only [rdE, rdOf, go_sem, W, Nat.mul_one]; rfl); (intro τ hA hQ hN; ((try simp only [agree, Op.operands, Call.operands, go_sem, W, Nat.mul_one, go_sem, List.mem_cons, List.not_mem_nil, forall_eq_or_imp, forall_eq, List.append_toArray, Option.toArray] at hA); (try simp only [go_sem, W, Nat.mul_one, List.mem_cons, List.not_mem_nil, forall_eq_or_imp, forall_eq] at hQ hN); (first | (revert hA; intro hA)); (first | (revert hQ; intro hQ)); (first | (revert hN; intro hN)); simp (disch := omega) only [go_sem, W, Nat.mul_one, go_sem, hA, hQ, hN]; (repeat (refine ndI (by first | assumption | omega | rfl) ?_)); (first | apply eff_rd)))); (simp (disch := omega) only [St.eff, setO, hputs, go_sem, W, Nat.mul_one])) | ((with_reducible refine evC_draw ?_ ?_ ?_ ?_); kernel_rfl; kernel_rfl; (first | kernel_rfl); intro R hR)))))
        all_goals exact hΨ _ ⟨i + 1, hlt, fun j hj => by
          rcases Nat.lt_or_ge j i with h' | h'
          · exact hno j h'
          · obtain rfl : j = i := by omega
            rw [hx, hy, hxy]⟩ (by simp only; omega) (St.le_of (by simp [leT]) (by simp [leH]))
      · rw [decide_eq_false hxy, Bool.not_false] at k4
        have hrf : r = false := by
          rw [← hr, decide_eq_false_iff_not]
          intro e; rw [e, hy] at hx; cases hx; exact hxy rfl
        (have W := ndI k1 (ndI k2 (ndI k3 (ndI k4 (ndI k7 @wrI)))); (repeat (any_goals (first | ((with_reducible refine evL_one ?_ ?_); rfl; intro K hK; simp (disch := omega) only [go_sem, W, Nat.mul_one]; ((repeat (refine ndI (by first | assumption | rfl) ?_)); refine hK _ ?_; clear hK K)) | (with_reducible first | (refine evL_nil ?_; refine hR _ ?_; clear hR R) | ((first | refine evC_seq ?_ | refine evC_block ?_); intro Ψ hΨ hΨ') | (refine evC_region ?_; intro R hR) | (refine hΨ _ ?_; clear hΨ hΨ' Ψ) | refine evC_skip ?_ | refine evC_ret ?_) | ((with_reducible refine hΨ' _ _ ?_ ?_); (focus (simp; done)); clear hΨ hΨ' Ψ) | ((with_reducible apply evC_cond); rfl; rfl; all_goals (intro hc; first | (cases hc; done) | (try simp only at hc))) | ((with_reducible refine evD_nil ?_ ?_); kernel_rfl; (with_reducible refine hR _ ?_); clear hR R) | (((with_reducible apply evD_any); rfl; rfl; (simp (disch := omega) only [rdE, rdOf, go_sem, W, Nat.mul_one]; rfl); (intro τ hA hQ hN; ((try simp only [agree, Op.operands, Call.operands, go_sem, W, Nat.mul_one, go_sem, List.mem_cons, List.not_mem_nil, forall_eq_or_imp, forall_eq, List.append_toArray, Option.toArray] at hA); (try simp only [go_sem, W, Nat.mul_one, List.mem_cons, List.not_mem_nil, forall_eq_or_imp, forall_eq] at hQ hN); (first | (revert hA; intro hA)); (first | (revert hQ; intro hQ)); (first | (revert hN; intro hN)); simp (disch := omega) only [go_sem, W, Nat.mul_one, go_sem, hA, hQ, hN]; (repeat (refine ndI (by first | assumption | omega | rfl) ?_)); (first | apply eff_rd)))); (simp (disch := omega) only [St.eff, setO, hputs, go_sem, W, Nat.mul_one])) | ((with_reducible refine evC_draw ?_ ?_ ?_ ?_); kernel_rfl; kernel_rfl; (first | kernel_rfl); intro R hR)))))
        all_goals rw [hrf]
        all_goals (refine ⟨by simp, ⟨_, ?_, AV.le_refl _⟩, leH_get (by simp [leH, hget])⟩; simp only [Tryz.results106, resL, ldA, oneOf, go_sem])
    · have k1 : (decide ((i : Int) < (l.length : Int))) = false := decide_eq_false (by omega)
      have hrt : r = true := by
        rw [← hr, decide_eq_true_iff]
        refine List.ext_getElem? fun j => ?_
        rcases Nat.lt_or_ge j l.length with h | h
        · exact hno j (by omega)
        · rw [List.getElem?_eq_none h, List.getElem?_eq_none (by omega)]
      (repeat (any_goals (first | ((with_reducible refine evL_one ?_ ?_); rfl; intro K hK; simp only [go_sem, k1]; ((repeat (refine ndI (by first | assumption) ?_)); refine hK _ ?_; clear hK K)) | (with_reducible first | (refine evL_nil ?_; refine hR _ ?_; clear hR R) | ((first | refine evC_seq ?_); intro Ψ hΨ hΨ') | (refine evC_region ?_; intro R hR) | (refine hΨ _ ?_; clear hΨ hΨ' Ψ) | refine evC_ret ?_ | refine evC_exit ?_) | ((with_reducible refine hΨ' _ _ ?_ ?_); (focus (simp; done)); clear hΨ hΨ' Ψ) | ((with_reducible apply evC_cond); rfl; rfl; all_goals (intro hc; first | (cases hc; done) | (try simp only at hc))))))
      all_goals rw [hrt]
      all_goals (refine ⟨by simp, ⟨_, ?_, AV.le_refl _⟩, leH_get (by simp [leH, hget])⟩; simp only [Tryz.results106, resL, ldA, oneOf, go_sem])
  · have k0 : ((l.length : Int) != (m.length : Int)) = true := by simp; omega
    have he : decide (l = m) = false := by rw [decide_eq_false_iff_not]; intro e; exact hlen (by rw [e])
    rw [he]
    (refine fn_of Tryz.func106 rfl (by rfl) ?_; simp only [Tryz.ntmps106, List.length_cons, List.length_nil, Nat.reduceAdd, Nat.reduceSub, List.replicate, List.cons_append, List.nil_append])
    (repeat (any_goals (first | ((with_reducible refine evL_one ?_ ?_); rfl; intro K hK; simp only [go_sem, k0]; ((repeat (refine ndI (by first | assumption) ?_)); refine hK _ ?_; clear hK K)) | (with_reducible first | (refine evL_nil ?_; refine hR _ ?_; clear hR R) | ((first | refine evC_seq ?_); intro Ψ hΨ hΨ') | (refine evC_region ?_; intro R hR) | (refine hΨ _ ?_; clear hΨ hΨ' Ψ) | refine evC_ret ?_) | ((with_reducible refine hΨ' _ _ ?_ ?_); (focus (simp; done)); clear hΨ hΨ' Ψ) | ((with_reducible apply evC_cond); rfl; rfl; all_goals (intro hc; first | (cases hc; done) | (try simp only at hc))))))
    all_goals (refine ⟨by simp, ⟨_, ?_, AV.le_refl _⟩, leH_get (by simp [leH, hget])⟩; simp only [Tryz.results106, resL, ldA, oneOf, go_sem])
theorem all_at {α : Type} {l m : List α} (hlen : l.length = m.length) (h : ∀ j, j < l.length → l[j]? = m[j]?) : l = m := by
  refine List.ext_getElem? fun j => ?_
  rcases Nat.lt_or_ge j l.length with h' | h'
  · exact h j h'
  · rw [List.getElem?_eq_none h', List.getElem?_eq_none (by omega)]
theorem rsame_fn (x y : Xs) (hx : x.ok) (fx : x.few) (hy : y.ok) (fy : y.few) : Fn Tryz.prog 75 [xsA x, xsA y] [] (vb (decide (x = y))) [] := by
  obtain ⟨A, S, P⟩ := x
  obtain ⟨B, T, Q⟩ := y
  obtain ⟨fa, fs, fp⟩ := fx
  obtain ⟨ga, gs, gp⟩ := fy
  obtain ⟨oa, os, op⟩ := hx
  obtain ⟨qa, qs, qp⟩ := hy
  dsimp only at *
  have sa := sameA_fn false false A B (by omega) (by omega)
  obtain ⟨r, hr⟩ : ∃ r, decide ((⟨A, S, P⟩ : Xs) = ⟨B, T, Q⟩) = r := ⟨_, rfl⟩
  rw [hr]
  have hrf : ¬ (A = B ∧ S = T ∧ P = Q) → r = false := fun h => by
    rw [← hr]
    exact decide_eq_false fun e => h ⟨congrArg Xs.ad e, congrArg Xs.sp e, congrArg Xs.pg e⟩
  have hrt : A = B → S = T → P = Q → r = true := fun h1 h2 h3 => by
    rw [← hr, h1, h2, h3]; exact decide_eq_true rfl
  clear hr
  by_cases hA : ¬ A = B
  · rw [decide_eq_false hA] at sa
    have e := hrf fun h => hA h.1
    (refine fn_of Tryz.func75 rfl (by rfl) ?_; simp only [Tryz.ntmps75, List.length_cons, List.length_nil, Nat.reduceAdd, Nat.reduceSub, List.replicate, List.cons_append, List.nil_append])
    (repeat (any_goals (first | ((with_reducible refine evL_call ?_ ?_ ?_); rfl; rfl; intro K hK; ((apply opA_callB (sa); rfl; rfl; rfl; rfl; exact Tryz.func106); kernel_rfl; rfl; (simp only [go_sem]; rfl); (first | simp [AV.inNL, AV.inN])); (simp only [go_sem]; refine hK _ ?_; clear hK K)) | ((with_reducible refine evL_one ?_ ?_); rfl; intro K hK; simp only [go_sem]; ((repeat (refine ndI (by first | assumption) ?_)); refine hK _ ?_; clear hK K)) | (with_reducible first | (refine evL_nil ?_; refine hR _ ?_; clear hR R) | ((first | refine evC_seq ?_); intro Ψ hΨ hΨ') | (refine evC_region ?_; intro R hR) | (refine hΨ _ ?_; clear hΨ hΨ' Ψ) | refine evC_ret ?_) | ((with_reducible refine hΨ' _ _ ?_ ?_); (focus (simp; done)); clear hΨ hΨ' Ψ) | ((with_reducible apply evL_grd); rfl; rfl; rfl; all_goals (intro hb; first | (cases hb; done) | ((try simp only [Bool.not_true, Bool.not_false] at hb); (first | ((fail_if_success (with_reducible intro _)); simp only [go_sem]))))) | ((with_reducible apply evC_cond); rfl; rfl; all_goals (intro hc; first | (cases hc; done) | (try simp only at hc))))))
    all_goals rw [e]
    all_goals (refine ⟨by simp, ⟨_, ?_, AV.le_refl _⟩, leH_get (by simp [leH, hget])⟩; simp only [Tryz.results75, resL, ldA, oneOf, go_sem])
  have hA' : A = B := Classical.not_not.1 hA
  rw [decide_eq_true hA'] at sa
  by_cases hS : ¬ S.length = T.length
  · have k1 : ((S.length : Int) != (T.length : Int)) = true := by simp; omega
    have e := hrf fun h => hS (by rw [h.2.1])
    (refine fn_of Tryz.func75 rfl (by rfl) ?_; simp only [Tryz.ntmps75, List.length_cons, List.length_nil, Nat.reduceAdd, Nat.reduceSub, List.replicate, List.cons_append, List.nil_append])
    (repeat (any_goals (first | ((with_reducible refine evL_call ?_ ?_ ?_); rfl; rfl; intro K hK; ((apply opA_callB (sa); rfl; rfl; rfl; rfl; exact Tryz.func106); kernel_rfl; rfl; (simp only [go_sem, k1]; rfl); (first | simp [AV.inNL, AV.inN])); (simp only [go_sem, k1]; refine hK _ ?_; clear hK K)) | ((with_reducible refine evL_one ?_ ?_); rfl; intro K hK; simp only [go_sem, k1]; ((repeat (refine ndI (by first | assumption) ?_)); refine hK _ ?_; clear hK K)) | (with_reducible first | (refine evL_nil ?_; refine hR _ ?_; clear hR R) | ((first | refine evC_seq ?_); intro Ψ hΨ hΨ') | (refine evC_region ?_; intro R hR) | (refine hΨ _ ?_; clear hΨ hΨ' Ψ) | refine evC_ret ?_) | ((with_reducible refine hΨ' _ _ ?_ ?_); (focus (simp; done)); clear hΨ hΨ' Ψ) | ((with_reducible apply evL_grd); rfl; rfl; rfl; all_goals (intro hb; first | (cases hb; done) | ((try simp only [Bool.not_true, Bool.not_false] at hb); (first | ((with_reducible intro K hK); simp only [go_sem, k1]; ((repeat (refine ndI (by first | assumption) ?_)); refine hK _ ?_; clear hK K)) | ((fail_if_success (with_reducible intro _)); simp only [go_sem, k1]))))) | ((with_reducible apply evC_cond); rfl; rfl; all_goals (intro hc; first | (cases hc; done) | (try simp only at hc))))))
    all_goals rw [e]
    all_goals (refine ⟨by simp, ⟨_, ?_, AV.le_refl _⟩, leH_get (by simp [leH, hget])⟩; simp only [Tryz.results75, resL, ldA, oneOf, go_sem])
  have hS' : S.length = T.length := Classical.not_not.1 hS
  have k1 : ((S.length : Int) != (T.length : Int)) = false := by rw [hS']; simp
  by_cases hP : ¬ P.length = Q.length
  · have k2 : ((P.length : Int) != (Q.length : Int)) = true := by simp; omega
    have e := hrf fun h => hP (by rw [h.2.2])
    (refine fn_of Tryz.func75 rfl (by rfl) ?_; simp only [Tryz.ntmps75, List.length_cons, List.length_nil, Nat.reduceAdd, Nat.reduceSub, List.replicate, List.cons_append, List.nil_append])
    (repeat (any_goals (first | ((with_reducible refine evL_call ?_ ?_ ?_); rfl; rfl; intro K hK; ((apply opA_callB (sa); rfl; rfl; rfl; rfl; exact Tryz.func106); kernel_rfl; rfl; (simp only [go_sem, k1, k2]; rfl); (first | simp [AV.inNL, AV.inN])); (simp only [go_sem, k1, k2]; refine hK _ ?_; clear hK K)) | ((with_reducible refine evL_one ?_ ?_); rfl; intro K hK; simp only [go_sem, k1, k2]; ((repeat (refine ndI (by first | assumption) ?_)); refine hK _ ?_; clear hK K)) | (with_reducible first | (refine evL_nil ?_; refine hR _ ?_; clear hR R) | ((first | refine evC_seq ?_); intro Ψ hΨ hΨ') | (refine evC_region ?_; intro R hR) | (refine hΨ _ ?_; clear hΨ hΨ' Ψ) | refine evC_ret ?_) | ((with_reducible refine hΨ' _ _ ?_ ?_); (focus (simp; done)); clear hΨ hΨ' Ψ) | ((with_reducible apply evL_grd); rfl; rfl; rfl; all_goals (intro hb; first | (cases hb; done) | ((try simp only [Bool.not_true, Bool.not_false] at hb); (first | ((with_reducible intro K hK); simp only [go_sem, k1, k2]; ((repeat (refine ndI (by first | assumption) ?_)); refine hK _ ?_; clear hK K)))))) | ((with_reducible apply evC_cond); rfl; rfl; all_goals (intro hc; first | (cases hc; done) | (try simp only at hc))))))
    all_goals rw [e]
    all_goals (refine ⟨by simp, ⟨_, ?_, AV.le_refl _⟩, leH_get (by simp [leH, hget])⟩; simp only [Tryz.results75, resL, ldA, oneOf, go_sem])
  have hP' : P.length = Q.length := Classical.not_not.1 hP
  have k2 : ((P.length : Int) != (Q.length : Int)) = false := by rw [hP']; simp
  (refine fn_of Tryz.func75 rfl (by rfl) ?_; simp only [Tryz.ntmps75, List.length_cons, List.length_nil, Nat.reduceAdd, Nat.reduceSub, List.replicate, List.cons_append, List.nil_append])
  (repeat (any_goals (first | ((with_reducible refine evL_call ?_ ?_ ?_); rfl; rfl; intro K hK; ((apply opA_callB (sa); rfl; rfl; rfl; rfl; exact Tryz.func106); kernel_rfl; rfl; (simp only [go_sem, k1, k2]; rfl); (first | simp [AV.inNL, AV.inN])); (simp only [go_sem, k1, k2]; refine hK _ ?_; clear hK K)) | ((with_reducible refine evL_one ?_ ?_); rfl; intro K hK; simp only [go_sem, k1, k2]; ((repeat (refine ndI (by first | assumption) ?_)); refine hK _ ?_; clear hK K)) | (with_reducible first | (refine evL_nil ?_; refine hR _ ?_; clear hR R) | ((first | refine evC_seq ?_ | refine evC_block ?_); intro Ψ hΨ hΨ') | (refine evC_region ?_; intro R hR) | (refine hΨ _ ?_; clear hΨ hΨ' Ψ) | refine evC_skip ?_) | ((with_reducible apply evL_grd); rfl; rfl; rfl; all_goals (intro hb; first | (cases hb; done) | ((try simp only [Bool.not_true, Bool.not_false] at hb); (first | ((with_reducible intro K hK); simp only [go_sem, k1, k2]; ((repeat (refine ndI (by first | assumption) ?_)); refine hK _ ?_; clear hK K)))))) | ((with_reducible apply evC_cond); rfl; rfl; all_goals (intro hc; first | (cases hc; done) | (try simp only at hc))))))
  refine evC_loop (α := { i : Nat // i ≤ S.length ∧ ∀ j, j < i → S[j]? = T[j]? }) (fun p => ⟨[.any, .any, .ptr 2 0, .ptr 3 0, vb false, vi .i64 (p.1 : Int), .any, .any, .any, .any, .any, .any, .any, .any, .any, .any, .any, .any, .any, .any, .any, .any, .any, .any, .any, .any, .any, .any, .any, .any, .any, .any, .any, .any, .any, .any, .any, .any, .any, .any, .any, .any, .any, .any, .any, .any, .any, .any, .any, .any, .any, .any, .any, .any, .any, .any, .any, .any, .any, .any, .any, .any, .any, .any, .any, .any, .any], [(2, [asl false A, spl5 false S, pgl9 false P]), (3, [asl false B, spl5 false T, pgl9 false Q])]⟩) (fun p => S.length - p.1) ⟨0, Nat.zero_le _, fun j hj => by omega⟩ (St.le_of (by simp [leT]) (by simp [leH, hget])) ?_
  rintro ⟨i, hi, hno⟩ Ψ hΨ hΨ'
  (try dsimp only at hi hΨ ⊢)
  by_cases hge : S.length ≤ i
  · have k3 : (decide ((i : Int) < (S.length : Int))) = false := decide_eq_false (by omega)
    have eS : S = T := all_at hS' fun j hj => hno j (by omega)
    (repeat (any_goals (first | ((with_reducible refine evL_one ?_ ?_); rfl; intro K hK; simp only [go_sem, k3]; ((repeat (refine ndI (by first | assumption) ?_)); refine hK _ ?_; clear hK K)) | (with_reducible first | (refine evL_nil ?_; refine hR _ ?_; clear hR R) | ((first | refine evC_seq ?_ | refine evC_block ?_); intro Ψ hΨ hΨ') | (refine evC_region ?_; intro R hR) | (refine hΨ _ ?_; clear hΨ hΨ' Ψ) | refine evC_exit ?_) | ((with_reducible refine hΨ' _ _ ?_ ?_); (focus (simp; done)); clear hΨ hΨ' Ψ) | ((with_reducible apply evC_cond); rfl; rfl; all_goals (intro hc; first | (cases hc; done) | (try simp only at hc))))))
    refine evC_loop (α := { i : Nat // i ≤ P.length ∧ ∀ j, j < i → P[j]? = Q[j]? }) (fun p => ⟨[.any, .any, .ptr 2 0, .ptr 3 0, vb false, .any, vi .i64 (p.1 : Int), .any, .any, .any, .any, .any, .any, .any, .any, .any, .any, .any, .any, .any, .any, .any, .any, .any, .any, .any, .any, .any, .any, .any, .any, .any, .any, .any, .any, .any, .any, .any, .any, .any, .any, .any, .any, .any, .any, .any, .any, .any, .any, .any, .any, .any, .any, .any, .any, .any, .any, .any, .any, .any, .any, .any, .any, .any, .any, .any, .any], [(2, [asl false A, spl5 false S, pgl9 false P]), (3, [asl false B, spl5 false T, pgl9 false Q])]⟩) (fun p => P.length - p.1) ⟨0, Nat.zero_le _, fun j hj => by omega⟩ (St.le_of (by simp [leT]) (by simp [leH, hget])) ?_
    rintro ⟨m, hm, hno2⟩ Ψ hΨ hΨ'
    (try dsimp only at hm hΨ ⊢)
    by_cases hge2 : P.length ≤ m
    · have k4 : (decide ((m : Int) < (P.length : Int))) = false := decide_eq_false (by omega)
      have e := hrt hA' eS (all_at hP' fun j hj => hno2 j (by omega))
      (repeat (any_goals (first | ((with_reducible refine evL_one ?_ ?_); rfl; intro K hK; simp only [go_sem, k4]; ((repeat (refine ndI (by first | assumption) ?_)); refine hK _ ?_; clear hK K)) | (with_reducible first | (refine evL_nil ?_; refine hR _ ?_; clear hR R) | ((first | refine evC_seq ?_); intro Ψ hΨ hΨ') | (refine evC_region ?_; intro R hR) | (refine hΨ _ ?_; clear hΨ hΨ' Ψ) | refine evC_ret ?_ | refine evC_exit ?_) | ((with_reducible refine hΨ' _ _ ?_ ?_); (focus (simp; done)); clear hΨ hΨ' Ψ) | ((with_reducible apply evC_cond); rfl; rfl; all_goals (intro hc; first | (cases hc; done) | (try simp only at hc))))))
      all_goals rw [e]
      all_goals (refine ⟨by simp, ⟨_, ?_, AV.le_refl _⟩, leH_get (by simp [leH, hget])⟩; simp only [Tryz.results75, resL, ldA, oneOf, go_sem])
    · have k4 : (decide ((m : Int) < (P.length : Int))) = true := decide_eq_true (by omega)
      have k7 : (m : Int) + 1 = ((m + 1 : Nat) : Int) := by omega
      obtain ⟨u, hu⟩ : ∃ x, P[m]? = some x := ⟨_, List.getElem?_eq_getElem (by omega)⟩
      obtain ⟨v, hv⟩ : ∃ y, Q[m]? = some y := ⟨_, List.getElem?_eq_getElem (by omega)⟩
      have hml : m < P.length := by omega
      have hml2 : m < Q.length := by omega
      have n1 := pgl9_at hu
      have n2 := pgl9_at hv
      have n3 := pg_eq (op u (List.mem_of_getElem? hu)) (qp v (List.mem_of_getElem? hv))
      by_cases huv : u = v
      · rw [decide_eq_true huv] at n3
        (have W := ndI k4 (ndI n1 (ndI n2 (ndI n3 (ndI k7 @wrI)))); (repeat (any_goals (first | ((with_reducible refine evL_one ?_ ?_); rfl; intro K hK; simp (disch := omega) only [go_sem, W]; ((repeat (refine ndI (by first | assumption | rfl) ?_)); refine hK _ ?_; clear hK K)) | (with_reducible first | (refine evL_nil ?_; refine hR _ ?_; clear hR R) | ((first | refine evC_seq ?_ | refine evC_block ?_); intro Ψ hΨ hΨ') | (refine evC_region ?_; intro R hR) | (refine hΨ _ ?_; clear hΨ hΨ' Ψ) | refine evC_skip ?_) | ((with_reducible refine hΨ' _ _ ?_ ?_); (focus (simp; done)); clear hΨ hΨ' Ψ) | ((with_reducible apply evC_cond); rfl; rfl; all_goals (intro hc; first | (cases hc; done) | (try simp only at hc))) | ((with_reducible refine evD_nil ?_ ?_); kernel_rfl; (with_reducible refine hR _ ?_); clear hR R) | (((with_reducible apply evD_any); rfl; rfl; (simp (disch := omega) only [rdE, rdOf, go_sem, W]; rfl); (intro τ hA hQ hN; ((try simp only [agree, Op.operands, Call.operands, go_sem, W, go_sem, List.mem_cons, List.not_mem_nil, forall_eq_or_imp, forall_eq, List.append_toArray, Option.toArray] at hA); (try simp only [go_sem, W, List.mem_cons, List.not_mem_nil, forall_eq_or_imp, forall_eq] at hQ hN); (first | (revert hA; intro hA)); (first | (revert hQ; intro hQ)); (first | (revert hN; intro hN)); simp (disch := omega) only [go_sem, W, go_sem, hA, hQ, hN]; (repeat (refine ndI (by first | assumption | omega | rfl) ?_)); (first | apply eff_rd)))); (simp (disch := omega) only [St.eff, setO, hputs, go_sem, W])) | ((with_reducible refine evC_draw ?_ ?_ ?_ ?_); kernel_rfl; kernel_rfl; (first | kernel_rfl); intro R hR)))))
        all_goals exact hΨ _ ⟨m + 1, hml, fun j hj => by
          rcases Nat.lt_or_ge j m with h' | h'
          · exact hno2 j h'
          · obtain rfl : j = m := by omega
            rw [hu, hv, huv]⟩ (by simp only; omega) (St.le_of (by simp [leT]) (by simp [leH, hget]))
      · rw [decide_eq_false huv] at n3
        have e := hrf fun h => huv (by have := h.2.2; rw [this, hv] at hu; cases hu; rfl)
        (have W := ndI k4 (ndI n1 (ndI n2 (ndI n3 (ndI k7 @wrI)))); (repeat (any_goals (first | ((with_reducible refine evL_one ?_ ?_); rfl; intro K hK; simp (disch := omega) only [go_sem, W]; ((repeat (refine ndI (by first | assumption | rfl) ?_)); refine hK _ ?_; clear hK K)) | (with_reducible first | (refine evL_nil ?_; refine hR _ ?_; clear hR R) | ((first | refine evC_seq ?_ | refine evC_block ?_); intro Ψ hΨ hΨ') | (refine evC_region ?_; intro R hR) | (refine hΨ _ ?_; clear hΨ hΨ' Ψ) | refine evC_skip ?_ | refine evC_ret ?_) | ((with_reducible refine hΨ' _ _ ?_ ?_); (focus (simp; done)); clear hΨ hΨ' Ψ) | ((with_reducible apply evC_cond); rfl; rfl; all_goals (intro hc; first | (cases hc; done) | (try simp only at hc))) | ((with_reducible refine evD_nil ?_ ?_); kernel_rfl; (with_reducible refine hR _ ?_); clear hR R) | (((with_reducible apply evD_any); rfl; rfl; (simp (disch := omega) only [rdE, rdOf, go_sem, W]; rfl); (intro τ hA hQ hN; ((try simp only [agree, Op.operands, Call.operands, go_sem, W, go_sem, List.mem_cons, List.not_mem_nil, forall_eq_or_imp, forall_eq, List.append_toArray, Option.toArray] at hA); (try simp only [go_sem, W, List.mem_cons, List.not_mem_nil, forall_eq_or_imp, forall_eq] at hQ hN); (first | (revert hA; intro hA)); (first | (revert hQ; intro hQ)); (first | (revert hN; intro hN)); simp (disch := omega) only [go_sem, W, go_sem, hA, hQ, hN]; (repeat (refine ndI (by first | assumption | omega | rfl) ?_)); (first | apply eff_rd)))); (simp (disch := omega) only [St.eff, setO, hputs, go_sem, W])) | ((with_reducible refine evC_draw ?_ ?_ ?_ ?_); kernel_rfl; kernel_rfl; (first | kernel_rfl); intro R hR)))))
        all_goals rw [e]
        all_goals (refine ⟨by simp, ⟨_, ?_, AV.le_refl _⟩, leH_get (by simp [leH, hget])⟩; simp only [Tryz.results75, resL, ldA, oneOf, go_sem])
  · have k3 : (decide ((i : Int) < (S.length : Int))) = true := decide_eq_true (by omega)
    have k7 : (i : Int) + 1 = ((i + 1 : Nat) : Int) := by omega
    obtain ⟨u, hu⟩ : ∃ x, S[i]? = some x := ⟨_, List.getElem?_eq_getElem (by omega)⟩
    obtain ⟨v, hv⟩ : ∃ y, T[i]? = some y := ⟨_, List.getElem?_eq_getElem (by omega)⟩
    have hml : i < S.length := by omega
    have hml2 : i < T.length := by omega
    have n1 := spl5_at hu
    have n2 := spl5_at hv
    have n3 := sp_eq (os u (List.mem_of_getElem? hu)) (qs v (List.mem_of_getElem? hv))
    by_cases huv : u = v
    · rw [decide_eq_true huv] at n3
      (have W := ndI k3 (ndI n1 (ndI n2 (ndI n3 (ndI k7 @wrI)))); (repeat (any_goals (first | ((with_reducible refine evL_one ?_ ?_); rfl; intro K hK; simp (disch := omega) only [go_sem, W]; ((repeat (refine ndI (by first | assumption | rfl) ?_)); refine hK _ ?_; clear hK K)) | (with_reducible first | (refine evL_nil ?_; refine hR _ ?_; clear hR R) | ((first | refine evC_seq ?_ | refine evC_block ?_); intro Ψ hΨ hΨ') | (refine evC_region ?_; intro R hR) | (refine hΨ _ ?_; clear hΨ hΨ' Ψ) | refine evC_skip ?_) | ((with_reducible refine hΨ' _ _ ?_ ?_); (focus (simp; done)); clear hΨ hΨ' Ψ) | ((with_reducible apply evC_cond); rfl; rfl; all_goals (intro hc; first | (cases hc; done) | (try simp only at hc))) | ((with_reducible refine evD_nil ?_ ?_); kernel_rfl; (with_reducible refine hR _ ?_); clear hR R) | (((with_reducible apply evD_any); rfl; rfl; (simp (disch := omega) only [rdE, rdOf, go_sem, W]; rfl); (intro τ hA hQ hN; ((try simp only [agree, Op.operands, Call.operands, go_sem, W, go_sem, List.mem_cons, List.not_mem_nil, forall_eq_or_imp, forall_eq, List.append_toArray, Option.toArray] at hA); (try simp only [go_sem, W, List.mem_cons, List.not_mem_nil, forall_eq_or_imp, forall_eq] at hQ hN); (first | (revert hA; intro hA)); (first | (revert hQ; intro hQ)); (first | (revert hN; intro hN)); simp (disch := omega) only [go_sem, W, go_sem, hA, hQ, hN]; (repeat (refine ndI (by first | assumption | omega | rfl) ?_)); (first | apply eff_rd)))); (simp (disch := omega) only [St.eff, setO, hputs, go_sem, W])) | ((with_reducible refine evC_draw ?_ ?_ ?_ ?_); kernel_rfl; kernel_rfl; (first | kernel_rfl); intro R hR)))))
      all_goals exact hΨ _ ⟨i + 1, hml, fun j hj => by
        rcases Nat.lt_or_ge j i with h' | h'
        · exact hno j h'
        · obtain rfl : j = i := by omega
          rw [hu, hv, huv]⟩ (by simp only; omega) (St.le_of (by simp [leT]) (by simp [leH, hget]))
    · rw [decide_eq_false huv] at n3
      have e := hrf fun h => huv (by have := h.2.1; rw [this, hv] at hu; cases hu; rfl)
      (have W := ndI k3 (ndI n1 (ndI n2 (ndI n3 (ndI k7 @wrI)))); (repeat (any_goals (first | ((with_reducible refine evL_one ?_ ?_); rfl; intro K hK; simp (disch := omega) only [go_sem, W]; ((repeat (refine ndI (by first | assumption | rfl) ?_)); refine hK _ ?_; clear hK K)) | (with_reducible first | (refine evL_nil ?_; refine hR _ ?_; clear hR R) | ((first | refine evC_seq ?_ | refine evC_block ?_); intro Ψ hΨ hΨ') | (refine evC_region ?_; intro R hR) | (refine hΨ _ ?_; clear hΨ hΨ' Ψ) | refine evC_skip ?_ | refine evC_ret ?_) | ((with_reducible refine hΨ' _ _ ?_ ?_); (focus (simp; done)); clear hΨ hΨ' Ψ) | ((with_reducible apply evC_cond); rfl; rfl; all_goals (intro hc; first | (cases hc; done) | (try simp only at hc))) | ((with_reducible refine evD_nil ?_ ?_); kernel_rfl; (with_reducible refine hR _ ?_); clear hR R) | (((with_reducible apply evD_any); rfl; rfl; (simp (disch := omega) only [rdE, rdOf, go_sem, W]; rfl); (intro τ hA hQ hN; ((try simp only [agree, Op.operands, Call.operands, go_sem, W, go_sem, List.mem_cons, List.not_mem_nil, forall_eq_or_imp, forall_eq, List.append_toArray, Option.toArray] at hA); (try simp only [go_sem, W, List.mem_cons, List.not_mem_nil, forall_eq_or_imp, forall_eq] at hQ hN); (first | (revert hA; intro hA)); (first | (revert hQ; intro hQ)); (first | (revert hN; intro hN)); simp (disch := omega) only [go_sem, W, go_sem, hA, hQ, hN]; (repeat (refine ndI (by first | assumption | omega | rfl) ?_)); (first | apply eff_rd)))); (simp (disch := omega) only [St.eff, setO, hputs, go_sem, W])) | ((with_reducible refine evC_draw ?_ ?_ ?_ ?_); kernel_rfl; kernel_rfl; (first | kernel_rfl); intro R hR)))))
      all_goals rw [e]
      all_goals (refine ⟨by simp, ⟨_, ?_, AV.le_refl _⟩, leH_get (by simp [leH, hget])⟩; simp only [Tryz.results75, resL, ldA, oneOf, go_sem])
theorem rnew_fn (ex : Bool) (l : List Int) (hl : l.length ≤ 100000) : Fn Tryz.prog 23 [asl ex l] [] (.tup [xsA ⟨resD l l.length, [], []⟩, vb (decide ((resD l l.length).length ≤ 400))]) [] := by
  have so := sortedR_fn ex l hl
  generalize resD l l.length = r at so ⊢
  have e : decide ((r.length : Int) ≤ 400) = decide (r.length ≤ 400) := decide_eq_decide.2 (by omega)
  generalize decide (r.length ≤ 400) = q at e ⊢
  (refine fn_of Tryz.func23 rfl (by rfl) ?_; simp only [Tryz.ntmps23, List.length_cons, List.length_nil, Nat.reduceAdd, Nat.reduceSub, List.replicate, List.cons_append, List.nil_append])
  (repeat (any_goals (first | ((with_reducible refine evL_call ?_ ?_ ?_); rfl; rfl; intro K hK; ((apply opA_callB (so); rfl; rfl; rfl; rfl; exact Tryz.func64); kernel_rfl; rfl; (simp only [go_sem, e]; rfl); (first | simp [AV.inNL, AV.inN])); (simp only [go_sem, e]; refine hK _ ?_; clear hK K)) | ((with_reducible refine evL_one ?_ ?_); rfl; intro K hK; simp only [go_sem, e]; ((repeat (refine ndI (by first | assumption) ?_)); refine hK _ ?_; clear hK K)) | (with_reducible first | (refine evL_nil ?_; refine hR _ ?_; clear hR R) | ((first | refine evC_seq ?_); intro Ψ hΨ hΨ') | (refine evC_region ?_; intro R hR) | (refine hΨ _ ?_; clear hΨ hΨ' Ψ) | refine evC_ret ?_))))
  all_goals exact ⟨by simp, ⟨_, rfl, AV.le_tupL ⟨AV.le_agg ⟨AV.le_refl _, AV.le_nil _ _, AV.le_nil _ _, trivial⟩, AV.le_refl _, trivial⟩⟩, leH_get (by simp [leH, hget])⟩
end Go.Proofs.YtmidmaeihpldhaaGreat.ax
namespace Go.Proofs.YtmidmaeihpldhaaGreat.ax
open Go.RowKit
set_option maxRecDepth 20000
set_option maxHeartbeats 4000000
def Dd.pv (d : Dd) : List PV := [.v (.int .i64 d.kind), .v (.int .u64 d.s.a), .v (.int .u64 (l0 d.s.k)), .v (.int .u64 (l1 d.s.k)), .v (.int .u64 (l2 d.s.k)), .v (.int .u64 (l3 d.s.k)), .v (.int .u64 (l0 d.v)), .v (.int .u64 (l1 d.v)), .v (.int .u64 (l2 d.v)), .v (.int .u64 (l3 d.v))]
end Go.Proofs.YtmidmaeihpldhaaGreat.ax
namespace Go.Proofs.YtmidmaeihpldhaaGreat.ax
open Go.RowKit
open Nat (reduceBEq)
set_option maxRecDepth 20000
set_option maxHeartbeats 2000000
section
variable {α : Type} {key : α → Int}
theorem bad_out {l : List α} {j : Nat} (h : l.length ≤ j + 1) : bad key l j = false := by
  unfold bad
  rw [List.getElem?_eq_none h]
  split <;> simp_all
theorem bad_at {l : List α} {i : Nat} {x y : α} (h0 : 0 < i) (hx : l[i - 1]? = some x) (hy : l[i]? = some y) : bad key l (i - 1) = !decide (key x < key y) := by
  unfold bad; rw [hx, show i - 1 + 1 = i by omega, hy]
theorem ris_bad {l : List α} {j : Nat} (h : bad key l j = true) : risB key l = false := by
  cases hb : risB key l with
  | false => rfl
  | true => rw [bad_false hb j] at h; cases h
theorem ris_all {l : List α} (h : ∀ j, bad key l j = false) : risB key l = true := by
  unfold risB
  rw [List.all_eq_true]
  intro j _
  rw [h j]; rfl
end
theorem rright_fn (x : Xs) (hx : x.ok) (fx : x.few) : Fn Tryz.prog 73 [xsA x] [] (vb (okXs x)) [] := by
  obtain ⟨A, S, P⟩ := x
  obtain ⟨fa, fs, fp⟩ := fx
  obtain ⟨oa, os, op⟩ := hx
  dsimp only at *
  obtain ⟨r, hr⟩ : ∃ r, okXs ⟨A, S, P⟩ = r := ⟨_, rfl⟩
  rw [hr]
  have hA : ∀ j, bad aKey A j = true → r = false := fun j h => by rw [← hr]; unfold okXs okR; dsimp only; rw [ris_bad h]; simp
  have hS : ∀ j, bad Sp.key S j = true → r = false := fun j h => by rw [← hr]; unfold okXs okR; dsimp only; rw [ris_bad h]; simp
  have hP : ∀ j, bad Pg.key P j = true → r = false := fun j h => by rw [← hr]; unfold okXs okR; dsimp only; rw [ris_bad h]; simp
  have hZ : ∀ p ∈ P, p.v = 0 → r = false := fun p hp h => by
    rw [← hr]; unfold okXs; dsimp only
    rw [List.any_eq_true.2 ⟨p, hp, decide_eq_true h⟩]; rfl
  have hT : (∀ j, bad aKey A j = false) → (∀ j, bad Sp.key S j = false) → (∀ j, bad Pg.key P j = false) → (∀ p ∈ P, p.v ≠ 0) → r = (decide (A.length ≤ 400) && (decide (S.length ≤ 400) && decide (P.length ≤ 400))) := fun h1 h2 h3 h4 => by
    rw [← hr]; unfold okXs okR; dsimp only
    rw [ris_all h1, ris_all h2, ris_all h3]
    have : P.any zeroB = false := by
      rw [List.any_eq_false]
      intro p hp hz
      exact h4 p hp (of_decide_eq_true hz)
    rw [this]
    simp
  clear hr
  have m1 : decide ((A.length : Int) ≤ 400) = decide (A.length ≤ 400) := decide_eq_decide.2 (by omega)
  have m2 : decide ((S.length : Int) ≤ 400) = decide (S.length ≤ 400) := decide_eq_decide.2 (by omega)
  have m3 : decide ((P.length : Int) ≤ 400) = decide (P.length ≤ 400) := decide_eq_decide.2 (by omega)
  generalize decide (A.length ≤ 400) = q1 at m1 hT
  generalize decide (S.length ≤ 400) = q2 at m2 hT
  generalize decide (P.length ≤ 400) = q3 at m3 hT
  (refine fn_of Tryz.func73 rfl (by rfl) ?_; simp only [Tryz.ntmps73, List.length_cons, List.length_nil, Nat.reduceAdd, Nat.reduceSub, List.replicate, List.cons_append, List.nil_append])
  (repeat (any_goals (first | ((with_reducible refine evL_one ?_ ?_); rfl; intro K hK; simp only [go_sem]; ((repeat (refine ndI (by first | assumption) ?_)); refine hK _ ?_; clear hK K)) | (with_reducible first | (refine evL_nil ?_; refine hR _ ?_; clear hR R) | ((first | refine evC_seq ?_ | refine evC_block ?_); intro Ψ hΨ hΨ') | (refine evC_region ?_; intro R hR) | (refine hΨ _ ?_; clear hΨ hΨ' Ψ)))))
  refine evC_loop (α := { i : Nat // 1 ≤ i ∧ ∀ j, j + 1 < i → bad aKey A j = false }) (fun p => ⟨[.any, .ptr 1 0, vb false, vi .i64 (p.1 : Int), .any, .any, .any, .any, .any, .any, .any, .any, .any, .any, .any, .any, .any, .any, .any, .any, .any, .any, .any, .any, .any, .any, .any, .any, .any, .any, .any, .any, .any, .any, .any, .any, .any, .any, .any, .any, .any, .any, .any, .any, .any, .any, .any, .any, .any, .any, .any, .any, .any, .any, .any, .any, .any, .any, .any, .any, .any, .any, .any, .any, .any, .any, .any, .any, .any, .any, .any, .any, .any, .any, .any, .any, .any, .any, .any, .any, .any, .any, .any, .any, .any, .any, .any, .any, .any, .any, .any, .any, .any, .any, .any, .any, .any], [(1, [asl false A, spl5 false S, pgl9 false P])]⟩) (fun p => A.length - p.1) ⟨1, Nat.le_refl _, fun j hj => by omega⟩ (St.le_of (by simp [leT]) (by simp [leH, hget])) ?_
  rintro ⟨i, hi, hno⟩ Ψ hΨ hΨ'
  (try dsimp only at hi hΨ ⊢)
  by_cases hge : ¬ A.length ≤ i
  · have k1 : (decide ((i : Int) < (A.length : Int))) = true := decide_eq_true (by omega)
    have k7 : (i : Int) + 1 = ((i + 1 : Nat) : Int) := by omega
    have k8 : (i : Int) - 1 = ((i - 1 : Nat) : Int) := by omega
    have l1 : i < A.length := by omega
    have l2 : i - 1 < A.length := by omega
    obtain ⟨y, hy⟩ : ∃ x, A[i]? = some x := ⟨_, List.getElem?_eq_getElem l1⟩
    obtain ⟨x, hx⟩ : ∃ x, A[i - 1]? = some x := ⟨_, List.getElem?_eq_getElem l2⟩
    have n1 := asl_at hy
    have n2 := asl_at hx
    have hb := bad_at (key := aKey) (by omega) hx hy
    have n3 : decide (x ≥ y) = bad aKey A (i - 1) := by
      rw [hb, ← decide_not]
      exact decide_eq_decide.2 (by show x ≥ y ↔ ¬ x < y; omega)
    have hA1 := hA (i - 1)
    have hnx : bad aKey A (i - 1) = false → ∀ j, j + 1 < i + 1 → bad aKey A j = false := fun h j hj => by
      rcases Nat.lt_or_ge (j + 1) i with h' | h'
      · exact hno j h'
      · obtain rfl : j = i - 1 := by omega
        exact h
    clear hb
    generalize bad aKey A (i - 1) = g at n3 hA1 hnx
    cases g with
    | false =>
      (have W := ndI k1 (ndI k7 (ndI k8 (ndI n1 (ndI n2 (ndI n3 @wrI))))); (repeat (any_goals (first | ((with_reducible refine evL_one ?_ ?_); rfl; intro K hK; simp (disch := omega) only [go_sem, W, Nat.mul_one]; ((repeat (refine ndI (by first | assumption | rfl) ?_)); refine hK _ ?_; clear hK K)) | (with_reducible first | (refine evL_nil ?_; refine hR _ ?_; clear hR R) | ((first | refine evC_seq ?_ | refine evC_block ?_); intro Ψ hΨ hΨ') | (refine evC_region ?_; intro R hR) | (refine hΨ _ ?_; clear hΨ hΨ' Ψ) | refine evC_skip ?_) | ((with_reducible refine hΨ' _ _ ?_ ?_); (focus (simp; done)); clear hΨ hΨ' Ψ) | ((with_reducible apply evC_cond); rfl; rfl; all_goals (intro hc; first | (cases hc; done) | (try simp only at hc))) | ((with_reducible refine evD_nil ?_ ?_); kernel_rfl; (with_reducible refine hR _ ?_); clear hR R) | ((first | ((first | ((with_reducible apply evD_any); rfl; rfl)); (simp (disch := omega) only [rdE, rdOf, go_sem, W, Nat.mul_one]; rfl); (intro τ hA hQ hN; ((try simp only [agree, Op.operands, Call.operands, go_sem, W, Nat.mul_one, go_sem, List.mem_cons, List.not_mem_nil, forall_eq_or_imp, forall_eq, List.append_toArray, Option.toArray] at hA); (try simp only [go_sem, W, Nat.mul_one, List.mem_cons, List.not_mem_nil, forall_eq_or_imp, forall_eq] at hQ hN); (first | (revert hA; intro hA)); (first | (revert hQ; intro hQ)); (first | (revert hN; intro hN)); simp (disch := omega) only [go_sem, W, Nat.mul_one, go_sem, hA, hQ, hN]; (repeat (refine ndI (by first | assumption | omega | rfl) ?_)); (first | apply eff_rd))))); (simp (disch := omega) only [St.eff, setO, hputs, go_sem, W, Nat.mul_one])) | ((with_reducible refine evC_draw ?_ ?_ ?_ ?_); kernel_rfl; kernel_rfl; (first | kernel_rfl); intro R hR)))))
      all_goals exact hΨ _ ⟨i + 1, by omega, hnx rfl⟩ (by dsimp only; omega) (St.le_of (by simp [leT]) (by simp [leH, hget]))
    | true =>
      have e := hA1 rfl
      (have W := ndI k1 (ndI k7 (ndI k8 (ndI n1 (ndI n2 (ndI n3 @wrI))))); (repeat (any_goals (first | ((with_reducible refine evL_one ?_ ?_); rfl; intro K hK; simp (disch := omega) only [go_sem, W, Nat.mul_one]; ((repeat (refine ndI (by first | assumption | rfl) ?_)); refine hK _ ?_; clear hK K)) | (with_reducible first | (refine evL_nil ?_; refine hR _ ?_; clear hR R) | ((first | refine evC_seq ?_ | refine evC_block ?_); intro Ψ hΨ hΨ') | (refine evC_region ?_; intro R hR) | (refine hΨ _ ?_; clear hΨ hΨ' Ψ) | refine evC_skip ?_ | refine evC_ret ?_) | ((with_reducible refine hΨ' _ _ ?_ ?_); (focus (simp; done)); clear hΨ hΨ' Ψ) | ((with_reducible apply evC_cond); rfl; rfl; all_goals (intro hc; first | (cases hc; done) | (try simp only at hc))) | ((with_reducible refine evD_nil ?_ ?_); kernel_rfl; (with_reducible refine hR _ ?_); clear hR R) | ((first | ((first | ((with_reducible apply evD_any); rfl; rfl)); (simp (disch := omega) only [rdE, rdOf, go_sem, W, Nat.mul_one]; rfl); (intro τ hA hQ hN; ((try simp only [agree, Op.operands, Call.operands, go_sem, W, Nat.mul_one, go_sem, List.mem_cons, List.not_mem_nil, forall_eq_or_imp, forall_eq, List.append_toArray, Option.toArray] at hA); (try simp only [go_sem, W, Nat.mul_one, List.mem_cons, List.not_mem_nil, forall_eq_or_imp, forall_eq] at hQ hN); (first | (revert hA; intro hA)); (first | (revert hQ; intro hQ)); (first | (revert hN; intro hN)); simp (disch := omega) only [go_sem, W, Nat.mul_one, go_sem, hA, hQ, hN]; (repeat (refine ndI (by first | assumption | omega | rfl) ?_)); (first | apply eff_rd))))); (simp (disch := omega) only [St.eff, setO, hputs, go_sem, W, Nat.mul_one])) | ((with_reducible refine evC_draw ?_ ?_ ?_ ?_); kernel_rfl; kernel_rfl; (first | kernel_rfl); intro R hR)))))
      all_goals rw [e]
      all_goals (refine ⟨by simp, ⟨_, ?_, AV.le_refl _⟩, leH_get (by simp [leH, hget])⟩; simp only [Tryz.results73, resL, ldA, oneOf, go_sem])
  have hge' : A.length ≤ i := Classical.not_not.1 hge
  have fA : ∀ j, bad aKey A j = false := fun j => by
    rcases Nat.lt_or_ge (j + 1) A.length with h | h
    · exact hno j (by omega)
    · exact bad_out h
  have k1 : (decide ((i : Int) < (A.length : Int))) = false := decide_eq_false (by omega)
  (repeat (any_goals (first | ((with_reducible refine evL_one ?_ ?_); rfl; intro K hK; simp only [go_sem, k1]; ((repeat (refine ndI (by first | assumption) ?_)); refine hK _ ?_; clear hK K)) | (with_reducible first | (refine evL_nil ?_; refine hR _ ?_; clear hR R) | ((first | refine evC_seq ?_ | refine evC_block ?_); intro Ψ hΨ hΨ') | (refine evC_region ?_; intro R hR) | (refine hΨ _ ?_; clear hΨ hΨ' Ψ) | refine evC_exit ?_) | ((with_reducible refine hΨ' _ _ ?_ ?_); (focus (simp; done)); clear hΨ hΨ' Ψ) | ((with_reducible apply evC_cond); rfl; rfl; all_goals (intro hc; first | (cases hc; done) | (try simp only at hc))))))
  clear hA hno hge hge' hi k1
  refine evC_loop (α := { i : Nat // 1 ≤ i ∧ ∀ j, j + 1 < i → bad Sp.key S j = false }) (fun p => ⟨[.any, .ptr 1 0, vb false, .any, vi .i64 (p.1 : Int), .any, .any, .any, .any, .any, .any, .any, .any, .any, .any, .any, .any, .any, .any, .any, .any, .any, .any, .any, .any, .any, .any, .any, .any, .any, .any, .any, .any, .any, .any, .any, .any, .any, .any, .any, .any, .any, .any, .any, .any, .any, .any, .any, .any, .any, .any, .any, .any, .any, .any, .any, .any, .any, .any, .any, .any, .any, .any, .any, .any, .any, .any, .any, .any, .any, .any, .any, .any, .any, .any, .any, .any, .any, .any, .any, .any, .any, .any, .any, .any, .any, .any, .any, .any, .any, .any, .any, .any, .any, .any, .any, .any], [(1, [asl false A, spl5 false S, pgl9 false P])]⟩) (fun p => S.length - p.1) ⟨1, Nat.le_refl _, fun j hj => by omega⟩ (St.le_of (by simp [leT]) (by simp [leH, hget])) ?_
  rintro ⟨i, hi, hno⟩ Ψ hΨ hΨ'
  (try dsimp only at hi hΨ ⊢)
  by_cases hge : ¬ S.length ≤ i
  · have k1 : (decide ((i : Int) < (S.length : Int))) = true := decide_eq_true (by omega)
    have k7 : (i : Int) + 1 = ((i + 1 : Nat) : Int) := by omega
    have k8 : (i : Int) - 1 = ((i - 1 : Nat) : Int) := by omega
    have l1 : i < S.length := by omega
    have l2 : i - 1 < S.length := by omega
    obtain ⟨y, hy⟩ : ∃ x, S[i]? = some x := ⟨_, List.getElem?_eq_getElem l1⟩
    obtain ⟨x, hx⟩ : ∃ x, S[i - 1]? = some x := ⟨_, List.getElem?_eq_getElem l2⟩
    have n1 := spl5_at hy
    have n2 := spl5_at hx
    have bf := before_fn x y (os x (List.mem_of_getElem? hx)) (os y (List.mem_of_getElem? hy))
    have hb := bad_at (key := Sp.key) (by omega) hx hy
    have hb2 : decide (x.key < y.key) = !bad Sp.key S (i - 1) := by rw [hb, Bool.not_not]
    rw [hb2] at bf
    have hA1 := hS (i - 1)
    have hnx : bad Sp.key S (i - 1) = false → ∀ j, j + 1 < i + 1 → bad Sp.key S j = false := fun h j hj => by
      rcases Nat.lt_or_ge (j + 1) i with h' | h'
      · exact hno j h'
      · obtain rfl : j = i - 1 := by omega
        exact h
    clear hb hb2
    generalize bad Sp.key S (i - 1) = g at bf hA1 hnx
    cases g with
    | false =>
      rw [Bool.not_false] at bf
      (have W := ndI k1 (ndI k7 (ndI k8 (ndI n1 (ndI n2 @wrI)))); (repeat (any_goals (first | ((with_reducible refine evL_one ?_ ?_); rfl; intro K hK; simp (disch := omega) only [go_sem, W]; ((repeat (refine ndI (by first | assumption | rfl) ?_)); refine hK _ ?_; clear hK K)) | (with_reducible first | (refine evL_nil ?_; refine hR _ ?_; clear hR R) | ((first | refine evC_seq ?_ | refine evC_block ?_); intro Ψ hΨ hΨ') | (refine evC_region ?_; intro R hR) | (refine hΨ _ ?_; clear hΨ hΨ' Ψ) | refine evC_skip ?_) | ((with_reducible refine hΨ' _ _ ?_ ?_); (focus (simp; done)); clear hΨ hΨ' Ψ) | ((with_reducible apply evC_cond); rfl; rfl; all_goals (intro hc; first | (cases hc; done) | (try simp only at hc))) | ((with_reducible refine evD_nil ?_ ?_); kernel_rfl; (with_reducible refine hR _ ?_); clear hR R) | ((first | ((first | ((with_reducible apply evD_fcall); rfl; rfl)); ((apply opF_callB (bf); rfl; rfl; rfl; rfl; exact Tryz.func105); kernel_rfl; rfl; (simp (disch := omega) only [go_sem, W]; rfl); (first | simp [AV.inNL, AV.inN]))) | ((first | ((with_reducible apply evD_any); rfl; rfl)); (simp (disch := omega) only [rdE, rdOf, go_sem, W]; rfl); (intro τ hA hQ hN; ((try simp only [agree, Op.operands, Call.operands, go_sem, W, go_sem, List.mem_cons, List.not_mem_nil, forall_eq_or_imp, forall_eq, List.append_toArray, Option.toArray] at hA); (try simp only [go_sem, W, List.mem_cons, List.not_mem_nil, forall_eq_or_imp, forall_eq] at hQ hN); (first | (revert hA; intro hA)); (first | (revert hQ; intro hQ)); (first | (revert hN; intro hN)); simp (disch := omega) only [go_sem, W, go_sem, hA, hQ, hN]; (repeat (refine ndI (by first | assumption | omega | rfl) ?_)); (first | apply eff_rd))))); (simp (disch := omega) only [St.eff, setO, hputs, go_sem, W])) | ((with_reducible refine evC_draw ?_ ?_ ?_ ?_); kernel_rfl; kernel_rfl; (first | kernel_rfl); intro R hR)))))
      all_goals exact hΨ _ ⟨i + 1, by omega, hnx rfl⟩ (by dsimp only; omega) (St.le_of (by simp [leT]) (by simp [leH, hget]))
    | true =>
      have e := hA1 rfl
      rw [Bool.not_true] at bf
      (have W := ndI k1 (ndI k7 (ndI k8 (ndI n1 (ndI n2 @wrI)))); (repeat (any_goals (first | ((with_reducible refine evL_one ?_ ?_); rfl; intro K hK; simp (disch := omega) only [go_sem, W]; ((repeat (refine ndI (by first | assumption | rfl) ?_)); refine hK _ ?_; clear hK K)) | (with_reducible first | (refine evL_nil ?_; refine hR _ ?_; clear hR R) | ((first | refine evC_seq ?_ | refine evC_block ?_); intro Ψ hΨ hΨ') | (refine evC_region ?_; intro R hR) | (refine hΨ _ ?_; clear hΨ hΨ' Ψ) | refine evC_skip ?_ | refine evC_ret ?_) | ((with_reducible refine hΨ' _ _ ?_ ?_); (focus (simp; done)); clear hΨ hΨ' Ψ) | ((with_reducible apply evC_cond); rfl; rfl; all_goals (intro hc; first | (cases hc; done) | (try simp only at hc))) | ((with_reducible refine evD_nil ?_ ?_); kernel_rfl; (with_reducible refine hR _ ?_); clear hR R) | ((first | ((first | ((with_reducible apply evD_fcall); rfl; rfl)); ((apply opF_callB (bf); rfl; rfl; rfl; rfl; exact Tryz.func105); kernel_rfl; rfl; (simp (disch := omega) only [go_sem, W]; rfl); (first | simp [AV.inNL, AV.inN]))) | ((first | ((with_reducible apply evD_any); rfl; rfl)); (simp (disch := omega) only [rdE, rdOf, go_sem, W]; rfl); (intro τ hA hQ hN; ((try simp only [agree, Op.operands, Call.operands, go_sem, W, go_sem, List.mem_cons, List.not_mem_nil, forall_eq_or_imp, forall_eq, List.append_toArray, Option.toArray] at hA); (try simp only [go_sem, W, List.mem_cons, List.not_mem_nil, forall_eq_or_imp, forall_eq] at hQ hN); (first | (revert hA; intro hA)); (first | (revert hQ; intro hQ)); (first | (revert hN; intro hN)); simp (disch := omega) only [go_sem, W, go_sem, hA, hQ, hN]; (repeat (refine ndI (by first | assumption | omega | rfl) ?_)); (first | apply eff_rd))))); (simp (disch := omega) only [St.eff, setO, hputs, go_sem, W])) | ((with_reducible refine evC_draw ?_ ?_ ?_ ?_); kernel_rfl; kernel_rfl; (first | kernel_rfl); intro R hR)))))
      all_goals rw [e]
      all_goals (refine ⟨by simp, ⟨_, ?_, AV.le_refl _⟩, leH_get (by simp [leH, hget])⟩; simp only [Tryz.results73, resL, ldA, oneOf, go_sem])
  have hge' : S.length ≤ i := Classical.not_not.1 hge
  have fS : ∀ j, bad Sp.key S j = false := fun j => by
    rcases Nat.lt_or_ge (j + 1) S.length with h | h
    · exact hno j (by omega)
    · exact bad_out h
  have k1 : (decide ((i : Int) < (S.length : Int))) = false := decide_eq_false (by omega)
  (repeat (any_goals (first | ((with_reducible refine evL_one ?_ ?_); rfl; intro K hK; simp only [go_sem, k1]; ((repeat (refine ndI (by first | assumption) ?_)); refine hK _ ?_; clear hK K)) | (with_reducible first | (refine evL_nil ?_; refine hR _ ?_; clear hR R) | ((first | refine evC_seq ?_ | refine evC_block ?_); intro Ψ hΨ hΨ') | (refine evC_region ?_; intro R hR) | (refine hΨ _ ?_; clear hΨ hΨ' Ψ) | refine evC_exit ?_) | ((with_reducible refine hΨ' _ _ ?_ ?_); (focus (simp; done)); clear hΨ hΨ' Ψ) | ((with_reducible apply evC_cond); rfl; rfl; all_goals (intro hc; first | (cases hc; done) | (try simp only at hc))))))
  clear hS hno hge hge' hi k1
  refine evC_loop (α := { i : Nat // i ≤ P.length ∧ (∀ j, j + 1 < i → bad Pg.key P j = false) ∧ ∀ j p, j < i → P[j]? = some p → p.v ≠ 0 }) (fun p => ⟨[.any, .ptr 1 0, vb false, .any, .any, vi .i64 (p.1 : Int), .any, .any, .any, .any, .any, .any, .any, .any, .any, .any, .any, .any, .any, .any, .any, .any, .any, .any, .any, .any, .any, .any, .any, .any, .any, .any, .any, .any, .any, .any, .any, .any, .any, .any, .any, .any, .any, .any, .any, .any, .any, .any, .any, .any, .any, .any, .any, .any, .any, .any, .any, .any, .any, .any, .any, .any, .any, .any, .any, .any, .any, .any, .any, .any, .any, .any, .any, .any, .any, .any, .any, .any, .any, .any, .any, .any, .any, .any, .any, .any, .any, .any, .any, .any, .any, .any, .any, .any, .any, .any, .any], [(1, [asl false A, spl5 false S, pgl9 false P])]⟩) (fun p => P.length - p.1) ⟨0, Nat.zero_le _, (fun j hj => by omega), fun j p hj => by omega⟩ (St.le_of (by simp [leT]) (by simp [leH, hget])) ?_
  rintro ⟨i, hi, hno, hnz⟩ Ψ hΨ hΨ'
  (try dsimp only at hi hΨ ⊢)
  by_cases hge : P.length ≤ i
  · have k1 : (decide ((i : Int) < (P.length : Int))) = false := decide_eq_false (by omega)
    have fP : ∀ j, bad Pg.key P j = false := fun j => by
      rcases Nat.lt_or_ge (j + 1) P.length with h | h
      · exact hno j (by omega)
      · exact bad_out h
    have fZ : ∀ p ∈ P, p.v ≠ 0 := fun p hp => by
      obtain ⟨j, hj⟩ := List.mem_iff_getElem?.1 hp
      exact hnz j p (by have := (List.getElem?_eq_some_iff.1 hj).1; omega) hj
    have e := hT fA fS fP fZ
    cases q1 <;> cases q2 <;> cases q3
    all_goals (have W := ndI k1 (ndI m1 (ndI m2 m3)); (repeat (any_goals (first | ((with_reducible refine evL_one ?_ ?_); rfl; intro K hK; simp only [go_sem, W]; ((repeat (refine ndI (by first | assumption) ?_)); refine hK _ ?_; clear hK K)) | (with_reducible first | (refine evL_nil ?_; refine hR _ ?_; clear hR R) | ((first | refine evC_seq ?_); intro Ψ hΨ hΨ') | (refine evC_region ?_; intro R hR) | (refine hΨ _ ?_; clear hΨ hΨ' Ψ) | refine evC_ret ?_ | refine evC_exit ?_) | ((with_reducible refine hΨ' _ _ ?_ ?_); (focus (simp; done)); clear hΨ hΨ' Ψ) | ((with_reducible apply evL_grd); rfl; rfl; rfl; all_goals (intro hb; first | (cases hb; done) | ((try simp only [Bool.not_true, Bool.not_false] at hb); (first | ((with_reducible intro K hK); simp only [go_sem, W]; ((repeat (refine ndI (by first | assumption) ?_)); refine hK _ ?_; clear hK K)) | ((fail_if_success (with_reducible intro _)); simp only [go_sem, W]))))) | ((with_reducible apply evC_cond); rfl; rfl; all_goals (intro hc; first | (cases hc; done) | (try simp only at hc)))))))
    all_goals rw [e]
    all_goals (refine ⟨by simp, ⟨_, ?_, AV.le_refl _⟩, leH_get (by simp [leH, hget])⟩; simp only [Tryz.results73, resL, ldA, oneOf, go_sem])
    all_goals rfl
  · have k1 : (decide ((i : Int) < (P.length : Int))) = true := decide_eq_true (by omega)
    have k7 : (i : Int) + 1 = ((i + 1 : Nat) : Int) := by omega
    have l1 : i < P.length := by omega
    obtain ⟨y, hy⟩ : ∃ x, P[i]? = some x := ⟨_, List.getElem?_eq_getElem l1⟩
    have oy := op y (List.mem_of_getElem? hy)
    have n1 := pgl9_at hy
    have z := wN_zero oy.2
    by_cases hz : y.v = 0
    · rw [decide_eq_true hz] at z
      have e := hZ y (List.mem_of_getElem? hy) hz
      (have W := ndI k1 (ndI k7 (ndI n1 @wrI)); (repeat (any_goals (first | ((with_reducible refine evL_one ?_ ?_); rfl; intro K hK; simp (disch := omega) only [go_sem, W, z]; ((repeat (refine ndI (by first | assumption | rfl) ?_)); refine hK _ ?_; clear hK K)) | (with_reducible first | (refine evL_nil ?_; refine hR _ ?_; clear hR R) | ((first | refine evC_seq ?_ | refine evC_block ?_); intro Ψ hΨ hΨ') | (refine evC_region ?_; intro R hR) | (refine hΨ _ ?_; clear hΨ hΨ' Ψ) | refine evC_skip ?_ | refine evC_ret ?_) | ((with_reducible refine hΨ' _ _ ?_ ?_); (focus (simp; done)); clear hΨ hΨ' Ψ) | ((with_reducible apply evC_cond); rfl; rfl; all_goals (intro hc; first | (cases hc; done) | (try simp only at hc))) | ((with_reducible refine evD_nil ?_ ?_); kernel_rfl; (with_reducible refine hR _ ?_); clear hR R) | ((first | ((with_reducible apply evD_skip); rfl; rfl; rfl; rfl) | ((with_reducible apply evD_unmet); rfl; rfl; rfl) | ((first | ((with_reducible apply evD_any); rfl; rfl)); (simp (disch := omega) only [rdE, rdOf, go_sem, W, z]; rfl); (intro τ hA hQ hN; ((try simp only [agree, Op.operands, Call.operands, go_sem, W, z, go_sem, List.mem_cons, List.not_mem_nil, forall_eq_or_imp, forall_eq, List.append_toArray, Option.toArray] at hA); (try simp only [go_sem, W, z, List.mem_cons, List.not_mem_nil, forall_eq_or_imp, forall_eq] at hQ hN); (first | (revert hA; intro hA)); (first | (revert hQ; intro hQ)); (first | (revert hN; intro hN)); simp (disch := omega) only [go_sem, W, z, go_sem, hA, hQ, hN]; (repeat (refine ndI (by first | assumption | omega | rfl) ?_)); (first | apply eff_rd))))); (simp (disch := omega) only [St.eff, setO, hputs, go_sem, W, z])) | ((with_reducible refine evC_draw ?_ ?_ ?_ ?_); kernel_rfl; kernel_rfl; (first | kernel_rfl); intro R hR)))))
      all_goals rw [e]
      all_goals (refine ⟨by simp, ⟨_, ?_, AV.le_refl _⟩, leH_get (by simp [leH, hget])⟩; simp only [Tryz.results73, resL, ldA, oneOf, go_sem])
    · rw [decide_eq_false hz] at z
      have hnz2 : ∀ j p, j < i + 1 → P[j]? = some p → p.v ≠ 0 := fun j p hj hp => by
        rcases Nat.lt_or_ge j i with h | h
        · exact hnz j p h hp
        · obtain rfl : j = i := by omega
          rw [hy] at hp; cases hp; exact hz
      rcases Nat.eq_zero_or_pos i with h0 | h0
      · have k4 : (decide ((i : Int) > 0)) = false := decide_eq_false (by omega)
        (have W := ndI k1 (ndI k4 (ndI k7 (ndI n1 @wrI))); (repeat (any_goals (first | ((with_reducible refine evL_one ?_ ?_); rfl; intro K hK; simp (disch := omega) only [go_sem, W, z]; ((repeat (refine ndI (by first | assumption | rfl) ?_)); refine hK _ ?_; clear hK K)) | (with_reducible first | (refine evL_nil ?_; refine hR _ ?_; clear hR R) | ((first | refine evC_seq ?_ | refine evC_block ?_); intro Ψ hΨ hΨ') | (refine evC_region ?_; intro R hR) | (refine hΨ _ ?_; clear hΨ hΨ' Ψ) | refine evC_skip ?_) | ((with_reducible refine hΨ' _ _ ?_ ?_); (focus (simp; done)); clear hΨ hΨ' Ψ) | ((with_reducible apply evC_cond); rfl; rfl; all_goals (intro hc; first | (cases hc; done) | (try simp only at hc))) | ((with_reducible refine evD_nil ?_ ?_); kernel_rfl; (with_reducible refine hR _ ?_); clear hR R) | ((first | ((with_reducible apply evD_skip); rfl; rfl; rfl; rfl) | ((first | ((with_reducible apply evD_any); rfl; rfl) | ((with_reducible apply evD_gany); rfl; rfl; rfl; rfl; rfl)); (simp (disch := omega) only [rdE, rdOf, go_sem, W, z]; rfl); (intro τ hA hQ hN; ((try simp only [agree, Op.operands, Call.operands, go_sem, W, z, go_sem, List.mem_cons, List.not_mem_nil, forall_eq_or_imp, forall_eq, List.append_toArray, Option.toArray] at hA); (try simp only [go_sem, W, z, List.mem_cons, List.not_mem_nil, forall_eq_or_imp, forall_eq] at hQ hN); (first | (revert hA; intro hA)); (first | (revert hQ; intro hQ)); (first | (revert hN; intro hN)); simp (disch := omega) only [go_sem, W, z, go_sem, hA, hQ, hN]; (repeat (refine ndI (by first | assumption | omega | rfl) ?_)); (first | apply eff_rd))))); (simp (disch := omega) only [St.eff, setO, hputs, go_sem, W, z])) | ((with_reducible refine evC_draw ?_ ?_ ?_ ?_); kernel_rfl; kernel_rfl; (first | kernel_rfl); intro R hR)))))
        all_goals exact hΨ _ ⟨i + 1, l1, (fun j hj => by omega), hnz2⟩ (by dsimp only; omega) (St.le_of (by simp [leT]) (by simp [leH, hget]))
      · have k4 : (decide ((i : Int) > 0)) = true := decide_eq_true (by omega)
        have k8 : (i : Int) - 1 = ((i - 1 : Nat) : Int) := by omega
        have l2 : i - 1 < P.length := by omega
        obtain ⟨x, hx⟩ : ∃ x, P[i - 1]? = some x := ⟨_, List.getElem?_eq_getElem l2⟩
        have n2 := pgl9_at hx
        have bf := before_fn x.s y.s (op x (List.mem_of_getElem? hx)).1 oy.1
        have hb := bad_at (key := Pg.key) h0 hx hy
        have hb2 : decide (x.s.key < y.s.key) = !bad Pg.key P (i - 1) := by rw [hb, Bool.not_not]
        rw [hb2] at bf
        have hA1 := hP (i - 1)
        have hnx : bad Pg.key P (i - 1) = false → ∀ j, j + 1 < i + 1 → bad Pg.key P j = false := fun h j hj => by
          rcases Nat.lt_or_ge (j + 1) i with h' | h'
          · exact hno j h'
          · obtain rfl : j = i - 1 := by omega
            exact h
        clear hb hb2
        generalize bad Pg.key P (i - 1) = g at bf hA1 hnx
        cases g with
        | false =>
          rw [Bool.not_false] at bf
          (have W := ndI k1 (ndI k4 (ndI k7 (ndI k8 (ndI n1 (ndI n2 @wrI))))); (repeat (any_goals (first | ((with_reducible refine evL_one ?_ ?_); rfl; intro K hK; simp (disch := omega) only [go_sem, W, z]; ((repeat (refine ndI (by first | assumption | rfl) ?_)); refine hK _ ?_; clear hK K)) | (with_reducible first | (refine evL_nil ?_; refine hR _ ?_; clear hR R) | ((first | refine evC_seq ?_ | refine evC_block ?_); intro Ψ hΨ hΨ') | (refine evC_region ?_; intro R hR) | (refine hΨ _ ?_; clear hΨ hΨ' Ψ) | refine evC_skip ?_) | ((with_reducible refine hΨ' _ _ ?_ ?_); (focus (simp; done)); clear hΨ hΨ' Ψ) | ((with_reducible apply evC_cond); rfl; rfl; all_goals (intro hc; first | (cases hc; done) | (try simp only at hc))) | ((with_reducible refine evD_nil ?_ ?_); kernel_rfl; (with_reducible refine hR _ ?_); clear hR R) | ((first | ((first | ((with_reducible apply evD_gcall); rfl; rfl; rfl; rfl; rfl)); ((apply opF_callB (bf); rfl; rfl; rfl; rfl; exact Tryz.func105); kernel_rfl; rfl; (simp (disch := omega) only [go_sem, W, z]; rfl); (first | simp [AV.inNL, AV.inN]))) | ((first | ((with_reducible apply evD_any); rfl; rfl) | ((with_reducible apply evD_gany); rfl; rfl; rfl; rfl; rfl)); (simp (disch := omega) only [rdE, rdOf, go_sem, W, z]; rfl); (intro τ hA hQ hN; ((try simp only [agree, Op.operands, Call.operands, go_sem, W, z, go_sem, List.mem_cons, List.not_mem_nil, forall_eq_or_imp, forall_eq, List.append_toArray, Option.toArray] at hA); (try simp only [go_sem, W, z, List.mem_cons, List.not_mem_nil, forall_eq_or_imp, forall_eq] at hQ hN); (first | (revert hA; intro hA)); (first | (revert hQ; intro hQ)); (first | (revert hN; intro hN)); simp (disch := omega) only [go_sem, W, z, go_sem, hA, hQ, hN]; (repeat (refine ndI (by first | assumption | omega | rfl) ?_)); (first | apply eff_rd))))); (simp (disch := omega) only [St.eff, setO, hputs, go_sem, W, z])) | ((with_reducible refine evC_draw ?_ ?_ ?_ ?_); kernel_rfl; kernel_rfl; (first | kernel_rfl); intro R hR)))))
          all_goals exact hΨ _ ⟨i + 1, l1, hnx rfl, hnz2⟩ (by dsimp only; omega) (St.le_of (by simp [leT]) (by simp [leH, hget]))
        | true =>
          have e := hA1 rfl
          rw [Bool.not_true] at bf
          (have W := ndI k1 (ndI k4 (ndI k7 (ndI k8 (ndI n1 (ndI n2 @wrI))))); (repeat (any_goals (first | ((with_reducible refine evL_one ?_ ?_); rfl; intro K hK; simp (disch := omega) only [go_sem, W, z]; ((repeat (refine ndI (by first | assumption | rfl) ?_)); refine hK _ ?_; clear hK K)) | (with_reducible first | (refine evL_nil ?_; refine hR _ ?_; clear hR R) | ((first | refine evC_seq ?_ | refine evC_block ?_); intro Ψ hΨ hΨ') | (refine evC_region ?_; intro R hR) | (refine hΨ _ ?_; clear hΨ hΨ' Ψ) | refine evC_skip ?_ | refine evC_ret ?_) | ((with_reducible refine hΨ' _ _ ?_ ?_); (focus (simp; done)); clear hΨ hΨ' Ψ) | ((with_reducible apply evC_cond); rfl; rfl; all_goals (intro hc; first | (cases hc; done) | (try simp only at hc))) | ((with_reducible refine evD_nil ?_ ?_); kernel_rfl; (with_reducible refine hR _ ?_); clear hR R) | ((first | ((first | ((with_reducible apply evD_gcall); rfl; rfl; rfl; rfl; rfl)); ((apply opF_callB (bf); rfl; rfl; rfl; rfl; exact Tryz.func105); kernel_rfl; rfl; (simp (disch := omega) only [go_sem, W, z]; rfl); (first | simp [AV.inNL, AV.inN]))) | ((first | ((with_reducible apply evD_any); rfl; rfl) | ((with_reducible apply evD_gany); rfl; rfl; rfl; rfl; rfl)); (simp (disch := omega) only [rdE, rdOf, go_sem, W, z]; rfl); (intro τ hA hQ hN; ((try simp only [agree, Op.operands, Call.operands, go_sem, W, z, go_sem, List.mem_cons, List.not_mem_nil, forall_eq_or_imp, forall_eq, List.append_toArray, Option.toArray] at hA); (try simp only [go_sem, W, z, List.mem_cons, List.not_mem_nil, forall_eq_or_imp, forall_eq] at hQ hN); (first | (revert hA; intro hA)); (first | (revert hQ; intro hQ)); (first | (revert hN; intro hN)); simp (disch := omega) only [go_sem, W, z, go_sem, hA, hQ, hN]; (repeat (refine ndI (by first | assumption | omega | rfl) ?_)); (first | apply eff_rd))))); (simp (disch := omega) only [St.eff, setO, hputs, go_sem, W, z])) | ((with_reducible refine evC_draw ?_ ?_ ?_ ?_); kernel_rfl; kernel_rfl; (first | kernel_rfl); intro R hR)))))
          all_goals rw [e]
          all_goals (refine ⟨by simp, ⟨_, ?_, AV.le_refl _⟩, leH_get (by simp [leH, hget])⟩; simp only [Tryz.results73, resL, ldA, oneOf, go_sem])
end Go.Proofs.YtmidmaeihpldhaaGreat.ax
namespace Go.Proofs.YtmidmaeihpldhaaGreat
open Go.RowKit
open Nat (reduceBEq)
set_option maxRecDepth 20000
set_option maxHeartbeats 4000000
theorem klW {w : Wl} (hw : w.ok) : Okl w.S := ⟨Nat.le_trans hw.s.1 (by decide), fun x hx => ⟨(hw.s.2 x hx).1, Nat.le_trans (hw.s.2 x hx).2.1 (by decide), Nat.le_trans (hw.s.2 x hx).2.2 (by decide)⟩⟩
theorem rrightw_fn (w : Wl) (hw : w.ok) : Fn Tryz.prog 16 [wlA w] [] (vb (rightW w)) [] := by
  have f1 := rright_fn false w.S (klW hw)
  have f2 := lg.refright_fn false w.L (Nat.le_trans hw.l.1 (by decide)) hw.l.2
  have f3 := nz.refright_fn false w.N (Nat.le_trans hw.n.1 (by decide)) hw.n.2
  unfold rightW
  generalize okSt w.S = q1 at f1 ⊢
  generalize lg.okL w.L = q2 at f2 ⊢
  generalize nz.okTo w.N w.N.length = q3 at f3 ⊢
  cases q1 <;> cases q2 <;> cases q3
  all_goals (refine fn_of Tryz.func16 rfl (by rfl) ?_; simp only [Tryz.ntmps16, List.length_cons, List.length_nil, Nat.reduceAdd, Nat.reduceSub, List.replicate, List.cons_append, List.nil_append])
  all_goals (repeat (any_goals (first | ((with_reducible refine evL_call ?_ ?_ ?_); rfl; rfl; intro K hK; ((apply opA_callB (f1); rfl; rfl; rfl; rfl; exact Tryz.func45); kernel_rfl; rfl; (simp only [go_sem]; rfl); (first | simp [AV.inNL, AV.inN])); (simp only [go_sem]; refine hK _ ?_; clear hK K)) | ((with_reducible refine evL_one ?_ ?_); rfl; intro K hK; simp only [go_sem]; ((repeat (refine ndI (by first | assumption) ?_)); refine hK _ ?_; clear hK K)) | (with_reducible first | (refine evL_nil ?_; refine hR _ ?_; clear hR R) | ((first | refine evC_seq ?_); intro Ψ hΨ hΨ') | (refine evC_region ?_; intro R hR) | (refine hΨ _ ?_; clear hΨ hΨ' Ψ) | refine evC_ret ?_) | ((with_reducible apply evL_grd); rfl; rfl; rfl; all_goals (intro hb; first | (cases hb; done) | ((try simp only [Bool.not_true, Bool.not_false] at hb); (first | ((with_reducible intro K hK); (first | ((first | (apply opA_callB (f2); rfl; rfl; rfl; rfl; exact Tryz.func46) | (apply opA_callB (f3); rfl; rfl; rfl; rfl; exact Tryz.func47)); kernel_rfl; rfl; (simp only [go_sem]; rfl); (first | simp [AV.inNL, AV.inN])) | skip); simp only [go_sem]; ((repeat (refine ndI (by first | assumption) ?_)); refine hK _ ?_; clear hK K)) | ((fail_if_success (with_reducible intro _)); simp only [go_sem]))))))))
  all_goals (refine ⟨by simp, ⟨_, ?_, AV.le_refl _⟩, leH_get (by simp [leH, hget])⟩; simp only [Tryz.results16, resL, ldA, oneOf, go_sem])
  all_goals rfl
theorem rsamew_fn (w v : Wl) (hw : w.ok) (hv : v.ok) : Fn Tryz.prog 21 [wlA w, wlA v] [] (vb (decide (w = v))) [] := by
  have b1 : w.S.length ≤ maxLen := Nat.le_trans hw.s.1 (by decide)
  have b2 : v.S.length ≤ maxLen := Nat.le_trans hv.s.1 (by decide)
  have f1 := rsame_fn false false w.S v.S b1 b2 (fun x hx => (hw.s.2 x hx).1) (fun x hx => (hv.s.2 x hx).1)
  have f2 := lg.refsame_fn false false w.L v.L (Nat.le_trans hw.l.1 (by decide)) hw.l.2 hv.l.2
  have f3 := nz.same_fn false false w.N v.N (Nat.le_trans hw.n.1 (by decide))
  have e : decide (w = v) = (decide (w.S = v.S) && (decide (w.L = v.L) && decide (w.N = v.N))) := by
    obtain ⟨a, b, c⟩ := w
    obtain ⟨a', b', c'⟩ := v
    by_cases h1 : a = a' <;> by_cases h2 : b = b' <;> by_cases h3 : c = c' <;> simp [h1, h2, h3]
  rw [e]
  generalize decide (w.S = v.S) = q1 at *
  generalize decide (w.L = v.L) = q2 at *
  generalize decide (w.N = v.N) = q3 at *
  cases q1 <;> cases q2 <;> cases q3
  all_goals (refine fn_of Tryz.func21 rfl (by rfl) ?_; simp only [Tryz.ntmps21, List.length_cons, List.length_nil, Nat.reduceAdd, Nat.reduceSub, List.replicate, List.cons_append, List.nil_append])
  all_goals (repeat (any_goals (first | ((with_reducible refine evL_call ?_ ?_ ?_); rfl; rfl; intro K hK; ((apply opA_callB (f1); rfl; rfl; rfl; rfl; exact Tryz.func59); kernel_rfl; rfl; (simp only [go_sem]; rfl); (first | simp [AV.inNL, AV.inN])); (simp only [go_sem]; refine hK _ ?_; clear hK K)) | ((with_reducible refine evL_one ?_ ?_); rfl; intro K hK; simp only [go_sem]; ((repeat (refine ndI (by first | assumption) ?_)); refine hK _ ?_; clear hK K)) | (with_reducible first | (refine evL_nil ?_; refine hR _ ?_; clear hR R) | ((first | refine evC_seq ?_); intro Ψ hΨ hΨ') | (refine evC_region ?_; intro R hR) | (refine hΨ _ ?_; clear hΨ hΨ' Ψ) | refine evC_ret ?_) | ((with_reducible apply evL_grd); rfl; rfl; rfl; all_goals (intro hb; first | (cases hb; done) | ((try simp only [Bool.not_true, Bool.not_false] at hb); (first | ((with_reducible intro K hK); (first | ((first | (apply opA_callB (f2); rfl; rfl; rfl; rfl; exact Tryz.func60) | (apply opA_callB (f3); rfl; rfl; rfl; rfl; exact Tryz.func61)); kernel_rfl; rfl; (simp only [go_sem]; rfl); (first | simp [AV.inNL, AV.inN])) | skip); simp only [go_sem]; ((repeat (refine ndI (by first | assumption) ?_)); refine hK _ ?_; clear hK K)) | ((fail_if_success (with_reducible intro _)); simp only [go_sem]))))))))
  all_goals (refine ⟨by simp, ⟨_, ?_, AV.le_refl _⟩, leH_get (by simp [leH, hget])⟩; simp only [Tryz.results21, resL, ldA, oneOf, go_sem])
  all_goals rfl
theorem rrightp_fn (p : Pt) (hp : p.ok) : Fn Tryz.prog 39 [ptA p] [] (vb (okPt p)) [] := by
  have f1 := rrightw_fn p.w hp.w
  have f2 := ax.rright_fn p.x hp.x hp.f
  unfold okPt
  generalize rightW p.w = q1 at *
  generalize ax.okXs p.x = q2 at *
  cases q1 <;> cases q2
  all_goals (refine fn_of Tryz.func39 rfl (by rfl) ?_; simp only [Tryz.ntmps39, List.length_cons, List.length_nil, Nat.reduceAdd, Nat.reduceSub, List.replicate, List.cons_append, List.nil_append])
  all_goals (repeat (any_goals (first | ((with_reducible refine evL_call ?_ ?_ ?_); rfl; rfl; intro K hK; ((apply opA_callB (f1); rfl; rfl; rfl; rfl; exact Tryz.func16); kernel_rfl; rfl; (simp only [go_sem]; rfl); (first | simp [AV.inNL, AV.inN])); (simp only [go_sem]; refine hK _ ?_; clear hK K)) | ((with_reducible refine evL_one ?_ ?_); rfl; intro K hK; simp only [go_sem]; ((repeat (refine ndI (by first | assumption) ?_)); refine hK _ ?_; clear hK K)) | (with_reducible first | (refine evL_nil ?_; refine hR _ ?_; clear hR R) | ((first | refine evC_seq ?_); intro Ψ hΨ hΨ') | (refine evC_region ?_; intro R hR) | (refine hΨ _ ?_; clear hΨ hΨ' Ψ) | refine evC_ret ?_) | ((with_reducible apply evL_grd); rfl; rfl; rfl; all_goals (intro hb; first | (cases hb; done) | ((try simp only [Bool.not_true, Bool.not_false] at hb); (first | ((with_reducible intro K hK); (first | ((apply opA_callB (f2); rfl; rfl; rfl; rfl; exact Tryz.func73); kernel_rfl; rfl; (simp only [go_sem]; rfl); (first | simp [AV.inNL, AV.inN])) | skip); simp only [go_sem]; ((repeat (refine ndI (by first | assumption) ?_)); refine hK _ ?_; clear hK K)) | ((fail_if_success (with_reducible intro _)); simp only [go_sem]))))))))
  all_goals (refine ⟨by simp, ⟨_, ?_, AV.le_refl _⟩, leH_get (by simp [leH, hget])⟩; simp only [Tryz.results39, resL, ldA, oneOf, go_sem])
  all_goals rfl
theorem rsamep_fn (p q : Pt) (hp : p.ok) (hq : q.ok) : Fn Tryz.prog 44 [ptA p, ptA q] [] (vb (decide (p = q))) [] := by
  have f1 := rsamew_fn p.w q.w hp.w hq.w
  have f2 := ax.rsame_fn p.x q.x hp.x hp.f hq.x hq.f
  have e : decide (p = q) = (decide (p.w = q.w) && decide (p.x = q.x)) := by
    obtain ⟨a, b⟩ := p
    obtain ⟨a', b'⟩ := q
    by_cases h1 : a = a' <;> by_cases h2 : b = b' <;> simp [h1, h2]
  rw [e]
  generalize decide (p.w = q.w) = q1 at *
  generalize decide (p.x = q.x) = q2 at *
  cases q1 <;> cases q2
  all_goals (refine fn_of Tryz.func44 rfl (by rfl) ?_; simp only [Tryz.ntmps44, List.length_cons, List.length_nil, Nat.reduceAdd, Nat.reduceSub, List.replicate, List.cons_append, List.nil_append])
  all_goals (repeat (any_goals (first | ((with_reducible refine evL_call ?_ ?_ ?_); rfl; rfl; intro K hK; ((apply opA_callB (f1); rfl; rfl; rfl; rfl; exact Tryz.func21); kernel_rfl; rfl; (simp only [go_sem]; rfl); (first | simp [AV.inNL, AV.inN])); (simp only [go_sem]; refine hK _ ?_; clear hK K)) | ((with_reducible refine evL_one ?_ ?_); rfl; intro K hK; simp only [go_sem]; ((repeat (refine ndI (by first | assumption) ?_)); refine hK _ ?_; clear hK K)) | (with_reducible first | (refine evL_nil ?_; refine hR _ ?_; clear hR R) | ((first | refine evC_seq ?_); intro Ψ hΨ hΨ') | (refine evC_region ?_; intro R hR) | (refine hΨ _ ?_; clear hΨ hΨ' Ψ) | refine evC_ret ?_) | ((with_reducible apply evL_grd); rfl; rfl; rfl; all_goals (intro hb; first | (cases hb; done) | ((try simp only [Bool.not_true, Bool.not_false] at hb); (first | ((with_reducible intro K hK); (first | ((apply opA_callB (f2); rfl; rfl; rfl; rfl; exact Tryz.func75); kernel_rfl; rfl; (simp only [go_sem]; rfl); (first | simp [AV.inNL, AV.inN])) | skip); simp only [go_sem]; ((repeat (refine ndI (by first | assumption) ?_)); refine hK _ ?_; clear hK K)) | ((fail_if_success (with_reducible intro _)); simp only [go_sem]))))))))
  all_goals (refine ⟨by simp, ⟨_, ?_, AV.le_refl _⟩, leH_get (by simp [leH, hget])⟩; simp only [Tryz.results44, resL, ldA, oneOf, go_sem])
  all_goals rfl
def ptsJ (j : Jn) : List Pt := j.m ++ [j.p]
theorem ptsJ_len (j : Jn) : (ptsJ j).length = j.m.length + 1 := by simp [ptsJ]
theorem ptsJ_ok {j : Jn} (h : j.ok) : ∀ p ∈ ptsJ j, p.ok := fun p hp => (List.mem_append.1 hp).elim (h.m.2 p) fun h' => by rw [List.mem_singleton.1 h']; exact h.p
theorem ptsrow_fn (j : Jn) (hj : j.ok) (h0 : 0 < j.m.length) : Fn Tryz.prog 38 [jnA j] [] (.row 10 37 6 (ptsJ j).length) [(10, rcT (ptsJ j))] := by
  obtain ⟨p, M⟩ := j
  have hm := hj.m.1
  dsimp only at hm h0
  have m8 : M.length < 9223372036854775808 := by omega
  have e2 : (M.flatMap Pt.pv).length = M.length * 6 := flat_length pt_len _
  have r1 : ∀ d, AV.refsL d (rcT M) = false := fun d => refsL_rcT d M
  have rl := rcT_len M
  have e4 : ptsJ ⟨p, M⟩ = M ++ [p] := rfl
  rw [e4]
  have e5 : (M ++ [p]).length = M.length + 1 := by simp
  rw [e5, rcT_app]
  (refine fn_of Tryz.func38 rfl (by rfl) ?_; simp only [Tryz.ntmps38, List.length_cons, List.length_nil, Nat.reduceAdd, Nat.reduceSub, List.replicate, List.cons_append, List.nil_append])
  (repeat (any_goals (first | ((with_reducible refine evL_one ?_ ?_); rfl; intro K hK; simp only [go_sem]; ((repeat (refine ndI (by first | assumption) ?_)); refine hK _ ?_; clear hK K)) | (with_reducible first | (refine evL_nil ?_; refine hR _ ?_; clear hR R) | ((first | refine evC_seq ?_); intro Ψ hΨ hΨ') | (refine evC_region ?_; intro R hR) | (refine hΨ _ ?_; clear hΨ hΨ' Ψ)))))
  refine evC_draw_at 7 (by decide) (by kernel_rfl) (by kernel_rfl) (by kernel_rfl) (by kernel_rfl) (by simp [newNames, isNew, St.free, freeH, AV.refsL, AV.refs]) ?_
  intro R hR
  simp only [List.take_succ_cons, List.take_zero, List.drop_succ_cons, List.drop_zero] at hR ⊢
  (repeat (any_goals (first | ((with_reducible refine evL_one ?_ ?_); rfl; intro K hK; simp (disch := omega) only [go_sem, e2, List.nil_append, Nat.zero_add]; ((repeat (refine ndI (by first | assumption | omega | rfl) ?_)); refine hK _ ?_; clear hK K)) | ((with_reducible refine evD_nil ?_ ?_); (apply drawOK_sim); (focus (repeat (first | exact Sims.nil | ((apply Sims.cons); (focus (first | ((apply Ef.sim_row); assumption) | exact Ef.sim_refl _)))))); kernel_rfl; (with_reducible refine hR _ ?_); clear hR R) | ((first | ((with_reducible apply evD_any); rfl; rfl; (simp (disch := omega) only [rdE, rdOf, go_sem, e2, List.nil_append, Nat.zero_add]; rfl); (intro τ hA hQ hN; ((try simp only [agree, Op.operands, Call.operands, go_sem, e2, List.nil_append, Nat.zero_add, go_sem, List.mem_cons, List.not_mem_nil, forall_eq_or_imp, forall_eq, List.append_toArray, Option.toArray] at hA); (try simp only [go_sem, e2, List.nil_append, Nat.zero_add, List.mem_cons, List.not_mem_nil, forall_eq_or_imp, forall_eq] at hQ hN); (first | (revert hA; intro hA)); (first | (revert hQ; intro hQ)); (first | (revert hN; intro hN)); simp (disch := omega) only [go_sem, e2, List.nil_append, Nat.zero_add, go_sem, hA, hQ, hN]; (repeat (refine ndI (by first | assumption | rfl) ?_)); (first | apply eff_rd)))) | ((with_reducible apply evD_append_row); rfl; rfl; rfl; rfl; (focus (simp only [go_sem]; try rfl)); (first | omega); (first | omega); rfl; rfl; (focus (first | omega)); (focus (first | omega)); (focus (first | omega)); rfl; (focus (first | omega)); (focus rfl)) | ((first | ((with_reducible apply evD_one); rfl)); apply opF_buildSlice_none; rfl; (focus (simp only [go_sem]; try rfl))) | ((first | ((with_reducible apply evD_one); rfl)); apply opF_buildSlice_flat; rfl; rfl; (focus (simp only [go_sem]; try rfl)); (focus (simp only [go_sem]; try rfl)); rfl; (first | omega); (first | omega); (first | omega); (simp (disch := omega) only [go_sem, e2, List.nil_append, Nat.zero_add]; rfl); rfl; (focus ((simp (disch := omega) only [unC, Option.map_some]); (try rfl))))); (simp (disch := omega) only [St.eff, setO, hputs, go_sem, e2, List.nil_append, Nat.zero_add])))))
  have rl2 : ((M.flatMap Pt.pv).map AV.c).length = M.length * 6 := by rw [List.length_map]; exact e2
  (repeat (any_goals (fail)))
  refine evL_nil ?_
  (repeat (any_goals (first | (with_reducible first | (refine hΨ _ ?_; clear hΨ hΨ' Ψ) | refine evC_ret ?_))))
  all_goals refine ⟨by simp, ⟨_, rfl, AV.le_refl _⟩, leH_get (by simp [leH, hget, rcT, Pt.pv])⟩
theorem pts0_fn (p : Pt) : Fn Tryz.prog 38 [jnA ⟨p, []⟩] [] (psl false [p]) [] := by
  (refine fn_of Tryz.func38 rfl (by rfl) ?_; simp only [Tryz.ntmps38, List.length_cons, List.length_nil, Nat.reduceAdd, Nat.reduceSub, List.replicate, List.cons_append, List.nil_append])
  (repeat (any_goals (first | ((with_reducible refine evL_one ?_ ?_); rfl; intro K hK; simp (disch := omega) only [go_sem, List.nil_append, Nat.zero_add]; ((repeat (refine ndI (by first | assumption | rfl) ?_)); refine hK _ ?_; clear hK K)) | (with_reducible first | (refine evL_nil ?_; refine hR _ ?_; clear hR R) | ((first | refine evC_seq ?_); intro Ψ hΨ hΨ') | (refine evC_region ?_; intro R hR) | (refine hΨ _ ?_; clear hΨ hΨ' Ψ) | refine evC_ret ?_) | ((with_reducible refine evD_nil ?_ ?_); kernel_rfl; (with_reducible refine hR _ ?_); clear hR R) | ((first | ((with_reducible apply evD_any); rfl; rfl; (simp (disch := omega) only [rdE, rdOf, go_sem, List.nil_append, Nat.zero_add]; rfl); (intro τ hA hQ hN; ((try simp only [agree, Op.operands, Call.operands, go_sem, List.nil_append, Nat.zero_add, go_sem, List.mem_cons, List.not_mem_nil, forall_eq_or_imp, forall_eq, List.append_toArray, Option.toArray] at hA); (try simp only [go_sem, List.nil_append, Nat.zero_add, List.mem_cons, List.not_mem_nil, forall_eq_or_imp, forall_eq] at hQ hN); (first | (revert hA; intro hA)); (first | (revert hQ; intro hQ)); (first | (revert hN; intro hN)); simp (disch := omega) only [go_sem, List.nil_append, Nat.zero_add, go_sem, hA, hQ, hN]; (repeat (refine ndI (by first | assumption | rfl) ?_)); (first | apply eff_rd)))) | ((with_reducible apply evD_append_none); rfl; rfl; rfl; rfl; (focus (simp only [go_sem]; try rfl)); (first | omega); rfl; rfl) | ((with_reducible apply evD_append_flat); rfl; rfl; rfl; rfl; (focus (simp only [go_sem]; try rfl)); (first | omega); (first | omega); rfl; rfl; (focus (first | (focus (simp [spl]; done)))); (focus (first | (focus (simp [spl]; done)))); (focus (first | omega)); rfl; (focus (first | omega))) | ((first | ((with_reducible apply evD_one); rfl)); apply opF_buildSlice_none; rfl; (focus (simp only [go_sem]; try rfl))) | ((first | ((with_reducible apply evD_one); rfl)); apply opF_buildSlice_flat; rfl; rfl; (focus (simp only [go_sem]; try rfl)); (focus (simp only [go_sem]; try rfl)); rfl; (first | omega); (first | omega); (first | omega); (simp (disch := omega) only [go_sem, List.nil_append, Nat.zero_add]; rfl); rfl; (focus ((simp (disch := omega) only [unC, Option.map_some]); (try rfl))))); (simp (disch := omega) only [St.eff, setO, hputs, go_sem, List.nil_append, Nat.zero_add])) | ((with_reducible refine evC_draw ?_ ?_ ?_ ?_); kernel_rfl; kernel_rfl; (first | kernel_rfl); intro R hR))))
  all_goals (refine ⟨by simp, ⟨_, ?_, AV.le_refl _⟩, leH_get (by simp [leH, hget])⟩; simp only [Tryz.results38, resL, ldA, oneOf, go_sem])
  all_goals rfl
theorem points_fn (j : Jn) (hj : j.ok) : Fn Tryz.prog 38 [jnA j] [] (psl false (ptsJ j)) [] := by
  rcases Nat.eq_zero_or_pos j.m.length with h0 | h0
  · obtain ⟨p, M⟩ := j
    obtain rfl : M = [] := List.eq_nil_of_length_eq_zero h0
    exact pts0_fn p
  · have k := (ptsrow_fn j hj h0).frzN (d := 10) (pcs := (ptsJ j).flatMap Pt.pv) (by simp [hget, rcT])
    have e1 : ((ptsJ j).flatMap Pt.pv).length = (ptsJ j).length * 6 := flat_length pt_len _
    simpa [-List.length_flatMap, e1, AV.frz, AV.frzL, frzH] using k
theorem okJ_pts (j : Jn) : okJ j = ((ptsJ j).all okPt && decide (j.m.length ≤ 16)) := by
  unfold okJ ptsJ
  rw [List.all_append]
  simp only [List.all_cons, List.all_nil, Bool.and_true]
  cases decide (j.m.length ≤ 16) <;> cases okPt j.p <;> cases j.m.all okPt <;> rfl
theorem rightJ_fn (j : Jn) (hj : j.ok) : Fn Tryz.prog 10 [jnA j] [] (vb (okJ j)) [] := by
  have pf := points_fn j hj
  have po := ptsJ_ok hj
  have pl := ptsJ_len j
  have hm := hj.m.1
  rw [okJ_pts]
  have k9 : decide ((j.m.length : Int) ≤ 16) = decide (j.m.length ≤ 16) := decide_eq_decide.2 (by omega)
  generalize hL : ptsJ j = L at *
  have L8 : L.length < 9223372036854775808 := by omega
  obtain ⟨r, hr⟩ : ∃ r, (L.all okPt && decide (j.m.length ≤ 16)) = r := ⟨_, rfl⟩
  rw [hr]
  (refine fn_of Tryz.func10 rfl (by rfl) ?_; simp only [Tryz.ntmps10, List.length_cons, List.length_nil, Nat.reduceAdd, Nat.reduceSub, List.replicate, List.cons_append, List.nil_append])
  (repeat (any_goals (first | ((with_reducible refine evL_call ?_ ?_ ?_); rfl; rfl; intro K hK; ((apply opA_callB (pf); rfl; rfl; rfl; rfl; exact Tryz.func38); kernel_rfl; rfl; (simp only [go_sem]; rfl); (first | simp [AV.inNL, AV.inN])); (simp only [go_sem]; refine hK _ ?_; clear hK K)) | ((with_reducible refine evL_one ?_ ?_); rfl; intro K hK; simp only [go_sem]; ((repeat (refine ndI (by first | assumption) ?_)); refine hK _ ?_; clear hK K)) | (with_reducible first | (refine evL_nil ?_; refine hR _ ?_; clear hR R) | ((first | refine evC_seq ?_ | refine evC_block ?_); intro Ψ hΨ hΨ') | (refine evC_region ?_; intro R hR) | (refine hΨ _ ?_; clear hΨ hΨ' Ψ)))))
  refine evC_loop (α := { i : Nat // i ≤ L.length ∧ (L.take i).all okPt = true }) (fun x => ⟨[.any, .ptr 1 0, vb false, .any, .any, .any, psl false L, vi .i64 L.length, vi .i64 (x.1 : Int), .any, .any, .any, .any, .any, .any, .any, .any, .any, .any, .any], [(1, jc j)]⟩) (fun x => L.length - x.1) ⟨0, Nat.zero_le _, rfl⟩ (St.le_of (by simp [leT]) (by simp [leH, hget])) ?_
  rintro ⟨i, hi, hok⟩ Ψ hΨ hΨ'
  (try dsimp only at hΨ ⊢)
  have k7 : (i : Int) + 1 = ((i + 1 : Nat) : Int) := by omega
  rcases Nat.lt_or_ge i L.length with hlt | hge
  · obtain ⟨p, hp⟩ : ∃ p, L[i]? = some p := ⟨_, List.getElem?_eq_getElem hlt⟩
    have k1 : (decide ((i : Int) < (L.length : Int))) = true := decide_eq_true (by omega)
    have k2 := pt_at hp
    have rp := rrightp_fn p (po p (List.mem_of_getElem? hp))
    cases he : okPt p
    · rw [he] at rp
      have hf : r = false := by
        rw [← hr, Bool.and_eq_false_iff]
        exact .inl (by rw [List.all_eq_false]; exact ⟨p, List.mem_of_getElem? hp, by simp [he]⟩)
      (have W := ndI k1 (ndI k2 (ndI k7 @wrI)); (repeat (any_goals (first | ((with_reducible refine evL_call ?_ ?_ ?_); rfl; rfl; intro K hK; ((apply opA_callB (rp); rfl; rfl; rfl; rfl; exact Tryz.func39); kernel_rfl; rfl; (simp (disch := omega) only [go_sem, W]; rfl); (first | simp [AV.inNL, AV.inN])); (simp (disch := omega) only [go_sem, W]; refine hK _ ?_; clear hK K)) | ((with_reducible refine evL_one ?_ ?_); rfl; intro K hK; simp (disch := omega) only [go_sem, W]; ((repeat (refine ndI (by first | assumption | omega | rfl) ?_)); refine hK _ ?_; clear hK K)) | (with_reducible first | (refine evL_nil ?_; refine hR _ ?_; clear hR R) | ((first | refine evC_seq ?_ | refine evC_block ?_); intro Ψ hΨ hΨ') | (refine evC_region ?_; intro R hR) | (refine hΨ _ ?_; clear hΨ hΨ' Ψ) | refine evC_skip ?_ | refine evC_ret ?_) | ((with_reducible refine hΨ' _ _ ?_ ?_); (focus (simp; done)); clear hΨ hΨ' Ψ) | ((with_reducible apply evC_cond); rfl; rfl; all_goals (intro hc; first | (cases hc; done) | (try simp only at hc)))))))
      all_goals rw [hf]
      all_goals (refine ⟨by simp, ⟨_, ?_, AV.le_refl _⟩, leH_get (by simp [leH, hget])⟩; simp only [Tryz.results10, resL, ldA, oneOf, go_sem])
    · rw [he] at rp
      (have W := ndI k1 (ndI k2 (ndI k7 @wrI)); (repeat (any_goals (first | ((with_reducible refine evL_call ?_ ?_ ?_); rfl; rfl; intro K hK; ((apply opA_callB (rp); rfl; rfl; rfl; rfl; exact Tryz.func39); kernel_rfl; rfl; (simp (disch := omega) only [go_sem, W]; rfl); (first | simp [AV.inNL, AV.inN])); (simp (disch := omega) only [go_sem, W]; refine hK _ ?_; clear hK K)) | ((with_reducible refine evL_one ?_ ?_); rfl; intro K hK; simp (disch := omega) only [go_sem, W]; ((repeat (refine ndI (by first | assumption | omega | rfl) ?_)); refine hK _ ?_; clear hK K)) | (with_reducible first | (refine evL_nil ?_; refine hR _ ?_; clear hR R) | ((first | refine evC_seq ?_ | refine evC_block ?_); intro Ψ hΨ hΨ') | (refine evC_region ?_; intro R hR) | (refine hΨ _ ?_; clear hΨ hΨ' Ψ) | refine evC_skip ?_) | ((with_reducible refine hΨ' _ _ ?_ ?_); (focus (simp; done)); clear hΨ hΨ' Ψ) | ((with_reducible apply evC_cond); rfl; rfl; all_goals (intro hc; first | (cases hc; done) | (try simp only at hc)))))))
      exact hΨ _ ⟨i + 1, hlt, by rw [List.take_add_one, hp, List.all_append, hok]; simp [he]⟩ (by dsimp only; omega) (St.le_of (by simp [leT]) (by simp [leH, hget]))
  · have k1 : (decide ((i : Int) < (L.length : Int))) = false := decide_eq_false (by omega)
    rw [List.take_of_length_le hge] at hok
    rw [hok, Bool.true_and] at hr
    rw [← k9] at hr
    have m8 : j.m.length < 9223372036854775808 := by omega
    (repeat (any_goals (first | ((with_reducible refine evL_one ?_ ?_); rfl; intro K hK; simp (disch := omega) only [go_sem, k1, hr]; ((repeat (refine ndI (by first | assumption | rfl) ?_)); refine hK _ ?_; clear hK K)) | (with_reducible first | (refine evL_nil ?_; refine hR _ ?_; clear hR R) | ((first | refine evC_seq ?_); intro Ψ hΨ hΨ') | (refine evC_region ?_; intro R hR) | (refine hΨ _ ?_; clear hΨ hΨ' Ψ) | refine evC_ret ?_ | refine evC_exit ?_) | ((with_reducible refine hΨ' _ _ ?_ ?_); (focus (simp; done)); clear hΨ hΨ' Ψ) | ((with_reducible apply evC_cond); rfl; rfl; all_goals (intro hc; first | (cases hc; done) | (try simp only at hc))))))
    all_goals (refine ⟨by simp, ⟨_, ?_, AV.le_refl _⟩, leH_get (by simp [leH, hget])⟩; simp only [Tryz.results10, resL, ldA, oneOf, go_sem])
theorem rsameJ_fn (j k : Jn) (hj : j.ok) (hk : k.ok) : Fn Tryz.prog 13 [jnA j, jnA k] [] (vb (decide (j = k))) [] := by
  have p1 := points_fn j hj
  have p2 := points_fn k hk
  have ol := ptsJ_ok hj
  have om := ptsJ_ok hk
  have l1 := ptsJ_len j
  have l2 := ptsJ_len k
  have hm1 := hj.m.1
  have hm2 := hk.m.1
  have e : decide (j = k) = decide (ptsJ j = ptsJ k) := by
    refine decide_eq_decide.2 ⟨fun h => by rw [h], fun h => ?_⟩
    obtain ⟨p, M⟩ := j
    obtain ⟨q, N⟩ := k
    obtain ⟨h1, h2⟩ := List.append_inj' h rfl
    dsimp only at h1 h2
    rw [h1, List.cons.inj h2 |>.1]
  rw [e]
  generalize ptsJ j = L at *
  generalize ptsJ k = M at *
  have k8 : L.length < 9223372036854775808 := by omega
  obtain ⟨rr, hrr⟩ : ∃ r, decide (L = M) = r := ⟨_, rfl⟩
  rw [hrr]
  by_cases hlen : L.length = M.length
  · have f1 : ((L.length : Int) != (M.length : Int)) = false := by rw [hlen]; simp
    (refine fn_of Tryz.func13 rfl (by rfl) ?_; simp only [Tryz.ntmps13, List.length_cons, List.length_nil, Nat.reduceAdd, Nat.reduceSub, List.replicate, List.cons_append, List.nil_append])
    (repeat (any_goals (first | ((with_reducible refine evL_one ?_ ?_); rfl; intro K hK; simp only [go_sem, f1]; ((repeat (refine ndI (by first | assumption) ?_)); refine hK _ ?_; clear hK K)) | (with_reducible first | (refine evL_nil ?_; refine hR _ ?_; clear hR R) | ((first | refine evC_seq ?_ | refine evC_block ?_); intro Ψ hΨ hΨ') | (refine evC_region ?_; intro R hR) | (refine hΨ _ ?_; clear hΨ hΨ' Ψ) | refine evC_skip ?_) | ((with_reducible apply evC_cond); rfl; rfl; all_goals (intro hc; first | (cases hc; done) | (try simp only at hc))) | ((with_reducible refine evD_nil ?_ ?_); kernel_rfl; (with_reducible refine hR _ ?_); clear hR R) | ((first | ((with_reducible apply evD_fcall); rfl; rfl; (first | ((apply opF_callB (p1); rfl; rfl; rfl; rfl; exact Tryz.func38); kernel_rfl; rfl; (simp only [go_sem, f1]; rfl); (first | simp [AV.inNL, AV.inN])) | ((apply opF_callB (p2); rfl; rfl; rfl; rfl; exact Tryz.func38); kernel_rfl; rfl; (simp only [go_sem, f1]; rfl); (first | simp [AV.inNL, AV.inN])))) | ((with_reducible apply evD_any); rfl; rfl; (simp only [rdE, rdOf, go_sem, f1]; rfl); (intro τ hA hQ hN; ((try simp only [agree, Op.operands, Call.operands, go_sem, f1, go_sem, List.mem_cons, List.not_mem_nil, forall_eq_or_imp, forall_eq, List.append_toArray, Option.toArray] at hA); (try simp only [go_sem, f1, List.mem_cons, List.not_mem_nil, forall_eq_or_imp, forall_eq] at hQ hN); (first | (revert hA; intro hA)); (first | (revert hQ; intro hQ)); (first | (revert hN; intro hN)); simp only [go_sem, f1, go_sem, hA, hQ, hN]; (repeat (refine ndI (by first | assumption) ?_)); (first | apply eff_rd))))); (simp only [St.eff, setO, hputs, go_sem, f1])) | ((with_reducible refine evC_draw ?_ ?_ ?_ ?_); kernel_rfl; kernel_rfl; (first | kernel_rfl); intro R hR))))
    refine evC_loop (α := { i : Nat // i ≤ L.length ∧ L.take i = M.take i }) (fun x => ⟨[.any, .any, .any, .any, vb false, psl false L, psl false M, .any, .any, .any, .any, .any, .any, .any, .any, .any, .any, .any, vi .i64 L.length, vi .i64 (x.1 : Int), .any, .any, .any, .any, .any, .any, .any, .any, .any, .any, .any, .any, .any], []⟩) (fun x => L.length - x.1) ⟨0, Nat.zero_le _, rfl⟩ (St.le_of (by simp [leT]) (by simp [leH, hget])) ?_
    rintro ⟨i, hi, hok⟩ Ψ hΨ hΨ'
    (try dsimp only at hΨ ⊢)
    have k7 : (i : Int) + 1 = ((i + 1 : Nat) : Int) := by omega
    rcases Nat.lt_or_ge i L.length with hlt | hge
    · obtain ⟨p, hp⟩ : ∃ p, L[i]? = some p := ⟨_, List.getElem?_eq_getElem hlt⟩
      obtain ⟨p', hp'⟩ : ∃ p, M[i]? = some p := ⟨_, List.getElem?_eq_getElem (by omega)⟩
      have k1 : (decide ((i : Int) < (L.length : Int))) = true := decide_eq_true (by omega)
      have k2 := pt_at hp
      have k3 := pt_at hp'
      have hlt' : i < M.length := by omega
      have sa := rsamep_fn p p' (ol p (List.mem_of_getElem? hp)) (om p' (List.mem_of_getElem? hp'))
      by_cases he : p = p'
      · rw [decide_eq_true he] at sa
        (have W := ndI k1 (ndI k2 (ndI k3 (ndI k7 @wrI))); (repeat (any_goals (first | ((with_reducible refine evL_one ?_ ?_); rfl; intro K hK; simp (disch := omega) only [go_sem, W]; ((repeat (refine ndI (by first | assumption | rfl) ?_)); refine hK _ ?_; clear hK K)) | (with_reducible first | (refine evL_nil ?_; refine hR _ ?_; clear hR R) | ((first | refine evC_seq ?_ | refine evC_block ?_); intro Ψ hΨ hΨ') | (refine evC_region ?_; intro R hR) | (refine hΨ _ ?_; clear hΨ hΨ' Ψ) | refine evC_skip ?_) | ((with_reducible refine hΨ' _ _ ?_ ?_); (focus (simp; done)); clear hΨ hΨ' Ψ) | ((with_reducible apply evC_cond); rfl; rfl; all_goals (intro hc; first | (cases hc; done) | (try simp only at hc))) | ((with_reducible refine evD_nil ?_ ?_); kernel_rfl; (with_reducible refine hR _ ?_); clear hR R) | ((first | ((with_reducible apply evD_fcall); rfl; rfl; ((apply opF_callB (sa); rfl; rfl; rfl; rfl; exact Tryz.func44); kernel_rfl; rfl; (simp (disch := omega) only [go_sem, W]; rfl); (first | simp [AV.inNL, AV.inN]))) | ((with_reducible apply evD_any); rfl; rfl; (simp (disch := omega) only [rdE, rdOf, go_sem, W]; rfl); (intro τ hA hQ hN; ((try simp only [agree, Op.operands, Call.operands, go_sem, W, go_sem, List.mem_cons, List.not_mem_nil, forall_eq_or_imp, forall_eq, List.append_toArray, Option.toArray] at hA); (try simp only [go_sem, W, List.mem_cons, List.not_mem_nil, forall_eq_or_imp, forall_eq] at hQ hN); (first | (revert hA; intro hA)); (first | (revert hQ; intro hQ)); (first | (revert hN; intro hN)); simp (disch := omega) only [go_sem, W, go_sem, hA, hQ, hN]; (repeat (refine ndI (by first | assumption | omega | rfl) ?_)); (first | apply eff_rd))))); (simp (disch := omega) only [St.eff, setO, hputs, go_sem, W])) | ((with_reducible refine evC_draw ?_ ?_ ?_ ?_); kernel_rfl; kernel_rfl; (first | kernel_rfl); intro R hR)))))
        exact hΨ _ ⟨i + 1, hlt, take_next hp hp' hok he⟩ (by dsimp only; omega) (St.le_of (by simp [leT]) (by simp [leH, hget]))
      · rw [decide_eq_false he] at sa
        have hf : rr = false := by rw [← hrr]; exact decide_eq_false fun h => he (by rw [h] at hp; rw [hp] at hp'; exact Option.some.inj hp')
        (have W := ndI k1 (ndI k2 (ndI k3 (ndI k7 @wrI))); (repeat (any_goals (first | ((with_reducible refine evL_one ?_ ?_); rfl; intro K hK; simp (disch := omega) only [go_sem, W]; ((repeat (refine ndI (by first | assumption | rfl) ?_)); refine hK _ ?_; clear hK K)) | (with_reducible first | (refine evL_nil ?_; refine hR _ ?_; clear hR R) | ((first | refine evC_seq ?_ | refine evC_block ?_); intro Ψ hΨ hΨ') | (refine evC_region ?_; intro R hR) | (refine hΨ _ ?_; clear hΨ hΨ' Ψ) | refine evC_skip ?_ | refine evC_ret ?_) | ((with_reducible refine hΨ' _ _ ?_ ?_); (focus (simp; done)); clear hΨ hΨ' Ψ) | ((with_reducible apply evC_cond); rfl; rfl; all_goals (intro hc; first | (cases hc; done) | (try simp only at hc))) | ((with_reducible refine evD_nil ?_ ?_); kernel_rfl; (with_reducible refine hR _ ?_); clear hR R) | ((first | ((with_reducible apply evD_fcall); rfl; rfl; ((apply opF_callB (sa); rfl; rfl; rfl; rfl; exact Tryz.func44); kernel_rfl; rfl; (simp (disch := omega) only [go_sem, W]; rfl); (first | simp [AV.inNL, AV.inN]))) | ((with_reducible apply evD_any); rfl; rfl; (simp (disch := omega) only [rdE, rdOf, go_sem, W]; rfl); (intro τ hA hQ hN; ((try simp only [agree, Op.operands, Call.operands, go_sem, W, go_sem, List.mem_cons, List.not_mem_nil, forall_eq_or_imp, forall_eq, List.append_toArray, Option.toArray] at hA); (try simp only [go_sem, W, List.mem_cons, List.not_mem_nil, forall_eq_or_imp, forall_eq] at hQ hN); (first | (revert hA; intro hA)); (first | (revert hQ; intro hQ)); (first | (revert hN; intro hN)); simp (disch := omega) only [go_sem, W, go_sem, hA, hQ, hN]; (repeat (refine ndI (by first | assumption | omega | rfl) ?_)); (first | apply eff_rd))))); (simp (disch := omega) only [St.eff, setO, hputs, go_sem, W])) | ((with_reducible refine evC_draw ?_ ?_ ?_ ?_); kernel_rfl; kernel_rfl; (first | kernel_rfl); intro R hR)))))
        all_goals rw [hf]
        all_goals (refine ⟨by simp, ⟨_, ?_, AV.le_refl _⟩, leH_get (by simp [leH, hget])⟩; simp only [Tryz.results13, resL, ldA, oneOf, go_sem])
    · have k1 : (decide ((i : Int) < (L.length : Int))) = false := decide_eq_false (by omega)
      have hf : rr = true := by rw [← hrr]; exact decide_eq_true (by rwa [List.take_of_length_le hge, List.take_of_length_le (by omega)] at hok)
      (repeat (any_goals (first | ((with_reducible refine evL_one ?_ ?_); rfl; intro K hK; simp only [go_sem, k1]; ((repeat (refine ndI (by first | assumption) ?_)); refine hK _ ?_; clear hK K)) | (with_reducible first | (refine evL_nil ?_; refine hR _ ?_; clear hR R) | ((first | refine evC_seq ?_); intro Ψ hΨ hΨ') | (refine evC_region ?_; intro R hR) | (refine hΨ _ ?_; clear hΨ hΨ' Ψ) | refine evC_ret ?_ | refine evC_exit ?_) | ((with_reducible refine hΨ' _ _ ?_ ?_); (focus (simp; done)); clear hΨ hΨ' Ψ) | ((with_reducible apply evC_cond); rfl; rfl; all_goals (intro hc; first | (cases hc; done) | (try simp only at hc))))))
      all_goals rw [hf]
      all_goals (refine ⟨by simp, ⟨_, ?_, AV.le_refl _⟩, leH_get (by simp [leH, hget])⟩; simp only [Tryz.results13, resL, ldA, oneOf, go_sem])
  · have f1 : ((L.length : Int) != (M.length : Int)) = true := by simp; omega
    have hf : rr = false := by rw [← hrr]; exact decide_eq_false fun h => hlen (by rw [h])
    rw [hf]
    (refine fn_of Tryz.func13 rfl (by rfl) ?_; simp only [Tryz.ntmps13, List.length_cons, List.length_nil, Nat.reduceAdd, Nat.reduceSub, List.replicate, List.cons_append, List.nil_append])
    (repeat (any_goals (first | ((with_reducible refine evL_one ?_ ?_); rfl; intro K hK; simp only [go_sem, f1]; ((repeat (refine ndI (by first | assumption) ?_)); refine hK _ ?_; clear hK K)) | (with_reducible first | (refine evL_nil ?_; refine hR _ ?_; clear hR R) | ((first | refine evC_seq ?_); intro Ψ hΨ hΨ') | (refine evC_region ?_; intro R hR) | (refine hΨ _ ?_; clear hΨ hΨ' Ψ) | refine evC_ret ?_) | ((with_reducible refine hΨ' _ _ ?_ ?_); (focus (simp; done)); clear hΨ hΨ' Ψ) | ((with_reducible apply evC_cond); rfl; rfl; all_goals (intro hc; first | (cases hc; done) | (try simp only at hc))) | ((with_reducible refine evD_nil ?_ ?_); kernel_rfl; (with_reducible refine hR _ ?_); clear hR R) | ((first | ((with_reducible apply evD_fcall); rfl; rfl; (first | ((apply opF_callB (p1); rfl; rfl; rfl; rfl; exact Tryz.func38); kernel_rfl; rfl; (simp only [go_sem, f1]; rfl); (first | simp [AV.inNL, AV.inN])) | ((apply opF_callB (p2); rfl; rfl; rfl; rfl; exact Tryz.func38); kernel_rfl; rfl; (simp only [go_sem, f1]; rfl); (first | simp [AV.inNL, AV.inN])))) | ((with_reducible apply evD_any); rfl; rfl; (simp only [rdE, rdOf, go_sem, f1]; rfl); (intro τ hA hQ hN; ((try simp only [agree, Op.operands, Call.operands, go_sem, f1, go_sem, List.mem_cons, List.not_mem_nil, forall_eq_or_imp, forall_eq, List.append_toArray, Option.toArray] at hA); (try simp only [go_sem, f1, List.mem_cons, List.not_mem_nil, forall_eq_or_imp, forall_eq] at hQ hN); (first | (revert hA; intro hA)); (first | (revert hQ; intro hQ)); (first | (revert hN; intro hN)); simp only [go_sem, f1, go_sem, hA, hQ, hN]; (repeat (refine ndI (by first | assumption) ?_)); (first | apply eff_rd))))); (simp only [St.eff, setO, hputs, go_sem, f1])) | ((with_reducible refine evC_draw ?_ ?_ ?_ ?_); kernel_rfl; kernel_rfl; (first | kernel_rfl); intro R hR))))
    all_goals (refine ⟨by simp, ⟨_, ?_, AV.le_refl _⟩, leH_get (by simp [leH, hget])⟩; simp only [Tryz.results13, resL, ldA, oneOf, go_sem])
end Go.Proofs.YtmidmaeihpldhaaGreat
namespace Go.Proofs.YtmidmaeihpldhaaGreat
open Go.RowKit
open Nat (reduceBEq)
set_option maxRecDepth 20000
set_option maxHeartbeats 4000000

def putJ (j : Jn) (p : Pt) : Jn × Int := if okJ j then (if okPt p then (⟨p, j.m⟩, 0) else (nilJ, 200)) else (nilJ, 200)
theorem put1_fn (j : Jn) (p : Pt) (hp : p.ok) {g : FuncId} {fn : Func} (hg1 : Tryz.prog.funcs[g]? = some fn) (hg2 : (fn.name == "runtime.NumGoroutine") = false) (hg3 : fn.body.isNone = false) (W : List PV)
    (D : Fn Tryz.prog g [.ptr 1000 0, .ep W] [(1000, jc j)] (.tup []) [(1000, jc ⟨p, j.m⟩)]) :
    Fn Tryz.prog 103 [.ptr 1000 0, .ptr 1001 0] [(1000, jc j), (1001, [.fn g [.ep W]])] (vi .i64 (if okPt p then 0 else 200)) [(1000, jc ⟨p, j.m⟩), (1001, [.fn g [.ep W]])] := by
  have f := mayp_fn p hp
  cases e : okPt p <;> simp only [e, if_true, if_false, Bool.false_eq_true] at f ⊢
  all_goals (refine fn_of Tryz.func103 rfl (by rfl) ?_; simp only [Tryz.ntmps103, List.length_cons, List.length_nil, Nat.reduceAdd, Nat.reduceSub, List.replicate, List.cons_append, List.nil_append])
  all_goals (repeat (any_goals (first | ((with_reducible refine evL_call ?_ ?_ ?_); rfl; rfl; intro K hK; (first | ((apply opA_callB (f); rfl; rfl; rfl; rfl; exact Tryz.func49); kernel_rfl; rfl; (simp only [go_sem]; rfl); (first | simp [AV.inNL, AV.inN])) | (apply opA_callR (D) (fun r => r); rfl; rfl; rfl; rfl; exact hg1; exact hg2; exact hg3; rfl; (intro r hr q hq h; simp only [List.map_cons, List.map_nil, List.cons_append, List.nil_append, List.mem_cons, List.not_mem_nil, or_false] at hr hq; (try dsimp only at h); first | omega); (simp only [argsOk, argOk, AV.ren, AV.renL, renL_map, List.mem_cons, List.not_mem_nil, forall_eq_or_imp, forall_eq, newOk, List.contains_cons, List.contains_nil, AV.refsL, AV.refs, refsL_map, AV.inN, AV.inNL, inH, inNL_map, go_sem]))); (simp only [hputs, hdels, renH, AV.ren, AV.renL, renL_map, go_sem]; refine hK _ ?_; clear hK K)) | ((with_reducible refine evL_one ?_ ?_); rfl; intro K hK; simp only [go_sem]; ((repeat (refine ndI (by first | assumption) ?_)); refine hK _ ?_; clear hK K)) | (with_reducible first | (refine evL_nil ?_; refine hR _ ?_; clear hR R) | ((first | refine evC_seq ?_); intro Ψ hΨ hΨ') | (refine evC_region ?_; intro R hR) | (refine hΨ _ ?_; clear hΨ hΨ' Ψ) | refine evC_skip ?_ | refine evC_ret ?_) | ((with_reducible refine hΨ' _ _ ?_ ?_); (focus (simp; done)); clear hΨ hΨ' Ψ) | ((with_reducible apply evC_cond); rfl; rfl; all_goals (intro hc; first | (cases hc; done) | (try simp only at hc))))))
  all_goals (refine ⟨by simp, ⟨_, ?_, AV.le_refl _⟩, leH_get (by simp [leH, hget])⟩; simp only [Tryz.results103, resL, ldA, oneOf, go_sem])
theorem put_fn (j : Jn) (hj : j.ok) (p : Pt) (hp : p.ok) {g : FuncId} {fn : Func} (hg1 : Tryz.prog.funcs[g]? = some fn) (hg2 : (fn.name == "runtime.NumGoroutine") = false) (hg3 : fn.body.isNone = false) (W : List PV)
    (D : Fn Tryz.prog g [.ptr 1000 0, .ep W] [(1000, jc j)] (.tup []) [(1000, jc ⟨p, j.m⟩)]) :
    Fn Tryz.prog 67 [jnA j, .fn g [.ep W]] [] (resJ (putJ j p)) [] := by
  have d1 := put1_fn j p hp hg1 hg2 hg3 W D
  have hr : ∀ d, AV.refsL d [AV.fn g [.ep W]] = false := fun d => rfl
  have hn : ∀ ρ, AV.renL ρ [AV.fn g [.ep W]] = [AV.fn g [.ep W]] := fun ρ => rfl
  have hi : ∀ N, AV.inNL N [AV.fn g [.ep W]] = true := fun N => rfl
  have hz : ∀ pcs, AV.frzL 500 pcs [AV.fn g [.ep W]] = [AV.fn g [.ep W]] := fun pcs => rfl
  have F := Tryz.func103
  unfold putJ
  by_cases hc : okJ j = true
  · rw [if_pos hc]
    by_cases hq : okPt p = true
    · rw [if_pos hq] at d1 ⊢
      have t := turnA_ok j hj F rfl rfl _ _ hr hn hi hr hn hi ⟨p, j.m⟩ ⟨hp, hj.m⟩ hc hz d1
      (refine fn_of Tryz.func67 rfl (by rfl) ?_; simp only [Tryz.ntmps67, List.length_cons, List.length_nil, Nat.reduceAdd, Nat.reduceSub, List.replicate, List.cons_append, List.nil_append])
      (repeat (any_goals (first | ((with_reducible refine evL_call ?_ ?_ ?_); rfl; rfl; intro K hK; (apply opA_callR (t) (fun r => 3); rfl; rfl; rfl; rfl; exact Tryz.func65; kernel_rfl; rfl; rfl; (intro r hr q hq h; simp only [List.map_cons, List.map_nil, List.cons_append, List.nil_append, List.mem_cons, List.not_mem_nil, or_false] at hr hq; (try dsimp only at h); first | omega); (simp only [argsOk, argOk, AV.ren, AV.renL, renL_map, List.mem_cons, List.not_mem_nil, forall_eq_or_imp, forall_eq, newOk, List.contains_cons, List.contains_nil, AV.refsL, AV.refs, refsL_map, AV.inN, AV.inNL, inH, inNL_map, go_sem])); (simp only [hputs, hdels, renH, AV.ren, AV.renL, renL_map, go_sem]; refine hK _ ?_; clear hK K)) | ((with_reducible refine evL_one ?_ ?_); rfl; intro K hK; simp only [go_sem]; ((repeat (refine ndI (by first | assumption | rfl) ?_)); refine hK _ ?_; clear hK K)) | (with_reducible first | (refine evL_nil ?_; refine hR _ ?_; clear hR R) | ((first | refine evC_seq ?_); intro Ψ hΨ hΨ') | (refine evC_region ?_; intro R hR) | (refine hΨ _ ?_; clear hΨ hΨ' Ψ) | refine evC_ret ?_))))
      all_goals (refine ⟨by simp, ⟨_, ?_, AV.le_refl _⟩, leH_get (by simp [leH, hget])⟩; simp only [Tryz.results67, resL, ldA, oneOf, go_sem])
    · rw [if_neg hq] at d1 ⊢
      have t := turnA_err j hj F rfl rfl _ _ hr hn hi hr hn hi ⟨p, j.m⟩ 200 (by decide) hc d1
      (refine fn_of Tryz.func67 rfl (by rfl) ?_; simp only [Tryz.ntmps67, List.length_cons, List.length_nil, Nat.reduceAdd, Nat.reduceSub, List.replicate, List.cons_append, List.nil_append])
      (repeat (any_goals (first | ((with_reducible refine evL_call ?_ ?_ ?_); rfl; rfl; intro K hK; (apply opA_callR (t) (fun r => 3); rfl; rfl; rfl; rfl; exact Tryz.func65; kernel_rfl; rfl; rfl; (intro r hr q hq h; simp only [List.map_cons, List.map_nil, List.cons_append, List.nil_append, List.mem_cons, List.not_mem_nil, or_false] at hr hq; (try dsimp only at h); first | omega); (simp only [argsOk, argOk, AV.ren, AV.renL, renL_map, List.mem_cons, List.not_mem_nil, forall_eq_or_imp, forall_eq, newOk, List.contains_cons, List.contains_nil, AV.refsL, AV.refs, refsL_map, AV.inN, AV.inNL, inH, inNL_map, go_sem])); (simp only [hputs, hdels, renH, AV.ren, AV.renL, renL_map, go_sem]; refine hK _ ?_; clear hK K)) | ((with_reducible refine evL_one ?_ ?_); rfl; intro K hK; simp only [go_sem]; ((repeat (refine ndI (by first | assumption | rfl) ?_)); refine hK _ ?_; clear hK K)) | (with_reducible first | (refine evL_nil ?_; refine hR _ ?_; clear hR R) | ((first | refine evC_seq ?_); intro Ψ hΨ hΨ') | (refine evC_region ?_; intro R hR) | (refine hΨ _ ?_; clear hΨ hΨ' Ψ) | refine evC_ret ?_))))
      all_goals (refine ⟨by simp, ⟨_, ?_, AV.le_refl _⟩, leH_get (by simp [leH, hget])⟩; simp only [Tryz.results67, resL, ldA, oneOf, go_sem])
  · rw [if_neg hc]
    have hc2 : okJ j = false := by simpa using hc
    have t := turnA_bad j hj (f := 103) [AV.fn g [.ep W]] hr hc2
    (refine fn_of Tryz.func67 rfl (by rfl) ?_; simp only [Tryz.ntmps67, List.length_cons, List.length_nil, Nat.reduceAdd, Nat.reduceSub, List.replicate, List.cons_append, List.nil_append])
    (repeat (any_goals (first | ((with_reducible refine evL_call ?_ ?_ ?_); rfl; rfl; intro K hK; (apply opA_callR (t) (fun r => 3); rfl; rfl; rfl; rfl; exact Tryz.func65; kernel_rfl; rfl; rfl; (intro r hr q hq h; simp only [List.map_cons, List.map_nil, List.cons_append, List.nil_append, List.mem_cons, List.not_mem_nil, or_false] at hr hq; (try dsimp only at h); first | omega); (simp only [argsOk, argOk, AV.ren, AV.renL, renL_map, List.mem_cons, List.not_mem_nil, forall_eq_or_imp, forall_eq, newOk, List.contains_cons, List.contains_nil, AV.refsL, AV.refs, refsL_map, AV.inN, AV.inNL, inH, inNL_map, go_sem])); (simp only [hputs, hdels, renH, AV.ren, AV.renL, renL_map, go_sem]; refine hK _ ?_; clear hK K)) | ((with_reducible refine evL_one ?_ ?_); rfl; intro K hK; simp only [go_sem]; ((repeat (refine ndI (by first | assumption | rfl) ?_)); refine hK _ ?_; clear hK K)) | (with_reducible first | (refine evL_nil ?_; refine hR _ ?_; clear hR R) | ((first | refine evC_seq ?_); intro Ψ hΨ hΨ') | (refine evC_region ?_; intro R hR) | (refine hΨ _ ?_; clear hΨ hΨ' Ψ) | refine evC_ret ?_))))
    all_goals (refine ⟨by simp, ⟨_, ?_, AV.le_refl _⟩, leH_get (by simp [leH, hget])⟩; simp only [Tryz.results67, resL, ldA, oneOf, go_sem])
theorem lay_fn (j : Jn) (hj : j.ok) (w : Wl) (hw : w.ok) : Fn Tryz.prog 26 [jnA j, wlA w] [] (resJ (putJ j ⟨w, j.p.x⟩)) [] := by
  have d : Fn Tryz.prog 68 [.ptr 1000 0, .ep [acV w.S, hdV w.L, noV w.N]] [(1000, jc j)] (.tup []) [(1000, jc ⟨⟨w, j.p.x⟩, j.m⟩)] := by
    (refine fn_of Tryz.func68 rfl (by rfl) ?_; simp only [Tryz.ntmps68, List.length_cons, List.length_nil, Nat.reduceAdd, Nat.reduceSub, List.replicate, List.cons_append, List.nil_append])
    (repeat (any_goals (first | ((with_reducible refine evL_one ?_ ?_); rfl; intro K hK; simp only [go_sem]; ((repeat (refine ndI (by first | assumption) ?_)); refine hK _ ?_; clear hK K)) | (with_reducible first | (refine evL_nil ?_; refine hR _ ?_; clear hR R) | (refine evC_region ?_; intro R hR)))))
    all_goals (refine ⟨by simp, ⟨_, ?_, AV.le_refl _⟩, leH_get (by simp [leH, hget])⟩; simp only [Tryz.results68, resL, ldA, oneOf, go_sem])
  have t := put_fn j hj ⟨w, j.p.x⟩ ⟨hw, hj.p.x, hj.p.f⟩ Tryz.func68 rfl rfl _ d
  (refine fn_of Tryz.func26 rfl (by rfl) ?_; simp only [Tryz.ntmps26, List.length_cons, List.length_nil, Nat.reduceAdd, Nat.reduceSub, List.replicate, List.cons_append, List.nil_append])
  (repeat (any_goals (first | ((with_reducible refine evL_one ?_ ?_); rfl; intro K hK; simp only [go_sem]; ((repeat (refine ndI (by first | assumption) ?_)); refine hK _ ?_; clear hK K)) | (with_reducible first | (refine evL_nil ?_; refine hR _ ?_; clear hR R) | ((first | refine evC_seq ?_); intro Ψ hΨ hΨ') | (refine evC_region ?_; intro R hR) | (refine hΨ _ ?_; clear hΨ hΨ' Ψ)))))
  refine evL_to rfl (St.to.frz 3 (pcs := [acV w.S, hdV w.L, noV w.N]) (by simp [hget])) ?_
  simp only [St.frz, AV.frzL, AV.frz, frzH, if_true, eq_self, ↓reduceIte, Nat.reduceEqDiff, List.length_cons, List.length_nil, List.drop_zero, Nat.reduceAdd, Nat.reduceLT]
  (repeat (any_goals (first | ((with_reducible refine evL_call ?_ ?_ ?_); rfl; rfl; intro K hK; ((apply opA_callB (t); rfl; rfl; rfl; rfl; exact Tryz.func67); kernel_rfl; rfl; (simp only [go_sem]; rfl); (first | simp [AV.inNL, AV.inN])); (simp only [go_sem]; refine hK _ ?_; clear hK K)) | ((with_reducible refine evL_one ?_ ?_); rfl; intro K hK; simp only [go_sem]; ((repeat (refine ndI (by first | assumption) ?_)); refine hK _ ?_; clear hK K)) | (with_reducible first | (refine evL_nil ?_; refine hR _ ?_; clear hR R) | (refine hΨ _ ?_; clear hΨ hΨ' Ψ) | refine evC_ret ?_))))
  all_goals (refine ⟨by simp, ⟨_, ?_, AV.le_refl _⟩, leH_get (by simp [leH, hget])⟩; simp only [Tryz.results26, resL, ldA, oneOf, go_sem])
end Go.Proofs.YtmidmaeihpldhaaGreat
namespace Go.Proofs.YtmidmaeihpldhaaGreat
open Go.RowKit
theorem St.to.cells {σ : St} (r : Nat) {cs ds : List AV} (hr : hget σ.H r = some cs) (hle : leL cs ds) : σ.to ⟨σ.T, hput σ.H r ds⟩ := fun E ι a w hg => by
  refine ⟨ι, ?_⟩
  obtain ⟨hlen0, hle2⟩ := leL_get hle
  have hget' : ∀ q es, hget (hput σ.H r ds) q = some es → (q = r ∧ es = ds) ∨ (q ≠ r ∧ hget σ.H q = some es) := fun q es hq => by
    rw [hget_put] at hq
    split at hq
    · rename_i e; cases hq; exact .inl ⟨e, rfl⟩
    · rename_i e; exact .inr ⟨e, hq⟩
  have hold : ∀ q es, hget (hput σ.H r ds) q = some es → ∃ fs, hget σ.H q = some fs := fun q es hq => by
    rcases hget' q es hq with ⟨rfl, _⟩ | ⟨_, h⟩
    · exact ⟨_, hr⟩
    · exact ⟨_, h⟩
  have hSx : ∀ b, Sx E ι σ.H b → Sx E ι (hput σ.H r ds) b := fun b ⟨g1, g2⟩ => ⟨g1, fun q es hq hz => by
    obtain ⟨fs, hes⟩ := hold q es hq
    exact g2 q fs hes hz⟩
  have hR : ∀ {v : Value} {x : AV}, RV (Sx E ι σ.H) ι w v x → RV (Sx E ι (hput σ.H r ds)) ι w v x := fun hv => hv.mono (fun b hb _ => ⟨hSx b hb, rfl⟩) fun _ _ => rfl
  refine ⟨hg.defers.mono fun b hb _ => ⟨hSx b hb, rfl⟩, hg.size, fun i => hR (hg.tmp i), ⟨fun q es hq => ?_, fun q q' es fs hq hq' => ?_⟩, ⟨hg.keep.os, hg.keep.tape, hg.keep.output, hg.keep.size, hg.keep.block, fun q es hq => ?_⟩⟩
  · rcases hget' q es hq with ⟨rfl, rfl⟩ | ⟨_, h⟩
    · rcases hg.heap.blk q cs hr with ⟨h0, rfl⟩ | ⟨cur, hh, hs, hlen, hcur, hone1⟩
      · exact .inl ⟨h0, List.eq_nil_of_length_eq_zero hlen0.symm⟩
      · refine .inr ⟨cur, hh, hs, by rw [← hlen0]; exact hlen, fun i u x hu hx => ?_, hone1⟩
        have hi : i < cs.length := by rw [hlen0]; exact (List.getElem?_eq_some_iff.1 hx).1
        have hy : cs[i]? = some cs[i] := List.getElem?_eq_getElem hi
        exact ⟨hle2 i _ _ hy hx _ _ _ _ (hR (hcur i u _ hu hy).1), (hcur i u _ hu hy).2⟩
    · rcases hg.heap.blk q es h with h0 | ⟨cur, hh, hs, hlen, hcur, hone1⟩
      · exact .inl h0
      · exact .inr ⟨cur, hh, hs, hlen, fun i u x hu hx => ⟨hR (hcur i u x hu hx).1, (hcur i u x hu hx).2⟩, hone1⟩
  · obtain ⟨ds', h1'⟩ := hold q es hq
    obtain ⟨es', h2'⟩ := hold q' fs hq'
    exact hg.heap.inj q q' ds' es' h1' h2'
  · obtain ⟨ds', h1'⟩ := hold q es hq
    exact hg.keep.mine q ds' h1'
theorem AV.le_tight (sz n : Nat) (cs : List PV) : (AV.c (.sl true sz n cs)).le (.c (.sl false sz n cs)) := fun S ι w v h => by
  cases h with
  | c _ _ hp =>
    cases hp with
    | sl _ _ A _ c us _ h1 h2 h3 hx hl hn h4 h5 => exact .c _ _ (.sl false sz A n c us cs h1 h2 h3 (fun h => by cases h) hl hn h4 h5)
section
variable {P : Program} {o : Oper} {σ : St} {K : St → Prop}
theorem opA_index_ep {t sz n : Nat} {g : Bool} {x i : Operand} {cs : List PV} {k : IntKind} {m : Int} (ho : o.op = .indexAddr t x i) (hx : okConst x = true) (hi0 : okConst i = true) (h1 : σ.ev x = .ep cs) (hi : σ.ev i = .c (.v (.int k m))) (hs : arrT P t = some (n, sz, g))
    (hb : 0 ≤ m ∧ m < n) (hl : m.toNat * sz < cs.length) (hK : K (σ.put o.dst (.ep (cs.drop (m.toNat * sz))))) : OpA P o σ K :=
  opA_val _ hK fun E ι a w h => by
    have hxv := h.ev x hx
    rw [h1] at hxv
    have hiv := h.ev i hi0
    rw [hi] at hiv
    obtain ⟨ei, _⟩ := hiv.v_inv
    generalize he : a.eval x = v at hxv
    unfold arrT at hs
    split at hs
    · rename_i n' e' hu
      split at hs
      · rename_i s' g' hs1 hs2
        simp only [Option.some.injEq, Prod.mk.injEq] at hs
        obtain ⟨rfl, rfl, rfl⟩ := hs
        cases hxv with
        | ep b off us cs hl' hne hS h4 h5 =>
          refine ⟨_, ?_, .ep b (off + m.toNat * s') (us.drop (m.toNat * s')) _ (by simp; omega) (fun e => ?_) hS (fun j u hu => ?_) fun j u x hu hx => ?_⟩
          · simp only [execOp, ho, he, ei, Instr.indexAt, Sem.run_bind, asIntOf_int, run_underlying hu, Result.andThen_ok, Sem.run_pure, Instr.sureAddr, run_szT hs1, Sem.run_ite, if_pos hb, add_none]
          · have := congrArg List.length e; simp at this; omega
          · rw [List.getElem?_drop] at hu; rw [Nat.add_assoc]; exact h4 _ u hu
          · rw [List.getElem?_drop] at hu hx; exact h5 _ u x hu hx
      · cases hs
    · cases hs
theorem opF_index_ep {t sz n : Nat} {g : Bool} {x i : Operand} {cs : List PV} {k : IntKind} {m : Int} (ho : o.op = .indexAddr t x i) (hx : okConst x = true) (hi0 : okConst i = true) (h1 : σ.ev x = .ep cs) (hi : σ.ev i = .c (.v (.int k m))) (hs : arrT P t = some (n, sz, g))
    (hb : 0 ≤ m ∧ m < n) (hl : m.toNat * sz < cs.length) : OpF P o σ.ev (hget σ.H) (.ep (cs.drop (m.toNat * sz))) [] [] := fun τ hA _ => by
  refine opA_index_ep ho hx hi0 (by rw [hA x (by rw [ho]; simp [Op.operands])]; exact h1) (by rw [hA i (by rw [ho]; simp [Op.operands])]; exact hi) hs hb hl ?_
  cases o.dst <;> rfl
end
end Go.Proofs.YtmidmaeihpldhaaGreat
namespace Go.Proofs.YtmidmaeihpldhaaGreat
open Go.RowKit
open Nat (reduceBEq)
set_option maxRecDepth 20000
set_option maxHeartbeats 4000000
def markJ (j : Jn) : Jn × Int := if okJ j then (if j.m.length = 16 then (nilJ, 6) else (⟨j.p, j.m ++ [j.p]⟩, 0)) else (nilJ, 200)
def markN (j : Jn) : Int := if okJ j then (if j.m.length = 16 then 0 else (j.m.length : Int)) else 0
theorem mark1_no (j : Jn) (hc : j.m.length = 16) : Fn Tryz.prog 66 [.ptr 1000 0, .ptr 1001 0] [(1000, jc j), (1001, [vi .i64 0])] (vi .i64 6) [(1000, jc j), (1001, [vi .i64 0])] := by
  have k0 : ((j.m.length : Int) == 16) = true := by rw [hc]; rfl
  have h8 : j.m.length < 9223372036854775808 := by omega
  (refine fn_of Tryz.func66 rfl (by rfl) ?_; simp only [Tryz.ntmps66, List.length_cons, List.length_nil, Nat.reduceAdd, Nat.reduceSub, List.replicate, List.cons_append, List.nil_append])
  (repeat (any_goals (first | ((with_reducible refine evL_one ?_ ?_); rfl; intro K hK; simp (disch := omega) only [go_sem, k0]; ((repeat (refine ndI (by first | assumption | rfl) ?_)); refine hK _ ?_; clear hK K)) | (with_reducible first | (refine evL_nil ?_; refine hR _ ?_; clear hR R) | ((first | refine evC_seq ?_); intro Ψ hΨ hΨ') | (refine evC_region ?_; intro R hR) | (refine hΨ _ ?_; clear hΨ hΨ' Ψ) | refine evC_ret ?_) | ((with_reducible refine hΨ' _ _ ?_ ?_); (focus (simp; done)); clear hΨ hΨ' Ψ) | ((with_reducible apply evC_cond); rfl; rfl; all_goals (intro hc; first | (cases hc; done) | (try simp only at hc))))))
  all_goals (refine ⟨by simp, ⟨_, ?_, AV.le_refl _⟩, leH_get (by simp [leH, hget])⟩; simp only [Tryz.results66, resL, ldA, oneOf, go_sem])
theorem mark1_ok (j : Jn) (hl : j.m.length ≤ 100) (hc : j.m.length ≠ 16) : Fn Tryz.prog 66 [.ptr 1000 0, .ptr 1001 0] [(1000, jc j), (1001, [vi .i64 0])] (vi .i64 0) [(1000, jc ⟨j.p, j.m ++ [j.p]⟩), (1001, [vi .i64 j.m.length])] := by
  have k0 : ((j.m.length : Int) == 16) = false := by simp; omega
  have h8 : j.m.length < 9223372036854775808 := by omega
  have e1 : (j.m.flatMap Pt.pv).length = j.m.length * 6 := flat_length pt_len _
  have e2 : (j.m.flatMap Pt.pv).take (j.m.length * 6) = j.m.flatMap Pt.pv := List.take_of_length_le (by omega)
  have e3 : (j.m ++ [j.p]).length = j.m.length + 1 := by simp
  (refine fn_of Tryz.func66 rfl (by rfl) ?_; simp only [Tryz.ntmps66, List.length_cons, List.length_nil, Nat.reduceAdd, Nat.reduceSub, List.replicate, List.cons_append, List.nil_append])
  (have W := ndI k0 (ndI e1 e2); (repeat (any_goals (first | ((with_reducible refine evL_one ?_ ?_); rfl; intro K hK; simp (disch := omega) only [go_sem, W]; ((repeat (refine ndI (by first | assumption | rfl) ?_)); refine hK _ ?_; clear hK K)) | (with_reducible first | (refine evL_nil ?_; refine hR _ ?_; clear hR R) | ((first | refine evC_seq ?_); intro Ψ hΨ hΨ') | (refine evC_region ?_; intro R hR) | (refine hΨ _ ?_; clear hΨ hΨ' Ψ) | refine evC_skip ?_ | refine evC_ret ?_) | ((with_reducible apply evC_cond); rfl; rfl; all_goals (intro hc; first | (cases hc; done) | (try simp only at hc))) | ((with_reducible refine evD_nil ?_ ?_); kernel_rfl; (with_reducible refine hR _ ?_); clear hR R) | ((first | ((with_reducible apply evD_any); rfl; rfl; (simp (disch := omega) only [rdE, rdOf, go_sem, W]; rfl); (intro τ hA hQ hN; ((try simp only [agree, Op.operands, Call.operands, go_sem, W, go_sem, List.mem_cons, List.not_mem_nil, forall_eq_or_imp, forall_eq, List.append_toArray, Option.toArray] at hA); (try simp only [go_sem, W, List.mem_cons, List.not_mem_nil, forall_eq_or_imp, forall_eq] at hQ hN); (first | (revert hA; intro hA)); (first | (revert hQ; intro hQ)); (first | (revert hN; intro hN)); simp (disch := omega) only [go_sem, W, go_sem, hA, hQ, hN]; (repeat (refine ndI (by first | assumption | omega | rfl) ?_)); (first | apply eff_rd | apply eff_st)))) | ((with_reducible apply evD_append_flat); rfl; rfl; rfl; rfl; (focus (simp only [go_sem]; try rfl)); (first | omega); (first | omega); rfl; rfl; (focus (first | (focus (simp [spl]; done)))); (focus (first | omega)); (focus (first | omega)); rfl; (focus (first | omega))) | ((first | ((with_reducible apply evD_one); rfl)); apply opF_buildSlice_flat; rfl; rfl; (focus (simp only [go_sem]; try rfl)); (focus (simp only [go_sem]; try rfl)); rfl; (first | omega); (first | omega); (first | omega); (simp (disch := omega) only [go_sem, W]; rfl); rfl; (focus ((simp (disch := omega) only [unC, Option.map_some]); (try rfl))))); (simp (disch := omega) only [St.eff, setO, hputs, go_sem, W])) | ((with_reducible refine evC_draw ?_ ?_ ?_ ?_); kernel_rfl; kernel_rfl; (first | kernel_rfl); intro R hR)))))
  exact ⟨by simp, ⟨_, rfl, AV.le_refl _⟩, leH_get (by simp [leH, hget, Pt.pv])⟩
theorem hrI (n : Int) : ∀ d, AV.refsL d [vi .i64 n] = false := fun d => rfl
theorem hnI (n : Int) : ∀ ρ, AV.renL ρ [vi .i64 n] = [vi .i64 n] := fun d => rfl
theorem hiI (n : Int) : ∀ N, AV.inNL N [vi .i64 n] = true := fun d => rfl
theorem hzI (n : Int) : ∀ pcs, AV.frzL 500 pcs [vi .i64 n] = [vi .i64 n] := fun d => rfl
theorem mark_fn (j : Jn) (hj : j.ok) : Fn Tryz.prog 25 [jnA j] [] (.tup [jnA (markJ j).1, vi .i64 (markN j), vi .i64 (markJ j).2]) [] := by
  have F := Tryz.func66
  unfold markJ markN
  by_cases hc : okJ j = true
  · rw [if_pos hc, if_pos hc]
    by_cases hq : j.m.length = 16
    · rw [if_pos hq, if_pos hq]
      have t := turnA_err j hj F rfl rfl _ _ (hrI 0) (hnI 0) (hiI 0) (hrI 0) (hnI 0) (hiI 0) j 6 (by decide) hc (mark1_no j hq)
      (refine fn_of Tryz.func25 rfl (by rfl) ?_; simp only [Tryz.ntmps25, List.length_cons, List.length_nil, Nat.reduceAdd, Nat.reduceSub, List.replicate, List.cons_append, List.nil_append])
      (repeat (any_goals (first | ((with_reducible refine evL_call ?_ ?_ ?_); rfl; rfl; intro K hK; (apply opA_callR (t) (fun r => 5); rfl; rfl; rfl; rfl; exact Tryz.func65; kernel_rfl; rfl; rfl; (intro r hr q hq h; simp only [List.map_cons, List.map_nil, List.cons_append, List.nil_append, List.mem_cons, List.not_mem_nil, or_false] at hr hq; (try dsimp only at h); first | omega); (simp only [argsOk, argOk, AV.ren, AV.renL, renL_map, List.mem_cons, List.not_mem_nil, forall_eq_or_imp, forall_eq, newOk, List.contains_cons, List.contains_nil, AV.refsL, AV.refs, refsL_map, AV.inN, AV.inNL, inH, inNL_map, go_sem])); (simp only [hputs, hdels, renH, AV.ren, AV.renL, renL_map, go_sem]; refine hK _ ?_; clear hK K)) | ((with_reducible refine evL_one ?_ ?_); rfl; intro K hK; simp only [go_sem]; ((repeat (refine ndI (by first | assumption | rfl) ?_)); refine hK _ ?_; clear hK K)) | (with_reducible first | (refine evL_nil ?_; refine hR _ ?_; clear hR R) | ((first | refine evC_seq ?_); intro Ψ hΨ hΨ') | (refine evC_region ?_; intro R hR) | (refine hΨ _ ?_; clear hΨ hΨ' Ψ) | refine evC_ret ?_) | ((with_reducible refine evD_nil ?_ ?_); kernel_rfl; (with_reducible refine hR _ ?_); clear hR R) | (((with_reducible apply evD_any); rfl; rfl; (simp only [rdE, rdOf, go_sem]; rfl); (intro τ hA hQ hN; ((try simp only [agree, Op.operands, Call.operands, go_sem, List.mem_cons, List.not_mem_nil, forall_eq_or_imp, forall_eq, List.append_toArray, Option.toArray] at hA); (try simp only [go_sem, List.mem_cons, List.not_mem_nil, forall_eq_or_imp, forall_eq] at hQ hN); (first | (revert hA; intro hA)); (first | (revert hQ; intro hQ)); (first | (revert hN; intro hN)); simp only [go_sem, hA, hQ, hN]; (repeat (refine ndI (by first | assumption) ?_)); (first | apply eff_rd | apply eff_st)))); (simp only [St.eff, setO, hputs, go_sem])) | ((with_reducible refine evC_draw ?_ ?_ ?_ ?_); kernel_rfl; kernel_rfl; (first | kernel_rfl); intro R hR))))
      all_goals (refine ⟨by simp, ⟨_, ?_, AV.le_refl _⟩, leH_get (by simp [leH, hget])⟩; simp only [Tryz.results25, resL, ldA, oneOf, go_sem])
    · rw [if_neg hq, if_neg hq]
      have t := turnA_ok j hj F rfl rfl _ _ (hrI 0) (hnI 0) (hiI 0) (hrI j.m.length) (hnI j.m.length) (hiI j.m.length) ⟨j.p, j.m ++ [j.p]⟩ ⟨hj.p, by
        rw [okJ] at hc
        simp only [Bool.and_eq_true, decide_eq_true_eq] at hc
        have := hc.1
        rw [List.length_append]
        simp only [List.length_cons, List.length_nil]
        omega, fun x hx => (List.mem_append.1 hx).elim (hj.m.2 x) fun h => by rw [List.mem_singleton.1 h]; exact hj.p⟩ hc (hzI _) (mark1_ok j hj.m.1 hq)
      (refine fn_of Tryz.func25 rfl (by rfl) ?_; simp only [Tryz.ntmps25, List.length_cons, List.length_nil, Nat.reduceAdd, Nat.reduceSub, List.replicate, List.cons_append, List.nil_append])
      (repeat (any_goals (first | ((with_reducible refine evL_call ?_ ?_ ?_); rfl; rfl; intro K hK; (apply opA_callR (t) (fun r => 5); rfl; rfl; rfl; rfl; exact Tryz.func65; kernel_rfl; rfl; rfl; (intro r hr q hq h; simp only [List.map_cons, List.map_nil, List.cons_append, List.nil_append, List.mem_cons, List.not_mem_nil, or_false] at hr hq; (try dsimp only at h); first | omega); (simp only [argsOk, argOk, AV.ren, AV.renL, renL_map, List.mem_cons, List.not_mem_nil, forall_eq_or_imp, forall_eq, newOk, List.contains_cons, List.contains_nil, AV.refsL, AV.refs, refsL_map, AV.inN, AV.inNL, inH, inNL_map, go_sem])); (simp only [hputs, hdels, renH, AV.ren, AV.renL, renL_map, go_sem]; refine hK _ ?_; clear hK K)) | ((with_reducible refine evL_one ?_ ?_); rfl; intro K hK; simp only [go_sem]; ((repeat (refine ndI (by first | assumption | rfl) ?_)); refine hK _ ?_; clear hK K)) | (with_reducible first | (refine evL_nil ?_; refine hR _ ?_; clear hR R) | ((first | refine evC_seq ?_); intro Ψ hΨ hΨ') | (refine evC_region ?_; intro R hR) | (refine hΨ _ ?_; clear hΨ hΨ' Ψ) | refine evC_ret ?_) | ((with_reducible refine evD_nil ?_ ?_); kernel_rfl; (with_reducible refine hR _ ?_); clear hR R) | (((with_reducible apply evD_any); rfl; rfl; (simp only [rdE, rdOf, go_sem]; rfl); (intro τ hA hQ hN; ((try simp only [agree, Op.operands, Call.operands, go_sem, List.mem_cons, List.not_mem_nil, forall_eq_or_imp, forall_eq, List.append_toArray, Option.toArray] at hA); (try simp only [go_sem, List.mem_cons, List.not_mem_nil, forall_eq_or_imp, forall_eq] at hQ hN); (first | (revert hA; intro hA)); (first | (revert hQ; intro hQ)); (first | (revert hN; intro hN)); simp only [go_sem, hA, hQ, hN]; (repeat (refine ndI (by first | assumption) ?_)); (first | apply eff_rd | apply eff_st)))); (simp only [St.eff, setO, hputs, go_sem])) | ((with_reducible refine evC_draw ?_ ?_ ?_ ?_); kernel_rfl; kernel_rfl; (first | kernel_rfl); intro R hR))))
      all_goals (refine ⟨by simp, ⟨_, ?_, AV.le_refl _⟩, leH_get (by simp [leH, hget])⟩; simp only [Tryz.results25, resL, ldA, oneOf, go_sem])
  · rw [if_neg hc, if_neg hc]
    have hc2 : okJ j = false := by simpa using hc
    have t := turnA_bad j hj (f := 66) [vi .i64 0] (hrI 0) hc2
    (refine fn_of Tryz.func25 rfl (by rfl) ?_; simp only [Tryz.ntmps25, List.length_cons, List.length_nil, Nat.reduceAdd, Nat.reduceSub, List.replicate, List.cons_append, List.nil_append])
    (repeat (any_goals (first | ((with_reducible refine evL_call ?_ ?_ ?_); rfl; rfl; intro K hK; (apply opA_callR (t) (fun r => 5); rfl; rfl; rfl; rfl; exact Tryz.func65; kernel_rfl; rfl; rfl; (intro r hr q hq h; simp only [List.map_cons, List.map_nil, List.cons_append, List.nil_append, List.mem_cons, List.not_mem_nil, or_false] at hr hq; (try dsimp only at h); first | omega); (simp only [argsOk, argOk, AV.ren, AV.renL, renL_map, List.mem_cons, List.not_mem_nil, forall_eq_or_imp, forall_eq, newOk, List.contains_cons, List.contains_nil, AV.refsL, AV.refs, refsL_map, AV.inN, AV.inNL, inH, inNL_map, go_sem])); (simp only [hputs, hdels, renH, AV.ren, AV.renL, renL_map, go_sem]; refine hK _ ?_; clear hK K)) | ((with_reducible refine evL_one ?_ ?_); rfl; intro K hK; simp only [go_sem]; ((repeat (refine ndI (by first | assumption | rfl) ?_)); refine hK _ ?_; clear hK K)) | (with_reducible first | (refine evL_nil ?_; refine hR _ ?_; clear hR R) | ((first | refine evC_seq ?_); intro Ψ hΨ hΨ') | (refine evC_region ?_; intro R hR) | (refine hΨ _ ?_; clear hΨ hΨ' Ψ) | refine evC_ret ?_) | ((with_reducible refine evD_nil ?_ ?_); kernel_rfl; (with_reducible refine hR _ ?_); clear hR R) | (((with_reducible apply evD_any); rfl; rfl; (simp only [rdE, rdOf, go_sem]; rfl); (intro τ hA hQ hN; ((try simp only [agree, Op.operands, Call.operands, go_sem, List.mem_cons, List.not_mem_nil, forall_eq_or_imp, forall_eq, List.append_toArray, Option.toArray] at hA); (try simp only [go_sem, List.mem_cons, List.not_mem_nil, forall_eq_or_imp, forall_eq] at hQ hN); (first | (revert hA; intro hA)); (first | (revert hQ; intro hQ)); (first | (revert hN; intro hN)); simp only [go_sem, hA, hQ, hN]; (repeat (refine ndI (by first | assumption) ?_)); (first | apply eff_rd | apply eff_st)))); (simp only [St.eff, setO, hputs, go_sem])) | ((with_reducible refine evC_draw ?_ ?_ ?_ ?_); kernel_rfl; kernel_rfl; (first | kernel_rfl); intro R hR))))
    all_goals (refine ⟨by simp, ⟨_, ?_, AV.le_refl _⟩, leH_get (by simp [leH, hget])⟩; simp only [Tryz.results25, resL, ldA, oneOf, go_sem])
def atJ (j : Jn) (n : Int) (p : Pt → Pt) : Jn × Int := if okJ j then (if n < 0 then (nilJ, 4) else match j.m[n.toNat]? with | some y => (⟨p y, j.m.take n.toNat⟩, 0) | none => (nilJ, 4)) else (nilJ, 200)
theorem at1_no (j : Jn) (n : Int) (Y : List AV) (hl : j.m.length ≤ 100) (hr : ∀ d, AV.refsL d Y = false) (hn : n < 0 ∨ (j.m.length : Int) ≤ n) : Fn Tryz.prog 104 [.ptr 1000 0, .ptr 1001 0, .ptr 1002 0] [(1000, jc j), (1001, [vi .i64 n]), (1002, Y)] (vi .i64 4) [(1000, jc j), (1001, [vi .i64 n]), (1002, Y)] := by
  have h8 : j.m.length < 9223372036854775808 := by omega
  by_cases h : n < 0
  · have k0 : decide (n < 0) = true := decide_eq_true h
    (refine fn_of Tryz.func104 rfl (by rfl) ?_; simp only [Tryz.ntmps104, List.length_cons, List.length_nil, Nat.reduceAdd, Nat.reduceSub, List.replicate, List.cons_append, List.nil_append])
    (repeat (any_goals (first | ((with_reducible refine evL_one ?_ ?_); rfl; intro K hK; simp (disch := omega) only [go_sem, k0, hr]; ((repeat (refine ndI (by first | assumption | rfl) ?_)); refine hK _ ?_; clear hK K)) | (with_reducible first | (refine evL_nil ?_; refine hR _ ?_; clear hR R) | ((first | refine evC_seq ?_); intro Ψ hΨ hΨ') | (refine evC_region ?_; intro R hR) | (refine hΨ _ ?_; clear hΨ hΨ' Ψ) | refine evC_ret ?_) | ((with_reducible refine hΨ' _ _ ?_ ?_); (focus (simp; done)); clear hΨ hΨ' Ψ) | ((with_reducible apply evC_cond); rfl; rfl; all_goals (intro hc; first | (cases hc; done) | (try simp only at hc))) | ((with_reducible refine evD_nil ?_ ?_); kernel_rfl; (with_reducible refine hR _ ?_); clear hR R) | ((first | ((with_reducible apply evD_skip); rfl; rfl; rfl; rfl) | ((first | ((with_reducible apply evD_any); rfl; rfl)); (simp (disch := omega) only [rdE, rdOf, go_sem, k0, hr]; rfl); (intro τ hA hQ hN; ((try simp only [agree, Op.operands, Call.operands, go_sem, k0, hr, go_sem, List.mem_cons, List.not_mem_nil, forall_eq_or_imp, forall_eq, List.append_toArray, Option.toArray] at hA); (try simp only [go_sem, k0, hr, List.mem_cons, List.not_mem_nil, forall_eq_or_imp, forall_eq] at hQ hN); (first | (revert hA; intro hA)); (first | (revert hQ; intro hQ)); (first | (revert hN; intro hN)); simp (disch := omega) only [go_sem, k0, hr, go_sem, hA, hQ, hN]; (repeat (refine ndI (by first | assumption | rfl) ?_)); (first | apply eff_rd))))); (simp (disch := omega) only [St.eff, setO, hputs, go_sem, k0, hr])) | ((with_reducible refine evC_draw ?_ ?_ ?_ ?_); kernel_rfl; kernel_rfl; (simp [newNames, isNew, St.free, freeH, AV.refsL, AV.refs, hr]); intro R hR))))
    all_goals (refine ⟨by simp, ⟨_, ?_, AV.le_refl _⟩, leH_get (by simp [leH, hget])⟩; simp only [Tryz.results104, resL, ldA, oneOf, go_sem])
  · have k0 : decide (n < 0) = false := decide_eq_false h
    have k1 : decide (n ≥ (j.m.length : Int)) = true := decide_eq_true (by omega)
    (refine fn_of Tryz.func104 rfl (by rfl) ?_; simp only [Tryz.ntmps104, List.length_cons, List.length_nil, Nat.reduceAdd, Nat.reduceSub, List.replicate, List.cons_append, List.nil_append])
    (have W := ndI k0 (ndI k1 hr); (repeat (any_goals (first | ((with_reducible refine evL_one ?_ ?_); rfl; intro K hK; simp (disch := omega) only [go_sem, W]; ((repeat (refine ndI (by first | assumption | rfl) ?_)); refine hK _ ?_; clear hK K)) | (with_reducible first | (refine evL_nil ?_; refine hR _ ?_; clear hR R) | ((first | refine evC_seq ?_); intro Ψ hΨ hΨ') | (refine evC_region ?_; intro R hR) | (refine hΨ _ ?_; clear hΨ hΨ' Ψ) | refine evC_ret ?_) | ((with_reducible refine hΨ' _ _ ?_ ?_); (focus (simp; done)); clear hΨ hΨ' Ψ) | ((with_reducible apply evC_cond); rfl; rfl; all_goals (intro hc; first | (cases hc; done) | (try simp only at hc))) | ((with_reducible refine evD_nil ?_ ?_); kernel_rfl; (with_reducible refine hR _ ?_); clear hR R) | ((first | ((first | ((with_reducible apply evD_any); rfl; rfl) | ((with_reducible apply evD_gany); rfl; rfl; rfl; rfl; rfl)); (simp (disch := omega) only [rdE, rdOf, go_sem, W]; rfl); (intro τ hA hQ hN; ((try simp only [agree, Op.operands, Call.operands, go_sem, W, go_sem, List.mem_cons, List.not_mem_nil, forall_eq_or_imp, forall_eq, List.append_toArray, Option.toArray] at hA); (try simp only [go_sem, W, List.mem_cons, List.not_mem_nil, forall_eq_or_imp, forall_eq] at hQ hN); (first | (revert hA; intro hA)); (first | (revert hQ; intro hQ)); (first | (revert hN; intro hN)); simp (disch := omega) only [go_sem, W, go_sem, hA, hQ, hN]; (repeat (refine ndI (by first | assumption | rfl) ?_)); (first | apply eff_rd))))); (simp (disch := omega) only [St.eff, setO, hputs, go_sem, W])) | ((with_reducible refine evC_draw ?_ ?_ ?_ ?_); kernel_rfl; kernel_rfl; (simp [newNames, isNew, St.free, freeH, AV.refsL, AV.refs, hr]); intro R hR)))))
    all_goals (refine ⟨by simp, ⟨_, ?_, AV.le_refl _⟩, leH_get (by simp [leH, hget])⟩; simp only [Tryz.results104, resL, ldA, oneOf, go_sem])
theorem at1_row (j : Jn) (n : Nat) (y p : Pt) (hl : j.m.length ≤ 100) (hy : j.m[n]? = some y) {g : FuncId} {fn : Func} (hg1 : Tryz.prog.funcs[g]? = some fn) (hg2 : (fn.name == "runtime.NumGoroutine") = false) (hg3 : fn.body.isNone = false)
    (D : Fn Tryz.prog g [.ptr 1000 0, ptA y] [(1000, jc j)] (.tup []) [(1000, jc ⟨p, j.m⟩)]) : Fn Tryz.prog 104 [.ptr 1000 0, .ptr 1001 0, .ptr 1002 0] [(1000, jc j), (1001, [vi .i64 n]), (1002, [.fn g []])] (vi .i64 0) [(1000, [.c (acV p.w.S), .c (hdV p.w.L), .c (noV p.w.N), .c (adV p.x.ad), .c (spV p.x.sp), .c (pgV p.x.pg), .c (.sl true 6 n ((j.m.take n).flatMap Pt.pv))]), (1001, [vi .i64 n]), (1002, [.fn g []])] := by
  have h8 : j.m.length < 9223372036854775808 := by omega
  have hlt : n < j.m.length := (List.getElem?_eq_some_iff.1 hy).1
  have k0 : decide ((n : Int) < 0) = false := decide_eq_false (by omega)
  have k1 : decide ((n : Int) ≥ (j.m.length : Int)) = false := decide_eq_false (by omega)
  have k2 := pt_at hy
  have e2 : (j.m.flatMap Pt.pv).take (n * 6) = (j.m.take n).flatMap Pt.pv := flat_take pt_len _ _
  have e3 : (j.m.take n).length = n := by rw [List.length_take]; omega
  (refine fn_of Tryz.func104 rfl (by rfl) ?_; simp only [Tryz.ntmps104, List.length_cons, List.length_nil, Nat.reduceAdd, Nat.reduceSub, List.replicate, List.cons_append, List.nil_append])
  (have W := ndI k0 (ndI k1 k2); (repeat (any_goals (first | ((with_reducible refine evL_one ?_ ?_); rfl; intro K hK; simp (disch := omega) only [go_sem, W]; ((repeat (refine ndI (by first | assumption | rfl) ?_)); refine hK _ ?_; clear hK K)) | (with_reducible first | (refine evL_nil ?_; refine hR _ ?_; clear hR R) | ((first | refine evC_seq ?_); intro Ψ hΨ hΨ') | (refine evC_region ?_; intro R hR) | (refine hΨ _ ?_; clear hΨ hΨ' Ψ))))))
  refine evC_draw (by kernel_rfl) (by kernel_rfl) (by simp [newNames, isNew, St.free, freeH, AV.refsL, AV.refs]) ?_
  intro R hR
  (have W := ndI k0 (ndI k1 k2); (repeat (any_goals (first | (with_reducible first | ((first | refine evC_seq ?_); intro Ψ hΨ hΨ') | (refine hΨ _ ?_; clear hΨ hΨ' Ψ) | refine evC_skip ?_) | ((with_reducible apply evC_cond); rfl; rfl; all_goals (intro hc; first | (cases hc; done) | (try simp only at hc))) | ((with_reducible refine evD_nil ?_ ?_); kernel_rfl; (with_reducible refine hR _ ?_); clear hR R) | ((first | ((first | ((with_reducible apply evD_any); rfl; rfl) | ((with_reducible apply evD_gany); rfl; rfl; rfl; rfl; rfl)); (simp (disch := omega) only [rdE, rdOf, go_sem, W]; rfl); (intro τ hA hQ hN; ((try simp only [agree, Op.operands, Call.operands, go_sem, W, go_sem, List.mem_cons, List.not_mem_nil, forall_eq_or_imp, forall_eq, List.append_toArray, Option.toArray] at hA); (try simp only [go_sem, W, List.mem_cons, List.not_mem_nil, forall_eq_or_imp, forall_eq] at hQ hN); (first | (revert hA; intro hA)); (first | (revert hQ; intro hQ)); (first | (revert hN; intro hN)); simp (disch := omega) only [go_sem, W, go_sem, hA, hQ, hN]; (repeat (refine ndI (by first | assumption | rfl) ?_)); (first | apply eff_rd))))); (simp (disch := omega) only [St.eff, setO, hputs, go_sem, W]))))))
  refine evC_draw_at 10 (by decide) (by kernel_rfl) (by kernel_rfl) (by kernel_rfl) (by kernel_rfl) (by simp [newNames, isNew, St.free, freeH, AV.refsL, AV.refs]) ?_
  intro R hR
  simp only [List.take_succ_cons, List.take_zero, List.drop_succ_cons, List.drop_zero] at hR ⊢
  (have W := ndI k0 (ndI k1 k2); (repeat (any_goals (first | ((with_reducible refine evD_nil ?_ ?_); kernel_rfl; (with_reducible refine hR _ ?_); clear hR R) | ((first | ((first | ((with_reducible apply evD_any); rfl; rfl)); (simp (disch := omega) only [rdE, rdOf, go_sem, W]; rfl); (intro τ hA hQ hN; ((try simp only [agree, Op.operands, Call.operands, go_sem, W, go_sem, List.mem_cons, List.not_mem_nil, forall_eq_or_imp, forall_eq, List.append_toArray, Option.toArray] at hA); (try simp only [go_sem, W, List.mem_cons, List.not_mem_nil, forall_eq_or_imp, forall_eq] at hQ hN); (first | (revert hA; intro hA)); (first | (revert hQ; intro hQ)); (first | (revert hN; intro hN)); simp (disch := omega) only [go_sem, W, go_sem, hA, hQ, hN]; (repeat (refine ndI (by first | assumption | omega | rfl) ?_)); (first | apply eff_rd))))); (simp (disch := omega) only [St.eff, setO, hputs, go_sem, W]))))))
  (have W := ndI k0 (ndI k1 k2); (repeat (any_goals (first | ((with_reducible refine evL_call ?_ ?_ ?_); rfl; rfl; intro K hK; (apply opA_callR (D) (fun r => r); rfl; rfl; rfl; rfl; exact hg1; exact hg2; exact hg3; rfl; (intro r hr q hq h; simp (disch := omega) only [List.map_cons, List.map_nil, List.cons_append, List.nil_append, List.mem_cons, List.not_mem_nil, or_false] at hr hq; (try dsimp only at h); first | omega); (simp (disch := omega) only [argsOk, argOk, AV.ren, AV.renL, renL_map, List.mem_cons, List.not_mem_nil, forall_eq_or_imp, forall_eq, newOk, List.contains_cons, List.contains_nil, AV.refsL, AV.refs, refsL_map, AV.inN, AV.inNL, inH, inNL_map, go_sem, W])); (simp (disch := omega) only [hputs, hdels, renH, AV.ren, AV.renL, renL_map, go_sem, W]; refine hK _ ?_; clear hK K))))))
  refine evL_nil ?_
  (have W := ndI k0 (ndI k1 k2); (repeat (any_goals (first | (with_reducible first | ((first | refine evC_seq ?_); intro Ψ hΨ hΨ') | (refine hΨ _ ?_; clear hΨ hΨ' Ψ))))))
  refine evC_draw (by kernel_rfl) (by kernel_rfl) (by simp [newNames, isNew, St.free, freeH, AV.refsL, AV.refs]) ?_
  intro R hR
  (have W := ndI k0 (ndI k1 (ndI k2 e2)); (repeat (any_goals (first | ((with_reducible refine evL_one ?_ ?_); rfl; intro K hK; simp (disch := omega) only [go_sem, W]; ((repeat (refine ndI (by first | assumption | rfl) ?_)); refine hK _ ?_; clear hK K)) | (with_reducible first | (refine evL_nil ?_; refine hR _ ?_; clear hR R) | ((first | refine evC_seq ?_); intro Ψ hΨ hΨ') | (refine evC_region ?_; intro R hR) | (refine hΨ _ ?_; clear hΨ hΨ' Ψ) | refine evC_ret ?_) | ((with_reducible refine evD_nil ?_ ?_); kernel_rfl; (with_reducible refine hR _ ?_); clear hR R) | ((first | ((first | ((with_reducible apply evD_any); rfl; rfl)); (simp (disch := omega) only [rdE, rdOf, go_sem, W]; rfl); (intro τ hA hQ hN; ((try simp only [agree, Op.operands, Call.operands, go_sem, W, go_sem, List.mem_cons, List.not_mem_nil, forall_eq_or_imp, forall_eq, List.append_toArray, Option.toArray] at hA); (try simp only [go_sem, W, List.mem_cons, List.not_mem_nil, forall_eq_or_imp, forall_eq] at hQ hN); (first | (revert hA; intro hA)); (first | (revert hQ; intro hQ)); (first | (revert hN; intro hN)); simp (disch := omega) only [go_sem, W, go_sem, hA, hQ, hN]; (repeat (refine ndI (by first | assumption | omega | rfl) ?_)); (first | apply eff_rd | apply eff_st))))); (simp (disch := omega) only [St.eff, setO, hputs, go_sem, W]))))))
  exact ⟨by simp, ⟨_, rfl, AV.le_refl _⟩, leH_get (by simp [leH, hget])⟩
theorem at1_ok (j : Jn) (n : Nat) (y p : Pt) (hl : j.m.length ≤ 100) (hy : j.m[n]? = some y) {g : FuncId} {fn : Func} (hg1 : Tryz.prog.funcs[g]? = some fn) (hg2 : (fn.name == "runtime.NumGoroutine") = false) (hg3 : fn.body.isNone = false)
    (D : Fn Tryz.prog g [.ptr 1000 0, ptA y] [(1000, jc j)] (.tup []) [(1000, jc ⟨p, j.m⟩)]) : Fn Tryz.prog 104 [.ptr 1000 0, .ptr 1001 0, .ptr 1002 0] [(1000, jc j), (1001, [vi .i64 n]), (1002, [.fn g []])] (vi .i64 0) [(1000, jc ⟨p, j.m.take n⟩), (1001, [vi .i64 n]), (1002, [.fn g []])] := by
  have hlt : n < j.m.length := (List.getElem?_eq_some_iff.1 hy).1
  have e3 : (j.m.take n).length = n := by rw [List.length_take]; omega
  have h := (at1_row j n y p hl hy hg1 hg2 hg3 D).to (St.to.cells 1000 (ds := jc ⟨p, j.m.take n⟩) rfl (by
    simp only [leL, ptV, e3]
    exact ⟨AV.le_refl _, AV.le_refl _, AV.le_refl _, AV.le_refl _, AV.le_refl _, AV.le_refl _, AV.le_tight _ _ _, trivial⟩))
  exact h
theorem at_fn (j : Jn) (hj : j.ok) (n : Int) (hn : -9223372036854775808 ≤ n ∧ n ≤ 9223372036854775807) (p : Pt → Pt) (hp : ∀ y, y.ok → (p y).ok) {g : FuncId} {fn : Func} (hg1 : Tryz.prog.funcs[g]? = some fn) (hg2 : (fn.name == "runtime.NumGoroutine") = false) (hg3 : fn.body.isNone = false)
    (D : ∀ y, Fn Tryz.prog g [.ptr 1000 0, ptA y] [(1000, jc j)] (.tup []) [(1000, jc ⟨p y, j.m⟩)]) : Fn Tryz.prog 69 [jnA j, vi .i64 n, .fn g []] [] (resJ (atJ j n p)) [] := by
  have F := Tryz.func104
  have r1 : ∀ d, AV.refsL d [AV.fn g []] = false := fun d => rfl
  have r2 : ∀ ρ, AV.renL ρ [AV.fn g []] = [AV.fn g []] := fun ρ => rfl
  have r3 : ∀ N, AV.inNL N [AV.fn g []] = true := fun N => rfl
  have r4 : ∀ pcs, AV.frzL 500 pcs [AV.fn g []] = [AV.fn g []] := fun pcs => rfl
  unfold atJ
  by_cases hc : okJ j = true
  case neg =>
    rw [if_neg hc]
    have hc2 : okJ j = false := by simpa using hc
    have t := turnB_bad j hj (f := 104) [vi .i64 n] [AV.fn g []] (hrI n) r1 hc2
    (refine fn_of Tryz.func69 rfl (by rfl) ?_; simp only [Tryz.ntmps69, List.length_cons, List.length_nil, Nat.reduceAdd, Nat.reduceSub, List.replicate, List.cons_append, List.nil_append])
    (repeat (any_goals (first | ((with_reducible refine evL_call ?_ ?_ ?_); rfl; rfl; intro K hK; (apply opA_callR (t) (fun r => if r = 1001 then 4 else 5); rfl; rfl; rfl; rfl; exact Tryz.func65; kernel_rfl; rfl; rfl; (intro r hr q hq h; simp only [List.map_cons, List.map_nil, List.cons_append, List.nil_append, List.mem_cons, List.not_mem_nil, or_false] at hr hq; (try dsimp only at h); first | ((repeat' split at h) <;> omega)); (simp only [argsOk, argOk, AV.ren, AV.renL, renL_map, List.mem_cons, List.not_mem_nil, forall_eq_or_imp, forall_eq, newOk, List.contains_cons, List.contains_nil, AV.refsL, AV.refs, refsL_map, AV.inN, AV.inNL, inH, inNL_map, go_sem])); (simp only [hputs, hdels, renH, AV.ren, AV.renL, renL_map, go_sem]; refine hK _ ?_; clear hK K)) | ((with_reducible refine evL_one ?_ ?_); rfl; intro K hK; simp only [go_sem]; ((repeat (refine ndI (by first | assumption | rfl) ?_)); refine hK _ ?_; clear hK K)) | (with_reducible first | (refine evL_nil ?_; refine hR _ ?_; clear hR R) | ((first | refine evC_seq ?_); intro Ψ hΨ hΨ') | (refine evC_region ?_; intro R hR) | (refine hΨ _ ?_; clear hΨ hΨ' Ψ) | refine evC_ret ?_))))
    all_goals (refine ⟨by simp, ⟨_, ?_, AV.le_refl _⟩, leH_get (by simp [leH, hget])⟩; simp only [Tryz.results69, resL, ldA, oneOf, go_sem])
  rw [if_pos hc]
  have no : n < 0 ∨ (j.m.length : Int) ≤ n → Fn Tryz.prog 69 [jnA j, vi .i64 n, .fn g []] [] (resJ (nilJ, 4)) [] := fun h => by
    have t := turnB_err j hj F rfl rfl _ _ _ _ (hrI n) (hnI n) (hiI n) (hrI n) (hnI n) (hiI n) r1 r2 r3 r1 r2 r3 j 4 (by decide) hc (at1_no j n [AV.fn g []] hj.m.1 r1 h)
    (refine fn_of Tryz.func69 rfl (by rfl) ?_; simp only [Tryz.ntmps69, List.length_cons, List.length_nil, Nat.reduceAdd, Nat.reduceSub, List.replicate, List.cons_append, List.nil_append])
    (repeat (any_goals (first | ((with_reducible refine evL_call ?_ ?_ ?_); rfl; rfl; intro K hK; (apply opA_callR (t) (fun r => if r = 1001 then 4 else 5); rfl; rfl; rfl; rfl; exact Tryz.func65; kernel_rfl; rfl; rfl; (intro r hr q hq h; simp only [List.map_cons, List.map_nil, List.cons_append, List.nil_append, List.mem_cons, List.not_mem_nil, or_false] at hr hq; (try dsimp only at h); first | ((repeat' split at h) <;> omega)); (simp only [argsOk, argOk, AV.ren, AV.renL, renL_map, List.mem_cons, List.not_mem_nil, forall_eq_or_imp, forall_eq, newOk, List.contains_cons, List.contains_nil, AV.refsL, AV.refs, refsL_map, AV.inN, AV.inNL, inH, inNL_map, go_sem])); (simp only [hputs, hdels, renH, AV.ren, AV.renL, renL_map, go_sem]; refine hK _ ?_; clear hK K)) | ((with_reducible refine evL_one ?_ ?_); rfl; intro K hK; simp only [go_sem]; ((repeat (refine ndI (by first | assumption | rfl) ?_)); refine hK _ ?_; clear hK K)) | (with_reducible first | (refine evL_nil ?_; refine hR _ ?_; clear hR R) | ((first | refine evC_seq ?_); intro Ψ hΨ hΨ') | (refine evC_region ?_; intro R hR) | (refine hΨ _ ?_; clear hΨ hΨ' Ψ) | refine evC_ret ?_))))
    all_goals (refine ⟨by simp, ⟨_, ?_, AV.le_refl _⟩, leH_get (by simp [leH, hget])⟩; simp only [Tryz.results69, resL, ldA, oneOf, go_sem])
  by_cases h0 : n < 0
  · rw [if_pos h0]; exact no (.inl h0)
  rw [if_neg h0]
  obtain ⟨m, rfl⟩ : ∃ m : Nat, n = (m : Int) := ⟨n.toNat, by omega⟩
  rw [Int.toNat_natCast]
  cases hy : j.m[m]? with
  | none =>
    have := List.getElem?_eq_none_iff.1 hy
    exact no (.inr (by omega))
  | some y =>
    have t := turnB_ok j hj F rfl rfl _ _ _ _ (hrI m) (hnI m) (hiI m) (hrI m) (hnI m) (hiI m) r1 r2 r3 r1 r2 r3 ⟨p y, j.m.take m⟩ ⟨hp y (hj.m.2 y (List.mem_of_getElem? hy)), by show (j.m.take m).length ≤ 100; rw [List.length_take]; have := hj.m.1; omega, fun x hx => hj.m.2 x (List.mem_of_mem_take hx)⟩ hc ⟨hzI _, r4⟩ (at1_ok j m y (p y) hj.m.1 hy hg1 hg2 hg3 (D y))
    (refine fn_of Tryz.func69 rfl (by rfl) ?_; simp only [Tryz.ntmps69, List.length_cons, List.length_nil, Nat.reduceAdd, Nat.reduceSub, List.replicate, List.cons_append, List.nil_append])
    (repeat (any_goals (first | ((with_reducible refine evL_call ?_ ?_ ?_); rfl; rfl; intro K hK; (apply opA_callR (t) (fun r => if r = 1001 then 4 else 5); rfl; rfl; rfl; rfl; exact Tryz.func65; kernel_rfl; rfl; rfl; (intro r hr q hq h; simp only [List.map_cons, List.map_nil, List.cons_append, List.nil_append, List.mem_cons, List.not_mem_nil, or_false] at hr hq; (try dsimp only at h); first | ((repeat' split at h) <;> omega)); (simp only [argsOk, argOk, AV.ren, AV.renL, renL_map, List.mem_cons, List.not_mem_nil, forall_eq_or_imp, forall_eq, newOk, List.contains_cons, List.contains_nil, AV.refsL, AV.refs, refsL_map, AV.inN, AV.inNL, inH, inNL_map, go_sem])); (simp only [hputs, hdels, renH, AV.ren, AV.renL, renL_map, go_sem]; refine hK _ ?_; clear hK K)) | ((with_reducible refine evL_one ?_ ?_); rfl; intro K hK; simp only [go_sem]; ((repeat (refine ndI (by first | assumption | rfl) ?_)); refine hK _ ?_; clear hK K)) | (with_reducible first | (refine evL_nil ?_; refine hR _ ?_; clear hR R) | ((first | refine evC_seq ?_); intro Ψ hΨ hΨ') | (refine evC_region ?_; intro R hR) | (refine hΨ _ ?_; clear hΨ hΨ' Ψ) | refine evC_ret ?_))))
    all_goals (refine ⟨by simp, ⟨_, ?_, AV.le_refl _⟩, leH_get (by simp [leH, hget])⟩; simp only [Tryz.results69, resL, ldA, oneOf, go_sem])
theorem back_fn (j : Jn) (hj : j.ok) (n : Int) (hn : -9223372036854775808 ≤ n ∧ n ≤ 9223372036854775807) : Fn Tryz.prog 27 [jnA j, vi .i64 n] [] (resJ (atJ j n fun y => y)) [] := by
  have d : ∀ y, Fn Tryz.prog 70 [.ptr 1000 0, ptA y] [(1000, jc j)] (.tup []) [(1000, jc ⟨y, j.m⟩)] := fun y => by
    (refine fn_of Tryz.func70 rfl (by rfl) ?_; simp only [Tryz.ntmps70, List.length_cons, List.length_nil, Nat.reduceAdd, Nat.reduceSub, List.replicate, List.cons_append, List.nil_append])
    (repeat (any_goals (first | ((with_reducible refine evL_one ?_ ?_); rfl; intro K hK; simp only [go_sem]; ((repeat (refine ndI (by first | assumption) ?_)); refine hK _ ?_; clear hK K)) | (with_reducible first | (refine evL_nil ?_; refine hR _ ?_; clear hR R) | ((first | refine evC_seq ?_); intro Ψ hΨ hΨ') | (refine evC_region ?_; intro R hR) | (refine hΨ _ ?_; clear hΨ hΨ' Ψ)))))
    all_goals (refine ⟨by simp, ⟨_, ?_, AV.le_refl _⟩, leH_get (by simp [leH, hget])⟩; simp only [Tryz.results70, resL, ldA, oneOf, go_sem])
  have t := at_fn j hj n hn (fun y => y) (fun y h => h) Tryz.func70 rfl rfl d
  (refine fn_of Tryz.func27 rfl (by rfl) ?_; simp only [Tryz.ntmps27, List.length_cons, List.length_nil, Nat.reduceAdd, Nat.reduceSub, List.replicate, List.cons_append, List.nil_append])
  (repeat (any_goals (first | ((with_reducible refine evL_call ?_ ?_ ?_); rfl; rfl; intro K hK; ((apply opA_callB (t); rfl; rfl; rfl; rfl; exact Tryz.func69); kernel_rfl; rfl; (simp only [go_sem]; rfl); (first | simp [AV.inNL, AV.inN])); (simp only [go_sem]; refine hK _ ?_; clear hK K)) | ((with_reducible refine evL_one ?_ ?_); rfl; intro K hK; simp only [go_sem]; ((repeat (refine ndI (by first | assumption) ?_)); refine hK _ ?_; clear hK K)) | (with_reducible first | (refine evL_nil ?_; refine hR _ ?_; clear hR R) | ((first | refine evC_seq ?_); intro Ψ hΨ hΨ') | (refine evC_region ?_; intro R hR) | (refine hΨ _ ?_; clear hΨ hΨ' Ψ) | refine evC_ret ?_))))
  all_goals (refine ⟨by simp, ⟨_, ?_, AV.le_refl _⟩, leH_get (by simp [leH, hget])⟩; simp only [Tryz.results27, resL, ldA, oneOf, go_sem])
end Go.Proofs.YtmidmaeihpldhaaGreat
