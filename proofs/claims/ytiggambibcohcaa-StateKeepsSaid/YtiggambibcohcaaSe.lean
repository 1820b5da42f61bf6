/-
  All balances together; reckoned.
-/
import Derived.Test.YtiggambibcohcaaSc
namespace Go.Proofs.Ytiggambibcohcaa
open Go.RowKit
open Nat (reduceBEq)
set_option linter.unusedVariables false
set_option linter.unusedSimpArgs false
set_option maxRecDepth 20000
set_option maxHeartbeats 2000000
theorem many_fn (ex : Bool) (L : List Ac) (hL : L.length ≤ maxLen) : Fn Try.prog 47 [stA ex L] [] (vi .i64 ((L.filter fun x => decide (16 ≤ x.a)).length : Nat)) [] := by
  (refine fn_of Try.func47 rfl (by rfl) ?_; simp only [Try.ntmps47, List.length_cons, List.length_nil, Nat.reduceAdd, Nat.reduceSub, List.replicate, List.cons_append, List.nil_append])
  (repeat (any_goals (first | ((with_reducible refine evL_one ?_ ?_); rfl; intro K hK; simp only [go_sem]; ((repeat (refine ndI (by first | assumption | omega | rfl) ?_)); refine hK _ ?_; clear hK K)) | (with_reducible first | (refine evL_nil ?_; refine hR _ ?_; clear hR R) | ((first | refine evC_seq ?_ | refine evC_block ?_); intro Ψ hΨ hΨ') | (refine evC_region ?_; intro R hR) | (refine hΨ _ ?_; clear hΨ hΨ' Ψ) | refine evC_skip ?_ | refine evC_ret ?_ | refine evC_exit ?_) | ((with_reducible refine hΨ' _ _ ?_ ?_); (focus (simp; done)); clear hΨ hΨ' Ψ) | ((with_reducible apply evC_cond); rfl; rfl; all_goals (intro hc; first | (cases hc; done) | (try simp only at hc))))))
  refine evC_upto L.length (fun i => ⟨[.any, .ptr 1 0, .any, vi .i64 (((L.take i).filter fun x => decide (16 ≤ x.a)).length : Nat), .any, .any, .any, acS ex L, vi .i64 L.length, vi .i64 (i : Int), .any, .any, .any, .any, .any, .any, .any, .any, .any, .any], [(1, [acS ex L])]⟩) (St.le_of (by simp [leT]) (by simp [leH, hget])) ?_
  intro i hi Ψ hΨ hΨ'
  (try dsimp only at hΨ ⊢)
  have k8 : L.length < 9223372036854775808 := Nat.lt_succ_of_le hL
  rcases Nat.lt_or_ge i L.length with hlt | hge
  · obtain ⟨x, hx⟩ : ∃ x, L[i]? = some x := ⟨_, List.getElem?_eq_getElem hlt⟩
    have k1 : (decide ((i : Int) < (L.length : Int))) = true := decide_eq_true (by omega)
    have k2 := ac_at hx
    have k7 : (i : Int) + 1 = ((i + 1 : Nat) : Int) := by omega
    have k3 : ((L.take (i + 1)).filter fun x => decide (16 ≤ x.a)) = ((L.take i).filter fun x => decide (16 ≤ x.a)) ++ (if decide (16 ≤ x.a) then [x] else []) := by
      rw [List.take_add_one, hx, List.filter_append]; simp [List.filter_cons]
    have k5 : ((L.take i).filter fun x => decide (16 ≤ x.a)).length ≤ i := Nat.le_trans (List.length_filter_le _ _) (by rw [List.length_take]; omega)
    rw [k3, List.length_append] at hΨ
    generalize ((L.take i).filter fun x => decide (16 ≤ x.a)).length = c at hΨ k5 ⊢
    cases hq : decide (16 ≤ x.a) with
    | true =>
      rw [hq] at hΨ
      have k6 : (c : Int) + 1 = ((c + 1 : Nat) : Int) := by omega
      (have W := ndI k1 (ndI k2 (ndI k6 (ndI k7 @wrI))); (repeat (any_goals (first | ((with_reducible refine evL_one ?_ ?_); rfl; intro K hK; simp (disch := omega) only [go_sem, W, hq]; ((repeat (refine ndI (by first | assumption | omega | rfl) ?_)); refine hK _ ?_; clear hK K)) | (with_reducible first | (refine evL_nil ?_; refine hR _ ?_; clear hR R) | ((first | refine evC_seq ?_ | refine evC_block ?_); intro Ψ hΨ hΨ') | (refine evC_region ?_; intro R hR) | (refine hΨ _ ?_; clear hΨ hΨ' Ψ) | refine evC_skip ?_ | refine evC_ret ?_ | refine evC_exit ?_) | ((with_reducible refine hΨ' _ _ ?_ ?_); (focus (simp; done)); clear hΨ hΨ' Ψ) | ((with_reducible apply evC_cond); rfl; rfl; all_goals (intro hc; first | (cases hc; done) | (try simp only at hc)))))))
      all_goals exact hΨ _ hlt (St.le_of (by simp [leT]) (by simp [leH, hget]))
    | false =>
      rw [hq] at hΨ
      (have W := ndI k1 (ndI k2 (ndI k7 @wrI)); (repeat (any_goals (first | ((with_reducible refine evL_one ?_ ?_); rfl; intro K hK; simp (disch := omega) only [go_sem, W, hq]; ((repeat (refine ndI (by first | assumption | omega | rfl) ?_)); refine hK _ ?_; clear hK K)) | (with_reducible first | (refine evL_nil ?_; refine hR _ ?_; clear hR R) | ((first | refine evC_seq ?_ | refine evC_block ?_); intro Ψ hΨ hΨ') | (refine evC_region ?_; intro R hR) | (refine hΨ _ ?_; clear hΨ hΨ' Ψ) | refine evC_skip ?_ | refine evC_ret ?_ | refine evC_exit ?_) | ((with_reducible refine hΨ' _ _ ?_ ?_); (focus (simp; done)); clear hΨ hΨ' Ψ) | ((with_reducible apply evC_cond); rfl; rfl; all_goals (intro hc; first | (cases hc; done) | (try simp only at hc)))))))
      all_goals exact hΨ _ hlt (St.le_of (by simp [leT]) (by simp [leH, hget]))
  · have k1 : (decide ((i : Int) < (L.length : Int))) = false := decide_eq_false (by omega)
    rw [List.take_of_length_le hge]
    (repeat (any_goals (first | ((with_reducible refine evL_one ?_ ?_); rfl; intro K hK; simp only [go_sem, k1]; ((repeat (refine ndI (by first | assumption | omega | rfl) ?_)); refine hK _ ?_; clear hK K)) | (with_reducible first | (refine evL_nil ?_; refine hR _ ?_; clear hR R) | ((first | refine evC_seq ?_ | refine evC_block ?_); intro Ψ hΨ hΨ') | (refine evC_region ?_; intro R hR) | (refine hΨ _ ?_; clear hΨ hΨ' Ψ) | refine evC_skip ?_ | refine evC_ret ?_ | refine evC_exit ?_) | ((with_reducible refine hΨ' _ _ ?_ ?_); (focus (simp; done)); clear hΨ hΨ' Ψ) | ((with_reducible apply evC_cond); rfl; rfl; all_goals (intro hc; first | (cases hc; done) | (try simp only at hc))))))
    all_goals (refine ⟨by simp, ⟨_, ?_, AV.le_refl _⟩, leH_get (by simp [leH, hget])⟩; simp only [Try.results47, resL, ldA, oneOf, go_sem])
theorem balances_fn (ex : Bool) (L : List Ac) : Fn Try.prog 77 [stA ex L] [] (.fn 92 [.ptr 1 0]) [(1, [acS ex L])] := by
  (refine fn_of Try.func77 rfl (by rfl) ?_; simp only [Try.ntmps77, List.length_cons, List.length_nil, Nat.reduceAdd, Nat.reduceSub, List.replicate, List.cons_append, List.nil_append])
  (repeat (any_goals (first | ((with_reducible refine evL_one ?_ ?_); rfl; intro K hK; simp only [go_sem]; ((repeat (refine ndI (by first | assumption | omega | rfl) ?_)); refine hK _ ?_; clear hK K)) | (with_reducible first | (refine evL_nil ?_; refine hR _ ?_; clear hR R) | ((first | refine evC_seq ?_ | refine evC_block ?_); intro Ψ hΨ hΨ') | (refine evC_region ?_; intro R hR) | (refine hΨ _ ?_; clear hΨ hΨ' Ψ) | refine evC_skip ?_ | refine evC_ret ?_ | refine evC_exit ?_) | ((with_reducible refine hΨ' _ _ ?_ ?_); (focus (simp; done)); clear hΨ hΨ' Ψ) | ((with_reducible apply evC_cond); rfl; rfl; all_goals (intro hc; first | (cases hc; done) | (try simp only at hc))))))
  all_goals exact ⟨by simp, ⟨_, rfl, AV.le_of (by simp [oneOf])⟩, leH_get (by simp [leH, hget])⟩
abbrev balH0 (out : List Nat) : List (Nat × List AV) := [(1003, [.row 1600 27 4 out.length]), (1600, rcW out)]
abbrev balH1 (out : List Nat) (y : Nat) : List (Nat × List AV) := [(1003, [.row 15 27 4 (out.length + 1)]), (15, rcW (out ++ [y]))]
abbrev stB (ex : Bool) (L : List Ac) (lp r : Nat) (out : List Nat) (i : Nat) : St := ⟨[yv lp, .ptr 1101 0, .any, .any, .any, .any, acS ex L, vi .i64 L.length, vi .i64 i, .any, .any, .any, .any, .any, .any, .any, .any, .any], [(1003, [.row r 27 4 out.length]), (r, rcW out), (1101, [acS ex L])]⟩
theorem stB_rn (ex : Bool) (L : List Ac) (lp : Nat) (out : List Nat) (i : Nat) : (stB ex L lp 15 out i).to (stB ex L lp 600 out i) := by
  have h := St.to.rn (σ := stB ex L lp 15 out i) (fun r => if r = 15 then 600 else r) (fun r => if r = 600 then 15 else r) [15, 1003, 1101] (by simp [AV.inNL, AV.inN]) (by simp) (by simp [inH, AV.inNL, AV.inN, inNL_rcW]) (by simp) (by simp)
  simpa [AV.renL, AV.ren, renH, renL_rcW] using h
theorem stB_rn0 (ex : Bool) (L : List Ac) (lp : Nat) (out : List Nat) (i : Nat) : (stB ex L lp 1600 out i).to (stB ex L lp 600 out i) := by
  have h := St.to.rn (σ := stB ex L lp 1600 out i) (fun r => if r = 1600 then 600 else r) (fun r => if r = 600 then 1600 else r) [1600, 1003, 1101] (by simp [AV.inNL, AV.inN]) (by simp) (by simp [inH, AV.inNL, AV.inN, inNL_rcW]) (by simp) (by simp)
  simpa [AV.renL, AV.ren, renH, renL_rcW] using h
theorem bal1_fn (ex : Bool) (m : List Nat) (hm1 : m.length ≤ 10) (L : List Ac) (hl : L.length ≤ 900) {t : Tmp} {asg bod : Code} {T0 : List AV} (hT0 : AV.inNL [1003] T0 = true) (lp : Nat)
    (hY : ∀ (out : List Nat) (y : Ac), y ∈ L → out.length ≤ 1000 → YC Try.prog t asg bod T0 lp (wN y.b) (balH0 out) (balH1 out y.b)) :
    FnW (LoopAt t asg bod T0 [1003, 1600, 1101] lp) Try.prog 92 [yv lp, .ptr 1101 0] [(1003, [.row 1600 27 4 m.length]), (1600, rcW m), (1101, [acS ex L])] (.tup []) [(1003, [.row 600 27 4 (m ++ L.map Ac.b).length]), (600, rcW (m ++ L.map Ac.b))] := by
  (refine fnW_of Try.func92 rfl (by rfl) ?_; simp only [Try.ntmps92, List.length_cons, List.length_nil, Nat.reduceAdd, Nat.reduceSub, List.replicate, List.cons_append, List.nil_append])
  refine AWE.seq (AWE.of ?_)
  have k8 : ∀ r, AV.refsL r (rcW m) = false := fun r => refsL_map r _
  (repeat (any_goals (first | ((with_reducible refine evL_one ?_ ?_); rfl; intro K hK; simp only [go_sem, k8]; ((repeat (refine ndI (by first | assumption | omega | rfl) ?_)); refine hK _ ?_; clear hK K)) | (with_reducible first | (refine evL_nil ?_; refine hR _ ?_; clear hR R) | ((first | refine evC_seq ?_ | refine evC_block ?_); intro Ψ hΨ hΨ') | (refine evC_region ?_; intro R hR) | (refine hΨ _ ?_; clear hΨ hΨ' Ψ) | refine evC_skip ?_ | refine evC_ret ?_ | refine evC_exit ?_) | ((with_reducible refine hΨ' _ _ ?_ ?_); (focus (simp; done)); clear hΨ hΨ' Ψ) | ((with_reducible apply evC_cond); rfl; rfl; all_goals (intro hc; first | (cases hc; done) | (try simp only at hc))))))
  refine AWE.block ?_
  refine AWE.loop (α := { i : Nat // i ≤ L.length }) (fun p => stB ex L lp 600 (m ++ (L.take p.1).map Ac.b) p.1) (fun p => L.length - p.1) ⟨0, Nat.zero_le _⟩ ?_ ?_
  · refine St.to.trans (St.to.of_le (τ := stB ex L lp 1600 (m ++ (L.take 0).map Ac.b) 0) (St.le_of (by simp [leT]) (by simp [leH, hget]))) (stB_rn0 ex L lp _ _)
  rintro ⟨i, hi⟩
  dsimp only [stB]
  rcases Nat.lt_or_ge i L.length with hlt | hge
  · obtain ⟨y, hy⟩ : ∃ y, L[i]? = some y := ⟨L[i], List.getElem?_eq_getElem hlt⟩
    have k1 : (decide ((i : Int) < (L.length : Int))) = true := by simpa using hlt
    have k2 := ac_at hy
    have k7 : (i : Int) + 1 = ((i + 1 : Nat) : Int) := by omega
    have k5 : (m ++ (L.take i).map Ac.b).length ≤ 1000 := by rw [List.length_append, List.length_map, List.length_take]; omega
    have hm := List.mem_of_getElem? hy
    have m1 : m ++ (L.take (i + 1)).map Ac.b = (m ++ (L.take i).map Ac.b) ++ [y.b] := by
      rw [List.take_add_one, hy, List.map_append, List.append_assoc]; rfl
    have fin : ∀ τ : St, τ.to (stB ex L lp 600 (m ++ (L.take (i + 1)).map Ac.b) (i + 1)) → ∃ q : { i : Nat // i ≤ L.length }, L.length - q.1 < L.length - i ∧ τ.to (stB ex L lp 600 (m ++ (L.take q.1).map Ac.b) q.1) := fun τ h => ⟨⟨i + 1, hlt⟩, by simp only; omega, h⟩
    rw [m1] at fin
    generalize m ++ (L.take i).map Ac.b = out at k5 fin ⊢
    have k9 : ∀ r, AV.refsL r (rcW out) = false := fun r => refsL_map r _
    refine AWE.seq (AWE.of ?_)
    (repeat (any_goals (first | ((with_reducible refine evL_one ?_ ?_); rfl; intro K hK; simp only [go_sem, k1]; ((repeat (refine ndI (by first | assumption | omega | rfl) ?_)); refine hK _ ?_; clear hK K)) | (with_reducible first | (refine evL_nil ?_; refine hR _ ?_; clear hR R) | ((first | refine evC_seq ?_ | refine evC_block ?_); intro Ψ hΨ hΨ') | (refine evC_region ?_; intro R hR) | (refine hΨ _ ?_; clear hΨ hΨ' Ψ) | refine evC_skip ?_ | refine evC_ret ?_ | refine evC_exit ?_) | ((with_reducible refine hΨ' _ _ ?_ ?_); (focus (simp; done)); clear hΨ hΨ' Ψ) | ((with_reducible apply evC_cond); rfl; rfl; all_goals (intro hc; first | (cases hc; done) | (try simp only at hc))))))
    refine AWE.seq (AWE.of ?_)
    (repeat (any_goals (first | ((with_reducible refine evL_one ?_ ?_); rfl; intro K hK; simp only [go_sem, k1]; ((repeat (refine ndI (by first | assumption | omega | rfl) ?_)); refine hK _ ?_; clear hK K)) | (with_reducible first | (refine evL_nil ?_; refine hR _ ?_; clear hR R) | ((first | refine evC_seq ?_ | refine evC_block ?_); intro Ψ hΨ hΨ') | (refine evC_region ?_; intro R hR) | (refine hΨ _ ?_; clear hΨ hΨ' Ψ) | refine evC_skip ?_ | refine evC_ret ?_ | refine evC_exit ?_) | ((with_reducible refine hΨ' _ _ ?_ ?_); (focus (simp; done)); clear hΨ hΨ' Ψ) | ((with_reducible apply evC_cond); rfl; rfl; all_goals (intro hc; first | (cases hc; done) | (try simp only at hc))))))
    refine AWE.seq (AWE.block (AWE.seq (AWE.of ?_)))
    (have W := ndI k1 (ndI k2 (ndI k7 (ndI k9 @wrI))); (repeat (any_goals (first | ((with_reducible refine evL_one ?_ ?_); rfl; intro K hK; simp (disch := omega) only [go_sem, W]; ((repeat (refine ndI (by first | assumption | omega | rfl) ?_)); refine hK _ ?_; clear hK K)) | (with_reducible first | (refine evL_nil ?_; refine hR _ ?_; clear hR R) | ((first | refine evC_seq ?_ | refine evC_block ?_); intro Ψ hΨ hΨ') | (refine evC_region ?_; intro R hR) | (refine hΨ _ ?_; clear hΨ hΨ' Ψ) | refine evC_skip ?_ | refine evC_ret ?_ | refine evC_exit ?_) | ((with_reducible refine hΨ' _ _ ?_ ?_); (focus (simp; done)); clear hΨ hΨ' Ψ) | ((with_reducible apply evC_cond); rfl; rfl; all_goals (intro hc; first | (cases hc; done) | (try simp only at hc)))))))
    refine AWE.seq (AWE.region_at 3 rfl rfl ?_)
    intro R hR
    simp only [List.take, List.drop]
    (have W := ndI k1 (ndI k2 (ndI k7 (ndI k9 @wrI))); (repeat (any_goals (first | ((with_reducible refine evL_one ?_ ?_); rfl; intro K hK; simp (disch := omega) only [go_sem, W]; ((repeat (refine ndI (by first | assumption | omega | rfl) ?_)); refine hK _ ?_; clear hK K)) | (with_reducible first | (refine evL_nil ?_; refine hR _ ?_; clear hR R) | ((first | refine evC_seq ?_ | refine evC_block ?_); intro Ψ hΨ hΨ') | (refine evC_region ?_; intro R hR) | (refine hΨ _ ?_; clear hΨ hΨ' Ψ) | refine evC_skip ?_ | refine evC_ret ?_ | refine evC_exit ?_) | ((with_reducible refine hΨ' _ _ ?_ ?_); (focus (simp; done)); clear hΨ hΨ' Ψ) | ((with_reducible apply evC_cond); rfl; rfl; all_goals (intro hc; first | (cases hc; done) | (try simp only at hc)))))))
    refine ⟨.inl rfl, opE_yield (hY out y hm (by omega)) (fun r => if r = 1600 then 600 else r) rfl rfl rfl rfl (.inr ?_) (by rfl) ?_ ?_ ?_ ?_ [1003] hT0 ?_ ?_⟩
    · simp [AV.ren, AV.renL, St.ev]
    · simp [hget, AV.renL, AV.ren, renL_rcW]
    · intro r hr q hq h
      simp only [List.map_cons, List.map_nil, List.cons_append, List.nil_append, List.mem_cons, List.not_mem_nil, or_false] at hr hq
      rcases hr with rfl | rfl | rfl | rfl <;> rcases hq with rfl | rfl | rfl | rfl <;> simp at h ⊢
    · simp [newOk, St.free, freeH, AV.refs, AV.refsL, k9]
    · simp [inH, AV.inNL, AV.inN, inNL_rcW]
    · simp [hget]
    intro R hR
    simp only [List.drop, hputs, hdels, renH, AV.ren, AV.renL, renL_rcW, hput, hdel, hget, St.put, List.set]
    (have W := ndI k1 (ndI k2 (ndI k7 (ndI k9 @wrI))); (repeat (any_goals (first | ((with_reducible refine evL_one ?_ ?_); rfl; intro K hK; simp (disch := omega) only [go_sem, W]; ((repeat (refine ndI (by first | assumption | omega | rfl) ?_)); refine hK _ ?_; clear hK K)) | (with_reducible first | (refine evL_nil ?_; refine hR _ ?_; clear hR R) | ((first | refine evC_seq ?_ | refine evC_block ?_); intro Ψ hΨ hΨ') | (refine evC_region ?_; intro R hR) | (refine hΨ _ ?_; clear hΨ hΨ' Ψ) | refine evC_skip ?_ | refine evC_ret ?_ | refine evC_exit ?_) | ((with_reducible refine hΨ' _ _ ?_ ?_); (focus (simp; done)); clear hΨ hΨ' Ψ) | ((with_reducible apply evC_cond); rfl; rfl; all_goals (intro hc; first | (cases hc; done) | (try simp only at hc)))))))
    show AWE _ _ _ _ _
    refine AWE.of ?_
    (repeat (any_goals (first | ((with_reducible refine evL_one ?_ ?_); rfl; intro K hK; simp only [go_sem]; ((repeat (refine ndI (by first | assumption | omega | rfl) ?_)); refine hK _ ?_; clear hK K)) | (with_reducible first | (refine evL_nil ?_; refine hR _ ?_; clear hR R) | ((first | refine evC_seq ?_ | refine evC_block ?_); intro Ψ hΨ hΨ') | (refine evC_region ?_; intro R hR) | (refine hΨ _ ?_; clear hΨ hΨ' Ψ) | refine evC_skip ?_ | refine evC_ret ?_ | refine evC_exit ?_) | ((with_reducible refine hΨ' _ _ ?_ ?_); (focus (simp; done)); clear hΨ hΨ' Ψ) | ((with_reducible apply evC_cond); rfl; rfl; all_goals (intro hc; first | (cases hc; done) | (try simp only at hc))))))
    show AWE _ _ _ _ _
    refine AWE.of ?_
    (repeat (any_goals (first | ((with_reducible refine evL_one ?_ ?_); rfl; intro K hK; simp (disch := omega) only [go_sem, k7, wrI]; ((repeat (refine ndI (by first | assumption | omega | rfl) ?_)); refine hK _ ?_; clear hK K)) | (with_reducible first | (refine evL_nil ?_; refine hR _ ?_; clear hR R) | ((first | refine evC_seq ?_ | refine evC_block ?_); intro Ψ hΨ hΨ') | (refine evC_region ?_; intro R hR) | (refine hΨ _ ?_; clear hΨ hΨ' Ψ) | refine evC_skip ?_ | refine evC_ret ?_ | refine evC_exit ?_) | ((with_reducible refine hΨ' _ _ ?_ ?_); (focus (simp; done)); clear hΨ hΨ' Ψ) | ((with_reducible apply evC_cond); rfl; rfl; all_goals (intro hc; first | (cases hc; done) | (try simp only at hc))))))
    exact fin _ (St.to.trans (St.to.of_le (τ := stB ex L lp 15 (out ++ [y.b]) (i + 1)) (St.le_of (by simp [leT]) (by simp [leH, hget]))) (stB_rn ex L lp _ _))
  · have k1 : (decide ((i : Int) < (L.length : Int))) = false := by simpa using hge
    have e : L.take i = L := List.take_of_length_le hge
    rw [e]
    refine AWE.seq (AWE.of ?_)
    (repeat (any_goals (first | ((with_reducible refine evL_one ?_ ?_); rfl; intro K hK; simp only [go_sem, k1]; ((repeat (refine ndI (by first | assumption | omega | rfl) ?_)); refine hK _ ?_; clear hK K)) | (with_reducible first | (refine evL_nil ?_; refine hR _ ?_; clear hR R) | ((first | refine evC_seq ?_ | refine evC_block ?_); intro Ψ hΨ hΨ') | (refine evC_region ?_; intro R hR) | (refine hΨ _ ?_; clear hΨ hΨ' Ψ) | refine evC_skip ?_ | refine evC_ret ?_ | refine evC_exit ?_) | ((with_reducible refine hΨ' _ _ ?_ ?_); (focus (simp; done)); clear hΨ hΨ' Ψ) | ((with_reducible apply evC_cond); rfl; rfl; all_goals (intro hc; first | (cases hc; done) | (try simp only at hc))))))
    refine AWE.seq (AWE.of ?_)
    (repeat (any_goals (first | ((with_reducible refine evL_one ?_ ?_); rfl; intro K hK; simp only [go_sem, k1]; ((repeat (refine ndI (by first | assumption | omega | rfl) ?_)); refine hK _ ?_; clear hK K)) | (with_reducible first | (refine evL_nil ?_; refine hR _ ?_; clear hR R) | ((first | refine evC_seq ?_ | refine evC_block ?_); intro Ψ hΨ hΨ') | (refine evC_region ?_; intro R hR) | (refine hΨ _ ?_; clear hΨ hΨ' Ψ) | refine evC_skip ?_ | refine evC_ret ?_ | refine evC_exit ?_) | ((with_reducible refine hΨ' _ _ ?_ ?_); (focus (simp; done)); clear hΨ hΨ' Ψ) | ((with_reducible apply evC_cond); rfl; rfl; all_goals (intro hc; first | (cases hc; done) | (try simp only at hc))))))
    exact ⟨by simp, ⟨_, rfl, AV.le_of (by simp [oneOf])⟩, leH_get (by simp [leH, hget])⟩
theorem rcW_snoc (l : List Nat) (x : Nat) : rcW (l ++ [x]) = rcW l ++ (wpv x).map .c := by
  unfold rcW; rw [List.flatMap_append, List.map_append, List.flatMap_cons, List.flatMap_nil, List.append_nil]
theorem total_nil (ex : Bool) (L : List Ac) (hl : L.length ≤ 900) (ok : ∀ x ∈ L, x.b < WW) : Fn Try.prog 46 [stA ex L, .c (.v (.slice none 0 0))] [] (.tup [wN ((L.map Ac.b).sum % WW), vb (!decide (WW ≤ (L.map Ac.b).sum))]) [] := by
  have hs := fun ex => sum_fn ex (L.map Ac.b) (by rw [List.length_map]; omega) (by simpa using ok)
  obtain ⟨q, hq⟩ : ∃ q, decide (WW ≤ (L.map Ac.b).sum) = q := ⟨_, rfl⟩
  obtain ⟨n, hn⟩ : ∃ n, (L.map Ac.b).sum % WW = n := ⟨_, rfl⟩
  rw [hq, hn] at hs
  rw [hq, hn]
  (refine fn_of Try.func46 rfl (by rfl) ?_; simp only [Try.ntmps46, List.length_cons, List.length_nil, Nat.reduceAdd, Nat.reduceSub, List.replicate, List.cons_append, List.nil_append])
  (repeat (any_goals (first | ((with_reducible refine evL_call ?_ ?_ ?_); rfl; rfl; intro K hK; (apply opA_callR (balances_fn ex L) (fun r => r + 100); rfl; rfl; rfl; rfl; exact Try.func77; kernel_rfl; rfl; rfl; (intro r hr q hq h; simp only [List.map_cons, List.map_nil, List.cons_append, List.nil_append, List.mem_cons, List.not_mem_nil, or_false] at hr hq; (try dsimp only at h); first | omega | (rcases hr with rfl | rfl | rfl <;> rcases hq with rfl | rfl | rfl <;> simp at h ⊢) | (rcases hr with rfl | rfl <;> rcases hq with rfl | rfl <;> simp at h ⊢) | ((repeat' split at h) <;> omega)); (simp only [argsOk, argOk, AV.ren, AV.renL, renL_map, List.mem_cons, List.not_mem_nil, forall_eq_or_imp, forall_eq, newOk, List.contains_cons, List.contains_nil, AV.refsL, AV.refs, refsL_map, AV.inN, AV.inNL, inH, inNL_map, go_sem])); (simp only [hputs, hdels, renH, AV.ren, AV.renL, renL_map, go_sem]; refine hK _ ?_; clear hK K)) | ((with_reducible refine evL_one ?_ ?_); rfl; intro K hK; simp only [go_sem]; ((repeat (refine ndI (by first | assumption | omega | rfl) ?_)); refine hK _ ?_; clear hK K)) | (with_reducible first | (refine evL_nil ?_; refine hR _ ?_; clear hR R) | ((first | refine evC_seq ?_ | refine evC_block ?_); intro Ψ hΨ hΨ') | (refine evC_region ?_; intro R hR) | (refine hΨ _ ?_; clear hΨ hΨ' Ψ) | refine evC_skip ?_ | refine evC_ret ?_ | refine evC_exit ?_) | ((with_reducible refine hΨ' _ _ ?_ ?_); (focus (simp; done)); clear hΨ hΨ' Ψ) | ((with_reducible apply evC_cond); rfl; rfl; all_goals (intro hc; first | (cases hc; done) | (try simp only at hc))))))
  show AW _ _ _ _
  refine AW.to (St.to.nilcell 3 700 27 4 0 (cs := [.c (.v (.slice none 0 0))]) (by simp [hget]) rfl (by simp [St.free, freeH, AV.refsL, AV.refs]) (by decide) (by decide)) ?_
  refine AW.range (T0 := [.any, .any, .any, .ptr 1003 0, .any, .any, .any, .any, .any, .any, .any, .any, .any, .any, .any, .any, .any, .any, .any, .any, .any, .any, .any, .any]) (cargs := [.ptr 1101 0]) (H0 := [(1003, [.row 1600 27 4 ([] : List Nat).length]), (1600, rcW []), (1101, [acS ex L])]) (H1 := [(1003, [.row 600 27 4 ([] ++ L.map Ac.b).length]), (600, rcW ([] ++ L.map Ac.b))]) (res := .tup []) (fun r => if r = 1600 then 700 else if 1000 ≤ r then r - 1000 else r) (fun lp => bal1_fn ex [] (by simp) L hl rfl lp fun out y hm ho => yc_of rfl rfl ?_) rfl rfl Try.func92 (by kernel_rfl) rfl rfl ?_ ?_ ?_ ?_ ?_ rfl ?_ ?_
  · have k4 := rcW_len out
    have k9 : ∀ r, AV.refsL r (rcW out) = false := fun r => refsL_map r _
    simp only [List.set]
    (repeat (any_goals (first | ((with_reducible refine evL_one ?_ ?_); rfl; intro K hK; simp (disch := omega) only [go_sem, k4, k9]; ((repeat (refine ndI (by first | assumption | omega | rfl) ?_)); refine hK _ ?_; clear hK K)) | (with_reducible first | (refine evL_nil ?_; refine hR _ ?_; clear hR R) | ((first | refine evC_seq ?_ | refine evC_block ?_); intro Ψ hΨ hΨ') | (refine evC_region ?_; intro R hR) | (refine hΨ _ ?_; clear hΨ hΨ' Ψ) | refine evC_skip ?_ | refine evC_ret ?_ | refine evC_exit ?_) | ((with_reducible refine hΨ' _ _ ?_ ?_); (focus (simp; done)); clear hΨ hΨ' Ψ) | ((with_reducible apply evC_cond); rfl; rfl; all_goals (intro hc; first | (cases hc; done) | (try simp only at hc))))))
    refine ⟨rfl, ?_⟩
    (have W := ndI k4 (ndI k9 @refsL_map); (repeat (any_goals (first | ((with_reducible refine evL_one ?_ ?_); rfl; intro K hK; simp (disch := omega) only [go_sem, W, refsL_app, AV.refsL, AV.refs, List.length_append, List.length_cons, List.length_nil, Bool.or_false]; ((repeat (refine ndI (by first | assumption | omega | rfl) ?_)); refine hK _ ?_; clear hK K)) | (with_reducible first | (refine evL_nil ?_; refine hR _ ?_; clear hR R) | ((first | refine evC_seq ?_ | refine evC_block ?_); intro Ψ hΨ hΨ') | (refine evC_region ?_; intro R hR) | (refine hΨ _ ?_; clear hΨ hΨ' Ψ) | refine evC_skip ?_ | refine evC_ret ?_ | refine evC_exit ?_) | ((with_reducible refine hΨ' _ _ ?_ ?_); (focus (simp; done)); clear hΨ hΨ' Ψ) | ((with_reducible apply evC_cond); rfl; rfl; all_goals (intro hc; first | (cases hc; done) | (try simp only at hc)))))))
    exact ⟨rfl, leH_get (by simp [leH, hget, rcW_snoc, wpv])⟩
  · simp [argsOk, argOk, AV.ren]
  · simp [argsOk, argOk, AV.ren]
  · simp [hget, AV.renL, AV.ren, hput, rcW]
  · intro r hr q hq h
    simp only [List.map_cons, List.map_nil, List.cons_append, List.nil_append, List.mem_cons, List.not_mem_nil, or_false] at hr hq
    rcases hr with rfl | rfl | rfl | rfl | rfl <;> rcases hq with rfl | rfl | rfl | rfl | rfl <;> simp at h ⊢
  · simp [newOk, St.free, freeH, AV.refs, AV.refsL, hput]
  · simp [inH, AV.inNL, AV.inN, inNL_rcW]
  · simp only [hputs, hdels, renH, AV.ren, AV.renL, renL_rcW, hput, hdel, hget, Nat.reduceLeDiff, Nat.reduceSub, Nat.reduceEqDiff, ↓reduceIte, List.nil_append]
    (repeat (any_goals (first | ((with_reducible refine evL_one ?_ ?_); rfl; intro K hK; simp only [go_sem]; ((repeat (refine ndI (by first | assumption | omega | rfl) ?_)); refine hK _ ?_; clear hK K)) | (with_reducible first | (refine evL_nil ?_; refine hR _ ?_; clear hR R) | ((first | refine evC_seq ?_ | refine evC_block ?_); intro Ψ hΨ hΨ') | (refine evC_region ?_; intro R hR) | (refine hΨ _ ?_; clear hΨ hΨ' Ψ) | refine evC_skip ?_ | refine evC_ret ?_ | refine evC_exit ?_) | ((with_reducible refine hΨ' _ _ ?_ ?_); (focus (simp; done)); clear hΨ hΨ' Ψ) | ((with_reducible apply evC_cond); rfl; rfl; all_goals (intro hc; first | (cases hc; done) | (try simp only at hc))))))
    refine evL_to rfl (St.to.frz 600 (pcs := (L.map Ac.b).flatMap wpv) (by simp [hget, rcW])) ?_
    have el : ((L.map Ac.b).flatMap wpv).length = (L.map Ac.b).length * 4 := flat_length wpv_len _
    simp only [St.frz, AV.frzL, AV.frz, frzH, el, if_true, eq_self, ↓reduceIte, Nat.reduceEqDiff]
    (repeat (any_goals (first | ((with_reducible refine evL_call ?_ ?_ ?_); rfl; rfl; intro K hK; ((apply opA_callB (hs _); rfl; rfl; rfl; rfl; exact Try.func78); kernel_rfl; rfl; (simp only [go_sem]; rfl); (first | rfl | simp [AV.inNL, AV.inN])); (simp only [go_sem]; refine hK _ ?_; clear hK K)) | ((with_reducible refine evL_one ?_ ?_); rfl; intro K hK; simp only [go_sem]; ((repeat (refine ndI (by first | assumption | omega | rfl) ?_)); refine hK _ ?_; clear hK K)) | (with_reducible first | (refine evL_nil ?_; refine hR _ ?_; clear hR R) | ((first | refine evC_seq ?_ | refine evC_block ?_); intro Ψ hΨ hΨ') | (refine evC_region ?_; intro R hR) | (refine hΨ _ ?_; clear hΨ hΨ' Ψ) | refine evC_skip ?_ | refine evC_ret ?_ | refine evC_exit ?_) | ((with_reducible refine hΨ' _ _ ?_ ?_); (focus (simp; done)); clear hΨ hΨ' Ψ) | ((with_reducible apply evC_cond); rfl; rfl; all_goals (intro hc; first | (cases hc; done) | (try simp only at hc))))))
    all_goals (refine ⟨by simp, ⟨_, ?_, AV.le_refl _⟩, leH_get (by simp [leH, hget])⟩; simp only [Try.results46, resL, ldA, oneOf, go_sem])
theorem total_row (ex : Bool) (m : List Nat) (hm1 : m.length ≤ 10) (hm2 : ∀ x ∈ m, x < WW) (L : List Ac) (hl : L.length ≤ 900) (ok : ∀ x ∈ L, x.b < WW) : Fn Try.prog 46 [stA ex L, .row 1700 27 4 m.length] [(1700, rcW m)] (.tup [wN ((m ++ L.map Ac.b).sum % WW), vb (!decide (WW ≤ (m ++ L.map Ac.b).sum))]) [] := by
  have hs := fun ex => sum_fn ex (m ++ L.map Ac.b) (by rw [List.length_append, List.length_map]; omega) (fun x hx => by rcases List.mem_append.1 hx with h | h; exact hm2 x h; obtain ⟨y, hy, rfl⟩ := List.mem_map.1 h; exact ok y hy)
  obtain ⟨q, hq⟩ : ∃ q, decide (WW ≤ (m ++ L.map Ac.b).sum) = q := ⟨_, rfl⟩
  obtain ⟨n, hn⟩ : ∃ n, (m ++ L.map Ac.b).sum % WW = n := ⟨_, rfl⟩
  rw [hq, hn] at hs
  rw [hq, hn]
  (refine fn_of Try.func46 rfl (by rfl) ?_; simp only [Try.ntmps46, List.length_cons, List.length_nil, Nat.reduceAdd, Nat.reduceSub, List.replicate, List.cons_append, List.nil_append])
  have k8 : ∀ r, AV.refsL r (rcW m) = false := fun r => refsL_map r _
  (repeat (any_goals (first | ((with_reducible refine evL_call ?_ ?_ ?_); rfl; rfl; intro K hK; (apply opA_callR (balances_fn ex L) (fun r => r + 100); rfl; rfl; rfl; rfl; exact Try.func77; kernel_rfl; rfl; rfl; (intro r hr q hq h; simp only [List.map_cons, List.map_nil, List.cons_append, List.nil_append, List.mem_cons, List.not_mem_nil, or_false] at hr hq; (try dsimp only at h); first | omega | (rcases hr with rfl | rfl | rfl <;> rcases hq with rfl | rfl | rfl <;> simp at h ⊢) | (rcases hr with rfl | rfl <;> rcases hq with rfl | rfl <;> simp at h ⊢) | ((repeat' split at h) <;> omega)); (simp only [argsOk, argOk, AV.ren, AV.renL, renL_map, List.mem_cons, List.not_mem_nil, forall_eq_or_imp, forall_eq, newOk, List.contains_cons, List.contains_nil, AV.refsL, AV.refs, refsL_map, AV.inN, AV.inNL, inH, inNL_map, go_sem, k8])); (simp only [hputs, hdels, renH, AV.ren, AV.renL, renL_map, go_sem, k8]; refine hK _ ?_; clear hK K)) | ((with_reducible refine evL_one ?_ ?_); rfl; intro K hK; simp only [go_sem, k8]; ((repeat (refine ndI (by first | assumption | omega | rfl) ?_)); refine hK _ ?_; clear hK K)) | (with_reducible first | (refine evL_nil ?_; refine hR _ ?_; clear hR R) | ((first | refine evC_seq ?_ | refine evC_block ?_); intro Ψ hΨ hΨ') | (refine evC_region ?_; intro R hR) | (refine hΨ _ ?_; clear hΨ hΨ' Ψ) | refine evC_skip ?_ | refine evC_ret ?_ | refine evC_exit ?_) | ((with_reducible refine hΨ' _ _ ?_ ?_); (focus (simp; done)); clear hΨ hΨ' Ψ) | ((with_reducible apply evC_cond); rfl; rfl; all_goals (intro hc; first | (cases hc; done) | (try simp only at hc))))))
  show AW _ _ _ _
  refine AW.range (T0 := [.any, .any, .any, .ptr 1003 0, .any, .any, .any, .any, .any, .any, .any, .any, .any, .any, .any, .any, .any, .any, .any, .any, .any, .any, .any, .any]) (cargs := [.ptr 1101 0]) (H0 := [(1003, [.row 1600 27 4 m.length]), (1600, rcW m), (1101, [acS ex L])]) (H1 := [(1003, [.row 600 27 4 (m ++ L.map Ac.b).length]), (600, rcW (m ++ L.map Ac.b))]) (res := .tup []) (fun r => if r = 1600 then 1700 else if 1000 ≤ r then r - 1000 else r) (fun lp => bal1_fn ex m hm1 L hl rfl lp fun out y hm ho => yc_of rfl rfl ?_) rfl rfl Try.func92 (by kernel_rfl) rfl rfl ?_ ?_ ?_ ?_ ?_ rfl ?_ ?_
  · have k4 := rcW_len out
    have k9 : ∀ r, AV.refsL r (rcW out) = false := fun r => refsL_map r _
    simp only [List.set]
    (repeat (any_goals (first | ((with_reducible refine evL_one ?_ ?_); rfl; intro K hK; simp (disch := omega) only [go_sem, k4, k9]; ((repeat (refine ndI (by first | assumption | omega | rfl) ?_)); refine hK _ ?_; clear hK K)) | (with_reducible first | (refine evL_nil ?_; refine hR _ ?_; clear hR R) | ((first | refine evC_seq ?_ | refine evC_block ?_); intro Ψ hΨ hΨ') | (refine evC_region ?_; intro R hR) | (refine hΨ _ ?_; clear hΨ hΨ' Ψ) | refine evC_skip ?_ | refine evC_ret ?_ | refine evC_exit ?_) | ((with_reducible refine hΨ' _ _ ?_ ?_); (focus (simp; done)); clear hΨ hΨ' Ψ) | ((with_reducible apply evC_cond); rfl; rfl; all_goals (intro hc; first | (cases hc; done) | (try simp only at hc))))))
    refine ⟨rfl, ?_⟩
    (have W := ndI k4 (ndI k9 @refsL_map); (repeat (any_goals (first | ((with_reducible refine evL_one ?_ ?_); rfl; intro K hK; simp (disch := omega) only [go_sem, W, refsL_app, AV.refsL, AV.refs, List.length_append, List.length_cons, List.length_nil, Bool.or_false]; ((repeat (refine ndI (by first | assumption | omega | rfl) ?_)); refine hK _ ?_; clear hK K)) | (with_reducible first | (refine evL_nil ?_; refine hR _ ?_; clear hR R) | ((first | refine evC_seq ?_ | refine evC_block ?_); intro Ψ hΨ hΨ') | (refine evC_region ?_; intro R hR) | (refine hΨ _ ?_; clear hΨ hΨ' Ψ) | refine evC_skip ?_ | refine evC_ret ?_ | refine evC_exit ?_) | ((with_reducible refine hΨ' _ _ ?_ ?_); (focus (simp; done)); clear hΨ hΨ' Ψ) | ((with_reducible apply evC_cond); rfl; rfl; all_goals (intro hc; first | (cases hc; done) | (try simp only at hc)))))))
    exact ⟨rfl, leH_get (by simp [leH, hget, rcW_snoc, wpv])⟩
  · simp [argsOk, argOk, AV.ren]
  · simp [argsOk, argOk, AV.ren]
  · simp [hget, AV.renL, AV.ren, hput, rcW]
  · intro r hr q hq h
    simp only [List.map_cons, List.map_nil, List.cons_append, List.nil_append, List.mem_cons, List.not_mem_nil, or_false] at hr hq
    rcases hr with rfl | rfl | rfl | rfl | rfl <;> rcases hq with rfl | rfl | rfl | rfl | rfl <;> simp at h ⊢
  · simp [newOk, St.free, freeH, AV.refs, AV.refsL, hput, k8]
  · simp [inH, AV.inNL, AV.inN, inNL_rcW]
  · simp only [hputs, hdels, renH, AV.ren, AV.renL, renL_rcW, hput, hdel, hget, Nat.reduceLeDiff, Nat.reduceSub, Nat.reduceEqDiff, ↓reduceIte]
    (repeat (any_goals (first | ((with_reducible refine evL_one ?_ ?_); rfl; intro K hK; simp only [go_sem, k8]; ((repeat (refine ndI (by first | assumption | omega | rfl) ?_)); refine hK _ ?_; clear hK K)) | (with_reducible first | (refine evL_nil ?_; refine hR _ ?_; clear hR R) | ((first | refine evC_seq ?_ | refine evC_block ?_); intro Ψ hΨ hΨ') | (refine evC_region ?_; intro R hR) | (refine hΨ _ ?_; clear hΨ hΨ' Ψ) | refine evC_skip ?_ | refine evC_ret ?_ | refine evC_exit ?_) | ((with_reducible refine hΨ' _ _ ?_ ?_); (focus (simp; done)); clear hΨ hΨ' Ψ) | ((with_reducible apply evC_cond); rfl; rfl; all_goals (intro hc; first | (cases hc; done) | (try simp only at hc))))))
    refine evL_to rfl (St.to.frz 600 (pcs := (m ++ L.map Ac.b).flatMap wpv) (by simp [hget, rcW])) ?_
    have el : ((m ++ L.map Ac.b).flatMap wpv).length = (m ++ L.map Ac.b).length * 4 := flat_length wpv_len _
    simp only [St.frz, AV.frzL, AV.frz, frzH, el, if_true, eq_self, ↓reduceIte, Nat.reduceEqDiff]
    (repeat (any_goals (first | ((with_reducible refine evL_call ?_ ?_ ?_); rfl; rfl; intro K hK; ((apply opA_callB (hs _); rfl; rfl; rfl; rfl; exact Try.func78); kernel_rfl; rfl; (simp only [go_sem]; rfl); (first | rfl | simp [AV.inNL, AV.inN])); (simp only [go_sem]; refine hK _ ?_; clear hK K)) | ((with_reducible refine evL_one ?_ ?_); rfl; intro K hK; simp only [go_sem]; ((repeat (refine ndI (by first | assumption | omega | rfl) ?_)); refine hK _ ?_; clear hK K)) | (with_reducible first | (refine evL_nil ?_; refine hR _ ?_; clear hR R) | ((first | refine evC_seq ?_ | refine evC_block ?_); intro Ψ hΨ hΨ') | (refine evC_region ?_; intro R hR) | (refine hΨ _ ?_; clear hΨ hΨ' Ψ) | refine evC_skip ?_ | refine evC_ret ?_ | refine evC_exit ?_) | ((with_reducible refine hΨ' _ _ ?_ ?_); (focus (simp; done)); clear hΨ hΨ' Ψ) | ((with_reducible apply evC_cond); rfl; rfl; all_goals (intro hc; first | (cases hc; done) | (try simp only at hc))))))
    all_goals (refine ⟨by simp, ⟨_, ?_, AV.le_refl _⟩, leH_get (by simp [leH, hget])⟩; simp only [Try.results46, resL, ldA, oneOf, go_sem])
end Go.Proofs.Ytiggambibcohcaa

