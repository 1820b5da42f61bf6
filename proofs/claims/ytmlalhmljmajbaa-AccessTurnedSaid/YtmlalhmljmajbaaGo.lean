/-
  The law AccessTurned, walked.
-/
import Derived.Test.YtmlalhmljmajbaaGn
namespace Go.Proofs.Ytmlalhmljmajbaa
open Go.RowKit
open Nat (reduceBEq)
set_option linter.unusedVariables false
set_option linter.unusedSimpArgs false
set_option maxRecDepth 20000
set_option maxHeartbeats 4000000
theorem turned_fn (x : Xs) (hx : x.ok) (a b : Dd) (oa : a.ok) (ob : b.ok) : Fn Try.prog 7 [xsA x, ddA a, ddA b] [] (vb true) [] := by
  have wk := wakes_fn
  have ov := over_fn x
  have z3 : ((3 : Int) = 0) = False := eq_false (by decide)
  cases ho : overX x with
  | true =>
    rw [ho] at ov
    obtain ⟨A, S, P⟩ := x
    (refine fn_of Try.func7 rfl (by rfl) ?_; simp only [Try.ntmps7, List.length_cons, List.length_nil, Nat.reduceAdd, Nat.reduceSub, List.replicate, List.cons_append, List.nil_append])
    (repeat (any_goals (first | ((with_reducible refine evL_call ?_ ?_ ?_); rfl; rfl; intro K hK; ((first | (apply opA_callB (wk); rfl; rfl; rfl; rfl; exact Try.func9) | (apply opA_callB (ov); rfl; rfl; rfl; rfl; exact Try.func19)); kernel_rfl; rfl; (simp only [go_sem]; rfl); (simp only [AV.inNL, AV.inN, inNL_map, Bool.and_true])); (simp only [go_sem]; (with_reducible refine hK _ ?_); clear hK K)) | ((with_reducible refine evL_one ?_ ?_); rfl; intro K hK; simp only [go_sem]; ((repeat (refine And.intro (by first | assumption | omega | rfl) ?_)); (with_reducible refine hK _ ?_); clear hK K)) | ((with_reducible refine evL_nil ?_); (with_reducible refine hR _ ?_); clear hR R) | ((with_reducible first | refine evC_seq ?_ | refine evC_block ?_); intro Ψ hΨ hΨ') | ((with_reducible refine evC_region ?_); intro R hR) | ((with_reducible refine hΨ _ ?_); clear hΨ hΨ' Ψ) | ((with_reducible refine hΨ' _ _ ?_ ?_); (focus (first | ((intro hx; cases hx); done) | ((intro j hj; cases hj); done) | (intro j hj; cases hj; (decide); done))); clear hΨ hΨ' Ψ) | (with_reducible first | refine evC_skip ?_ | refine evC_ret ?_ | refine evC_exit ?_) | ((with_reducible apply evL_unmet); rfl; rfl; rfl; (try simp only [go_sem])) | ((with_reducible apply evL_grd); rfl; rfl; rfl; all_goals (intro hb; first | (exact absurd hb (by decide)) | ((try simp only [Bool.not_true, Bool.not_false] at hb); (first | ((with_reducible intro K hK); simp only [go_sem]; ((repeat (refine And.intro (by first | assumption | omega | rfl) ?_)); (with_reducible refine hK _ ?_); clear hK K)) | ((fail_if_success (with_reducible intro _)); simp only [go_sem]))))) | ((with_reducible apply evC_cond); rfl; rfl; all_goals (intro hc; first | (exact absurd hc (by decide)) | (try simp only at hc))))))
    all_goals (refine ⟨by simp, ⟨_, ?_, AV.le_refl _⟩, leH_get (by simp [leH, hget])⟩; simp only [Try.results7, resL, ldA, oneOf, go_sem])
  | false =>
  rw [ho] at ov
  have fx := few_over ho
  have ck := checkX_fn x hx fx
  cases hv : okXs x with
  | false =>
    rw [hv] at ck
    simp only [Bool.false_eq_true, if_false] at ck
    obtain ⟨A, S, P⟩ := x
    (refine fn_of Try.func7 rfl (by rfl) ?_; simp only [Try.ntmps7, List.length_cons, List.length_nil, Nat.reduceAdd, Nat.reduceSub, List.replicate, List.cons_append, List.nil_append])
    (repeat (any_goals (first | ((with_reducible refine evL_call ?_ ?_ ?_); rfl; rfl; intro K hK; ((first | (apply opA_callB (wk); rfl; rfl; rfl; rfl; exact Try.func9) | (apply opA_callB (ov); rfl; rfl; rfl; rfl; exact Try.func19) | (apply opA_callB (ck); rfl; rfl; rfl; rfl; exact Try.func20)); kernel_rfl; rfl; (simp only [go_sem]; rfl); (simp only [AV.inNL, AV.inN, inNL_map, Bool.and_true])); (simp only [go_sem]; (with_reducible refine hK _ ?_); clear hK K)) | ((with_reducible refine evL_one ?_ ?_); rfl; intro K hK; simp only [go_sem]; ((repeat (refine And.intro (by first | assumption | omega | rfl) ?_)); (with_reducible refine hK _ ?_); clear hK K)) | ((with_reducible refine evL_nil ?_); (with_reducible refine hR _ ?_); clear hR R) | ((with_reducible first | refine evC_seq ?_ | refine evC_block ?_); intro Ψ hΨ hΨ') | ((with_reducible refine evC_region ?_); intro R hR) | ((with_reducible refine hΨ _ ?_); clear hΨ hΨ' Ψ) | ((with_reducible refine hΨ' _ _ ?_ ?_); (focus (first | ((intro hx; cases hx); done) | ((intro j hj; cases hj); done) | (intro j hj; cases hj; (decide); done))); clear hΨ hΨ' Ψ) | (with_reducible first | refine evC_skip ?_ | refine evC_ret ?_ | refine evC_exit ?_) | ((with_reducible apply evL_unmet); rfl; rfl; rfl; (try simp only [go_sem])) | ((with_reducible apply evL_grd); rfl; rfl; rfl; all_goals (intro hb; first | (exact absurd hb (by decide)) | ((try simp only [Bool.not_true, Bool.not_false] at hb); (first | ((with_reducible intro K hK); (first | ((apply opA_callB (ck); rfl; rfl; rfl; rfl; exact Try.func20); kernel_rfl; rfl; (simp only [go_sem]; rfl); (simp only [AV.inNL, AV.inN, inNL_map, Bool.and_true])) | skip); simp only [go_sem]; ((repeat (refine And.intro (by first | assumption | omega | rfl) ?_)); (with_reducible refine hK _ ?_); clear hK K)) | ((fail_if_success (with_reducible intro _)); simp only [go_sem]))))) | ((with_reducible apply evC_cond); rfl; rfl; all_goals (intro hc; first | (exact absurd hc (by decide)) | (try simp only at hc))))))
    all_goals (refine ⟨by simp, ⟨_, ?_, AV.le_refl _⟩, leH_get (by simp [leH, hget])⟩; simp only [Try.results7, resL, ldA, oneOf, go_sem])
  | true =>
  rw [hv] at ck
  simp only [if_true] at ck
  have v := okXs_iff.1 hv
  have ka := beqI (kindD a) 2
  have kb := beqI (kindD b) 2
  have ha : (IntKind.u64.wrap a.kind).tmod 3 = kindD a := rfl
  have hb0 : (IntKind.u64.wrap b.kind).tmod 3 = kindD b := rfl
  have ks := sp_eq oa.2.1 ob.2.1
  have F1 := doX_ok v hx oa
  have F2 := doX_ok v hx ob
  have d1 := does_fn x hx fx a oa
  have d2 := does_fn x hx fx b ob
  have cm := fun h => apX_comm v oa ob h
  generalize doX x a = r1 at F1 d1
  generalize doX x b = r2 at F2 d2
  obtain ⟨m, c1, e1⟩ := r1
  obtain ⟨n, c2, e2⟩ := r2
  dsimp only at F1 F2 d1 d2
  have n1 := bne0 e1
  have n2 := bne0 e2
  by_cases hall : kindD a = 2 ∧ kindD b = 2 ∧ a.s = b.s
  · rw [decide_eq_true hall.1] at ka
    rw [decide_eq_true hall.2.1] at kb
    rw [decide_eq_true hall.2.2] at ks
    obtain ⟨A, S, P⟩ := x
    clear hall cm F1 F2
    generalize kindD a = KA at *
    generalize kindD b = KB at *
    (refine fn_of Try.func7 rfl (by rfl) ?_; simp only [Try.ntmps7, List.length_cons, List.length_nil, Nat.reduceAdd, Nat.reduceSub, List.replicate, List.cons_append, List.nil_append])
    (repeat (any_goals (first | ((with_reducible refine evL_call ?_ ?_ ?_); rfl; rfl; intro K hK; ((first | (apply opA_callB (wk); rfl; rfl; rfl; rfl; exact Try.func9) | (apply opA_callB (ov); rfl; rfl; rfl; rfl; exact Try.func19) | (apply opA_callB (ck); rfl; rfl; rfl; rfl; exact Try.func20)); kernel_rfl; rfl; (simp only [go_sem, ha, hb0, z3, ka, kb, ks]; rfl); (simp only [AV.inNL, AV.inN, inNL_map, Bool.and_true])); (simp only [go_sem, ha, hb0, z3, ka, kb, ks, go_sem]; (with_reducible refine hK _ ?_); clear hK K)) | ((with_reducible refine evL_one ?_ ?_); rfl; intro K hK; simp only [go_sem, ha, hb0, z3, ka, kb, ks, go_sem]; ((repeat (refine And.intro (by first | assumption | omega | rfl) ?_)); (with_reducible refine hK _ ?_); clear hK K)) | ((with_reducible refine evL_nil ?_); (with_reducible refine hR _ ?_); clear hR R) | ((with_reducible first | refine evC_seq ?_ | refine evC_block ?_); intro Ψ hΨ hΨ') | ((with_reducible refine evC_region ?_); intro R hR) | ((with_reducible refine hΨ _ ?_); clear hΨ hΨ' Ψ) | ((with_reducible refine hΨ' _ _ ?_ ?_); (focus (first | ((intro hx; cases hx); done) | ((intro j hj; cases hj); done) | (intro j hj; cases hj; (decide); done))); clear hΨ hΨ' Ψ) | (with_reducible first | refine evC_skip ?_ | refine evC_ret ?_ | refine evC_exit ?_) | ((with_reducible apply evL_unmet); rfl; rfl; rfl; (try simp only [go_sem, ha, hb0, z3, ka, kb, ks, go_sem])) | ((with_reducible apply evL_grd); rfl; rfl; rfl; all_goals (intro hb; first | (exact absurd hb (by decide)) | ((try simp only [Bool.not_true, Bool.not_false] at hb); (first | ((with_reducible intro K hK); (first | ((apply opA_callB (ck); rfl; rfl; rfl; rfl; exact Try.func20); kernel_rfl; rfl; (simp only [go_sem, ha, hb0, z3, ka, kb, ks]; rfl); (simp only [AV.inNL, AV.inN, inNL_map, Bool.and_true])) | skip); simp only [go_sem, ha, hb0, z3, ka, kb, ks, go_sem]; ((repeat (refine And.intro (by first | assumption | omega | rfl) ?_)); (with_reducible refine hK _ ?_); clear hK K)) | ((fail_if_success (with_reducible intro _)); simp only [go_sem, ha, hb0, z3, ka, kb, ks, go_sem]))))) | ((with_reducible apply evC_cond); rfl; rfl; all_goals (intro hc; first | (exact absurd hc (by decide)) | (try simp only at hc))))))
    all_goals (refine ⟨by simp, ⟨_, ?_, AV.le_refl _⟩, leH_get (by simp [leH, hget])⟩; simp only [Try.results7, resL, ldA, oneOf, go_sem])
  have hc0 := cm hall
  have hq : decide (kindD a = 2) = false ∨ (decide (kindD a = 2) = true ∧ decide (kindD b = 2) = false) ∨ (decide (kindD a = 2) = true ∧ decide (kindD b = 2) = true ∧ decide (a.s = b.s) = false) := by
    by_cases h1 : kindD a = 2
    · by_cases h2 : kindD b = 2
      · exact .inr (.inr ⟨decide_eq_true h1, decide_eq_true h2, decide_eq_false fun h3 => hall ⟨h1, h2, h3⟩⟩)
      · exact .inr (.inl ⟨decide_eq_true h1, decide_eq_false h2⟩)
    · exact .inl (decide_eq_false h1)
  clear cm hall
  generalize decide (kindD a = 2) = q1 at ka hq
  generalize decide (kindD b = 2) = q2 at kb hq
  generalize decide (a.s = b.s) = q3 at ks hq
  generalize kindD a = KA at *
  generalize kindD b = KB at *
  by_cases h1' : ¬ e1 = 0
  · rw [decide_eq_false h1', Bool.not_false] at n1
    rcases hq with rfl | ⟨rfl, rfl⟩ | ⟨rfl, rfl, rfl⟩
    all_goals (refine fn_of Try.func7 rfl (by rfl) ?_; simp only [Try.ntmps7, List.length_cons, List.length_nil, Nat.reduceAdd, Nat.reduceSub, List.replicate, List.cons_append, List.nil_append])
    all_goals (repeat (any_goals (first | ((with_reducible refine evL_call ?_ ?_ ?_); rfl; rfl; intro K hK; (first | ((first | (apply opA_callB (wk); rfl; rfl; rfl; rfl; exact Try.func9) | (apply opA_callB (ov); rfl; rfl; rfl; rfl; exact Try.func19) | (apply opA_callB (ck); rfl; rfl; rfl; rfl; exact Try.func20)); kernel_rfl; rfl; (simp only [go_sem, ha, hb0, z3, ka, kb, ks, n1]; rfl); (simp only [AV.inNL, AV.inN, inNL_map, Bool.and_true])) | ((apply opA_callB (d1); rfl; rfl; rfl; rfl; exact Try.func26); kernel_rfl; rfl; (simp only [go_sem, ha, hb0, z3, ka, kb, ks, n1]; rfl); (simp only [AV.inNL, AV.inN, inNL_map, Bool.and_true])) | ((apply opA_callB (d2); rfl; rfl; rfl; rfl; exact Try.func26); kernel_rfl; rfl; (simp only [go_sem, ha, hb0, z3, ka, kb, ks, n1]; rfl); (simp only [AV.inNL, AV.inN, inNL_map, Bool.and_true]))); (simp only [go_sem, ha, hb0, z3, ka, kb, ks, n1, go_sem]; (with_reducible refine hK _ ?_); clear hK K)) | ((with_reducible refine evL_one ?_ ?_); rfl; intro K hK; simp only [go_sem, ha, hb0, z3, ka, kb, ks, n1, go_sem]; ((repeat (refine And.intro (by first | assumption | omega | rfl) ?_)); (with_reducible refine hK _ ?_); clear hK K)) | ((with_reducible refine evL_nil ?_); (with_reducible refine hR _ ?_); clear hR R) | ((with_reducible first | refine evC_seq ?_ | refine evC_block ?_); intro Ψ hΨ hΨ') | ((with_reducible refine evC_region ?_); intro R hR) | ((with_reducible refine hΨ _ ?_); clear hΨ hΨ' Ψ) | ((with_reducible refine hΨ' _ _ ?_ ?_); (focus (first | ((intro hx; cases hx); done) | ((intro j hj; cases hj); done) | (intro j hj; cases hj; (decide); done))); clear hΨ hΨ' Ψ) | (with_reducible first | refine evC_skip ?_ | refine evC_ret ?_ | refine evC_exit ?_) | ((with_reducible apply evL_unmet); rfl; rfl; rfl; (try simp only [go_sem, ha, hb0, z3, ka, kb, ks, n1, go_sem])) | ((with_reducible apply evL_grd); rfl; rfl; rfl; all_goals (intro hb; first | (exact absurd hb (by decide)) | ((try simp only [Bool.not_true, Bool.not_false] at hb); (first | ((with_reducible intro K hK); (first | ((apply opA_callB (ck); rfl; rfl; rfl; rfl; exact Try.func20); kernel_rfl; rfl; (simp only [go_sem, ha, hb0, z3, ka, kb, ks, n1]; rfl); (simp only [AV.inNL, AV.inN, inNL_map, Bool.and_true])) | skip); simp only [go_sem, ha, hb0, z3, ka, kb, ks, n1, go_sem]; ((repeat (refine And.intro (by first | assumption | omega | rfl) ?_)); (with_reducible refine hK _ ?_); clear hK K)) | ((fail_if_success (with_reducible intro _)); simp only [go_sem, ha, hb0, z3, ka, kb, ks, n1, go_sem]))))) | ((with_reducible apply evC_cond); rfl; rfl; all_goals (intro hc; first | (exact absurd hc (by decide)) | (try simp only at hc))))))
    all_goals (refine ⟨by simp, ⟨_, ?_, AV.le_refl _⟩, leH_get (by simp [leH, hget])⟩; simp only [Try.results7, resL, ldA, oneOf, go_sem])
  have h1 : e1 = 0 := Classical.not_not.1 h1'
  by_cases h2' : ¬ e2 = 0
  · rw [decide_eq_true h1, Bool.not_true] at n1
    rw [decide_eq_false h2', Bool.not_false] at n2
    rcases hq with rfl | ⟨rfl, rfl⟩ | ⟨rfl, rfl, rfl⟩
    all_goals (refine fn_of Try.func7 rfl (by rfl) ?_; simp only [Try.ntmps7, List.length_cons, List.length_nil, Nat.reduceAdd, Nat.reduceSub, List.replicate, List.cons_append, List.nil_append])
    all_goals (repeat (any_goals (first | ((with_reducible refine evL_call ?_ ?_ ?_); rfl; rfl; intro K hK; (first | ((first | (apply opA_callB (wk); rfl; rfl; rfl; rfl; exact Try.func9) | (apply opA_callB (ov); rfl; rfl; rfl; rfl; exact Try.func19) | (apply opA_callB (ck); rfl; rfl; rfl; rfl; exact Try.func20)); kernel_rfl; rfl; (simp only [go_sem, ha, hb0, z3, ka, kb, ks, n1, n2]; rfl); (simp only [AV.inNL, AV.inN, inNL_map, Bool.and_true])) | ((apply opA_callB (d1); rfl; rfl; rfl; rfl; exact Try.func26); kernel_rfl; rfl; (simp only [go_sem, ha, hb0, z3, ka, kb, ks, n1, n2]; rfl); (simp only [AV.inNL, AV.inN, inNL_map, Bool.and_true])) | ((apply opA_callB (d2); rfl; rfl; rfl; rfl; exact Try.func26); kernel_rfl; rfl; (simp only [go_sem, ha, hb0, z3, ka, kb, ks, n1, n2]; rfl); (simp only [AV.inNL, AV.inN, inNL_map, Bool.and_true]))); (simp only [go_sem, ha, hb0, z3, ka, kb, ks, n1, n2, go_sem]; (with_reducible refine hK _ ?_); clear hK K)) | ((with_reducible refine evL_one ?_ ?_); rfl; intro K hK; simp only [go_sem, ha, hb0, z3, ka, kb, ks, n1, n2, go_sem]; ((repeat (refine And.intro (by first | assumption | omega | rfl) ?_)); (with_reducible refine hK _ ?_); clear hK K)) | ((with_reducible refine evL_nil ?_); (with_reducible refine hR _ ?_); clear hR R) | ((with_reducible first | refine evC_seq ?_ | refine evC_block ?_); intro Ψ hΨ hΨ') | ((with_reducible refine evC_region ?_); intro R hR) | ((with_reducible refine hΨ _ ?_); clear hΨ hΨ' Ψ) | ((with_reducible refine hΨ' _ _ ?_ ?_); (focus (first | ((intro hx; cases hx); done) | ((intro j hj; cases hj); done) | (intro j hj; cases hj; (decide); done))); clear hΨ hΨ' Ψ) | (with_reducible first | refine evC_skip ?_ | refine evC_ret ?_ | refine evC_exit ?_) | ((with_reducible apply evL_unmet); rfl; rfl; rfl; (try simp only [go_sem, ha, hb0, z3, ka, kb, ks, n1, n2, go_sem])) | ((with_reducible apply evL_grd); rfl; rfl; rfl; all_goals (intro hb; first | (exact absurd hb (by decide)) | ((try simp only [Bool.not_true, Bool.not_false] at hb); (first | ((with_reducible intro K hK); (first | ((apply opA_callB (ck); rfl; rfl; rfl; rfl; exact Try.func20); kernel_rfl; rfl; (simp only [go_sem, ha, hb0, z3, ka, kb, ks, n1, n2]; rfl); (simp only [AV.inNL, AV.inN, inNL_map, Bool.and_true])) | skip); simp only [go_sem, ha, hb0, z3, ka, kb, ks, n1, n2, go_sem]; ((repeat (refine And.intro (by first | assumption | omega | rfl) ?_)); (with_reducible refine hK _ ?_); clear hK K)) | ((fail_if_success (with_reducible intro _)); simp only [go_sem, ha, hb0, z3, ka, kb, ks, n1, n2, go_sem]))))) | ((with_reducible apply evC_cond); rfl; rfl; all_goals (intro hc; first | (exact absurd hc (by decide)) | (try simp only at hc))))))
    all_goals (refine ⟨by simp, ⟨_, ?_, AV.le_refl _⟩, leH_get (by simp [leH, hget])⟩; simp only [Try.results7, resL, ldA, oneOf, go_sem])
  have h2 : e2 = 0 := Classical.not_not.1 h2'
  rw [decide_eq_true h1, Bool.not_true] at n1
  rw [decide_eq_true h2, Bool.not_true] at n2
  obtain ⟨m1, v1, o1⟩ := F1 h1
  obtain ⟨m2, v2, o2⟩ := F2 h2
  rw [← m1] at v1 o1
  rw [← m2] at v2 o2
  have F3 := doX_ok v1 o1 ob
  have F4 := doX_ok v2 o2 oa
  have d3 := does_fn m o1 v1.few b ob
  have d4 := does_fn n o2 v2.few a oa
  rw [m1] at F3
  rw [m2] at F4
  rw [← m1] at F3
  rw [← m2] at F4
  have e5 : apX m b = apX n a := by rw [m1, m2]; exact hc0
  clear m1 m2 hc0 F1 F2
  generalize doX m b = r3 at F3 d3
  generalize doX n a = r4 at F4 d4
  obtain ⟨y, c3, e3⟩ := r3
  obtain ⟨z, c4, e4⟩ := r4
  dsimp only at F3 F4 d3 d4
  have n3 := bne0 e3
  have n4 := bne0 e4
  by_cases h3' : ¬ e3 = 0
  · rw [decide_eq_false h3', Bool.not_false] at n3
    rcases hq with rfl | ⟨rfl, rfl⟩ | ⟨rfl, rfl, rfl⟩
    all_goals (refine fn_of Try.func7 rfl (by rfl) ?_; simp only [Try.ntmps7, List.length_cons, List.length_nil, Nat.reduceAdd, Nat.reduceSub, List.replicate, List.cons_append, List.nil_append])
    all_goals (repeat (any_goals (first | ((with_reducible refine evL_call ?_ ?_ ?_); rfl; rfl; intro K hK; (first | ((first | (apply opA_callB (wk); rfl; rfl; rfl; rfl; exact Try.func9) | (apply opA_callB (ov); rfl; rfl; rfl; rfl; exact Try.func19) | (apply opA_callB (ck); rfl; rfl; rfl; rfl; exact Try.func20)); kernel_rfl; rfl; (simp only [go_sem, ha, hb0, z3, ka, kb, ks, n1, n2, n3]; rfl); (simp only [AV.inNL, AV.inN, inNL_map, Bool.and_true])) | ((apply opA_callB (d1); rfl; rfl; rfl; rfl; exact Try.func26); kernel_rfl; rfl; (simp only [go_sem, ha, hb0, z3, ka, kb, ks, n1, n2, n3]; rfl); (simp only [AV.inNL, AV.inN, inNL_map, Bool.and_true])) | ((apply opA_callB (d2); rfl; rfl; rfl; rfl; exact Try.func26); kernel_rfl; rfl; (simp only [go_sem, ha, hb0, z3, ka, kb, ks, n1, n2, n3]; rfl); (simp only [AV.inNL, AV.inN, inNL_map, Bool.and_true])) | ((apply opA_callB (d3); rfl; rfl; rfl; rfl; exact Try.func26); kernel_rfl; rfl; (simp only [go_sem, ha, hb0, z3, ka, kb, ks, n1, n2, n3]; rfl); (simp only [AV.inNL, AV.inN, inNL_map, Bool.and_true])) | ((apply opA_callB (d4); rfl; rfl; rfl; rfl; exact Try.func26); kernel_rfl; rfl; (simp only [go_sem, ha, hb0, z3, ka, kb, ks, n1, n2, n3]; rfl); (simp only [AV.inNL, AV.inN, inNL_map, Bool.and_true]))); (simp only [go_sem, ha, hb0, z3, ka, kb, ks, n1, n2, n3, go_sem]; (with_reducible refine hK _ ?_); clear hK K)) | ((with_reducible refine evL_one ?_ ?_); rfl; intro K hK; simp only [go_sem, ha, hb0, z3, ka, kb, ks, n1, n2, n3, go_sem]; ((repeat (refine And.intro (by first | assumption | omega | rfl) ?_)); (with_reducible refine hK _ ?_); clear hK K)) | ((with_reducible refine evL_nil ?_); (with_reducible refine hR _ ?_); clear hR R) | ((with_reducible first | refine evC_seq ?_ | refine evC_block ?_); intro Ψ hΨ hΨ') | ((with_reducible refine evC_region ?_); intro R hR) | ((with_reducible refine hΨ _ ?_); clear hΨ hΨ' Ψ) | ((with_reducible refine hΨ' _ _ ?_ ?_); (focus (first | ((intro hx; cases hx); done) | ((intro j hj; cases hj); done) | (intro j hj; cases hj; (decide); done))); clear hΨ hΨ' Ψ) | (with_reducible first | refine evC_skip ?_ | refine evC_ret ?_ | refine evC_exit ?_) | ((with_reducible apply evL_unmet); rfl; rfl; rfl; (try simp only [go_sem, ha, hb0, z3, ka, kb, ks, n1, n2, n3, go_sem])) | ((with_reducible apply evL_grd); rfl; rfl; rfl; all_goals (intro hb; first | (exact absurd hb (by decide)) | ((try simp only [Bool.not_true, Bool.not_false] at hb); (first | ((with_reducible intro K hK); (first | ((apply opA_callB (ck); rfl; rfl; rfl; rfl; exact Try.func20); kernel_rfl; rfl; (simp only [go_sem, ha, hb0, z3, ka, kb, ks, n1, n2, n3]; rfl); (simp only [AV.inNL, AV.inN, inNL_map, Bool.and_true])) | skip); simp only [go_sem, ha, hb0, z3, ka, kb, ks, n1, n2, n3, go_sem]; ((repeat (refine And.intro (by first | assumption | omega | rfl) ?_)); (with_reducible refine hK _ ?_); clear hK K)) | ((fail_if_success (with_reducible intro _)); simp only [go_sem, ha, hb0, z3, ka, kb, ks, n1, n2, n3, go_sem]))))) | ((with_reducible apply evC_cond); rfl; rfl; all_goals (intro hc; first | (exact absurd hc (by decide)) | (try simp only at hc))))))
    all_goals (refine ⟨by simp, ⟨_, ?_, AV.le_refl _⟩, leH_get (by simp [leH, hget])⟩; simp only [Try.results7, resL, ldA, oneOf, go_sem])
  have h3 : e3 = 0 := Classical.not_not.1 h3'
  rw [decide_eq_true h3, Bool.not_true] at n3
  by_cases h4' : ¬ e4 = 0
  · rw [decide_eq_false h4', Bool.not_false] at n4
    rcases hq with rfl | ⟨rfl, rfl⟩ | ⟨rfl, rfl, rfl⟩
    all_goals (refine fn_of Try.func7 rfl (by rfl) ?_; simp only [Try.ntmps7, List.length_cons, List.length_nil, Nat.reduceAdd, Nat.reduceSub, List.replicate, List.cons_append, List.nil_append])
    all_goals (repeat (any_goals (first | ((with_reducible refine evL_call ?_ ?_ ?_); rfl; rfl; intro K hK; (first | ((first | (apply opA_callB (wk); rfl; rfl; rfl; rfl; exact Try.func9) | (apply opA_callB (ov); rfl; rfl; rfl; rfl; exact Try.func19) | (apply opA_callB (ck); rfl; rfl; rfl; rfl; exact Try.func20)); kernel_rfl; rfl; (simp only [go_sem, ha, hb0, z3, ka, kb, ks, n1, n2, n3, n4]; rfl); (simp only [AV.inNL, AV.inN, inNL_map, Bool.and_true])) | ((apply opA_callB (d1); rfl; rfl; rfl; rfl; exact Try.func26); kernel_rfl; rfl; (simp only [go_sem, ha, hb0, z3, ka, kb, ks, n1, n2, n3, n4]; rfl); (simp only [AV.inNL, AV.inN, inNL_map, Bool.and_true])) | ((apply opA_callB (d2); rfl; rfl; rfl; rfl; exact Try.func26); kernel_rfl; rfl; (simp only [go_sem, ha, hb0, z3, ka, kb, ks, n1, n2, n3, n4]; rfl); (simp only [AV.inNL, AV.inN, inNL_map, Bool.and_true])) | ((apply opA_callB (d3); rfl; rfl; rfl; rfl; exact Try.func26); kernel_rfl; rfl; (simp only [go_sem, ha, hb0, z3, ka, kb, ks, n1, n2, n3, n4]; rfl); (simp only [AV.inNL, AV.inN, inNL_map, Bool.and_true])) | ((apply opA_callB (d4); rfl; rfl; rfl; rfl; exact Try.func26); kernel_rfl; rfl; (simp only [go_sem, ha, hb0, z3, ka, kb, ks, n1, n2, n3, n4]; rfl); (simp only [AV.inNL, AV.inN, inNL_map, Bool.and_true]))); (simp only [go_sem, ha, hb0, z3, ka, kb, ks, n1, n2, n3, n4, go_sem]; (with_reducible refine hK _ ?_); clear hK K)) | ((with_reducible refine evL_one ?_ ?_); rfl; intro K hK; simp only [go_sem, ha, hb0, z3, ka, kb, ks, n1, n2, n3, n4, go_sem]; ((repeat (refine And.intro (by first | assumption | omega | rfl) ?_)); (with_reducible refine hK _ ?_); clear hK K)) | ((with_reducible refine evL_nil ?_); (with_reducible refine hR _ ?_); clear hR R) | ((with_reducible first | refine evC_seq ?_ | refine evC_block ?_); intro Ψ hΨ hΨ') | ((with_reducible refine evC_region ?_); intro R hR) | ((with_reducible refine hΨ _ ?_); clear hΨ hΨ' Ψ) | ((with_reducible refine hΨ' _ _ ?_ ?_); (focus (first | ((intro hx; cases hx); done) | ((intro j hj; cases hj); done) | (intro j hj; cases hj; (decide); done))); clear hΨ hΨ' Ψ) | (with_reducible first | refine evC_skip ?_ | refine evC_ret ?_ | refine evC_exit ?_) | ((with_reducible apply evL_unmet); rfl; rfl; rfl; (try simp only [go_sem, ha, hb0, z3, ka, kb, ks, n1, n2, n3, n4, go_sem])) | ((with_reducible apply evL_grd); rfl; rfl; rfl; all_goals (intro hb; first | (exact absurd hb (by decide)) | ((try simp only [Bool.not_true, Bool.not_false] at hb); (first | ((with_reducible intro K hK); (first | ((apply opA_callB (ck); rfl; rfl; rfl; rfl; exact Try.func20); kernel_rfl; rfl; (simp only [go_sem, ha, hb0, z3, ka, kb, ks, n1, n2, n3, n4]; rfl); (simp only [AV.inNL, AV.inN, inNL_map, Bool.and_true])) | skip); simp only [go_sem, ha, hb0, z3, ka, kb, ks, n1, n2, n3, n4, go_sem]; ((repeat (refine And.intro (by first | assumption | omega | rfl) ?_)); (with_reducible refine hK _ ?_); clear hK K)) | ((fail_if_success (with_reducible intro _)); simp only [go_sem, ha, hb0, z3, ka, kb, ks, n1, n2, n3, n4, go_sem]))))) | ((with_reducible apply evC_cond); rfl; rfl; all_goals (intro hc; first | (exact absurd hc (by decide)) | (try simp only at hc))))))
    all_goals (refine ⟨by simp, ⟨_, ?_, AV.le_refl _⟩, leH_get (by simp [leH, hget])⟩; simp only [Try.results7, resL, ldA, oneOf, go_sem])
  have h4 : e4 = 0 := Classical.not_not.1 h4'
  rw [decide_eq_true h4, Bool.not_true] at n4
  obtain ⟨m3, v3, o3⟩ := F3 h3
  obtain ⟨m4, v4, o4⟩ := F4 h4
  rw [← m3] at v3 o3
  rw [← m4] at v4 o4
  have sm := sameX_fn y z o3 v3.few o4 v4.few
  rw [decide_eq_true (show y = z by rw [m3, m4, e5])] at sm
  clear m3 m4 e5 F3 F4
  rcases hq with rfl | ⟨rfl, rfl⟩ | ⟨rfl, rfl, rfl⟩
  all_goals (refine fn_of Try.func7 rfl (by rfl) ?_; simp only [Try.ntmps7, List.length_cons, List.length_nil, Nat.reduceAdd, Nat.reduceSub, List.replicate, List.cons_append, List.nil_append])
  all_goals (repeat (any_goals (first | ((with_reducible refine evL_call ?_ ?_ ?_); rfl; rfl; intro K hK; (first | ((first | (apply opA_callB (wk); rfl; rfl; rfl; rfl; exact Try.func9) | (apply opA_callB (ov); rfl; rfl; rfl; rfl; exact Try.func19) | (apply opA_callB (ck); rfl; rfl; rfl; rfl; exact Try.func20) | (apply opA_callB (sm); rfl; rfl; rfl; rfl; exact Try.func18)); kernel_rfl; rfl; (simp only [go_sem, ha, hb0, z3, ka, kb, ks, n1, n2, n3, n4]; rfl); (simp only [AV.inNL, AV.inN, inNL_map, Bool.and_true])) | ((apply opA_callB (d1); rfl; rfl; rfl; rfl; exact Try.func26); kernel_rfl; rfl; (simp only [go_sem, ha, hb0, z3, ka, kb, ks, n1, n2, n3, n4]; rfl); (simp only [AV.inNL, AV.inN, inNL_map, Bool.and_true])) | ((apply opA_callB (d2); rfl; rfl; rfl; rfl; exact Try.func26); kernel_rfl; rfl; (simp only [go_sem, ha, hb0, z3, ka, kb, ks, n1, n2, n3, n4]; rfl); (simp only [AV.inNL, AV.inN, inNL_map, Bool.and_true])) | ((apply opA_callB (d3); rfl; rfl; rfl; rfl; exact Try.func26); kernel_rfl; rfl; (simp only [go_sem, ha, hb0, z3, ka, kb, ks, n1, n2, n3, n4]; rfl); (simp only [AV.inNL, AV.inN, inNL_map, Bool.and_true])) | ((apply opA_callB (d4); rfl; rfl; rfl; rfl; exact Try.func26); kernel_rfl; rfl; (simp only [go_sem, ha, hb0, z3, ka, kb, ks, n1, n2, n3, n4]; rfl); (simp only [AV.inNL, AV.inN, inNL_map, Bool.and_true]))); (simp only [go_sem, ha, hb0, z3, ka, kb, ks, n1, n2, n3, n4, go_sem]; (with_reducible refine hK _ ?_); clear hK K)) | ((with_reducible refine evL_one ?_ ?_); rfl; intro K hK; simp only [go_sem, ha, hb0, z3, ka, kb, ks, n1, n2, n3, n4, go_sem]; ((repeat (refine And.intro (by first | assumption | omega | rfl) ?_)); (with_reducible refine hK _ ?_); clear hK K)) | ((with_reducible refine evL_nil ?_); (with_reducible refine hR _ ?_); clear hR R) | ((with_reducible first | refine evC_seq ?_ | refine evC_block ?_); intro Ψ hΨ hΨ') | ((with_reducible refine evC_region ?_); intro R hR) | ((with_reducible refine hΨ _ ?_); clear hΨ hΨ' Ψ) | ((with_reducible refine hΨ' _ _ ?_ ?_); (focus (first | ((intro hx; cases hx); done) | ((intro j hj; cases hj); done) | (intro j hj; cases hj; (decide); done))); clear hΨ hΨ' Ψ) | (with_reducible first | refine evC_skip ?_ | refine evC_ret ?_ | refine evC_exit ?_) | ((with_reducible apply evL_unmet); rfl; rfl; rfl; (try simp only [go_sem, ha, hb0, z3, ka, kb, ks, n1, n2, n3, n4, go_sem])) | ((with_reducible apply evL_grd); rfl; rfl; rfl; all_goals (intro hb; first | (exact absurd hb (by decide)) | ((try simp only [Bool.not_true, Bool.not_false] at hb); (first | ((with_reducible intro K hK); (first | ((apply opA_callB (ck); rfl; rfl; rfl; rfl; exact Try.func20); kernel_rfl; rfl; (simp only [go_sem, ha, hb0, z3, ka, kb, ks, n1, n2, n3, n4]; rfl); (simp only [AV.inNL, AV.inN, inNL_map, Bool.and_true])) | skip); simp only [go_sem, ha, hb0, z3, ka, kb, ks, n1, n2, n3, n4, go_sem]; ((repeat (refine And.intro (by first | assumption | omega | rfl) ?_)); (with_reducible refine hK _ ?_); clear hK K)) | ((fail_if_success (with_reducible intro _)); simp only [go_sem, ha, hb0, z3, ka, kb, ks, n1, n2, n3, n4, go_sem]))))) | ((with_reducible apply evC_cond); rfl; rfl; all_goals (intro hc; first | (exact absurd hc (by decide)) | (try simp only at hc))))))
  all_goals (refine ⟨by simp, ⟨_, ?_, AV.le_refl _⟩, leH_get (by simp [leH, hget])⟩; simp only [Try.results7, resL, ldA, oneOf, go_sem])
end Go.Proofs.Ytmlalhmljmajbaa
