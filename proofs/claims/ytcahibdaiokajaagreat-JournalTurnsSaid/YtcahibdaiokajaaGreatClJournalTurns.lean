/-
  Proved: the law JournalTurns answers true for every journal, world and access, and its arguments read behind the call as before. Conditions: none.
-/
import Derived.Test.YtcahibdaiokajaaGreatIv
import Derived.Test.YtcahibdaiokajaaGreatJa
set_option linter.unusedSimpArgs false
set_option linter.unusedVariables false
namespace Go.Proofs.YtcahibdaiokajaaGreat
open Go.RowKit
open Nat (reduceBEq)
set_option maxRecDepth 20000
set_option maxHeartbeats 4000000
theorem putJ_ok {j : Jn} {p : Pt} (h : okJ j = true) (hp : okPt p = true) : putJ j p = (⟨p, j.m⟩, 0) := by unfold putJ; rw [if_pos h, if_pos hp]
theorem putJ_no {j : Jn} {p : Pt} (h : okJ j = true) (hp : okPt p = false) : putJ j p = (nilJ, 200) := by unfold putJ; rw [if_pos h, hp]; rfl
theorem putJ_bad {j : Jn} {p : Pt} (h : okJ j = false) : putJ j p = (nilJ, 200) := by unfold putJ; rw [h]; rfl
theorem okJ_put {j : Jn} {p : Pt} (h : okJ j = true) (hp : okPt p = true) : okJ ⟨p, j.m⟩ = true := by
  unfold okJ at h ⊢
  simp only [Bool.and_eq_true] at h ⊢
  exact ⟨h.1, hp, h.2.2⟩
theorem okJ_p {j : Jn} (h : okJ j = true) : okPt j.p = true := by
  unfold okJ at h
  simp only [Bool.and_eq_true] at h
  exact h.2.1
theorem turns_walk (j : Jn) (w : Wl) (x : ax.Xs) (J : Jn) (v : Wl) (y : ax.Xs) (hJ : J.ok) (hv : v.ok) (hy : y.ok) (fy : y.few)
    (c1 : Fn Tryz.prog 6 [jnA j] [] (jnA J) []) (c2 : Fn Tryz.prog 7 [wlA w] [] (wlA v) []) (c3 : Fn Tryz.prog 8 [xxA x] [] (xxA y) []) :
    Fn Tryz.prog 3 [jnA j, wlA w, xxA x] [] (vb true) [] := by
  have wk := wakesJ_fn
  have la := lay_fn J hJ v hv
  have ck := checkJ_fn J hJ
  have cw := checkW_fn v hv
  have n0 : ((nilJ.m.length : Int) == 0) = true := rfl
  have n8 : nilJ.m.length < 9223372036854775808 := by decide
  have m8 : J.m.length < 9223372036854775808 := by have := hJ.m.1; omega
  by_cases hc : okJ J = true
  case neg =>
    have hc2 : okJ J = false := by simpa using hc
    rw [putJ_bad hc2] at la
    rw [hc2] at ck
    simp only [Bool.false_eq_true, if_false] at ck
    generalize nilJ = N at *
    (refine fn_of Tryz.func3 rfl (by rfl) ?_; simp only [Tryz.ntmps3, List.length_cons, List.length_nil, Nat.reduceAdd, Nat.reduceSub, List.replicate, List.cons_append, List.nil_append])
    (repeat (any_goals (first | ((with_reducible refine evL_call ?_ ?_ ?_); rfl; rfl; intro K hK; ((first | (apply opA_callB (wk); rfl; rfl; rfl; rfl; exact Tryz.func5) | (apply opA_callB (la); rfl; rfl; rfl; rfl; exact Tryz.func9)); kernel_rfl; rfl; (simp (disch := omega) only [go_sem, n0]; rfl); (first | rfl | simp [AV.inNL, AV.inN])); (simp (disch := omega) only [go_sem, n0]; refine hK _ ?_; clear hK K)) | ((with_reducible refine evL_one ?_ ?_); rfl; intro K hK; simp (disch := omega) only [go_sem, n0]; ((repeat (refine ndI (by first | assumption | omega | rfl) ?_)); refine hK _ ?_; clear hK K)) | (with_reducible first | (refine evL_nil ?_; refine hR _ ?_; clear hR R) | ((first | refine evC_seq ?_ | refine evC_block ?_); intro Ψ hΨ hΨ') | (refine evC_region ?_; intro R hR) | (refine hΨ _ ?_; clear hΨ hΨ' Ψ) | refine evC_skip ?_ | refine evC_ret ?_ | refine evC_exit ?_) | ((with_reducible refine hΨ' _ _ ?_ ?_); (focus (simp; done)); clear hΨ hΨ' Ψ) | ((with_reducible apply evL_unmet); rfl; rfl; rfl; (try simp (disch := omega) only [go_sem, n0])) | ((with_reducible apply evL_grd); rfl; rfl; rfl; all_goals (intro hb; first | (cases hb; done) | ((try simp only [Bool.not_true, Bool.not_false] at hb); (first | ((with_reducible intro K hK); (first | ((apply opA_callB (ck); rfl; rfl; rfl; rfl; exact Tryz.func10); kernel_rfl; rfl; (simp (disch := omega) only [go_sem, n0]; rfl); (first | rfl | simp [AV.inNL, AV.inN])) | skip); simp (disch := omega) only [go_sem, n0]; ((repeat (refine ndI (by first | assumption | omega | rfl) ?_)); refine hK _ ?_; clear hK K)) | ((fail_if_success (with_reducible intro _)); simp (disch := omega) only [go_sem, n0]))))) | ((with_reducible apply evC_cond); rfl; rfl; all_goals (intro hc; first | (cases hc; done) | (try simp only at hc))) | ((with_reducible refine evD_nil ?_ ?_); kernel_rfl; (with_reducible refine hR _ ?_); clear hR R) | ((first | ((with_reducible apply evD_fcall); rfl; rfl; ((first | (apply opF_callB (c1); rfl; rfl; rfl; rfl; exact Tryz.func6) | (apply opF_callB (c2); rfl; rfl; rfl; rfl; exact Tryz.func7) | (apply opF_callB (c3); rfl; rfl; rfl; rfl; exact Tryz.func8)); kernel_rfl; rfl; (simp (disch := omega) only [go_sem, n0]; rfl); (first | rfl | simp [AV.inNL, AV.inN]))) | ((with_reducible apply evD_any); rfl; rfl; (simp (disch := omega) only [rdE, rdOf, go_sem, n0]; rfl); (intro τ hA hQ hN; ((try simp only [agree, Op.operands, Call.operands, go_sem, n0, go_sem, List.mem_cons, List.not_mem_nil, forall_eq_or_imp, forall_eq, List.append_toArray, Option.toArray] at hA); (try simp only [go_sem, n0, List.mem_cons, List.not_mem_nil, forall_eq_or_imp, forall_eq] at hQ hN); (first | (revert hA; intro hA) | have hA := trivial); (first | (revert hQ; intro hQ) | have hQ := trivial); (first | (revert hN; intro hN) | have hN := trivial); simp (disch := omega) only [go_sem, n0, go_sem, hA, hQ, hN]; (repeat (refine ndI (by first | assumption | omega | rfl) ?_)); (first | apply eff_rd | apply eff_st | apply eff_nw))))); (simp (disch := omega) only [St.eff, setO, hputs, go_sem, n0])) | ((with_reducible refine evC_draw ?_ ?_ ?_ ?_); kernel_rfl; kernel_rfl; (first | kernel_rfl | simp [newNames, isNew, St.free, freeH, AV.refsL, AV.refs]); intro R hR))))
    all_goals (refine ⟨by simp, ⟨_, ?_, AV.le_refl _⟩, leH_get (by simp [leH, hget])⟩; simp only [Tryz.results3, resL, ldA, oneOf, go_sem])
  rw [if_pos hc] at ck
  have hp := okJ_p hc
  have hp2 := hp
  unfold okPt at hp2
  rw [Bool.and_eq_true] at hp2
  by_cases hq : okPt ⟨v, J.p.x⟩ = true
  case neg =>
    have hq2 : okPt ⟨v, J.p.x⟩ = false := by simpa using hq
    have hr : rightW v = false := by
      unfold okPt at hq2
      rw [hp2.2, Bool.and_true] at hq2
      exact hq2
    rw [putJ_no hc hq2] at la
    rw [hr] at cw
    simp only [Bool.false_eq_true, if_false] at cw
    generalize nilJ = N at *
    (refine fn_of Tryz.func3 rfl (by rfl) ?_; simp only [Tryz.ntmps3, List.length_cons, List.length_nil, Nat.reduceAdd, Nat.reduceSub, List.replicate, List.cons_append, List.nil_append])
    (repeat (any_goals (first | ((with_reducible refine evL_call ?_ ?_ ?_); rfl; rfl; intro K hK; ((first | (apply opA_callB (wk); rfl; rfl; rfl; rfl; exact Tryz.func5) | (apply opA_callB (la); rfl; rfl; rfl; rfl; exact Tryz.func9)); kernel_rfl; rfl; (simp (disch := omega) only [go_sem, n0]; rfl); (first | rfl | simp [AV.inNL, AV.inN])); (simp (disch := omega) only [go_sem, n0]; refine hK _ ?_; clear hK K)) | ((with_reducible refine evL_one ?_ ?_); rfl; intro K hK; simp (disch := omega) only [go_sem, n0]; ((repeat (refine ndI (by first | assumption | omega | rfl) ?_)); refine hK _ ?_; clear hK K)) | (with_reducible first | (refine evL_nil ?_; refine hR _ ?_; clear hR R) | ((first | refine evC_seq ?_ | refine evC_block ?_); intro Ψ hΨ hΨ') | (refine evC_region ?_; intro R hR) | (refine hΨ _ ?_; clear hΨ hΨ' Ψ) | refine evC_skip ?_ | refine evC_ret ?_ | refine evC_exit ?_) | ((with_reducible refine hΨ' _ _ ?_ ?_); (focus (simp; done)); clear hΨ hΨ' Ψ) | ((with_reducible apply evL_unmet); rfl; rfl; rfl; (try simp (disch := omega) only [go_sem, n0])) | ((with_reducible apply evL_grd); rfl; rfl; rfl; all_goals (intro hb; first | (cases hb; done) | ((try simp only [Bool.not_true, Bool.not_false] at hb); (first | ((with_reducible intro K hK); (first | ((first | (apply opA_callB (ck); rfl; rfl; rfl; rfl; exact Tryz.func10) | (apply opA_callB (cw); rfl; rfl; rfl; rfl; exact Tryz.func11)); kernel_rfl; rfl; (simp (disch := omega) only [go_sem, n0]; rfl); (first | rfl | simp [AV.inNL, AV.inN])) | skip); simp (disch := omega) only [go_sem, n0]; ((repeat (refine ndI (by first | assumption | omega | rfl) ?_)); refine hK _ ?_; clear hK K)) | ((fail_if_success (with_reducible intro _)); simp (disch := omega) only [go_sem, n0]))))) | ((with_reducible apply evC_cond); rfl; rfl; all_goals (intro hc; first | (cases hc; done) | (try simp only at hc))) | ((with_reducible refine evD_nil ?_ ?_); kernel_rfl; (with_reducible refine hR _ ?_); clear hR R) | ((first | ((with_reducible apply evD_fcall); rfl; rfl; ((first | (apply opF_callB (c1); rfl; rfl; rfl; rfl; exact Tryz.func6) | (apply opF_callB (c2); rfl; rfl; rfl; rfl; exact Tryz.func7) | (apply opF_callB (c3); rfl; rfl; rfl; rfl; exact Tryz.func8)); kernel_rfl; rfl; (simp (disch := omega) only [go_sem, n0]; rfl); (first | rfl | simp [AV.inNL, AV.inN]))) | ((with_reducible apply evD_any); rfl; rfl; (simp (disch := omega) only [rdE, rdOf, go_sem, n0]; rfl); (intro τ hA hQ hN; ((try simp only [agree, Op.operands, Call.operands, go_sem, n0, go_sem, List.mem_cons, List.not_mem_nil, forall_eq_or_imp, forall_eq, List.append_toArray, Option.toArray] at hA); (try simp only [go_sem, n0, List.mem_cons, List.not_mem_nil, forall_eq_or_imp, forall_eq] at hQ hN); (first | (revert hA; intro hA) | have hA := trivial); (first | (revert hQ; intro hQ) | have hQ := trivial); (first | (revert hN; intro hN) | have hN := trivial); simp (disch := omega) only [go_sem, n0, go_sem, hA, hQ, hN]; (repeat (refine ndI (by first | assumption | omega | rfl) ?_)); (first | apply eff_rd | apply eff_st | apply eff_nw))))); (simp (disch := omega) only [St.eff, setO, hputs, go_sem, n0])) | ((with_reducible refine evC_draw ?_ ?_ ?_ ?_); kernel_rfl; kernel_rfl; (first | kernel_rfl | simp [newNames, isNew, St.free, freeH, AV.refsL, AV.refs]); intro R hR))))
    all_goals (refine ⟨by simp, ⟨_, ?_, AV.le_refl _⟩, leH_get (by simp [leH, hget])⟩; simp only [Tryz.results3, resL, ldA, oneOf, go_sem])
  rw [putJ_ok hc hq] at la
  have hr : rightW v = true := by
    have := hq
    unfold okPt at this
    rw [Bool.and_eq_true] at this
    exact this.1
  obtain ⟨⟨jw, jx⟩, jm⟩ := J
  dsimp only at *
  have okA : okJ ⟨⟨v, jx⟩, jm⟩ = true := okJ_put (j := ⟨⟨jw, jx⟩, jm⟩) hc hq
  have hA : (⟨⟨v, jx⟩, jm⟩ : Jn).ok := ⟨⟨hv, hJ.p.x, hJ.p.f⟩, hJ.m⟩
  have z1 := lay_fn ⟨⟨v, jx⟩, jm⟩ hA jw hJ.p.w
  rw [putJ_ok okA hp] at z1
  have s1 := sameJ_fn ⟨⟨jw, jx⟩, jm⟩ ⟨⟨jw, jx⟩, jm⟩ hJ hJ
  have s2 := samew_fn v v hv hv
  have s4 := samew_fn jw jw hJ.p.w hJ.p.w
  rw [decide_eq_true rfl] at s1 s2 s4
  have t1 := touch_fn ⟨⟨v, jx⟩, jm⟩ hA y hy fy
  have t2 := touch_fn ⟨⟨jw, jx⟩, jm⟩ hJ y hy fy
  have eL := beq_self_eq_true (jm.length : Int)
  by_cases hx : ax.okXs y = true
  case neg =>
    have hx2 : ax.okXs y = false := by simpa using hx
    have q1 : okPt ⟨v, y⟩ = false := by unfold okPt; rw [hx2, Bool.and_false]
    have q2 : okPt ⟨jw, y⟩ = false := by unfold okPt; rw [hx2, Bool.and_false]
    rw [putJ_no okA q1] at t1
    rw [putJ_no hc q2] at t2
    generalize nilJ = N at *
    (refine fn_of Tryz.func3 rfl (by rfl) ?_; simp only [Tryz.ntmps3, List.length_cons, List.length_nil, Nat.reduceAdd, Nat.reduceSub, List.replicate, List.cons_append, List.nil_append])
    (repeat (any_goals (first | ((with_reducible refine evL_call ?_ ?_ ?_); rfl; rfl; intro K hK; (first | ((apply opA_callB (wk); rfl; rfl; rfl; rfl; exact Tryz.func5); kernel_rfl; rfl; (simp (disch := omega) only [go_sem, eL]; rfl); (first | rfl | simp [AV.inNL, AV.inN])) | ((apply opA_callB (la); rfl; rfl; rfl; rfl; exact Tryz.func9); kernel_rfl; rfl; (simp (disch := omega) only [go_sem, eL]; rfl); (first | rfl | simp [AV.inNL, AV.inN])) | ((apply opA_callB (z1); rfl; rfl; rfl; rfl; exact Tryz.func9); kernel_rfl; rfl; (simp (disch := omega) only [go_sem, eL]; rfl); (first | rfl | simp [AV.inNL, AV.inN])) | ((apply opA_callB (t1); rfl; rfl; rfl; rfl; exact Tryz.func12); kernel_rfl; rfl; (simp (disch := omega) only [go_sem, eL]; rfl); (first | rfl | simp [AV.inNL, AV.inN])) | ((apply opA_callB (t2); rfl; rfl; rfl; rfl; exact Tryz.func12); kernel_rfl; rfl; (simp (disch := omega) only [go_sem, eL]; rfl); (first | rfl | simp [AV.inNL, AV.inN]))); (simp (disch := omega) only [go_sem, eL]; refine hK _ ?_; clear hK K)) | ((with_reducible refine evL_one ?_ ?_); rfl; intro K hK; simp (disch := omega) only [go_sem, eL]; ((repeat (refine ndI (by first | assumption | omega | rfl) ?_)); refine hK _ ?_; clear hK K)) | (with_reducible first | (refine evL_nil ?_; refine hR _ ?_; clear hR R) | ((first | refine evC_seq ?_ | refine evC_block ?_); intro Ψ hΨ hΨ') | (refine evC_region ?_; intro R hR) | (refine hΨ _ ?_; clear hΨ hΨ' Ψ) | refine evC_skip ?_ | refine evC_ret ?_ | refine evC_exit ?_) | ((with_reducible refine hΨ' _ _ ?_ ?_); (focus (simp; done)); clear hΨ hΨ' Ψ) | ((with_reducible apply evL_unmet); rfl; rfl; rfl; (try simp (disch := omega) only [go_sem, eL])) | ((with_reducible apply evL_grd); rfl; rfl; rfl; all_goals (intro hb; first | (cases hb; done) | ((try simp only [Bool.not_true, Bool.not_false] at hb); (first | ((with_reducible intro K hK); (first | ((first | (apply opA_callB (s1); rfl; rfl; rfl; rfl; exact Tryz.func13) | (apply opA_callB (s2); rfl; rfl; rfl; rfl; exact Tryz.func14)); kernel_rfl; rfl; (simp (disch := omega) only [go_sem, eL]; rfl); (first | rfl | simp [AV.inNL, AV.inN])) | skip); simp (disch := omega) only [go_sem, eL]; ((repeat (refine ndI (by first | assumption | omega | rfl) ?_)); refine hK _ ?_; clear hK K)) | ((fail_if_success (with_reducible intro _)); simp (disch := omega) only [go_sem, eL]))))) | ((with_reducible apply evC_cond); rfl; rfl; all_goals (intro hc; first | (cases hc; done) | (try simp only at hc))) | ((with_reducible refine evD_nil ?_ ?_); kernel_rfl; (with_reducible refine hR _ ?_); clear hR R) | ((first | ((with_reducible apply evD_fcall); rfl; rfl; ((first | (apply opF_callB (c1); rfl; rfl; rfl; rfl; exact Tryz.func6) | (apply opF_callB (c2); rfl; rfl; rfl; rfl; exact Tryz.func7) | (apply opF_callB (c3); rfl; rfl; rfl; rfl; exact Tryz.func8)); kernel_rfl; rfl; (simp (disch := omega) only [go_sem, eL]; rfl); (first | rfl | simp [AV.inNL, AV.inN]))) | ((with_reducible apply evD_any); rfl; rfl; (simp (disch := omega) only [rdE, rdOf, go_sem, eL]; rfl); (intro τ hA hQ hN; ((try simp only [agree, Op.operands, Call.operands, go_sem, eL, go_sem, List.mem_cons, List.not_mem_nil, forall_eq_or_imp, forall_eq, List.append_toArray, Option.toArray] at hA); (try simp only [go_sem, eL, List.mem_cons, List.not_mem_nil, forall_eq_or_imp, forall_eq] at hQ hN); (first | (revert hA; intro hA) | have hA := trivial); (first | (revert hQ; intro hQ) | have hQ := trivial); (first | (revert hN; intro hN) | have hN := trivial); simp (disch := omega) only [go_sem, eL, go_sem, hA, hQ, hN]; (repeat (refine ndI (by first | assumption | omega | rfl) ?_)); (first | apply eff_rd | apply eff_st | apply eff_nw))))); (simp (disch := omega) only [St.eff, setO, hputs, go_sem, eL])) | ((with_reducible refine evC_draw ?_ ?_ ?_ ?_); kernel_rfl; kernel_rfl; (first | kernel_rfl | simp [newNames, isNew, St.free, freeH, AV.refsL, AV.refs]); intro R hR))))
    all_goals (refine ⟨by simp, ⟨_, ?_, AV.le_refl _⟩, leH_get (by simp [leH, hget])⟩; simp only [Tryz.results3, resL, ldA, oneOf, go_sem])
  have q1 : okPt ⟨v, y⟩ = true := by unfold okPt; rw [hx, hr]; rfl
  have q2 : okPt ⟨jw, y⟩ = true := by unfold okPt; rw [hx, hp2.1]; rfl
  rw [putJ_ok okA q1] at t1
  rw [putJ_ok hc q2] at t2
  have hC : (⟨⟨jw, y⟩, jm⟩ : Jn).ok := ⟨⟨hJ.p.w, hy, fy⟩, hJ.m⟩
  have okC : okJ ⟨⟨jw, y⟩, jm⟩ = true := okJ_put (j := ⟨⟨jw, jx⟩, jm⟩) hc q2
  have d1 := lay_fn ⟨⟨jw, y⟩, jm⟩ hC v hv
  rw [putJ_ok okC q1] at d1
  have hB : (⟨⟨v, y⟩, jm⟩ : Jn).ok := ⟨⟨hv, hy, fy⟩, hJ.m⟩
  have s3 := sameJ_fn ⟨⟨v, y⟩, jm⟩ ⟨⟨v, y⟩, jm⟩ hB hB
  rw [decide_eq_true rfl] at s3
  (refine fn_of Tryz.func3 rfl (by rfl) ?_; simp only [Tryz.ntmps3, List.length_cons, List.length_nil, Nat.reduceAdd, Nat.reduceSub, List.replicate, List.cons_append, List.nil_append])
  (repeat (any_goals (first | ((with_reducible refine evL_call ?_ ?_ ?_); rfl; rfl; intro K hK; (first | ((apply opA_callB (wk); rfl; rfl; rfl; rfl; exact Tryz.func5); kernel_rfl; rfl; (simp (disch := omega) only [go_sem, eL]; rfl); (first | rfl | simp [AV.inNL, AV.inN])) | ((apply opA_callB (la); rfl; rfl; rfl; rfl; exact Tryz.func9); kernel_rfl; rfl; (simp (disch := omega) only [go_sem, eL]; rfl); (first | rfl | simp [AV.inNL, AV.inN])) | ((apply opA_callB (z1); rfl; rfl; rfl; rfl; exact Tryz.func9); kernel_rfl; rfl; (simp (disch := omega) only [go_sem, eL]; rfl); (first | rfl | simp [AV.inNL, AV.inN])) | ((apply opA_callB (d1); rfl; rfl; rfl; rfl; exact Tryz.func9); kernel_rfl; rfl; (simp (disch := omega) only [go_sem, eL]; rfl); (first | rfl | simp [AV.inNL, AV.inN])) | ((apply opA_callB (t1); rfl; rfl; rfl; rfl; exact Tryz.func12); kernel_rfl; rfl; (simp (disch := omega) only [go_sem, eL]; rfl); (first | rfl | simp [AV.inNL, AV.inN])) | ((apply opA_callB (t2); rfl; rfl; rfl; rfl; exact Tryz.func12); kernel_rfl; rfl; (simp (disch := omega) only [go_sem, eL]; rfl); (first | rfl | simp [AV.inNL, AV.inN]))); (simp (disch := omega) only [go_sem, eL]; refine hK _ ?_; clear hK K)) | ((with_reducible refine evL_one ?_ ?_); rfl; intro K hK; simp (disch := omega) only [go_sem, eL]; ((repeat (refine ndI (by first | assumption | omega | rfl) ?_)); refine hK _ ?_; clear hK K)) | (with_reducible first | (refine evL_nil ?_; refine hR _ ?_; clear hR R) | ((first | refine evC_seq ?_ | refine evC_block ?_); intro Ψ hΨ hΨ') | (refine evC_region ?_; intro R hR) | (refine hΨ _ ?_; clear hΨ hΨ' Ψ) | refine evC_skip ?_ | refine evC_ret ?_ | refine evC_exit ?_) | ((with_reducible refine hΨ' _ _ ?_ ?_); (focus (simp; done)); clear hΨ hΨ' Ψ) | ((with_reducible apply evL_unmet); rfl; rfl; rfl; (try simp (disch := omega) only [go_sem, eL])) | ((with_reducible apply evL_grd); rfl; rfl; rfl; all_goals (intro hb; first | (cases hb; done) | ((try simp only [Bool.not_true, Bool.not_false] at hb); (first | ((with_reducible intro K hK); (first | ((apply opA_callB (s1); rfl; rfl; rfl; rfl; exact Tryz.func13); kernel_rfl; rfl; (simp (disch := omega) only [go_sem, eL]; rfl); (first | rfl | simp [AV.inNL, AV.inN])) | ((apply opA_callB (s3); rfl; rfl; rfl; rfl; exact Tryz.func13); kernel_rfl; rfl; (simp (disch := omega) only [go_sem, eL]; rfl); (first | rfl | simp [AV.inNL, AV.inN])) | ((apply opA_callB (s2); rfl; rfl; rfl; rfl; exact Tryz.func14); kernel_rfl; rfl; (simp (disch := omega) only [go_sem, eL]; rfl); (first | rfl | simp [AV.inNL, AV.inN])) | ((apply opA_callB (s4); rfl; rfl; rfl; rfl; exact Tryz.func14); kernel_rfl; rfl; (simp (disch := omega) only [go_sem, eL]; rfl); (first | rfl | simp [AV.inNL, AV.inN])) | skip); simp (disch := omega) only [go_sem, eL]; ((repeat (refine ndI (by first | assumption | omega | rfl) ?_)); refine hK _ ?_; clear hK K)) | ((fail_if_success (with_reducible intro _)); simp (disch := omega) only [go_sem, eL]))))) | ((with_reducible apply evC_cond); rfl; rfl; all_goals (intro hc; first | (cases hc; done) | (try simp only at hc))) | ((with_reducible refine evD_nil ?_ ?_); kernel_rfl; (with_reducible refine hR _ ?_); clear hR R) | ((first | ((with_reducible apply evD_fcall); rfl; rfl; ((first | (apply opF_callB (c1); rfl; rfl; rfl; rfl; exact Tryz.func6) | (apply opF_callB (c2); rfl; rfl; rfl; rfl; exact Tryz.func7) | (apply opF_callB (c3); rfl; rfl; rfl; rfl; exact Tryz.func8)); kernel_rfl; rfl; (simp (disch := omega) only [go_sem, eL]; rfl); (first | rfl | simp [AV.inNL, AV.inN]))) | ((with_reducible apply evD_any); rfl; rfl; (simp (disch := omega) only [rdE, rdOf, go_sem, eL]; rfl); (intro τ hA hQ hN; ((try simp only [agree, Op.operands, Call.operands, go_sem, eL, go_sem, List.mem_cons, List.not_mem_nil, forall_eq_or_imp, forall_eq, List.append_toArray, Option.toArray] at hA); (try simp only [go_sem, eL, List.mem_cons, List.not_mem_nil, forall_eq_or_imp, forall_eq] at hQ hN); (first | (revert hA; intro hA) | have hA := trivial); (first | (revert hQ; intro hQ) | have hQ := trivial); (first | (revert hN; intro hN) | have hN := trivial); simp (disch := omega) only [go_sem, eL, go_sem, hA, hQ, hN]; (repeat (refine ndI (by first | assumption | omega | rfl) ?_)); (first | apply eff_rd | apply eff_st | apply eff_nw))))); (simp (disch := omega) only [St.eff, setO, hputs, go_sem, eL])) | ((with_reducible refine evC_draw ?_ ?_ ?_ ?_); kernel_rfl; kernel_rfl; (first | kernel_rfl | simp [newNames, isNew, St.free, freeH, AV.refsL, AV.refs]); intro R hR))))
  all_goals (refine ⟨by simp, ⟨_, ?_, AV.le_refl _⟩, leH_get (by simp [leH, hget])⟩; simp only [Tryz.results3, resL, ldA, oneOf, go_sem])
theorem turns_fn (j : Jn) (w : Wl) (x : ax.Xs) (hj : j.raw) (hw : w.raw) (hx : XRaw x) : Fn Tryz.prog 3 [jnA j, wlA w, xxA x] [] (vb true) [] :=
  turns_walk j w x (fewJ j) (cutW w) (cutX x) (fewJ_ok hj) (cutW_ok hw) (cutX_ok hx).1 (cutX_ok hx).2 (few_fn j hj) (world_fn w hw) (touched_fn x hx)
/-! how they are read -/
theorem decVSp : DecV Tryz.prog 86 5 ax.Sp.pv ax.Sp.ok :=
  (decV_struct (sz := 1 + 4) Tryz.underlying86 (by kernel_rfl) (decF_cons decV_addr rfl (decF_one decV_word rfl))).map fun x hx => ⟨⟨x.1, x.2⟩, rfl, hx⟩
theorem decVPg : DecV Tryz.prog 89 9 ax.Pg.pv ax.Pg.ok :=
  (decV_struct (sz := 5 + 4) Tryz.underlying89 (by kernel_rfl) (decF_cons decVSp rfl (decF_one decV_word rfl))).map fun x hx => ⟨⟨x.1, x.2⟩, rfl, hx⟩
theorem decVX : DecV Tryz.prog 35 3 (fun x : ax.Xs => [adV x.ad, spV x.sp, pgV x.pg]) XRaw :=
  (decV_struct (sz := 1 + (1 + 1)) Tryz.underlying35 (by kernel_rfl) (decF_cons (decV_slice Tryz.underlying31 (by kernel_rfl) decV_addr (by omega) (fun _ => rfl)) rfl (decF_cons (decV_slice Tryz.underlying32 (by kernel_rfl) decVSp (by omega) (fun _ => rfl)) rfl (decF_one (decV_slice Tryz.underlying33 (by kernel_rfl) decVPg (by omega) (fun _ => rfl)) rfl)))).map fun x hx => ⟨⟨x.1, x.2.1, x.2.2⟩, rfl, hx.1, hx.2.1, hx.2.2⟩
theorem decVP : DecV Tryz.prog 37 6 Pt.pv Pt.raw :=
  (decV_struct (sz := 3 + 3) Tryz.underlying37 (by kernel_rfl) (decF_cons decVW rfl (decF_one decVX rfl))).map fun x hx => ⟨⟨x.1, x.2⟩, rfl, hx.1, hx.2⟩
theorem decVJ : DecV Tryz.prog 40 7 Jn.pv Jn.raw :=
  (decV_struct (sz := 6 + 1) Tryz.underlying40 (by kernel_rfl) (decF_cons decVP rfl (decF_one (decV_slice Tryz.underlying38 (by kernel_rfl) decVP (by omega) pt_len) rfl))).map fun x hx => ⟨⟨x.1, x.2⟩, rfl, hx.1, hx.2⟩
theorem law_turns {j : Jn} {w : Wl} {x : ax.Xs} {v0 v1 v2 : Value} {W : World} (h0 : RV (fun _ => True) (fun _ => (0, 0, 0)) W v0 (.agg (j.pv.map .c))) (g0 : j.raw) (h1 : RV (fun _ => True) (fun _ => (0, 0, 0)) W v1 (.agg (w.pv.map .c))) (g1 : w.raw) (h2 : RV (fun _ => True) (fun _ => (0, 0, 0)) W v2 (.agg ([adV x.ad, spV x.sp, pgV x.pg].map .c))) (g2 : XRaw x) : Calls Tryz.prog 3 #[v0, v1, v2] W (RetT W true) := by
  refine Fn.law (turns_fn j w x g0 g1 g2) (vs := [_, _, _]) rfl fun k v y hk hy => ?_
  rcases k with _ | _ | _ | k
  · cases hk; cases hy; exact h0
  · cases hk; cases hy; exact h1
  · cases hk; cases hy; exact h2
  · simp at hk
end Go.Proofs.YtcahibdaiokajaaGreat
namespace Go.Proofs.YtcahibdaiokajaaGreat.journalTurnsDone
open Go.RowKit Go.ChangeShapes Go.WideShapes Go.ChangeAt

theorem own : ownKnob Tryz.prog.godebug = none := by kernel_rfl
theorem laidOut : laidOutB Tryz.prog = true := by kernel_rfl
theorem reads : ∀ t ∈ Tryz.f3.params.toList, Tryz.prog.readableRec t = true ∧ t < Tryz.prog.types.size := by
  rw [Tryz.params3]
  intro t ht
  simp only [List.mem_cons, List.not_mem_nil, or_false] at ht
  rcases ht with rfl | rfl | rfl
  · exact ⟨by kernel_rfl, of_decide_eq_true (by kernel_rfl)⟩
  · exact ⟨by kernel_rfl, of_decide_eq_true (by kernel_rfl)⟩
  · exact ⟨by kernel_rfl, of_decide_eq_true (by kernel_rfl)⟩

set_option maxRecDepth 100000 in
theorem lifted (os : Os) (started : os.Started) (H : Type) (enc : TypeId × Value → H) :
    ReturnsInHanded {} Tryz.checked os 3 .any (Rows.journalTurnsSpec.pre6 enc Tryz.prog Tryz.f3 Rows.journalTurnsRow.domain false) (Rows.journalTurnsSpec.post enc Tryz.prog Tryz.f3 false true false false) := by
  refine returnsInHanded_of_change (C := Tryz.checked) own started (by kernel_rfl) Tryz.func3
    (ChangeSpec.witness6 (enc := enc) (C := Tryz.checked) false ⟨#[], #[.agg #[.slice none 0 0, .slice none 0 0, .slice none 0 0, .slice none 0 0, .slice none 0 0, .slice none 0 0, .slice none 0 0], .agg #[.slice none 0 0, .slice none 0 0, .slice none 0 0], .agg #[.slice none 0 0, .slice none 0 0, .slice none 0 0]], []⟩ 8 (by kernel_rfl) (by kernel_rfl) (by kernel_rfl) (by kernel_rfl)) ?_
  intro W base args ds gs before hval0 hW hcnd _
  have hval : ∀ (j : Nat) t v, Tryz.f3.params[j]? = some t → args[j]? = some v → Value.okWide Tryz.prog W .any base t v := hval0
  refine law_post (P := Tryz.prog) laidOut rfl Tryz.underlying4 rfl reads (fun ds hds => by
    match ds, hds with
    | [d1, d2, d3], _ => rfl) hW ?_
  obtain ⟨p, q, hA0, hV, rfl, hfz, hnd⟩ := hW
  have hA : DataW.TrodAll enc Tryz.prog W 0 (fun _ => true) true Tryz.f3.params.toList args.toList ds p := hA0
  rw [Tryz.params3] at hA hval
  obtain ⟨v0, vs0, d0, ds0, p0, q0, hargs, rfl, rfl, h0, r0⟩ := trodAll_cons hA
  obtain ⟨v1, vs1, d1, ds1, p1, q1, rfl, rfl, rfl, h1, r1⟩ := trodAll_cons r0
  obtain ⟨v2, vs2, d2, ds2, p2, q2, rfl, rfl, rfl, h2, r2⟩ := trodAll_cons r1
  obtain ⟨rfl, rfl, rfl⟩ := trodAll_nil r2
  obtain rfl : args = #[v0, v1, v2] := by cases args; simp_all
  obtain ⟨cs0, rfl⟩ := okWide_struct Tryz.underlying40 (hval 0 40 v0 rfl rfl)
  obtain ⟨l0, hr0, hg0⟩ := open_VA decVJ h0 (fun _ => (0, 0, 0))
  obtain ⟨cs1, rfl⟩ := okWide_struct Tryz.underlying30 (hval 1 30 v1 rfl rfl)
  obtain ⟨l1, hr1, hg1⟩ := open_VA decVW h1 (fun _ => (0, 0, 0))
  obtain ⟨cs2, rfl⟩ := okWide_struct Tryz.underlying35 (hval 2 35 v2 rfl rfl)
  obtain ⟨l2, hr2, hg2⟩ := open_VA decVX h2 (fun _ => (0, 0, 0))
  exact law_turns hr0 hg0 hr1 hg1 hr2 hg2

theorem over : Rows.journalTurnsRow.holds Tryz.pinned (OpenSpec.ofChange Rows.journalTurnsSpec) :=
  OpenClaim.holds_of_wide 3 Tryz.f3 rfl rfl rfl rfl rfl rfl rfl ⟨rfl, rfl, rfl, rfl, rfl⟩ rfl rfl rfl rfl rfl (by kernel_rfl) Tryz.func3 (by kernel_rfl)
    (of_decide_eq_true (by kernel_rfl)) (by unfold Func.isWrapper; first | (rw [if_pos (by decide +kernel)]; kernel_rfl) | (rw [if_neg (by decide +kernel)]; exact ⟨rfl, rfl⟩))
    (fun os started H enc _ => lifted os started H enc)

theorem proved : Rows.JournalTurnsSaid := over
end Go.Proofs.YtcahibdaiokajaaGreat.journalTurnsDone
