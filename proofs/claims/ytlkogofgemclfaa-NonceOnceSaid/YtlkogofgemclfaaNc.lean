/-
  Compared words, reckoned.
-/
import Derived.Test.YtlkogofgemclfaaNb
namespace Go.Proofs.Ytlkogofgemclfaa
open Go.RowKit
open Nat (reduceBEq)
set_option linter.unusedVariables false
set_option linter.unusedSimpArgs false
set_option maxRecDepth 20000
set_option maxHeartbeats 1000000
theorem wcmp_fn (a b c d e f g h : Int) : Fn Try.prog 23 [w4 a b c d, w4 e f g h] [] (vi .i64 (if d < h then -1 else if h < d then 1 else if c < g then -1 else if g < c then 1 else if b < f then -1 else if f < b then 1 else if a < e then -1 else if e < a then 1 else 0)) [] := by
  (refine fn_of Try.func23 rfl (by rfl) ?_; simp only [Try.ntmps23, List.length_cons, List.length_nil, Nat.reduceAdd, Nat.reduceSub, List.replicate, List.cons_append, List.nil_append])
  (repeat (any_goals (first | ((with_reducible refine evL_one ?_ ?_); rfl; intro K hK; simp (disch := omega) only [go_sem, wrI, Int.reduceSub, Int.reduceNeg, Int.reduceGE, decide_true, decide_false, ge_iff_le, gt_iff_lt]; ((repeat (refine ndI (by first | assumption | omega | rfl) ?_)); refine hK _ ?_; clear hK K)) | (with_reducible first | (refine evL_nil ?_; refine hR _ ?_; clear hR R) | ((first | refine evC_seq ?_ | refine evC_block ?_); intro Ψ hΨ hΨ') | (refine evC_region ?_; intro R hR) | (refine hΨ _ ?_; clear hΨ hΨ' Ψ) | refine evC_skip ?_ | refine evC_ret ?_ | refine evC_exit ?_) | ((with_reducible refine hΨ' _ _ ?_ ?_); (focus (simp; done)); clear hΨ hΨ' Ψ) | ((with_reducible apply evC_cond); rfl; rfl; all_goals (intro hc; first | (cases hc; done) | (try simp only at hc))) | (with_reducible refine evC_rounds 5 ?_) | ((with_reducible refine evR_succ ?_); intro Ψ hΨ hΨ') | ((with_reducible refine evD_nil ?_ ?_); kernel_rfl; (with_reducible refine hR _ ?_); clear hR R) | (((with_reducible apply evD_any); rfl; rfl; (simp (disch := omega) only [rdE, rdOf, go_sem, wrI, Int.reduceSub, Int.reduceNeg, Int.reduceGE, decide_true, decide_false, ge_iff_le, gt_iff_lt]; rfl); (intro τ hA hQ hN; ((try simp only [agree, Op.operands, Call.operands, go_sem, wrI, Int.reduceSub, Int.reduceNeg, Int.reduceGE, decide_true, decide_false, ge_iff_le, gt_iff_lt, go_sem, List.mem_cons, List.not_mem_nil, forall_eq_or_imp, forall_eq, List.append_toArray, Option.toArray] at hA); (try simp only [go_sem, wrI, Int.reduceSub, Int.reduceNeg, Int.reduceGE, decide_true, decide_false, ge_iff_le, gt_iff_lt, List.mem_cons, List.not_mem_nil, forall_eq_or_imp, forall_eq] at hQ hN); (first | (revert hA; intro hA) | have hA := trivial); (first | (revert hQ; intro hQ) | have hQ := trivial); (first | (revert hN; intro hN) | have hN := trivial); simp (disch := omega) only [go_sem, wrI, Int.reduceSub, Int.reduceNeg, Int.reduceGE, decide_true, decide_false, ge_iff_le, gt_iff_lt, go_sem, hA, hQ, hN]; (repeat (refine ndI (by first | assumption | omega | rfl) ?_)); (first | apply eff_rd | apply eff_st | apply eff_nw)))); (simp (disch := omega) only [St.eff, setO, hputs, go_sem, wrI, Int.reduceSub, Int.reduceNeg, Int.reduceGE, decide_true, decide_false, ge_iff_le, gt_iff_lt])) | ((with_reducible refine evC_draw ?_ ?_ ?_ ?_); kernel_rfl; kernel_rfl; (first | kernel_rfl | simp [newNames, isNew, St.free, freeH, AV.refsL, AV.refs]); intro R hR))))
  all_goals (refine ⟨by simp, ⟨_, ?_, AV.le_refl _⟩, leH_get (by simp [leH, hget])⟩; simp only [Try.results23, resL, ldA, oneOf, go_sem])
  all_goals simp_all
  all_goals (repeat' split) <;> first | rfl | omega
end Go.Proofs.Ytlkogofgemclfaa
