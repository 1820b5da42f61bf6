/-
  The layer does something.
-/
import Derived.Test.YtlkogofgemclfaaNm
namespace Go.Proofs.Ytlkogofgemclfaa
open Go.RowKit
open Nat (reduceBEq)
set_option linter.unusedVariables false
set_option linter.unusedSimpArgs false
set_option maxRecDepth 20000
set_option maxHeartbeats 1000000
theorem OpA.frz_after {P : Program} {o : Oper} {σ : St} {K : St → Prop} (r : Nat) (pcs : List PV) (h : OpA P o σ fun σ1 => hget σ1.H r = some (pcs.map .c) ∧ K (σ1.frz r pcs)) : OpA P o σ K :=
  fun E ι a w hc K' Q hK' => h E ι a w hc K' Q fun ι' σ' a' w' hk hc' => hK' ι' _ a' w' hk.2 (hc'.frz hk.1)
def n0 : N6 := ⟨20, 0, 0, 0, 0, 1⟩
theorem okTo_n0 : okTo [n0] [n0].length = true := by decide
theorem next_n0 : NextIs [n0] 20 0 0 0 1 := .inr ⟨n0, by decide, rfl, by decide⟩
theorem use_n0 : Fn Try.prog 12 [.c (.sl false 6 1 n0.pv), vi .u64 20, w4 0 0 0 0] [] (.tup [nilS, vi .i64 181]) [] := by
  have h := use_seq false [n0] (by simp) okTo_n0 20 0 0 0 0 1 (by decide) (by decide) next_n0 (by decide) (by decide) (by decide) (by decide)
  exact h
theorem nextw_n0 : Fn Try.prog 21 [.c (.sl false 6 1 n0.pv), vi .u64 20, w4 0 0 0 0] [] (.tup [w4 1 0 0 0, vi .i64 0]) [] := by
  have h := next_fn false [n0] (by simp) okTo_n0 20 0 0 0 1 (by decide) (by decide) (by decide) (by decide) (by decide) next_n0
  exact h
theorem wakes_fn : Fn Try.prog 10 [] [] (vb true) [] := by
  (refine fn_of Try.func10 rfl (by rfl) ?_; simp only [Try.ntmps10, List.length_cons, List.length_nil, Nat.reduceAdd, Nat.reduceSub, List.replicate, List.cons_append, List.nil_append])
  (repeat (any_goals (first | ((with_reducible refine evL_one ?_ ?_); rfl; intro K hK; simp only [go_sem]; ((repeat (refine ndI (by first | assumption | omega | rfl) ?_)); refine hK _ ?_; clear hK K)) | (with_reducible first | (refine evL_nil ?_; refine hR _ ?_; clear hR R) | ((first | refine evC_seq ?_ | refine evC_block ?_); intro Ψ hΨ hΨ') | (refine evC_region ?_; intro R hR) | (refine hΨ _ ?_; clear hΨ hΨ' Ψ) | refine evC_skip ?_ | refine evC_ret ?_ | refine evC_exit ?_) | ((with_reducible refine hΨ' _ _ ?_ ?_); (focus (simp; done)); clear hΨ hΨ' Ψ) | ((with_reducible apply evL_unmet); rfl; rfl; rfl; (try simp only [go_sem])) | ((with_reducible apply evL_grd); rfl; rfl; rfl; all_goals (intro hb; first | (cases hb; done) | ((try simp only [Bool.not_true, Bool.not_false] at hb); (first | ((with_reducible intro K hK); simp only [go_sem]; ((repeat (refine ndI (by first | assumption | omega | rfl) ?_)); refine hK _ ?_; clear hK K)) | ((fail_if_success (with_reducible intro _)); simp only [go_sem]))))) | ((with_reducible apply evC_cond); rfl; rfl; all_goals (intro hc; first | (cases hc; done) | (try simp only at hc))))))
  (with_reducible refine evL_one ?_ ?_)
  rfl
  intro K hK
  refine OpA.frz_after 9 n0.pv ?_
  apply opA_call (use_nil 20 0 0 0 (by decide) (by decide) (by decide) (by decide)) (fun _ => 9)
  rfl
  rfl
  rfl
  rfl
  exact Try.func12
  kernel_rfl
  rfl
  rfl
  (simp only [argsOk, argOk, AV.ren, AV.renL, go_sem])
  (intro r hr; cases hr)
  (intro r hr q hq h; simp only [List.map_cons, List.map_nil, List.cons_append, List.nil_append, List.mem_cons, List.not_mem_nil, or_false] at hr hq; omega)
  (simp only [newOk, List.contains_cons, List.contains_nil, AV.refsL, AV.refs, go_sem])
  (simp only [AV.inN, AV.inNL, inH, inNL_map, List.contains_cons, List.contains_nil, go_sem])
  (simp only [AV.inN, AV.inNL, inH, inNL_map, List.contains_cons, List.contains_nil, go_sem])
  (refine ⟨rfl, ?_⟩; simp only [hputs, hdels, renH, AV.ren, AV.renL, St.frz, AV.frzL, AV.frz, frzH, pv_len, eq_self, go_sem]; (with_reducible refine hK _ ?_); clear hK K)
  (repeat (any_goals (first | ((with_reducible refine evL_call ?_ ?_ ?_); rfl; rfl; intro K hK; ((first | (apply opA_callB (use_n0); rfl; rfl; rfl; rfl; exact Try.func12) | (apply opA_callB (nextw_n0); rfl; rfl; rfl; rfl; exact Try.func21)); kernel_rfl; rfl; (simp only [go_sem, eq_self, Int.cast_ofNat_Int, Int.reduceBEq]; rfl); (first | rfl | simp [AV.inNL, AV.inN])); (simp only [go_sem, eq_self, Int.cast_ofNat_Int, Int.reduceBEq]; refine hK _ ?_; clear hK K)) | ((with_reducible refine evL_one ?_ ?_); rfl; intro K hK; simp only [go_sem, eq_self, Int.cast_ofNat_Int, Int.reduceBEq]; ((repeat (refine ndI (by first | assumption | omega | rfl) ?_)); refine hK _ ?_; clear hK K)) | (with_reducible first | (refine evL_nil ?_; refine hR _ ?_; clear hR R) | ((first | refine evC_seq ?_ | refine evC_block ?_); intro Ψ hΨ hΨ') | (refine evC_region ?_; intro R hR) | (refine hΨ _ ?_; clear hΨ hΨ' Ψ) | refine evC_skip ?_ | refine evC_ret ?_ | refine evC_exit ?_) | ((with_reducible refine hΨ' _ _ ?_ ?_); (focus (simp; done)); clear hΨ hΨ' Ψ) | ((with_reducible apply evL_unmet); rfl; rfl; rfl; (try simp only [go_sem, eq_self, Int.cast_ofNat_Int, Int.reduceBEq])) | ((with_reducible apply evL_grd); rfl; rfl; rfl; all_goals (intro hb; first | (cases hb; done) | ((try simp only [Bool.not_true, Bool.not_false] at hb); (first | ((with_reducible intro K hK); simp only [go_sem, eq_self, Int.cast_ofNat_Int, Int.reduceBEq]; ((repeat (refine ndI (by first | assumption | omega | rfl) ?_)); refine hK _ ?_; clear hK K)) | ((fail_if_success (with_reducible intro _)); simp only [go_sem, eq_self, Int.cast_ofNat_Int, Int.reduceBEq]))))) | ((with_reducible apply evC_cond); rfl; rfl; all_goals (intro hc; first | (cases hc; done) | (try simp only at hc))))))
  all_goals (refine ⟨by simp, ⟨_, ?_, AV.le_refl _⟩, leH_get (by simp [leH, hget])⟩; simp only [Try.results10, resL, ldA, oneOf, go_sem])
end Go.Proofs.Ytlkogofgemclfaa
