/-
  The law StateMoves, walked.
-/
import Derived.Test.YtcbaaibkkfnfmaaTh
import Derived.Test.YtcbaaibkkfnfmaaUa
namespace Go.Proofs.Ytcbaaibkkfnfmaa
open Go.RowKit
open Nat (reduceBEq)
set_option linter.unusedVariables false
set_option linter.unusedSimpArgs false
set_option maxRecDepth 20000
set_option maxHeartbeats 2000000
/-- what is done -/
structure Do where
  kind : Int
  a : Int
  b : Int
  n : Nat
  p : Pr
  x : Ac
def Do.ok (o : Do) : Prop := (-9223372036854775808 ≤ o.kind ∧ o.kind ≤ 9223372036854775807) ∧ U o.a ∧ U o.b ∧ o.n < WW ∧ o.p.ok ∧ o.x.ok
def Do.pv (o : Do) : List PV := .v (.int .i64 o.kind) :: .v (.int .u64 o.a) :: .v (.int .u64 o.b) :: (wpv o.n ++ (o.p.pv ++ o.x.pv))
def RoomS (L : List Ac) (a : Int) : Bool := okSt L && roomS L a
theorem RoomS_fn (ex : Bool) (L : List Ac) (hL : Okl L) (a : Int) : Fn Try.prog 15 [stA ex L, vi .u64 a] [] (vb (RoomS L a)) [] := by
  have ck := checkS_fn ex L (by have := hL.1; omega) (okl_fine hL)
  have rm := room_fn ex L (by have := hL.1; omega) a
  unfold RoomS
  generalize roomS L a = r at rm ⊢
  cases h : okSt L <;> cases r
  all_goals rw [h] at ck
  all_goals simp only [Bool.false_eq_true, if_true, if_false] at ck
  all_goals (refine fn_of Try.func15 rfl (by rfl) ?_; simp only [Try.ntmps15, List.length_cons, List.length_nil, Nat.reduceAdd, Nat.reduceSub, List.replicate, List.cons_append, List.nil_append])
  all_goals (repeat (any_goals (first | ((with_reducible refine evL_call ?_ ?_ ?_); rfl; rfl; intro K hK; ((first | (apply opA_callB (ck); rfl; rfl; rfl; rfl; exact Try.func7) | (apply opA_callB (rm); rfl; rfl; rfl; rfl; exact Try.func37)); kernel_rfl; rfl; (simp only [go_sem]; rfl); (simp only [AV.inNL, AV.inN, inNL_map, Bool.and_true])); (simp only [go_sem]; (with_reducible refine hK _ ?_); clear hK K)) | ((with_reducible refine evL_one ?_ ?_); rfl; intro K hK; simp only [go_sem]; ((repeat (refine And.intro (by first | assumption | omega | rfl) ?_)); (with_reducible refine hK _ ?_); clear hK K)) | ((with_reducible refine evL_nil ?_); (with_reducible refine hR _ ?_); clear hR R) | ((with_reducible first | refine evC_seq ?_ | refine evC_block ?_); intro Ψ hΨ hΨ') | ((with_reducible refine evC_region ?_); intro R hR) | ((with_reducible refine hΨ _ ?_); clear hΨ hΨ' Ψ) | ((with_reducible refine hΨ' _ _ ?_ ?_); (focus (first | ((intro hx; cases hx); done) | ((intro j hj; cases hj); done) | (intro j hj; cases hj; (decide); done))); clear hΨ hΨ' Ψ) | (with_reducible first | refine evC_skip ?_ | refine evC_ret ?_ | refine evC_exit ?_) | ((with_reducible apply evL_unmet); rfl; rfl; rfl; (try simp only [go_sem])) | ((with_reducible apply evL_grd); rfl; rfl; rfl; all_goals (intro hb; first | (exact absurd hb (by decide)) | ((try simp only [Bool.not_true, Bool.not_false] at hb); (first | ((with_reducible intro K hK); (first | ((apply opA_callB (rm); rfl; rfl; rfl; rfl; exact Try.func37); kernel_rfl; rfl; (simp only [go_sem]; rfl); (simp only [AV.inNL, AV.inN, inNL_map, Bool.and_true])) | skip); simp only [go_sem]; ((repeat (refine And.intro (by first | assumption | omega | rfl) ?_)); (with_reducible refine hK _ ?_); clear hK K)) | ((fail_if_success (with_reducible intro _)); simp only [go_sem]))))) | ((with_reducible apply evC_cond); rfl; rfl; all_goals (intro hc; first | (exact absurd hc (by decide)) | (try simp only at hc))))))
  all_goals (refine ⟨by simp, ⟨_, ?_, AV.le_refl _⟩, leH_get (by simp [leH, hget])⟩; simp only [Try.results15, resL, ldA, oneOf, go_sem])
  all_goals rfl
end Go.Proofs.Ytcbaaibkkfnfmaa

