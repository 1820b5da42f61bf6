/-
  Moves, mints and burns as the document has them; put and burn by the code; reckoned.
-/
import Derived.Test.YtiggambibcohcaaVi
namespace Go.Proofs.Ytiggambibcohcaa
open Go.RowKit
open Nat (reduceBEq)
set_option linter.unusedVariables false
set_option linter.unusedSimpArgs false
set_option maxRecDepth 20000
set_option maxHeartbeats 2000000
def rmintS (L : List Ac) (a : Int) (n : Nat) : List Ac × Int := if (decide (WW ≤ (L.map Ac.b).sum + n) || decide (a = 0)) = true then ([], 2) else if n = 0 then (laysL L (ofS L a), 0) else if roomS L a = false then ([], 6) else (laysL L ((ofS L a).bal (((ofS L a).b + n) % WW)), 0)
theorem burn1_fn (ex : Bool) (L : List Ac) (hL : Okl L) (x : Ac) (hx : Okx x) (n : Nat) (hn : n < WW) : Fn Try.prog 71 [acA x, .ep [.sl ex 8 L.length (L.flatMap Ac.pv)], .ep (wpv n)] [] (resS (lessS L x n)) [] := by
  have ls := less_fn ex L hL x hx n hn
  generalize lessS L x n = r at ls ⊢
  obtain ⟨R, e⟩ := r
  unfold wpv
  (refine fn_of Try.func71 rfl (by rfl) ?_; simp only [Try.ntmps71, List.length_cons, List.length_nil, Nat.reduceAdd, Nat.reduceSub, List.replicate, List.cons_append, List.nil_append])
  (repeat (any_goals (first | ((with_reducible refine evL_call ?_ ?_ ?_); rfl; rfl; intro K hK; ((apply opA_callB (ls); rfl; rfl; rfl; rfl; exact Try.func63); kernel_rfl; rfl; (simp only [go_sem]; rfl); (first | rfl | simp [AV.inNL, AV.inN])); (simp only [go_sem]; refine hK _ ?_; clear hK K)) | ((with_reducible refine evL_one ?_ ?_); rfl; intro K hK; simp only [go_sem]; ((repeat (refine ndI (by first | assumption | omega | rfl) ?_)); refine hK _ ?_; clear hK K)) | (with_reducible first | (refine evL_nil ?_; refine hR _ ?_; clear hR R) | ((first | refine evC_seq ?_ | refine evC_block ?_); intro Ψ hΨ hΨ') | (refine evC_region ?_; intro R hR) | (refine hΨ _ ?_; clear hΨ hΨ' Ψ) | refine evC_skip ?_ | refine evC_ret ?_ | refine evC_exit ?_) | ((with_reducible refine hΨ' _ _ ?_ ?_); (focus (simp; done)); clear hΨ hΨ' Ψ) | ((with_reducible apply evC_cond); rfl; rfl; all_goals (intro hc; first | (cases hc; done) | (try simp only at hc))))))
  all_goals (refine ⟨by simp, ⟨_, ?_, AV.le_refl _⟩, leH_get (by simp [leH, hget])⟩; simp only [Try.results71, resL, ldA, oneOf, go_sem])
theorem burn_fn (ex : Bool) (L : List Ac) (hL : Okl L) (a : Int) (ha : U a) (n : Nat) (hn : n < WW) : Fn Try.prog 40 [stA ex L, vi .u64 a, wN n] [] (resS (withS L a (lessS L (ofS L a) n))) [] := by
  have w2 := with2_fn ex L hL a Try.func71 rfl rfl _ _ _ (burn1_fn ex L hL (ofS L a) (okx_of hL ha) n hn)
  generalize withS L a _ = r at w2 ⊢
  obtain ⟨R, e⟩ := r
  unfold wpv at w2
  (refine fn_of Try.func40 rfl (by rfl) ?_; simp only [Try.ntmps40, List.length_cons, List.length_nil, Nat.reduceAdd, Nat.reduceSub, List.replicate, List.cons_append, List.nil_append])
  (repeat (any_goals (first | ((with_reducible refine evL_one ?_ ?_); rfl; intro K hK; simp only [go_sem]; ((repeat (refine ndI (by first | assumption | omega | rfl) ?_)); refine hK _ ?_; clear hK K)) | (with_reducible first | (refine evL_nil ?_; refine hR _ ?_; clear hR R) | ((first | refine evC_seq ?_ | refine evC_block ?_); intro Ψ hΨ hΨ') | (refine evC_region ?_; intro R hR) | (refine hΨ _ ?_; clear hΨ hΨ' Ψ) | refine evC_skip ?_ | refine evC_ret ?_ | refine evC_exit ?_) | ((with_reducible refine hΨ' _ _ ?_ ?_); (focus (simp; done)); clear hΨ hΨ' Ψ) | ((with_reducible apply evC_cond); rfl; rfl; all_goals (intro hc; first | (cases hc; done) | (try simp only at hc))))))
  refine evL_to rfl (St.to.frz 3 (pcs := [.sl ex 8 L.length (L.flatMap Ac.pv)]) (by simp [hget])) ?_
  simp only [St.frz, AV.frzL, AV.frz, frzH, if_true, eq_self, ↓reduceIte, Nat.reduceEqDiff, List.length_cons, List.length_nil, List.drop, Nat.reduceAdd, Nat.reduceLT]
  refine evL_to rfl (St.to.frz 5 (pcs := [.v (.int .u64 (l0 n)), .v (.int .u64 (l1 n)), .v (.int .u64 (l2 n)), .v (.int .u64 (l3 n))]) (by simp [hget])) ?_
  simp only [St.frz, AV.frzL, AV.frz, frzH, if_true, eq_self, ↓reduceIte, Nat.reduceEqDiff, List.length_cons, List.length_nil, List.drop, Nat.reduceAdd, Nat.reduceLT]
  (repeat (any_goals (first | ((with_reducible refine evL_call ?_ ?_ ?_); rfl; rfl; intro K hK; ((apply opA_callB (w2); rfl; rfl; rfl; rfl; exact Try.func61); kernel_rfl; rfl; (simp only [go_sem]; rfl); (first | rfl | simp [AV.inNL, AV.inN])); (simp only [go_sem]; refine hK _ ?_; clear hK K)) | ((with_reducible refine evL_one ?_ ?_); rfl; intro K hK; simp only [go_sem]; ((repeat (refine ndI (by first | assumption | omega | rfl) ?_)); refine hK _ ?_; clear hK K)) | (with_reducible first | (refine evL_nil ?_; refine hR _ ?_; clear hR R) | ((first | refine evC_seq ?_ | refine evC_block ?_); intro Ψ hΨ hΨ') | (refine evC_region ?_; intro R hR) | (refine hΨ _ ?_; clear hΨ hΨ' Ψ) | refine evC_skip ?_ | refine evC_ret ?_ | refine evC_exit ?_) | ((with_reducible refine hΨ' _ _ ?_ ?_); (focus (simp; done)); clear hΨ hΨ' Ψ) | ((with_reducible apply evC_cond); rfl; rfl; all_goals (intro hc; first | (cases hc; done) | (try simp only at hc))))))
  all_goals (refine ⟨by simp, ⟨_, ?_, AV.le_refl _⟩, leH_get (by simp [leH, hget])⟩; simp only [Try.results40, resL, ldA, oneOf, go_sem])
end Go.Proofs.Ytiggambibcohcaa

