/-
  The ledger wakes.
-/
import Derived.Test.YtmibmodibicibaaLn
namespace Go.Proofs.Ytmibmodibicibaa
open Go.RowKit
open Nat (reduceBEq)
set_option linter.unusedVariables false
set_option linter.unusedSimpArgs false
set_option maxRecDepth 20000
set_option maxHeartbeats 2000000
theorem Fn.argsI {P : Program} {f : FuncId} {args args' : List AV} {H0 H1 : List (Nat × List AV)} {res : AV} (h : Fn P f args H0 res H1) (hl : args'.length = args.length) (hi : ∀ (j : Nat) (x y : AV), args'[j]? = some x → args[j]? = some y → ∀ S ι w v, RV S ι w v x → RV S ι w v y) : Fn P f args' H0 res H1 := by
  intro E vs hD hS hH hlen hargs
  refine h E vs hD hS hH (by rw [hlen, hl]) fun j v y hv hy => ?_
  obtain ⟨hj, _⟩ := List.getElem?_eq_some_iff.1 hy
  have hx : args'[j]? = some (args'[j]'(by omega)) := List.getElem?_eq_getElem _
  exact hi j _ y hx hy _ _ _ _ (hargs j v _ hv hx)
theorem Fn.argN {P : Program} {f : FuncId} {args : List AV} {H0 H1 : List (Nat × List AV)} {res : AV} (h : Fn P f (lg false [] :: args) H0 res H1) : Fn P f (lgN :: args) H0 res H1 := by
  refine h.argsI rfl fun j x y hx hy S ι w v hv => ?_
  cases j with
  | zero =>
    simp only [List.getElem?_cons_zero, Option.some.injEq] at hx hy
    subst hx hy
    exact imp_lgN hv
  | succ j =>
    simp only [List.getElem?_cons_succ] at hx hy
    rw [hx] at hy
    cases hy
    exact hv
deriving instance DecidableEq for Hd
def m1 : List Hd := [⟨20, 7, 0, 0, 0⟩]
def m2 : List Hd := [⟨20, 7, 5, 100, 0⟩]
theorem u0 {x : Int} (h0 : 0 ≤ x) (h : x ≤ 18446744073709551615) : U x := ⟨h0, h⟩
theorem m1_ok : ∀ h ∈ m1, h.ok := by
  intro h hh
  obtain rfl : h = ⟨20, 7, 0, 0, 0⟩ := by simpa [m1] using hh
  exact ⟨u0 (by decide) (by decide), (by decide : 7 < WW), (by decide : 0 < WW), u0 (by decide) (by decide), u0 (by decide) (by decide)⟩
theorem m2_ok : ∀ h ∈ m2, h.ok := by
  intro h hh
  obtain rfl : h = ⟨20, 7, 5, 100, 0⟩ := by simpa [m2] using hh
  exact ⟨u0 (by decide) (by decide), (by decide : 7 < WW), (by decide : 5 < WW), u0 (by decide) (by decide), u0 (by decide) (by decide)⟩
theorem wk1 : Fn Try.prog 19 [lgN, vi .u64 20, w4 7 0 0 0] [] (.tup [lg false m1, vi .i64 0]) [] := by
  have h := val2 (dep_no false [] (Nat.zero_le _) (fun _ h => by cases h) 20 (u0 (by decide) (by decide)) 7 (by decide)) (dep_ok false [] (Nat.zero_le _) (fun _ h => by cases h) 20 (u0 (by decide) (by decide)) 7 (by decide))
  rw [show gate [] 20 (fitsE [] 20 7) = 0 by decide, if_pos rfl, show putL [] (depH (findH [] 20) 7) = m1 by decide] at h
  exact h.argN
theorem wk2 : Fn Try.prog 20 [lg false m1, vi .u64 20, w4 5 0 0 0, vi .u64 100] [] (.tup [lg false m2, vi .i64 0]) [] := by
  have h := val2 (bond_no false m1 (by decide) m1_ok 20 (u0 (by decide) (by decide)) 5 100 (by decide)) (bond_ok false m1 (by decide) m1_ok 20 (u0 (by decide) (by decide)) 5 100 (by decide))
  rw [show gate m1 20 (bondE m1 20 (findH m1 20) 5 100) = 0 by decide, if_pos rfl, show putL m1 (bondH (findH m1 20) 5 100) = m2 by decide] at h
  exact h
theorem wk3 : Fn Try.prog 21 [lg false m1, vi .u64 20, w4 8 0 0 0] [] (.tup [lg false [], vi .i64 162]) [] := by
  have h := val2 (wdr_no false m1 (by decide) m1_ok 20 (u0 (by decide) (by decide)) 8 (by decide)) (wdr_ok false m1 (by decide) m1_ok 20 (u0 (by decide) (by decide)) 8 (by decide))
  rw [show gate m1 20 (wdrE (findH m1 20) 8) = 162 by decide, if_neg (by decide)] at h
  exact h
theorem wk4 : Fn Try.prog 14 [lg false m2] [] (w4 12 0 0 0) [] := by
  have h := sumF_fn false m2 (by decide) m2_ok
  rw [show sumP m2 = 12 by decide] at h
  exact h
theorem wk5 : Fn Try.prog 17 [lg false m2, vi .u64 20, w4 5 0 0 0, vi .u64 100] [] (vb true) [] := by
  have h := staked_fn false m2 (by decide) m2_ok 20 (u0 (by decide) (by decide)) 5 (by decide) 100
  rw [show stakedP (findP m2 20) 5 100 = true by decide] at h
  exact h
theorem wk6 : Fn Try.prog 17 [lg false m1, vi .u64 20, w4 0 0 0 0, vi .u64 0] [] (vb false) [] := by
  have h := staked_fn false m1 (by decide) m1_ok 20 (u0 (by decide) (by decide)) 0 (by decide) 0
  rw [show stakedP (findP m1 20) 0 0 = false by decide] at h
  exact h
theorem wakes_fn : Fn Try.prog 7 [] [] (vb true) [] := by
  have k1 := wk1
  have k2 := wk2
  have k3 := wk3
  have k4 := wk4
  have k5 := wk5
  have k6 := wk6
  generalize m1 = a at k1 k2 k3 k6
  generalize m2 = b at k2 k4 k5
  (refine fn_of Try.func7 rfl (by rfl) ?_; simp only [Try.ntmps7, List.length_cons, List.length_nil, Nat.reduceAdd, Nat.reduceSub, List.replicate, List.cons_append, List.nil_append])
  (repeat (any_goals (first | ((with_reducible refine evL_call ?_ ?_ ?_); rfl; rfl; intro K hK; ((first | (apply opA_callB (k1); rfl; rfl; rfl; rfl; exact Try.func19) | (apply opA_callB (k2); rfl; rfl; rfl; rfl; exact Try.func20) | (apply opA_callB (k3); rfl; rfl; rfl; rfl; exact Try.func21)); kernel_rfl; rfl; (simp only [go_sem]; rfl); (first | rfl | simp [AV.inNL, AV.inN])); (simp only [go_sem]; refine hK _ ?_; clear hK K)) | ((with_reducible refine evL_one ?_ ?_); rfl; intro K hK; simp only [go_sem]; ((repeat (refine ndI (by first | assumption | omega | rfl) ?_)); refine hK _ ?_; clear hK K)) | (with_reducible first | (refine evL_nil ?_; refine hR _ ?_; clear hR R) | ((first | refine evC_seq ?_ | refine evC_block ?_); intro Ψ hΨ hΨ') | (refine evC_region ?_; intro R hR) | (refine hΨ _ ?_; clear hΨ hΨ' Ψ) | refine evC_skip ?_ | refine evC_ret ?_ | refine evC_exit ?_) | ((with_reducible refine hΨ' _ _ ?_ ?_); (focus (simp; done)); clear hΨ hΨ' Ψ) | ((with_reducible apply evL_unmet); rfl; rfl; rfl; (try simp only [go_sem])) | ((with_reducible apply evL_grd); rfl; rfl; rfl; all_goals (intro hb; first | (cases hb; done) | ((try simp only [Bool.not_true, Bool.not_false] at hb); (first | ((with_reducible intro K hK); (first | ((apply opA_callB (k4); rfl; rfl; rfl; rfl; exact Try.func14); kernel_rfl; rfl; (simp only [go_sem]; rfl); (first | rfl | simp [AV.inNL, AV.inN])) | ((apply opA_callB (k5); rfl; rfl; rfl; rfl; exact Try.func17); kernel_rfl; rfl; (simp only [go_sem]; rfl); (first | rfl | simp [AV.inNL, AV.inN])) | ((apply opA_callB (k6); rfl; rfl; rfl; rfl; exact Try.func17); kernel_rfl; rfl; (simp only [go_sem]; rfl); (first | rfl | simp [AV.inNL, AV.inN])) | skip); simp only [go_sem]; ((repeat (refine ndI (by first | assumption | omega | rfl) ?_)); refine hK _ ?_; clear hK K)) | ((fail_if_success (with_reducible intro _)); simp only [go_sem]))))) | ((with_reducible apply evC_cond); rfl; rfl; all_goals (intro hc; first | (cases hc; done) | (try simp only at hc))))))
  all_goals (refine ⟨by simp, ⟨_, ?_, AV.le_refl _⟩, leH_get (by simp [leH, hget])⟩; simp only [Try.results7, resL, ldA, oneOf, go_sem])
end Go.Proofs.Ytmibmodibicibaa
