/-
  Proved: the law IdealTells answers true for every world and every row of addresses, and its arguments read behind the call as before. Conditions: none.
-/
import Derived.Test.YtgdnmdnhkhpieaaGreatIg
import Derived.Test.YtgdnmdnhkhpieaaGreatIk
set_option linter.unusedSimpArgs false
set_option linter.unusedVariables false
namespace Go.Proofs.YtgdnmdnhkhpieaaGreat
open Go.RowKit
open Nat (reduceBEq)
set_option maxRecDepth 20000
set_option maxHeartbeats 4000000
def exN (w : Wl) : Nat := if rightW w && decide (owesN w ≤ hasN w) then hasN w - owesN w else 0
def exB (w : Wl) : Bool := rightW w && decide (owesN w ≤ hasN w)
theorem excess_fn (w : Wl) (hw : w.ok) : Fn Tryz.prog 11 [wlA w] [] (.tup [wN (exN w), vb (exB w)]) [] := by
  have f1 := has_fn w hw
  have f2 := owes_fn w hw
  have f3 := may1_fn false w hw
  have s := sub_fn (hasN w) (owesN w) (hasN_lt hw) (owesN_lt w)
  have e : ¬ hasN w < owesN w → (hasN w + WW - owesN w) % WW = hasN w - owesN w := fun h => by
    have h1 := hasN_lt hw
    rw [show hasN w + WW - owesN w = (hasN w - owesN w) + WW by omega, Nat.add_mod_right, Nat.mod_eq_of_lt (by omega)]
  unfold exN exB
  by_cases h : hasN w < owesN w
  · rw [decide_eq_true h] at s
    rw [decide_eq_false (show ¬ owesN w ≤ hasN w by omega), Bool.and_false]
    simp only [Bool.false_eq_true, if_false]
    generalize (hasN w + WW - owesN w) % WW = m at s
    generalize hasN w = n1 at *
    generalize owesN w = n2 at *
    (refine fn_of Tryz.func11 rfl (by rfl) ?_; simp only [Tryz.ntmps11, List.length_cons, List.length_nil, Nat.reduceAdd, Nat.reduceSub, List.replicate, List.cons_append, List.nil_append])
    (repeat (any_goals (first | ((with_reducible refine evL_one ?_ ?_); rfl; intro K hK; simp only [go_sem]; ((repeat (refine ndI (by first | assumption | omega | rfl) ?_)); refine hK _ ?_; clear hK K)) | (with_reducible first | (refine evL_nil ?_; refine hR _ ?_; clear hR R) | ((first | refine evC_seq ?_ | refine evC_block ?_); intro Ψ hΨ hΨ') | (refine evC_region ?_; intro R hR) | (refine hΨ _ ?_; clear hΨ hΨ' Ψ) | refine evC_skip ?_ | refine evC_ret ?_ | refine evC_exit ?_) | ((with_reducible refine hΨ' _ _ ?_ ?_); (focus (simp; done)); clear hΨ hΨ' Ψ) | ((with_reducible apply evL_unmet); rfl; rfl; rfl; (try simp only [go_sem])) | ((with_reducible apply evL_grd); rfl; rfl; rfl; all_goals (intro hb; first | (cases hb; done) | ((try simp only [Bool.not_true, Bool.not_false] at hb); (first | ((with_reducible intro K hK); simp only [go_sem]; ((repeat (refine ndI (by first | assumption | omega | rfl) ?_)); refine hK _ ?_; clear hK K)) | ((fail_if_success (with_reducible intro _)); simp only [go_sem]))))) | ((with_reducible apply evC_cond); rfl; rfl; all_goals (intro hc; first | (cases hc; done) | (try simp only at hc))) | ((with_reducible refine evD_nil ?_ ?_); kernel_rfl; (with_reducible refine hR _ ?_); clear hR R) | ((first | ((with_reducible apply evD_fcall); rfl; rfl; ((first | (apply opF_callB (f1); rfl; rfl; rfl; rfl; exact Tryz.func12) | (apply opF_callB (f2); rfl; rfl; rfl; rfl; exact Tryz.func13) | (apply opF_callB (s); rfl; rfl; rfl; rfl; exact Tryz.func33)); kernel_rfl; rfl; (simp only [go_sem]; rfl); (first | rfl | simp [AV.inNL, AV.inN]))) | ((with_reducible apply evD_any); rfl; rfl; (simp only [rdE, rdOf, go_sem]; rfl); (intro τ hA hQ hN; ((try simp only [agree, Op.operands, Call.operands, go_sem, List.mem_cons, List.not_mem_nil, forall_eq_or_imp, forall_eq, List.append_toArray, Option.toArray] at hA); (try simp only [go_sem, List.mem_cons, List.not_mem_nil, forall_eq_or_imp, forall_eq] at hQ hN); (first | (revert hA; intro hA) | have hA := trivial); (first | (revert hQ; intro hQ) | have hQ := trivial); (first | (revert hN; intro hN) | have hN := trivial); simp only [go_sem, hA, hQ, hN]; (repeat (refine ndI (by first | assumption | omega | rfl) ?_)); (first | apply eff_rd | apply eff_st | apply eff_nw)))) | ((first | ((with_reducible apply evD_new); rfl; rfl; rfl) | ((with_reducible apply evD_grd_new); rfl; rfl; rfl; rfl; rfl; rfl)); (intro τ hA hQ hN; ((try simp only [agree, Op.operands, Call.operands, go_sem, List.mem_cons, List.not_mem_nil, forall_eq_or_imp, forall_eq, List.append_toArray, Option.toArray] at hA); (try simp only [go_sem, List.mem_cons, List.not_mem_nil, forall_eq_or_imp, forall_eq] at hQ); (first | (revert hA; intro hA) | have hA := trivial); (first | (revert hQ; intro hQ) | have hQ := trivial); simp only [go_sem, hA, hQ, hN]; (repeat (refine ndI (by first | assumption | omega | rfl) ?_)); exact eff_nw _ _ _ _)))); (simp only [St.eff, setO, hputs, go_sem])) | ((with_reducible refine evC_draw ?_ ?_ ?_ ?_); kernel_rfl; kernel_rfl; (first | kernel_rfl | simp [newNames, isNew, St.free, freeH, AV.refsL, AV.refs]); intro R hR))))
    all_goals (refine ⟨by simp, ⟨_, ?_, AV.le_refl _⟩, leH_get (by simp [leH, hget])⟩; simp only [Tryz.results11, resL, ldA, oneOf, go_sem])
    all_goals rfl
  · rw [decide_eq_false h, e h] at s
    rw [decide_eq_true (show owesN w ≤ hasN w by omega), Bool.and_true]
    generalize hasN w - owesN w = m at s ⊢
    generalize hasN w = n1 at *
    generalize owesN w = n2 at *
    generalize rightW w = q at *
    cases q
    all_goals simp only [Bool.false_eq_true, if_false, if_true]
    all_goals (refine fn_of Tryz.func11 rfl (by rfl) ?_; simp only [Tryz.ntmps11, List.length_cons, List.length_nil, Nat.reduceAdd, Nat.reduceSub, List.replicate, List.cons_append, List.nil_append])
    all_goals (repeat (any_goals (first | ((with_reducible refine evL_one ?_ ?_); rfl; intro K hK; simp only [go_sem]; ((repeat (refine ndI (by first | assumption | omega | rfl) ?_)); refine hK _ ?_; clear hK K)) | (with_reducible first | (refine evL_nil ?_; refine hR _ ?_; clear hR R) | ((first | refine evC_seq ?_ | refine evC_block ?_); intro Ψ hΨ hΨ') | (refine evC_region ?_; intro R hR) | (refine hΨ _ ?_; clear hΨ hΨ' Ψ) | refine evC_skip ?_ | refine evC_ret ?_ | refine evC_exit ?_) | ((with_reducible refine hΨ' _ _ ?_ ?_); (focus (simp; done)); clear hΨ hΨ' Ψ) | ((with_reducible apply evL_unmet); rfl; rfl; rfl; (try simp only [go_sem])) | ((with_reducible apply evL_grd); rfl; rfl; rfl; all_goals (intro hb; first | (cases hb; done) | ((try simp only [Bool.not_true, Bool.not_false] at hb); (first | ((with_reducible intro K hK); (first | ((apply opA_callv (f3); rfl; rfl; rfl; rfl; exact Tryz.func34); kernel_rfl; rfl; (focus ((simp only [AV.viewL, AV.view, viewRow, unC, Option.map_some, go_sem]); (try rfl))); rfl) | skip); simp only [go_sem]; ((repeat (refine ndI (by first | assumption | omega | rfl) ?_)); refine hK _ ?_; clear hK K)) | ((fail_if_success (with_reducible intro _)); simp only [go_sem]))))) | ((with_reducible apply evC_cond); rfl; rfl; all_goals (intro hc; first | (cases hc; done) | (try simp only at hc))) | ((with_reducible refine evD_nil ?_ ?_); kernel_rfl; (with_reducible refine hR _ ?_); clear hR R) | ((first | ((with_reducible apply evD_fcall); rfl; rfl; ((first | (apply opF_callB (f1); rfl; rfl; rfl; rfl; exact Tryz.func12) | (apply opF_callB (f2); rfl; rfl; rfl; rfl; exact Tryz.func13) | (apply opF_callB (s); rfl; rfl; rfl; rfl; exact Tryz.func33)); kernel_rfl; rfl; (simp only [go_sem]; rfl); (first | rfl | simp [AV.inNL, AV.inN]))) | ((with_reducible apply evD_any); rfl; rfl; (simp only [rdE, rdOf, go_sem]; rfl); (intro τ hA hQ hN; ((try simp only [agree, Op.operands, Call.operands, go_sem, List.mem_cons, List.not_mem_nil, forall_eq_or_imp, forall_eq, List.append_toArray, Option.toArray] at hA); (try simp only [go_sem, List.mem_cons, List.not_mem_nil, forall_eq_or_imp, forall_eq] at hQ hN); (first | (revert hA; intro hA) | have hA := trivial); (first | (revert hQ; intro hQ) | have hQ := trivial); (first | (revert hN; intro hN) | have hN := trivial); simp only [go_sem, hA, hQ, hN]; (repeat (refine ndI (by first | assumption | omega | rfl) ?_)); (first | apply eff_rd | apply eff_st | apply eff_nw)))) | ((first | ((with_reducible apply evD_new); rfl; rfl; rfl) | ((with_reducible apply evD_grd_new); rfl; rfl; rfl; rfl; rfl; rfl)); (intro τ hA hQ hN; ((try simp only [agree, Op.operands, Call.operands, go_sem, List.mem_cons, List.not_mem_nil, forall_eq_or_imp, forall_eq, List.append_toArray, Option.toArray] at hA); (try simp only [go_sem, List.mem_cons, List.not_mem_nil, forall_eq_or_imp, forall_eq] at hQ); (first | (revert hA; intro hA) | have hA := trivial); (first | (revert hQ; intro hQ) | have hQ := trivial); simp only [go_sem, hA, hQ, hN]; (repeat (refine ndI (by first | assumption | omega | rfl) ?_)); exact eff_nw _ _ _ _)))); (simp only [St.eff, setO, hputs, go_sem])) | ((with_reducible refine evC_draw ?_ ?_ ?_ ?_); kernel_rfl; kernel_rfl; (first | kernel_rfl | simp [newNames, isNew, St.free, freeH, AV.refsL, AV.refs]); intro R hR))))
    all_goals (refine ⟨by simp, ⟨_, ?_, AV.le_refl _⟩, leH_get (by simp [leH, hget])⟩; simp only [Tryz.results11, resL, ldA, oneOf, go_sem])
    all_goals rfl
theorem findP_lt {l : List lg.Hd} (ok : ∀ h ∈ l, h.ok) (a : Int) : (lg.findP l a).p < WW ∧ (lg.findP l a).s < WW := by
  unfold lg.findP
  split
  · exact ⟨by decide, by decide⟩
  · split
    · unfold lg.findH
      split
      · rename_i y hy
        split
        · have := ok y (List.mem_of_getElem? hy)
          exact ⟨this.2.1, this.2.2.1⟩
        · exact ⟨(by decide : 0 < WW), (by decide : 0 < WW)⟩
      · exact ⟨(by decide : 0 < WW), (by decide : 0 < WW)⟩
    · exact ⟨by decide, by decide⟩
theorem wealth_fn (w : Wl) (hw : w.ok) (a : Int) (ua : U a) : Fn Tryz.prog 16 [wlA w, vi .u64 a] [] (wN (wealthN w a)) [] := by
  have f1 := may1_fn false w hw
  have f2 := bal_fn w hw a
  have f3 := lg.findF_fn false w.L (Nat.le_trans hw.l.1 (by decide)) hw.l.2 a
  have lt := findP_lt hw.l.2 a
  have sm := sum_fn false [(OfS w.S a).b, (lg.findP w.L a).p, (lg.findP w.L a).s] (by simp) (fun x hx => by
    simp only [List.mem_cons, List.not_mem_nil, or_false] at hx
    rcases hx with rfl | rfl | rfl
    · exact of_lt hw a ua
    · exact lt.1
    · exact lt.2)
  unfold wealthN
  by_cases h0 : a = 0
  · have k0 : (a == 0) = true := by simpa using h0
    rw [if_pos h0]
    (refine fn_of Tryz.func16 rfl (by rfl) ?_; simp only [Tryz.ntmps16, List.length_cons, List.length_nil, Nat.reduceAdd, Nat.reduceSub, List.replicate, List.cons_append, List.nil_append])
    (repeat (any_goals (first | ((with_reducible refine evL_one ?_ ?_); rfl; intro K hK; simp only [go_sem, k0]; ((repeat (refine ndI (by first | assumption | omega | rfl) ?_)); refine hK _ ?_; clear hK K)) | (with_reducible first | (refine evL_nil ?_; refine hR _ ?_; clear hR R) | ((first | refine evC_seq ?_ | refine evC_block ?_); intro Ψ hΨ hΨ') | (refine evC_region ?_; intro R hR) | (refine hΨ _ ?_; clear hΨ hΨ' Ψ) | refine evC_skip ?_ | refine evC_ret ?_ | refine evC_exit ?_) | ((with_reducible refine hΨ' _ _ ?_ ?_); (focus (simp; done)); clear hΨ hΨ' Ψ) | ((with_reducible apply evL_unmet); rfl; rfl; rfl; (try simp only [go_sem, k0])) | ((with_reducible apply evL_grd); rfl; rfl; rfl; all_goals (intro hb; first | (cases hb; done) | ((try simp only [Bool.not_true, Bool.not_false] at hb); (first | ((with_reducible intro K hK); simp only [go_sem, k0]; ((repeat (refine ndI (by first | assumption | omega | rfl) ?_)); refine hK _ ?_; clear hK K)) | ((fail_if_success (with_reducible intro _)); simp only [go_sem, k0]))))) | ((with_reducible apply evC_cond); rfl; rfl; all_goals (intro hc; first | (cases hc; done) | (try simp only at hc))) | ((with_reducible refine evD_nil ?_ ?_); kernel_rfl; (with_reducible refine hR _ ?_); clear hR R) | ((first | ((with_reducible apply evD_any); rfl; rfl; (simp only [rdE, rdOf, go_sem, k0]; rfl); (intro τ hA hQ hN; ((try simp only [agree, Op.operands, Call.operands, go_sem, k0, go_sem, List.mem_cons, List.not_mem_nil, forall_eq_or_imp, forall_eq, List.append_toArray, Option.toArray] at hA); (try simp only [go_sem, k0, List.mem_cons, List.not_mem_nil, forall_eq_or_imp, forall_eq] at hQ hN); (first | (revert hA; intro hA) | have hA := trivial); (first | (revert hQ; intro hQ) | have hQ := trivial); (first | (revert hN; intro hN) | have hN := trivial); simp only [go_sem, k0, go_sem, hA, hQ, hN]; (repeat (refine ndI (by first | assumption | omega | rfl) ?_)); (first | apply eff_rd | apply eff_st | apply eff_nw)))) | ((first | ((with_reducible apply evD_new); rfl; rfl; rfl) | ((with_reducible apply evD_grd_new); rfl; rfl; rfl; rfl; rfl; rfl)); (intro τ hA hQ hN; ((try simp only [agree, Op.operands, Call.operands, go_sem, k0, go_sem, List.mem_cons, List.not_mem_nil, forall_eq_or_imp, forall_eq, List.append_toArray, Option.toArray] at hA); (try simp only [go_sem, k0, List.mem_cons, List.not_mem_nil, forall_eq_or_imp, forall_eq] at hQ); (first | (revert hA; intro hA) | have hA := trivial); (first | (revert hQ; intro hQ) | have hQ := trivial); simp only [go_sem, k0, go_sem, hA, hQ, hN]; (repeat (refine ndI (by first | assumption | omega | rfl) ?_)); exact eff_nw _ _ _ _)))); (simp only [St.eff, setO, hputs, go_sem, k0])) | ((with_reducible refine evC_draw ?_ ?_ ?_ ?_); kernel_rfl; kernel_rfl; (first | kernel_rfl | simp [newNames, isNew, St.free, freeH, AV.refsL, AV.refs]); intro R hR))))
    all_goals (refine ⟨by simp, ⟨_, ?_, AV.le_refl _⟩, leH_get (by simp [leH, hget])⟩; simp only [Tryz.results16, resL, ldA, oneOf, go_sem])
    all_goals rfl
  have k0 : (a == 0) = false := by simpa using h0
  rw [if_neg h0]
  generalize rightW w = q at *
  cases q with
  | false =>
    simp only [Bool.false_eq_true, if_false]
    (refine fn_of Tryz.func16 rfl (by rfl) ?_; simp only [Tryz.ntmps16, List.length_cons, List.length_nil, Nat.reduceAdd, Nat.reduceSub, List.replicate, List.cons_append, List.nil_append])
    (repeat (any_goals (first | ((with_reducible refine evL_one ?_ ?_); rfl; intro K hK; simp only [go_sem, k0]; ((repeat (refine ndI (by first | assumption | omega | rfl) ?_)); refine hK _ ?_; clear hK K)) | (with_reducible first | (refine evL_nil ?_; refine hR _ ?_; clear hR R) | ((first | refine evC_seq ?_ | refine evC_block ?_); intro Ψ hΨ hΨ') | (refine evC_region ?_; intro R hR) | (refine hΨ _ ?_; clear hΨ hΨ' Ψ) | refine evC_skip ?_ | refine evC_ret ?_ | refine evC_exit ?_) | ((with_reducible refine hΨ' _ _ ?_ ?_); (focus (simp; done)); clear hΨ hΨ' Ψ) | ((with_reducible apply evL_unmet); rfl; rfl; rfl; (try simp only [go_sem, k0])) | ((with_reducible apply evL_grd); rfl; rfl; rfl; all_goals (intro hb; first | (cases hb; done) | ((try simp only [Bool.not_true, Bool.not_false] at hb); (first | ((with_reducible intro K hK); (first | ((apply opA_callv (f1); rfl; rfl; rfl; rfl; exact Tryz.func34); kernel_rfl; rfl; (focus ((simp only [AV.viewL, AV.view, viewRow, unC, Option.map_some, go_sem, k0]); (try rfl))); rfl) | skip); simp only [go_sem, k0]; ((repeat (refine ndI (by first | assumption | omega | rfl) ?_)); refine hK _ ?_; clear hK K)) | ((fail_if_success (with_reducible intro _)); simp only [go_sem, k0]))))) | ((with_reducible apply evC_cond); rfl; rfl; all_goals (intro hc; first | (cases hc; done) | (try simp only at hc))) | ((with_reducible refine evD_nil ?_ ?_); kernel_rfl; (with_reducible refine hR _ ?_); clear hR R) | ((first | ((with_reducible apply evD_any); rfl; rfl; (simp only [rdE, rdOf, go_sem, k0]; rfl); (intro τ hA hQ hN; ((try simp only [agree, Op.operands, Call.operands, go_sem, k0, go_sem, List.mem_cons, List.not_mem_nil, forall_eq_or_imp, forall_eq, List.append_toArray, Option.toArray] at hA); (try simp only [go_sem, k0, List.mem_cons, List.not_mem_nil, forall_eq_or_imp, forall_eq] at hQ hN); (first | (revert hA; intro hA) | have hA := trivial); (first | (revert hQ; intro hQ) | have hQ := trivial); (first | (revert hN; intro hN) | have hN := trivial); simp only [go_sem, k0, go_sem, hA, hQ, hN]; (repeat (refine ndI (by first | assumption | omega | rfl) ?_)); (first | apply eff_rd | apply eff_st | apply eff_nw)))) | ((first | ((with_reducible apply evD_new); rfl; rfl; rfl) | ((with_reducible apply evD_grd_new); rfl; rfl; rfl; rfl; rfl; rfl)); (intro τ hA hQ hN; ((try simp only [agree, Op.operands, Call.operands, go_sem, k0, go_sem, List.mem_cons, List.not_mem_nil, forall_eq_or_imp, forall_eq, List.append_toArray, Option.toArray] at hA); (try simp only [go_sem, k0, List.mem_cons, List.not_mem_nil, forall_eq_or_imp, forall_eq] at hQ); (first | (revert hA; intro hA) | have hA := trivial); (first | (revert hQ; intro hQ) | have hQ := trivial); simp only [go_sem, k0, go_sem, hA, hQ, hN]; (repeat (refine ndI (by first | assumption | omega | rfl) ?_)); exact eff_nw _ _ _ _)))); (simp only [St.eff, setO, hputs, go_sem, k0])) | ((with_reducible refine evC_draw ?_ ?_ ?_ ?_); kernel_rfl; kernel_rfl; (first | kernel_rfl | simp [newNames, isNew, St.free, freeH, AV.refsL, AV.refs]); intro R hR))))
    all_goals (refine ⟨by simp, ⟨_, ?_, AV.le_refl _⟩, leH_get (by simp [leH, hget])⟩; simp only [Tryz.results16, resL, ldA, oneOf, go_sem])
    all_goals rfl
  | true =>
    simp only [if_true]
    generalize [(OfS w.S a).b, (lg.findP w.L a).p, (lg.findP w.L a).s].sum % WW = m at sm ⊢
    generalize decide (WW ≤ [(OfS w.S a).b, (lg.findP w.L a).p, (lg.findP w.L a).s].sum) = qo at sm
    generalize (OfS w.S a).b = n1 at *
    generalize lg.findP w.L a = h at *
    obtain ⟨ha, hp, hs, hd, hf⟩ := h
    dsimp only at *
    unfold wsl wpv at sm
    simp only [List.flatMap_cons, List.flatMap_nil, List.cons_append, List.nil_append, List.length_cons, List.length_nil, Nat.reduceAdd] at sm
    (refine fn_of Tryz.func16 rfl (by rfl) ?_; simp only [Tryz.ntmps16, List.length_cons, List.length_nil, Nat.reduceAdd, Nat.reduceSub, List.replicate, List.cons_append, List.nil_append])
    (repeat (any_goals (first | ((with_reducible refine evL_call ?_ ?_ ?_); rfl; rfl; intro K hK; ((apply opA_callB (f3); rfl; rfl; rfl; rfl; exact Tryz.func40); kernel_rfl; rfl; (simp only [go_sem, k0]; rfl); (first | rfl | simp [AV.inNL, AV.inN])); (simp only [go_sem, k0]; refine hK _ ?_; clear hK K)) | ((with_reducible refine evL_one ?_ ?_); rfl; intro K hK; simp only [go_sem, k0]; ((repeat (refine ndI (by first | assumption | omega | rfl) ?_)); refine hK _ ?_; clear hK K)) | (with_reducible first | (refine evL_nil ?_; refine hR _ ?_; clear hR R) | ((first | refine evC_seq ?_ | refine evC_block ?_); intro Ψ hΨ hΨ') | (refine evC_region ?_; intro R hR) | (refine hΨ _ ?_; clear hΨ hΨ' Ψ) | refine evC_skip ?_ | refine evC_ret ?_ | refine evC_exit ?_) | ((with_reducible refine hΨ' _ _ ?_ ?_); (focus (simp; done)); clear hΨ hΨ' Ψ) | ((with_reducible apply evL_unmet); rfl; rfl; rfl; (try simp only [go_sem, k0])) | ((with_reducible apply evL_grd); rfl; rfl; rfl; all_goals (intro hb; first | (cases hb; done) | ((try simp only [Bool.not_true, Bool.not_false] at hb); (first | ((with_reducible intro K hK); (first | ((apply opA_callv (f1); rfl; rfl; rfl; rfl; exact Tryz.func34); kernel_rfl; rfl; (focus ((simp only [AV.viewL, AV.view, viewRow, unC, Option.map_some, go_sem, k0]); (try rfl))); rfl) | skip); simp only [go_sem, k0]; ((repeat (refine ndI (by first | assumption | omega | rfl) ?_)); refine hK _ ?_; clear hK K)) | ((fail_if_success (with_reducible intro _)); simp only [go_sem, k0]))))) | ((with_reducible apply evC_cond); rfl; rfl; all_goals (intro hc; first | (cases hc; done) | (try simp only at hc))) | ((with_reducible refine evD_nil ?_ ?_); kernel_rfl; (with_reducible refine hR _ ?_); clear hR R) | ((first | ((with_reducible apply evD_fcall); rfl; rfl; (first | ((apply opF_callB (f2); rfl; rfl; rfl; rfl; exact Tryz.func35); kernel_rfl; rfl; (simp only [go_sem, k0]; rfl); (first | rfl | simp [AV.inNL, AV.inN])) | ((apply opF_callv (sm); rfl; rfl; rfl; rfl; exact Tryz.func41); kernel_rfl; rfl; (focus ((simp only [AV.viewL, AV.view, viewRow, unC, Option.map_some, go_sem, k0]); (try rfl))); rfl; (simp only [AV.rowsL, AV.rows, go_sem, k0]; rfl)))) | ((with_reducible apply evD_any); rfl; rfl; (simp only [rdE, rdOf, go_sem, k0]; rfl); (intro τ hA hQ hN; ((try simp only [agree, Op.operands, Call.operands, go_sem, k0, go_sem, List.mem_cons, List.not_mem_nil, forall_eq_or_imp, forall_eq, List.append_toArray, Option.toArray] at hA); (try simp only [go_sem, k0, List.mem_cons, List.not_mem_nil, forall_eq_or_imp, forall_eq] at hQ hN); (first | (revert hA; intro hA) | have hA := trivial); (first | (revert hQ; intro hQ) | have hQ := trivial); (first | (revert hN; intro hN) | have hN := trivial); simp only [go_sem, k0, go_sem, hA, hQ, hN]; (repeat (refine ndI (by first | assumption | omega | rfl) ?_)); (first | apply eff_rd | apply eff_st | apply eff_nw)))) | ((first | ((with_reducible apply evD_new); rfl; rfl; rfl) | ((with_reducible apply evD_grd_new); rfl; rfl; rfl; rfl; rfl; rfl)); (intro τ hA hQ hN; ((try simp only [agree, Op.operands, Call.operands, go_sem, k0, go_sem, List.mem_cons, List.not_mem_nil, forall_eq_or_imp, forall_eq, List.append_toArray, Option.toArray] at hA); (try simp only [go_sem, k0, List.mem_cons, List.not_mem_nil, forall_eq_or_imp, forall_eq] at hQ); (first | (revert hA; intro hA) | have hA := trivial); (first | (revert hQ; intro hQ) | have hQ := trivial); simp only [go_sem, k0, go_sem, hA, hQ, hN]; (repeat (refine ndI (by first | assumption | omega | rfl) ?_)); exact eff_nw _ _ _ _)))); (simp only [St.eff, setO, hputs, go_sem, k0])) | ((with_reducible refine evC_draw ?_ ?_ ?_ ?_); kernel_rfl; kernel_rfl; (first | kernel_rfl | simp [newNames, isNew, St.free, freeH, AV.refsL, AV.refs]); intro R hR))))
    all_goals (refine ⟨by simp, ⟨_, ?_, AV.le_refl _⟩, leH_get (by simp [leH, hget])⟩; simp only [Tryz.results16, resL, ldA, oneOf, go_sem])
end Go.Proofs.YtgdnmdnhkhpieaaGreat
namespace Go.Proofs.YtgdnmdnhkhpieaaGreat
open Go.RowKit
open Nat (reduceBEq)
set_option maxRecDepth 20000
set_option maxHeartbeats 4000000
theorem St.to.cells {σ : St} (r : Nat) {cs ds : List AV} (hr : hget σ.H r = some cs) (hle : leL cs ds) : σ.to ⟨σ.T, hput σ.H r ds⟩ := fun E ι a w hg => by
  refine ⟨ι, ?_⟩
  obtain ⟨hlen0, hle2⟩ := leL_get hle
  have hget' : ∀ q es, hget (hput σ.H r ds) q = some es → (q = r ∧ es = ds) ∨ (q ≠ r ∧ hget σ.H q = some es) := fun q es hq => by
    rw [hget_put] at hq
    split at hq
    · rename_i e; cases hq; exact .inl ⟨e, rfl⟩
    · rename_i e; exact .inr ⟨e, hq⟩
  have hold : ∀ q es, hget (hput σ.H r ds) q = some es → ∃ fs, hget σ.H q = some fs := fun q es hq => by
    rcases hget' q es hq with ⟨rfl, _⟩ | ⟨_, h⟩
    · exact ⟨_, hr⟩
    · exact ⟨_, h⟩
  have hSx : ∀ b, Sx E ι σ.H b → Sx E ι (hput σ.H r ds) b := fun b ⟨g1, g2⟩ => ⟨g1, fun q es hq hz => by
    obtain ⟨fs, hes⟩ := hold q es hq
    exact g2 q fs hes hz⟩
  have hR : ∀ {v : Value} {x : AV}, RV (Sx E ι σ.H) ι w v x → RV (Sx E ι (hput σ.H r ds)) ι w v x := fun hv => hv.mono (fun b hb _ => ⟨hSx b hb, rfl⟩) fun _ _ => rfl
  refine ⟨hg.defers.mono fun b hb _ => ⟨hSx b hb, rfl⟩, hg.size, fun i => hR (hg.tmp i), ⟨fun q es hq => ?_, fun q q' es fs hq hq' => ?_⟩, ⟨hg.keep.os, hg.keep.tape, hg.keep.output, hg.keep.size, hg.keep.block, fun q es hq => ?_⟩⟩
  · rcases hget' q es hq with ⟨rfl, rfl⟩ | ⟨_, h⟩
    · rcases hg.heap.blk q cs hr with ⟨h0, rfl⟩ | ⟨cur, hh, hs, hlen, hcur, hone1⟩
      · exact .inl ⟨h0, List.eq_nil_of_length_eq_zero hlen0.symm⟩
      · refine .inr ⟨cur, hh, hs, by rw [← hlen0]; exact hlen, fun i u x hu hx => ?_, hone1⟩
        have hi : i < cs.length := by rw [hlen0]; exact (List.getElem?_eq_some_iff.1 hx).1
        have hy : cs[i]? = some cs[i] := List.getElem?_eq_getElem hi
        exact ⟨hle2 i _ _ hy hx _ _ _ _ (hR (hcur i u _ hu hy).1), (hcur i u _ hu hy).2⟩
    · rcases hg.heap.blk q es h with h0 | ⟨cur, hh, hs, hlen, hcur, hone1⟩
      · exact .inl h0
      · exact .inr ⟨cur, hh, hs, hlen, fun i u x hu hx => ⟨hR (hcur i u x hu hx).1, (hcur i u x hu hx).2⟩, hone1⟩
  · obtain ⟨ds', h1'⟩ := hold q es hq
    obtain ⟨es', h2'⟩ := hold q' fs hq'
    exact hg.heap.inj q q' ds' es' h1' h2'
  · obtain ⟨ds', h1'⟩ := hold q es hq
    exact hg.keep.mine q ds' h1'
def smW (d : Nat) : Wl := ⟨[⟨1, 9, 0, [], []⟩, ⟨20, 100, 0, [], []⟩], [⟨20, d, 0, 0, 0⟩], []⟩
abbrev nilA : AV := .c (.v (.slice none 0 0))
abbrev smB (d : Nat) : List PV := [.v (.int .u64 20), .v (.int .u64 d), .v (.int .u64 0), .v (.int .u64 0), .v (.int .u64 0), .v (.int .u64 0), .v (.int .u64 0), .v (.int .u64 0), .v (.int .u64 0), .v (.int .u64 0), .v (.int .u64 0)]
theorem small_row (d : Nat) : Fn Tryz.prog 18 [vi .u64 d] [] (.agg [.row 7 57 8 2, .row 12 65 11 1, nilA])
    [(7, [vi .u64 1, vi .u64 9, vi .u64 0, vi .u64 0, vi .u64 0, vi .u64 0, nilA, nilA, vi .u64 20, vi .u64 100, vi .u64 0, vi .u64 0, vi .u64 0, vi .u64 0, nilA, nilA]), (12, (smB d).map .c)] := by
  (refine fn_of Tryz.func18 rfl (by rfl) ?_; simp only [Tryz.ntmps18, List.length_cons, List.length_nil, Nat.reduceAdd, Nat.reduceSub, List.replicate, List.cons_append, List.nil_append])
  (repeat (any_goals (first | ((with_reducible refine evL_one ?_ ?_); rfl; intro K hK; simp only [go_sem]; ((repeat (refine ndI (by first | assumption | omega | rfl) ?_)); refine hK _ ?_; clear hK K)) | (with_reducible first | (refine evL_nil ?_; refine hR _ ?_; clear hR R) | ((first | refine evC_seq ?_ | refine evC_block ?_); intro Ψ hΨ hΨ') | (refine evC_region ?_; intro R hR) | (refine hΨ _ ?_; clear hΨ hΨ' Ψ) | refine evC_skip ?_ | refine evC_ret ?_ | refine evC_exit ?_) | ((with_reducible refine hΨ' _ _ ?_ ?_); (focus (simp; done)); clear hΨ hΨ' Ψ) | ((with_reducible apply evC_cond); rfl; rfl; all_goals (intro hc; first | (cases hc; done) | (try simp only at hc))))))
  all_goals (refine ⟨by simp, ⟨_, ?_, AV.le_refl _⟩, leH_get (by simp [leH, hget])⟩; simp only [Tryz.results18, resL, ldA, oneOf, go_sem])
theorem small_fn (d : Nat) (hd : d < 18446744073709551616) : Fn Tryz.prog 18 [vi .u64 d] [] (wlA (smW d)) [] := by
  have k1 := (small_row d).to (St.to.cells 7 (ds := ((smW d).S.flatMap Ac.pv).map .c) rfl (by
    simp only [smW, List.flatMap_cons, List.flatMap_nil, Ac.pv, List.cons_append, List.nil_append, List.map_cons, List.map_nil, leL]
    exact ⟨AV.le_refl _, AV.le_refl _, AV.le_refl _, AV.le_refl _, AV.le_refl _, AV.le_refl _, AV.le_nil _ _, AV.le_nil _ _, AV.le_refl _, AV.le_refl _, AV.le_refl _, AV.le_refl _, AV.le_refl _, AV.le_refl _, AV.le_nil _ _, AV.le_nil _ _, trivial⟩))
  have k2 := k1.frzN (d := 7) (pcs := (smW d).S.flatMap Ac.pv) rfl
  have e : smB d = (smW d).L.flatMap lg.Hd.pv := by
    have h0 : l0 d = (d : Int) := by unfold l0; rw [Nat.mod_eq_of_lt hd]
    have h1 : l1 d = 0 := by unfold l1; rw [Nat.div_eq_of_lt hd]; rfl
    have h2 : l2 d = 0 := by unfold l2; rw [Nat.div_eq_of_lt hd]; rfl
    have h3 : l3 d = 0 := by unfold l3; rw [Nat.div_eq_of_lt hd]; rfl
    simp [smW, lg.Hd.pv, h0, h1, h2, h3, l0_zero, l1_zero, l2_zero, l3_zero]
  have k3 := k2.frzN (d := 12) (pcs := smB d) rfl
  refine k3.weaken ?_ (fun r cs h => by cases h)
  simp only [AV.frz, AV.frzL, if_true, eq_self, ↓reduceIte, Nat.reduceEqDiff]
  rw [e]
  exact AV.le_agg ⟨AV.le_refl _, AV.le_refl _, AV.le_nil _ _, trivial⟩
theorem smW_ok (d : Nat) (hd : d < WW) : (smW d).ok := by
  have hu : ∀ x : Int, 0 ≤ x → x ≤ 18446744073709551615 → U x := fun x h1 h2 => ⟨h1, h2⟩
  refine ⟨⟨(by decide : 2 ≤ 45), fun x hx => ?_⟩, ⟨(by decide : 1 ≤ 40), fun x hx => ?_⟩, ⟨(by decide : 0 ≤ 70), fun x hx => by cases hx⟩⟩
  · simp only [smW, List.mem_cons, List.not_mem_nil, or_false] at hx
    rcases hx with rfl | rfl
    · exact ⟨⟨hu 1 (by decide) (by decide), (by decide : 9 < WW), hu 0 (by decide) (by decide), ⟨Nat.zero_le _, fun c h => by cases h⟩, Nat.zero_le _, fun p h => by cases h⟩, Nat.zero_le _, Nat.zero_le _⟩
    · exact ⟨⟨hu 20 (by decide) (by decide), (by decide : 100 < WW), hu 0 (by decide) (by decide), ⟨Nat.zero_le _, fun c h => by cases h⟩, Nat.zero_le _, fun p h => by cases h⟩, Nat.zero_le _, Nat.zero_le _⟩
  · simp only [smW, List.mem_cons, List.not_mem_nil, or_false] at hx
    subst hx
    exact ⟨hu 20 (by decide) (by decide), hd, (by decide : 0 < WW), hu 0 (by decide) (by decide), hu 0 (by decide) (by decide)⟩
def smT (a b : Nat) : Tn := ⟨smW a, smW b, [], 0, 0, 0⟩
theorem smT_ok {a b : Nat} (ha : a < WW) (hb : b < WW) : (smT a b).ok := ⟨smW_ok a ha, smW_ok b hb, ⟨Nat.zero_le _, fun x h => by cases h⟩, ⟨Int.le_refl 0, by show (0 : Int) ≤ _; decide⟩, (by decide : 0 < WW), (by decide : 0 < WW)⟩
abbrev i0 : AV := .c (.v (.int .u64 0))
theorem smJ (a b : Nat) (ha : a < WW) (hb : b < WW) (n : Int) (hn : jdN (smT a b) = n) (he : jdE (smT a b) = 0) : Fn Tryz.prog 19 [.agg [.c (acV (smW a).S), .c (hdV (smW a).L), .c (noV (smW a).N), .c (acV (smW b).S), .c (hdV (smW b).L), .c (noV (smW b).N), nilA, i0, i0, i0, i0, i0, i0, i0, i0, i0]] [] (.tup [vi .i64 n, vi .i64 0]) [] := by
  have h := judge_fn (smT a b) (smT_ok ha hb)
  rw [hn, he] at h
  unfold tnA smT at h
  simp only [l0_zero, l1_zero, l2_zero, l3_zero] at h
  exact h.args ⟨AV.le_agg ⟨AV.le_refl _, AV.le_refl _, AV.le_refl _, AV.le_refl _, AV.le_refl _, AV.le_refl _, AV.le_nil _ _, AV.le_refl _, AV.le_refl _, AV.le_refl _, AV.le_refl _, AV.le_refl _, AV.le_refl _, AV.le_refl _, AV.le_refl _, AV.le_refl _, trivial⟩, trivial⟩
abbrev c4W (x : Int) : AV := .agg [vi .u64 x, vi .u64 0, vi .u64 0, vi .u64 0]
theorem wakesI_fn : Fn Tryz.prog 4 [] [] (vb true) [] := by
  have s7 := small_fn 7 (by decide)
  have s8 := small_fn 8 (by decide)
  have g1 : Fn Tryz.prog 11 [wlA (smW 7)] [] (.tup [c4W 2, vb true]) [] := by
    have h := excess_fn (smW 7) (smW_ok 7 (by decide))
    rw [show exN (smW 7) = 2 by kernel_rfl, show exB (smW 7) = true by kernel_rfl] at h
    exact h
  have g2 := smJ 7 8 (by decide) (by decide) 1 (by kernel_rfl) (by kernel_rfl)
  have g3 := smJ 8 7 (by decide) (by decide) 0 (by kernel_rfl) (by kernel_rfl)
  have g4 : Fn Tryz.prog 16 [wlA (smW 7), vi .u64 20] [] (c4W 107) [] := by
    have h := wealth_fn (smW 7) (smW_ok 7 (by decide)) 20 ⟨by decide, by decide⟩
    rw [show wealthN (smW 7) 20 = 107 by kernel_rfl] at h
    exact h
  have g5 : Fn Tryz.prog 14 [wlA (smW 7)] [] (c4W 109) [] := by
    have h := supply_fn (smW 7) (smW_ok 7 (by decide))
    rw [show supplyN (smW 7) = 109 by kernel_rfl] at h
    exact h
  generalize smW 7 = a1 at *
  generalize smW 8 = a2 at *
  (refine fn_of Tryz.func4 rfl (by rfl) ?_; simp only [Tryz.ntmps4, List.length_cons, List.length_nil, Nat.reduceAdd, Nat.reduceSub, List.replicate, List.cons_append, List.nil_append])
  (repeat (any_goals (first | ((with_reducible refine evL_call ?_ ?_ ?_); rfl; rfl; intro K hK; (first | ((apply opA_callB (g1); rfl; rfl; rfl; rfl; exact Tryz.func11); kernel_rfl; rfl; (simp only [go_sem]; rfl); (first | rfl | simp [AV.inNL, AV.inN])) | ((apply opA_callB (s7); rfl; rfl; rfl; rfl; exact Tryz.func18); kernel_rfl; rfl; (simp only [go_sem]; rfl); (first | rfl | simp [AV.inNL, AV.inN])) | ((apply opA_callB (s8); rfl; rfl; rfl; rfl; exact Tryz.func18); kernel_rfl; rfl; (simp only [go_sem]; rfl); (first | rfl | simp [AV.inNL, AV.inN])) | ((apply opA_callB (g2); rfl; rfl; rfl; rfl; exact Tryz.func19); kernel_rfl; rfl; (simp only [go_sem]; rfl); (first | rfl | simp [AV.inNL, AV.inN])) | ((apply opA_callB (g3); rfl; rfl; rfl; rfl; exact Tryz.func19); kernel_rfl; rfl; (simp only [go_sem]; rfl); (first | rfl | simp [AV.inNL, AV.inN]))); (simp only [go_sem]; refine hK _ ?_; clear hK K)) | ((with_reducible refine evL_one ?_ ?_); rfl; intro K hK; simp only [go_sem]; ((repeat (refine ndI (by first | assumption | omega | rfl) ?_)); refine hK _ ?_; clear hK K)) | (with_reducible first | (refine evL_nil ?_; refine hR _ ?_; clear hR R) | ((first | refine evC_seq ?_ | refine evC_block ?_); intro Ψ hΨ hΨ') | (refine evC_region ?_; intro R hR) | (refine hΨ _ ?_; clear hΨ hΨ' Ψ) | refine evC_skip ?_ | refine evC_ret ?_ | refine evC_exit ?_) | ((with_reducible refine hΨ' _ _ ?_ ?_); (focus (simp; done)); clear hΨ hΨ' Ψ) | ((with_reducible apply evL_unmet); rfl; rfl; rfl; (try simp only [go_sem])) | ((with_reducible apply evL_grd); rfl; rfl; rfl; all_goals (intro hb; first | (cases hb; done) | ((try simp only [Bool.not_true, Bool.not_false] at hb); (first | ((with_reducible intro K hK); (first | ((first | (apply opA_callB (g4); rfl; rfl; rfl; rfl; exact Tryz.func16) | (apply opA_callB (g5); rfl; rfl; rfl; rfl; exact Tryz.func14)); kernel_rfl; rfl; (simp only [go_sem]; rfl); (first | rfl | simp [AV.inNL, AV.inN])) | ((apply opA_callB (s7); rfl; rfl; rfl; rfl; exact Tryz.func18); kernel_rfl; rfl; (simp only [go_sem]; rfl); (first | rfl | simp [AV.inNL, AV.inN])) | ((apply opA_callB (s8); rfl; rfl; rfl; rfl; exact Tryz.func18); kernel_rfl; rfl; (simp only [go_sem]; rfl); (first | rfl | simp [AV.inNL, AV.inN])) | skip); simp only [go_sem]; ((repeat (refine ndI (by first | assumption | omega | rfl) ?_)); refine hK _ ?_; clear hK K)) | ((fail_if_success (with_reducible intro _)); simp only [go_sem]))))) | ((with_reducible apply evC_cond); rfl; rfl; all_goals (intro hc; first | (cases hc; done) | (try simp only at hc))))))
  all_goals (refine ⟨by simp, ⟨_, ?_, AV.le_refl _⟩, leH_get (by simp [leH, hget])⟩; simp only [Tryz.results4, resL, ldA, oneOf, go_sem])
end Go.Proofs.YtgdnmdnhkhpieaaGreat
namespace Go.Proofs.YtgdnmdnhkhpieaaGreat
open Go.RowKit
set_option maxRecDepth 20000
set_option maxHeartbeats 4000000
theorem decVH : DecV Tryz.prog 65 11 lg.Hd.pv lg.Hd.ok :=
  (decV_struct (sz := 1 + (4 + (4 + (1 + 1)))) Tryz.underlying65 (by kernel_rfl) (decF_cons decV_addr rfl (decF_cons decV_word rfl (decF_cons decV_word rfl (decF_cons decV_num rfl (decF_one decV_num rfl)))))).map fun x hx => ⟨⟨x.1, x.2.1, x.2.2.1, x.2.2.2.1, x.2.2.2.2⟩, rfl, hx⟩
theorem decVHs : DecV Tryz.prog 25 1 (fun l : List lg.Hd => [hdV l]) (fun l => l.length ≤ maxLen ∧ ∀ h ∈ l, h.ok) :=
  decV_slice Tryz.underlying25 (by kernel_rfl) decVH (by omega) lg.hd_len
theorem decVL : DecV Tryz.prog 27 1 (fun l : List lg.Hd => [hdV l]) (fun l => l.length ≤ maxLen ∧ ∀ h ∈ l, h.ok) :=
  decV_struct Tryz.underlying27 (by kernel_rfl) (decF_one decVHs rfl)
theorem decVS : DecV Tryz.prog 24 1 (fun l : List Ac => [acV l]) (fun l => l.length ≤ maxLen ∧ ∀ h ∈ l, h.ok) :=
  decV_struct Tryz.underlying24 (by kernel_rfl) (decF_one decV_accounts rfl)
theorem decVN : DecV Tryz.prog 68 6 nz.N6.pv nz.N6.ok :=
  (decV_triple (s0 := 1) (s1 := 4) (s2 := 1) Tryz.underlying68 (by kernel_rfl) (decV_u64 Tryz.underlying42 (by kernel_rfl)) (decV_w4 Tryz.underlying37 (by kernel_rfl) Tryz.underlying35 (by kernel_rfl)) (decV_u64 Tryz.underlying35 (by kernel_rfl)) rfl rfl rfl).map
    fun v ⟨h1, ⟨h2, h3, h4, h5⟩, h6⟩ => ⟨⟨v.1, v.2.1.1, v.2.1.2.1, v.2.1.2.2.1, v.2.1.2.2.2, v.2.2⟩, rfl, h1, h2, h3, h4, h5, h6⟩
theorem decVNs : DecV Tryz.prog 28 1 (fun l : List nz.N6 => [noV l]) (fun l => l.length ≤ maxLen ∧ ∀ n ∈ l, n.ok) :=
  decV_slice Tryz.underlying28 (by kernel_rfl) decVN (by omega) (fun _ => rfl)
theorem decVW : DecV Tryz.prog 30 3 Wl.pv Wl.raw :=
  (decV_struct (sz := 1 + (1 + 1)) Tryz.underlying30 (by kernel_rfl) (decF_cons decVS rfl (decF_cons decVL rfl (decF_one decVNs rfl)))).map fun x hx => ⟨⟨x.1, x.2.1, x.2.2⟩, rfl, hx.1, hx.2.1, hx.2.2⟩
end Go.Proofs.YtgdnmdnhkhpieaaGreat
namespace Go.Proofs.YtgdnmdnhkhpieaaGreat.lg
open Go.RowKit
set_option maxRecDepth 20000
set_option maxHeartbeats 2000000
instance decHd : DecidableEq Hd := fun y z => decidable_of_iff (y.a = z.a ∧ y.p = z.p ∧ y.s = z.s ∧ y.d = z.d ∧ y.f = z.f) (by cases y; cases z; simp)
def m1 : List Hd := [⟨20, 7, 0, 0, 0⟩]
def m2 : List Hd := [⟨20, 7, 5, 100, 0⟩]
theorem u0 {x : Int} (h0 : 0 ≤ x) (h : x ≤ 18446744073709551615) : U x := ⟨h0, h⟩
end Go.Proofs.YtgdnmdnhkhpieaaGreat.lg
namespace Go.Proofs.YtgdnmdnhkhpieaaGreat.lg
open Go.RowKit
set_option maxRecDepth 20000
set_option maxHeartbeats 2000000
theorem hd_eq {y z : Hd} (hy : y.ok) (hz : z.ok) : y = z ↔ (y.a = z.a ∧ l0 y.p = l0 z.p ∧ l1 y.p = l1 z.p ∧ l2 y.p = l2 z.p ∧ l3 y.p = l3 z.p ∧ l0 y.s = l0 z.s ∧ l1 y.s = l1 z.s ∧ l2 y.s = l2 z.s ∧ l3 y.s = l3 z.s ∧ y.d = z.d ∧ y.f = z.f) := by
  constructor
  · rintro rfl
    simp
  · rintro ⟨h0, h1, h2, h3, h4, h5, h6, h7, h8, h9, h10⟩
    have e1 := wN_inj hy.2.1 hz.2.1 h1 h2 h3 h4
    have e2 := wN_inj hy.2.2.1 hz.2.2.1 h5 h6 h7 h8
    cases y; cases z
    simp_all
end Go.Proofs.YtgdnmdnhkhpieaaGreat.lg
namespace Go.Proofs.YtgdnmdnhkhpieaaGreat.lg
open Go.RowKit
open Nat (reduceBEq)
set_option maxRecDepth 20000
set_option maxHeartbeats 2000000
def fdH (l : List Hd) (a : Int) : Hd := (l.find? fun h => decide (h.a = a)).getD (zH a)
theorem fdH_eq {l : List Hd} (hs : srt l) (a : Int) : fdH l a = findH l a := by
  obtain ⟨A, o, B, rfl, hA, ho, hB, _, hf, _⟩ := cutA hs a
  rw [hf]
  unfold fdH
  have h1 : A.find? (fun h => decide (h.a = a)) = none := by
    rw [List.find?_eq_none]; intro x hx; have := hA x hx; simp; omega
  have h2 : B.find? (fun h => decide (h.a = a)) = none := by
    rw [List.find?_eq_none]; intro x hx; have := hB x hx; simp; omega
  rw [List.find?_append, h1]
  cases o with
  | none => simp [h2]
  | some y => simp [ho y rfl]
theorem reffind_fn (ex : Bool) (l : List Hd) (hl : l.length ≤ 1000) (a : Int) : Fn Tryz.prog 38 [lg ex l, vi .u64 a] [] (hA (fdH l a)) [] := by
  obtain ⟨r, hr⟩ : ∃ r, fdH l a = r := ⟨_, rfl⟩
  rw [hr]
  (refine fn_of Tryz.func38 rfl (by rfl) ?_; simp only [Tryz.ntmps38, List.length_cons, List.length_nil, Nat.reduceAdd, Nat.reduceSub, List.replicate, List.cons_append, List.nil_append])
  (repeat (any_goals (first | ((with_reducible refine evL_one ?_ ?_); rfl; intro K hK; simp only [go_sem]; ((repeat (refine ndI (by first | assumption | omega | rfl) ?_)); refine hK _ ?_; clear hK K)) | (with_reducible first | (refine evL_nil ?_; refine hR _ ?_; clear hR R) | ((first | refine evC_seq ?_ | refine evC_block ?_); intro Ψ hΨ hΨ') | (refine evC_region ?_; intro R hR) | (refine hΨ _ ?_; clear hΨ hΨ' Ψ) | refine evC_skip ?_ | refine evC_ret ?_ | refine evC_exit ?_) | ((with_reducible refine hΨ' _ _ ?_ ?_); (focus (simp; done)); clear hΨ hΨ' Ψ) | ((with_reducible apply evC_cond); rfl; rfl; all_goals (intro hc; first | (cases hc; done) | (try simp only at hc))))))
  refine evC_loop (α := { i : Nat // i ≤ l.length ∧ fdH (l.drop i) a = r }) (fun x => ⟨[.any, vi .u64 a, .ptr 2 0, .any, .ptr 4 0, vi .i64 (x.1 : Int), .any, .any, .any, .any, .any, .any, .any, .any, .any, .any, .any, .any, .any, .any, .any, .any, .any, .any, .any, .any, .any, .any], [(2, [hsl ex l]), (4, c11 0 0 0 0 0)]⟩) (fun x => l.length - x.1) ⟨0, Nat.zero_le _, hr⟩ (St.le_of (by simp [leT]) (by simp [leH, hget, l0_zero, l1_zero, l2_zero, l3_zero])) ?_
  rintro ⟨i, hi, hok⟩ Ψ hΨ hΨ'
  (try dsimp only at hΨ hok ⊢)
  have k7 : (i : Int) + 1 = ((i + 1 : Nat) : Int) := by omega
  rcases Nat.lt_or_ge i l.length with hlt | hge
  · obtain ⟨x, hx⟩ : ∃ x, l[i]? = some x := ⟨_, List.getElem?_eq_getElem hlt⟩
    have k1 : (decide ((i : Int) < (l.length : Int))) = true := decide_eq_true (by omega)
    have k2 := hsl_at hx
    have hd : fdH (l.drop i) a = if x.a = a then x else fdH (l.drop (i + 1)) a := by
      obtain ⟨h, rfl⟩ := List.getElem?_eq_some_iff.1 hx
      unfold fdH
      rw [List.drop_eq_getElem_cons h, List.find?_cons]
      by_cases e : l[i].a = a <;> simp [e]
    rw [hd] at hok
    by_cases he : x.a = a
    · rw [if_pos he] at hok
      have k3 : (x.a == a) = true := by simpa using he
      (have W := ndI k1 (ndI k2 k3); (repeat (any_goals (first | ((with_reducible refine evL_one ?_ ?_); rfl; intro K hK; simp only [go_sem, W]; ((repeat (refine ndI (by first | assumption | omega | rfl) ?_)); refine hK _ ?_; clear hK K)) | (with_reducible first | (refine evL_nil ?_; refine hR _ ?_; clear hR R) | ((first | refine evC_seq ?_ | refine evC_block ?_); intro Ψ hΨ hΨ') | (refine evC_region ?_; intro R hR) | (refine hΨ _ ?_; clear hΨ hΨ' Ψ) | refine evC_skip ?_ | refine evC_ret ?_ | refine evC_exit ?_) | ((with_reducible refine hΨ' _ _ ?_ ?_); (focus (simp; done)); clear hΨ hΨ' Ψ) | ((with_reducible apply evC_cond); rfl; rfl; all_goals (intro hc; first | (cases hc; done) | (try simp only at hc)))))))
      all_goals rw [← hok]
      all_goals (refine ⟨by simp, ⟨_, ?_, AV.le_refl _⟩, leH_get (by simp [leH, hget])⟩; simp only [Tryz.results38, resL, ldA, oneOf, go_sem])
    · rw [if_neg he] at hok
      have k3 : (x.a == a) = false := by simpa using he
      (have W := ndI k1 (ndI k2 (ndI k3 (ndI k7 @wrI))); (repeat (any_goals (first | ((with_reducible refine evL_one ?_ ?_); rfl; intro K hK; simp (disch := omega) only [go_sem, W]; ((repeat (refine ndI (by first | assumption | omega | rfl) ?_)); refine hK _ ?_; clear hK K)) | (with_reducible first | (refine evL_nil ?_; refine hR _ ?_; clear hR R) | ((first | refine evC_seq ?_ | refine evC_block ?_); intro Ψ hΨ hΨ') | (refine evC_region ?_; intro R hR) | (refine hΨ _ ?_; clear hΨ hΨ' Ψ) | refine evC_skip ?_ | refine evC_ret ?_ | refine evC_exit ?_) | ((with_reducible refine hΨ' _ _ ?_ ?_); (focus (simp; done)); clear hΨ hΨ' Ψ) | ((with_reducible apply evC_cond); rfl; rfl; all_goals (intro hc; first | (cases hc; done) | (try simp only at hc)))))))
      exact hΨ _ ⟨i + 1, hlt, hok⟩ (by dsimp only; omega) (St.le_of (by simp [leT]) (by simp [leH, hget]))
  · have k1 : (decide ((i : Int) < (l.length : Int))) = false := decide_eq_false (by omega)
    rw [List.drop_eq_nil_of_le hge] at hok
    have e : r = ⟨a, 0, 0, 0, 0⟩ := hok.symm
    (repeat (any_goals (first | ((with_reducible refine evL_one ?_ ?_); rfl; intro K hK; simp only [go_sem, k1]; ((repeat (refine ndI (by first | assumption | omega | rfl) ?_)); refine hK _ ?_; clear hK K)) | (with_reducible first | (refine evL_nil ?_; refine hR _ ?_; clear hR R) | ((first | refine evC_seq ?_ | refine evC_block ?_); intro Ψ hΨ hΨ') | (refine evC_region ?_; intro R hR) | (refine hΨ _ ?_; clear hΨ hΨ' Ψ) | refine evC_skip ?_ | refine evC_ret ?_ | refine evC_exit ?_) | ((with_reducible refine hΨ' _ _ ?_ ?_); (focus (simp; done)); clear hΨ hΨ' Ψ) | ((with_reducible apply evC_cond); rfl; rfl; all_goals (intro hc; first | (cases hc; done) | (try simp only at hc))))))
    all_goals rw [e]
    all_goals (refine ⟨by simp, ⟨_, ?_, AV.le_refl _⟩, leH_get (by simp [leH, hget])⟩; simp only [Tryz.results38, resL, ldA, oneOf, go_sem])
    all_goals simp only [hA, h11, c11, l0_zero, l1_zero, l2_zero, l3_zero]
theorem refsame_fn (ex ex' : Bool) (l m : List Hd) (hl : l.length ≤ 4611686018427387904) (okl : ∀ h ∈ l, h.ok) (okm : ∀ h ∈ m, h.ok) : Fn Tryz.prog 43 [lg ex l, lg ex' m] [] (vb (decide (l = m))) [] := by
  by_cases hlen : l.length = m.length
  · have e0 : ((l.length : Int) != (m.length : Int)) = false := by simp [hlen]
    (refine fn_of Tryz.func43 rfl (by rfl) ?_; simp only [Tryz.ntmps43, List.length_cons, List.length_nil, Nat.reduceAdd, Nat.reduceSub, List.replicate, List.cons_append, List.nil_append])
    (repeat (any_goals (first | ((with_reducible refine evL_one ?_ ?_); rfl; intro K hK; simp only [go_sem, e0]; ((repeat (refine ndI (by first | assumption | omega | rfl) ?_)); refine hK _ ?_; clear hK K)) | (with_reducible first | (refine evL_nil ?_; refine hR _ ?_; clear hR R) | ((first | refine evC_seq ?_ | refine evC_block ?_); intro Ψ hΨ hΨ') | (refine evC_region ?_; intro R hR) | (refine hΨ _ ?_; clear hΨ hΨ' Ψ) | refine evC_skip ?_ | refine evC_ret ?_ | refine evC_exit ?_) | ((with_reducible refine hΨ' _ _ ?_ ?_); (focus (simp; done)); clear hΨ hΨ' Ψ) | ((with_reducible apply evC_cond); rfl; rfl; all_goals (intro hc; first | (cases hc; done) | (try simp only at hc))) | ((with_reducible refine evD_nil ?_ ?_); kernel_rfl; (with_reducible refine hR _ ?_); clear hR R) | (((with_reducible apply evD_any); rfl; rfl; (simp only [rdE, rdOf, go_sem, e0]; rfl); (intro τ hA hQ hN; ((try simp only [agree, Op.operands, Call.operands, go_sem, e0, go_sem, List.mem_cons, List.not_mem_nil, forall_eq_or_imp, forall_eq, List.append_toArray, Option.toArray] at hA); (try simp only [go_sem, e0, List.mem_cons, List.not_mem_nil, forall_eq_or_imp, forall_eq] at hQ hN); (first | (revert hA; intro hA) | have hA := trivial); (first | (revert hQ; intro hQ) | have hQ := trivial); (first | (revert hN; intro hN) | have hN := trivial); simp only [go_sem, e0, go_sem, hA, hQ, hN]; (repeat (refine ndI (by first | assumption | omega | rfl) ?_)); (first | apply eff_rd | apply eff_st | apply eff_nw)))); (simp only [St.eff, setO, hputs, go_sem, e0])) | ((with_reducible refine evC_draw ?_ ?_ ?_ ?_); kernel_rfl; kernel_rfl; (first | kernel_rfl | simp [newNames, isNew, St.free, freeH, AV.refsL, AV.refs]); intro R hR))))
    refine evC_loop (α := { i : Nat // i ≤ l.length ∧ ∀ j, j < i → l[j]? = m[j]? }) (fun p => ⟨[.any, .any, .ptr 2 0, .ptr 3 0, vb false, vi .i64 p.1, .any, .any, .any, .any, .any, .any, .any, .any, .any, .any, .any, .any, .any, .any, .any, .any, .any, .any, .any, .any, .any, .any, .any, .any, .any], [(2, [hsl ex l]), (3, [hsl ex' m])]⟩) (fun p => l.length - p.1) ⟨0, Nat.zero_le _, fun j hj => by omega⟩ (St.le_of (by simp [leT]) (by simp [leH, hget])) ?_
    rintro ⟨i, hi, hno⟩ Ψ hΨ hΨ'
    dsimp only at hΨ ⊢
    rcases Nat.lt_or_ge i l.length with hlt | hge
    · obtain ⟨y, hy⟩ : ∃ y, l[i]? = some y := ⟨l[i], List.getElem?_eq_getElem hlt⟩
      obtain ⟨z, hz⟩ : ∃ z, m[i]? = some z := ⟨m[i]'(by omega), List.getElem?_eq_getElem (by omega)⟩
      have e1 : (decide ((i : Int) < (l.length : Int))) = true := by simpa using hlt
      have e2 := hsl_at hy
      have e3 := hsl_at hz
      have e5 : i < m.length := by omega
      have e7 : (i : Int) + 1 = ((i + 1 : Nat) : Int) := by omega
      have hnx : y = z → ∀ j, j < i + 1 → l[j]? = m[j]? := fun h j hj => by
        rcases Nat.lt_or_ge j i with h' | h'
        · exact hno j h'
        · obtain rfl : j = i := by omega
          rw [hy, hz, h]
      have hne : y ≠ z → decide (l = m) = false := fun h => by
        rw [decide_eq_false_iff_not]
        intro e
        rw [e, hz] at hy
        cases hy; exact h rfl
      have hyz := hd_eq (okl y (List.mem_of_getElem? hy)) (okm z (List.mem_of_getElem? hz))
      (have W := ndI e1 (ndI e2 (ndI e3 (ndI e7 @wrI))); (repeat (any_goals (first | ((with_reducible refine evL_one ?_ ?_); rfl; intro K hK; simp (disch := omega) only [go_sem, W]; ((repeat (refine ndI (by first | assumption | omega | rfl) ?_)); refine hK _ ?_; clear hK K)) | (with_reducible first | (refine evL_nil ?_; refine hR _ ?_; clear hR R) | ((first | refine evC_seq ?_ | refine evC_block ?_); intro Ψ hΨ hΨ') | (refine evC_region ?_; intro R hR) | (refine hΨ _ ?_; clear hΨ hΨ' Ψ) | refine evC_skip ?_ | refine evC_ret ?_ | refine evC_exit ?_) | ((with_reducible refine hΨ' _ _ ?_ ?_); (focus (simp; done)); clear hΨ hΨ' Ψ) | ((with_reducible apply evC_cond); rfl; rfl; all_goals (intro hc; first | (cases hc; done) | (try simp only at hc))) | ((with_reducible refine evD_nil ?_ ?_); kernel_rfl; (with_reducible refine hR _ ?_); clear hR R) | (((with_reducible apply evD_any); rfl; rfl; (simp (disch := omega) only [rdE, rdOf, go_sem, W]; rfl); (intro τ hA hQ hN; ((try simp only [agree, Op.operands, Call.operands, go_sem, W, go_sem, List.mem_cons, List.not_mem_nil, forall_eq_or_imp, forall_eq, List.append_toArray, Option.toArray] at hA); (try simp only [go_sem, W, List.mem_cons, List.not_mem_nil, forall_eq_or_imp, forall_eq] at hQ hN); (first | (revert hA; intro hA) | have hA := trivial); (first | (revert hQ; intro hQ) | have hQ := trivial); (first | (revert hN; intro hN) | have hN := trivial); simp (disch := omega) only [go_sem, W, go_sem, hA, hQ, hN]; (repeat (refine ndI (by first | assumption | omega | rfl) ?_)); (first | apply eff_rd | apply eff_st | apply eff_nw)))); (simp (disch := omega) only [St.eff, setO, hputs, go_sem, W])) | ((with_reducible refine evC_draw ?_ ?_ ?_ ?_); kernel_rfl; kernel_rfl; (first | kernel_rfl | simp [newNames, isNew, St.free, freeH, AV.refsL, AV.refs]); intro R hR)))))
      · (refine ⟨by simp, ⟨_, ?_, AV.le_refl _⟩, leH_get (by simp [leH, hget])⟩; simp only [Tryz.results43, resL, ldA, oneOf, go_sem])
        rw [hne]
        rw [Ne, hyz]
        rintro ⟨m1, m2, m3, m4, m5, m6, m7, m8, m9, m10, m11⟩
        simp [m1, m2, m3, m4, m5, m6, m7, m8, m9, m10, m11] at hc
      · refine hΨ _ ⟨i + 1, hlt, hnx ?_⟩ (by simp only; omega) (St.le_of (by simp [leT]) (by simp [leH, hget]))
        rw [hyz]
        clear hyz hne hnx hno hΨ
        simpa using hc
    · have e1 : (decide ((i : Int) < (l.length : Int))) = false := by simpa using hge
      have he : decide (l = m) = true := by
        rw [decide_eq_true_iff]
        refine List.ext_getElem? fun j => ?_
        rcases Nat.lt_or_ge j l.length with h | h
        · exact hno j (by omega)
        · rw [List.getElem?_eq_none h, List.getElem?_eq_none (by omega)]
      (repeat (any_goals (first | ((with_reducible refine evL_one ?_ ?_); rfl; intro K hK; simp only [go_sem, e1]; ((repeat (refine ndI (by first | assumption | omega | rfl) ?_)); refine hK _ ?_; clear hK K)) | (with_reducible first | (refine evL_nil ?_; refine hR _ ?_; clear hR R) | ((first | refine evC_seq ?_ | refine evC_block ?_); intro Ψ hΨ hΨ') | (refine evC_region ?_; intro R hR) | (refine hΨ _ ?_; clear hΨ hΨ' Ψ) | refine evC_skip ?_ | refine evC_ret ?_ | refine evC_exit ?_) | ((with_reducible refine hΨ' _ _ ?_ ?_); (focus (simp; done)); clear hΨ hΨ' Ψ) | ((with_reducible apply evC_cond); rfl; rfl; all_goals (intro hc; first | (cases hc; done) | (try simp only at hc))) | ((with_reducible refine evD_nil ?_ ?_); kernel_rfl; (with_reducible refine hR _ ?_); clear hR R) | (((with_reducible apply evD_any); rfl; rfl; (simp only [rdE, rdOf, go_sem, e1]; rfl); (intro τ hA hQ hN; ((try simp only [agree, Op.operands, Call.operands, go_sem, e1, go_sem, List.mem_cons, List.not_mem_nil, forall_eq_or_imp, forall_eq, List.append_toArray, Option.toArray] at hA); (try simp only [go_sem, e1, List.mem_cons, List.not_mem_nil, forall_eq_or_imp, forall_eq] at hQ hN); (first | (revert hA; intro hA) | have hA := trivial); (first | (revert hQ; intro hQ) | have hQ := trivial); (first | (revert hN; intro hN) | have hN := trivial); simp only [go_sem, e1, go_sem, hA, hQ, hN]; (repeat (refine ndI (by first | assumption | omega | rfl) ?_)); (first | apply eff_rd | apply eff_st | apply eff_nw)))); (simp only [St.eff, setO, hputs, go_sem, e1])) | ((with_reducible refine evC_draw ?_ ?_ ?_ ?_); kernel_rfl; kernel_rfl; (first | kernel_rfl | simp [newNames, isNew, St.free, freeH, AV.refsL, AV.refs]); intro R hR))))
      all_goals (refine ⟨by simp, ⟨_, ?_, AV.le_refl _⟩, leH_get (by simp [leH, hget])⟩; simp only [Tryz.results43, resL, ldA, oneOf, go_sem])
      all_goals rw [he]
  · have e0 : ((l.length : Int) != (m.length : Int)) = true := by simp; omega
    have he : decide (l = m) = false := by rw [decide_eq_false_iff_not]; intro e; exact hlen (by rw [e])
    (refine fn_of Tryz.func43 rfl (by rfl) ?_; simp only [Tryz.ntmps43, List.length_cons, List.length_nil, Nat.reduceAdd, Nat.reduceSub, List.replicate, List.cons_append, List.nil_append])
    (repeat (any_goals (first | ((with_reducible refine evL_one ?_ ?_); rfl; intro K hK; simp only [go_sem, e0]; ((repeat (refine ndI (by first | assumption | omega | rfl) ?_)); refine hK _ ?_; clear hK K)) | (with_reducible first | (refine evL_nil ?_; refine hR _ ?_; clear hR R) | ((first | refine evC_seq ?_ | refine evC_block ?_); intro Ψ hΨ hΨ') | (refine evC_region ?_; intro R hR) | (refine hΨ _ ?_; clear hΨ hΨ' Ψ) | refine evC_skip ?_ | refine evC_ret ?_ | refine evC_exit ?_) | ((with_reducible refine hΨ' _ _ ?_ ?_); (focus (simp; done)); clear hΨ hΨ' Ψ) | ((with_reducible apply evC_cond); rfl; rfl; all_goals (intro hc; first | (cases hc; done) | (try simp only at hc))) | ((with_reducible refine evD_nil ?_ ?_); kernel_rfl; (with_reducible refine hR _ ?_); clear hR R) | (((with_reducible apply evD_any); rfl; rfl; (simp only [rdE, rdOf, go_sem, e0]; rfl); (intro τ hA hQ hN; ((try simp only [agree, Op.operands, Call.operands, go_sem, e0, go_sem, List.mem_cons, List.not_mem_nil, forall_eq_or_imp, forall_eq, List.append_toArray, Option.toArray] at hA); (try simp only [go_sem, e0, List.mem_cons, List.not_mem_nil, forall_eq_or_imp, forall_eq] at hQ hN); (first | (revert hA; intro hA) | have hA := trivial); (first | (revert hQ; intro hQ) | have hQ := trivial); (first | (revert hN; intro hN) | have hN := trivial); simp only [go_sem, e0, go_sem, hA, hQ, hN]; (repeat (refine ndI (by first | assumption | omega | rfl) ?_)); (first | apply eff_rd | apply eff_st | apply eff_nw)))); (simp only [St.eff, setO, hputs, go_sem, e0])) | ((with_reducible refine evC_draw ?_ ?_ ?_ ?_); kernel_rfl; kernel_rfl; (first | kernel_rfl | simp [newNames, isNew, St.free, freeH, AV.refsL, AV.refs]); intro R hR))))
    all_goals (refine ⟨by simp, ⟨_, ?_, AV.le_refl _⟩, leH_get (by simp [leH, hget])⟩; simp only [Tryz.results43, resL, ldA, oneOf, go_sem])
    all_goals rw [he]
end Go.Proofs.YtgdnmdnhkhpieaaGreat.lg
namespace Go.Proofs.YtgdnmdnhkhpieaaGreat.nz
open Go.RowKit
open Nat (reduceBEq)
set_option maxRecDepth 20000
set_option maxHeartbeats 1000000
def mtK (a b c d e : Int) (n : N6) : Prop := n.a = a ∧ n.b = b ∧ n.c = c ∧ n.d = d ∧ n.e = e
instance (a b c d e : Int) (n : N6) : Decidable (mtK a b c d e n) := by unfold mtK; infer_instance
instance : DecidableEq N6 := fun y z => decidable_of_iff (y.a = z.a ∧ y.b = z.b ∧ y.c = z.c ∧ y.d = z.d ∧ y.e = z.e ∧ y.x = z.x) (by cases y; cases z; simp)
theorem same_fn (ex ex' : Bool) (l m : List N6) (hl : l.length ≤ 4611686018427387904) : Fn Tryz.prog 44 [nsl ex l, nsl ex' m] [] (vb (decide (l = m))) [] := by
  by_cases hlen : l.length = m.length
  · have e0 : ((l.length : Int) != (m.length : Int)) = false := by simp [hlen]
    (refine fn_of Tryz.func44 rfl (by rfl) ?_; simp only [Tryz.ntmps44, List.length_cons, List.length_nil, Nat.reduceAdd, Nat.reduceSub, List.replicate, List.cons_append, List.nil_append])
    (repeat (any_goals (first | ((with_reducible refine evL_one ?_ ?_); rfl; intro K hK; simp only [go_sem, e0]; ((repeat (refine ndI (by first | assumption | omega | rfl) ?_)); refine hK _ ?_; clear hK K)) | (with_reducible first | (refine evL_nil ?_; refine hR _ ?_; clear hR R) | ((first | refine evC_seq ?_ | refine evC_block ?_); intro Ψ hΨ hΨ') | (refine evC_region ?_; intro R hR) | (refine hΨ _ ?_; clear hΨ hΨ' Ψ) | refine evC_skip ?_ | refine evC_ret ?_ | refine evC_exit ?_) | ((with_reducible refine hΨ' _ _ ?_ ?_); (focus (simp; done)); clear hΨ hΨ' Ψ) | ((with_reducible apply evC_cond); rfl; rfl; all_goals (intro hc; first | (cases hc; done) | (try simp only at hc))) | ((with_reducible refine evD_nil ?_ ?_); kernel_rfl; (with_reducible refine hR _ ?_); clear hR R) | (((with_reducible apply evD_any); rfl; rfl; (simp only [rdE, rdOf, go_sem, e0]; rfl); (intro τ hA hQ hN; ((try simp only [agree, Op.operands, Call.operands, go_sem, e0, go_sem, List.mem_cons, List.not_mem_nil, forall_eq_or_imp, forall_eq, List.append_toArray, Option.toArray] at hA); (try simp only [go_sem, e0, List.mem_cons, List.not_mem_nil, forall_eq_or_imp, forall_eq] at hQ hN); (first | (revert hA; intro hA) | have hA := trivial); (first | (revert hQ; intro hQ) | have hQ := trivial); (first | (revert hN; intro hN) | have hN := trivial); simp only [go_sem, e0, go_sem, hA, hQ, hN]; (repeat (refine ndI (by first | assumption | omega | rfl) ?_)); (first | apply eff_rd | apply eff_st | apply eff_nw)))); (simp only [St.eff, setO, hputs, go_sem, e0])) | ((with_reducible refine evC_draw ?_ ?_ ?_ ?_); kernel_rfl; kernel_rfl; (first | kernel_rfl | simp [newNames, isNew, St.free, freeH, AV.refsL, AV.refs]); intro R hR))))
    refine evC_loop (α := { i : Nat // i ≤ l.length ∧ ∀ j, j < i → l[j]? = m[j]? }) (fun p => ⟨[nsl ex l, nsl ex' m, .any, .any, .any, .any, .any, .any, .any, .any, .any, nsl ex l, vi .i64 l.length, vi .i64 p.1, .any, .any, .any, .any, .any, .any, .any, .any, .any, .any, .any, .any], []⟩) (fun p => l.length - p.1) ⟨0, Nat.zero_le _, fun j hj => by omega⟩ (St.le_of (by simp [leT]) (by simp [leH, hget])) ?_
    rintro ⟨i, hi, hno⟩ Ψ hΨ hΨ'
    dsimp only at hΨ ⊢
    rcases Nat.lt_or_ge i l.length with hlt | hge
    · obtain ⟨y, hy⟩ : ∃ y, l[i]? = some y := ⟨l[i], List.getElem?_eq_getElem hlt⟩
      obtain ⟨z, hz⟩ : ∃ z, m[i]? = some z := ⟨m[i]'(by omega), List.getElem?_eq_getElem (by omega)⟩
      have e1 : (decide ((i : Int) < (l.length : Int))) = true := by simpa using hlt
      have e2 := nsl_at hy
      have e3 := nsl_at hz
      have e5 : i < m.length := by omega
      have e7 : (i : Int) + 1 = ((i + 1 : Nat) : Int) := by omega
      have hnx : y = z → ∀ j, j < i + 1 → l[j]? = m[j]? := fun h j hj => by
        rcases Nat.lt_or_ge j i with h' | h'
        · exact hno j h'
        · obtain rfl : j = i := by omega
          rw [hy, hz, h]
      have hne : y ≠ z → decide (l = m) = false := fun h => by
        rw [decide_eq_false_iff_not]
        intro e
        rw [e, hz] at hy
        cases hy; exact h rfl
      have hyz : y = z ↔ (y.a = z.a ∧ y.b = z.b ∧ y.c = z.c ∧ y.d = z.d ∧ y.e = z.e ∧ y.x = z.x) := by
        cases y; cases z; simp
      (repeat (any_goals (first | ((with_reducible refine evL_one ?_ ?_); rfl; intro K hK; simp (disch := omega) only [go_sem, e1, e2, e3, e7, wrI]; ((repeat (refine ndI (by first | assumption | omega | rfl) ?_)); refine hK _ ?_; clear hK K)) | (with_reducible first | (refine evL_nil ?_; refine hR _ ?_; clear hR R) | ((first | refine evC_seq ?_ | refine evC_block ?_); intro Ψ hΨ hΨ') | (refine evC_region ?_; intro R hR) | (refine hΨ _ ?_; clear hΨ hΨ' Ψ) | refine evC_skip ?_ | refine evC_ret ?_ | refine evC_exit ?_) | ((with_reducible refine hΨ' _ _ ?_ ?_); (focus (simp; done)); clear hΨ hΨ' Ψ) | ((with_reducible apply evC_cond); rfl; rfl; all_goals (intro hc; first | (cases hc; done) | (try simp only at hc))) | ((with_reducible refine evD_nil ?_ ?_); kernel_rfl; (with_reducible refine hR _ ?_); clear hR R) | (((with_reducible apply evD_any); rfl; rfl; (simp (disch := omega) only [rdE, rdOf, go_sem, e1, e2, e3, e7, wrI]; rfl); (intro τ hA hQ hN; ((try simp only [agree, Op.operands, Call.operands, go_sem, e1, e2, e3, e7, wrI, go_sem, List.mem_cons, List.not_mem_nil, forall_eq_or_imp, forall_eq, List.append_toArray, Option.toArray] at hA); (try simp only [go_sem, e1, e2, e3, e7, wrI, List.mem_cons, List.not_mem_nil, forall_eq_or_imp, forall_eq] at hQ hN); (first | (revert hA; intro hA) | have hA := trivial); (first | (revert hQ; intro hQ) | have hQ := trivial); (first | (revert hN; intro hN) | have hN := trivial); simp (disch := omega) only [go_sem, e1, e2, e3, e7, wrI, go_sem, hA, hQ, hN]; (repeat (refine ndI (by first | assumption | omega | rfl) ?_)); (first | apply eff_rd | apply eff_st | apply eff_nw)))); (simp (disch := omega) only [St.eff, setO, hputs, go_sem, e1, e2, e3, e7, wrI])) | ((with_reducible refine evC_draw ?_ ?_ ?_ ?_); kernel_rfl; kernel_rfl; (first | kernel_rfl | simp [newNames, isNew, St.free, freeH, AV.refsL, AV.refs]); intro R hR))))
      · (refine ⟨by simp, ⟨_, ?_, AV.le_refl _⟩, leH_get (by simp [leH, hget])⟩; simp only [Tryz.results44, resL, ldA, oneOf, go_sem])
        rw [hne]
        rw [Ne, hyz]
        rintro ⟨m1, m2, m3, m4, m5, m6⟩
        simp [m1, m2, m3, m4, m5, m6] at hc
      · refine hΨ _ ⟨i + 1, hlt, hnx ?_⟩ (by simp only; omega) (St.le_of (by simp [leT]) (by simp [leH, hget]))
        rw [hyz]
        clear hyz hne hnx hno hΨ
        simp_all
    · have e1 : (decide ((i : Int) < (l.length : Int))) = false := by simpa using hge
      have he : decide (l = m) = true := by
        rw [decide_eq_true_iff]
        refine List.ext_getElem? fun j => ?_
        rcases Nat.lt_or_ge j l.length with h | h
        · exact hno j (by omega)
        · rw [List.getElem?_eq_none h, List.getElem?_eq_none (by omega)]
      (repeat (any_goals (first | ((with_reducible refine evL_one ?_ ?_); rfl; intro K hK; simp only [go_sem, e1]; ((repeat (refine ndI (by first | assumption | omega | rfl) ?_)); refine hK _ ?_; clear hK K)) | (with_reducible first | (refine evL_nil ?_; refine hR _ ?_; clear hR R) | ((first | refine evC_seq ?_ | refine evC_block ?_); intro Ψ hΨ hΨ') | (refine evC_region ?_; intro R hR) | (refine hΨ _ ?_; clear hΨ hΨ' Ψ) | refine evC_skip ?_ | refine evC_ret ?_ | refine evC_exit ?_) | ((with_reducible refine hΨ' _ _ ?_ ?_); (focus (simp; done)); clear hΨ hΨ' Ψ) | ((with_reducible apply evC_cond); rfl; rfl; all_goals (intro hc; first | (cases hc; done) | (try simp only at hc))) | ((with_reducible refine evD_nil ?_ ?_); kernel_rfl; (with_reducible refine hR _ ?_); clear hR R) | (((with_reducible apply evD_any); rfl; rfl; (simp only [rdE, rdOf, go_sem, e1]; rfl); (intro τ hA hQ hN; ((try simp only [agree, Op.operands, Call.operands, go_sem, e1, go_sem, List.mem_cons, List.not_mem_nil, forall_eq_or_imp, forall_eq, List.append_toArray, Option.toArray] at hA); (try simp only [go_sem, e1, List.mem_cons, List.not_mem_nil, forall_eq_or_imp, forall_eq] at hQ hN); (first | (revert hA; intro hA) | have hA := trivial); (first | (revert hQ; intro hQ) | have hQ := trivial); (first | (revert hN; intro hN) | have hN := trivial); simp only [go_sem, e1, go_sem, hA, hQ, hN]; (repeat (refine ndI (by first | assumption | omega | rfl) ?_)); (first | apply eff_rd | apply eff_st | apply eff_nw)))); (simp only [St.eff, setO, hputs, go_sem, e1])) | ((with_reducible refine evC_draw ?_ ?_ ?_ ?_); kernel_rfl; kernel_rfl; (first | kernel_rfl | simp [newNames, isNew, St.free, freeH, AV.refsL, AV.refs]); intro R hR))))
      all_goals (refine ⟨by simp, ⟨_, ?_, AV.le_refl _⟩, leH_get (by simp [leH, hget])⟩; simp only [Tryz.results44, resL, ldA, oneOf, go_sem])
      all_goals rw [he]
  · have e0 : ((l.length : Int) != (m.length : Int)) = true := by simp; omega
    have he : decide (l = m) = false := by rw [decide_eq_false_iff_not]; intro e; exact hlen (by rw [e])
    (refine fn_of Tryz.func44 rfl (by rfl) ?_; simp only [Tryz.ntmps44, List.length_cons, List.length_nil, Nat.reduceAdd, Nat.reduceSub, List.replicate, List.cons_append, List.nil_append])
    (repeat (any_goals (first | ((with_reducible refine evL_one ?_ ?_); rfl; intro K hK; simp only [go_sem, e0]; ((repeat (refine ndI (by first | assumption | omega | rfl) ?_)); refine hK _ ?_; clear hK K)) | (with_reducible first | (refine evL_nil ?_; refine hR _ ?_; clear hR R) | ((first | refine evC_seq ?_ | refine evC_block ?_); intro Ψ hΨ hΨ') | (refine evC_region ?_; intro R hR) | (refine hΨ _ ?_; clear hΨ hΨ' Ψ) | refine evC_skip ?_ | refine evC_ret ?_ | refine evC_exit ?_) | ((with_reducible refine hΨ' _ _ ?_ ?_); (focus (simp; done)); clear hΨ hΨ' Ψ) | ((with_reducible apply evC_cond); rfl; rfl; all_goals (intro hc; first | (cases hc; done) | (try simp only at hc))) | ((with_reducible refine evD_nil ?_ ?_); kernel_rfl; (with_reducible refine hR _ ?_); clear hR R) | (((with_reducible apply evD_any); rfl; rfl; (simp only [rdE, rdOf, go_sem, e0]; rfl); (intro τ hA hQ hN; ((try simp only [agree, Op.operands, Call.operands, go_sem, e0, go_sem, List.mem_cons, List.not_mem_nil, forall_eq_or_imp, forall_eq, List.append_toArray, Option.toArray] at hA); (try simp only [go_sem, e0, List.mem_cons, List.not_mem_nil, forall_eq_or_imp, forall_eq] at hQ hN); (first | (revert hA; intro hA) | have hA := trivial); (first | (revert hQ; intro hQ) | have hQ := trivial); (first | (revert hN; intro hN) | have hN := trivial); simp only [go_sem, e0, go_sem, hA, hQ, hN]; (repeat (refine ndI (by first | assumption | omega | rfl) ?_)); (first | apply eff_rd | apply eff_st | apply eff_nw)))); (simp only [St.eff, setO, hputs, go_sem, e0])) | ((with_reducible refine evC_draw ?_ ?_ ?_ ?_); kernel_rfl; kernel_rfl; (first | kernel_rfl | simp [newNames, isNew, St.free, freeH, AV.refsL, AV.refs]); intro R hR))))
    all_goals (refine ⟨by simp, ⟨_, ?_, AV.le_refl _⟩, leH_get (by simp [leH, hget])⟩; simp only [Tryz.results44, resL, ldA, oneOf, go_sem])
    all_goals rw [he]
end Go.Proofs.YtgdnmdnhkhpieaaGreat.nz
namespace Go.Proofs.YtgdnmdnhkhpieaaGreat
open Go.RowKit
open Nat (reduceBEq)
set_option maxRecDepth 20000
set_option maxHeartbeats 4000000
theorem samew_fn (w : Wl) (hw : w.ok) : Fn Tryz.prog 17 [wlA w, wlA w] [] (vb true) [] := by
  have f1 := rsame_fn false false w.S w.S (by have := hw.kl.1; unfold maxLen; omega) (by have := hw.kl.1; unfold maxLen; omega) (fun x hx => (hw.kl.2 x hx).1) (fun x hx => (hw.kl.2 x hx).1)
  have f2 := lg.refsame_fn false false w.L w.L (Nat.le_trans hw.l.1 (by decide)) hw.l.2 hw.l.2
  have f3 := nz.same_fn false false w.N w.N (Nat.le_trans hw.n.1 (by decide))
  rw [decide_eq_true rfl] at f1 f2 f3
  (refine fn_of Tryz.func17 rfl (by rfl) ?_; simp only [Tryz.ntmps17, List.length_cons, List.length_nil, Nat.reduceAdd, Nat.reduceSub, List.replicate, List.cons_append, List.nil_append])
  (repeat (any_goals (first | ((with_reducible refine evL_call ?_ ?_ ?_); rfl; rfl; intro K hK; ((apply opA_callB (f1); rfl; rfl; rfl; rfl; exact Tryz.func42); kernel_rfl; rfl; (simp only [go_sem]; rfl); (first | rfl | simp [AV.inNL, AV.inN])); (simp only [go_sem]; refine hK _ ?_; clear hK K)) | ((with_reducible refine evL_one ?_ ?_); rfl; intro K hK; simp only [go_sem]; ((repeat (refine ndI (by first | assumption | omega | rfl) ?_)); refine hK _ ?_; clear hK K)) | (with_reducible first | (refine evL_nil ?_; refine hR _ ?_; clear hR R) | ((first | refine evC_seq ?_ | refine evC_block ?_); intro Ψ hΨ hΨ') | (refine evC_region ?_; intro R hR) | (refine hΨ _ ?_; clear hΨ hΨ' Ψ) | refine evC_skip ?_ | refine evC_ret ?_ | refine evC_exit ?_) | ((with_reducible refine hΨ' _ _ ?_ ?_); (focus (simp; done)); clear hΨ hΨ' Ψ) | ((with_reducible apply evL_unmet); rfl; rfl; rfl; (try simp only [go_sem])) | ((with_reducible apply evL_grd); rfl; rfl; rfl; all_goals (intro hb; first | (cases hb; done) | ((try simp only [Bool.not_true, Bool.not_false] at hb); (first | ((with_reducible intro K hK); (first | ((first | (apply opA_callB (f2); rfl; rfl; rfl; rfl; exact Tryz.func43) | (apply opA_callB (f3); rfl; rfl; rfl; rfl; exact Tryz.func44)); kernel_rfl; rfl; (simp only [go_sem]; rfl); (first | rfl | simp [AV.inNL, AV.inN])) | skip); simp only [go_sem]; ((repeat (refine ndI (by first | assumption | omega | rfl) ?_)); refine hK _ ?_; clear hK K)) | ((fail_if_success (with_reducible intro _)); simp only [go_sem]))))) | ((with_reducible apply evC_cond); rfl; rfl; all_goals (intro hc; first | (cases hc; done) | (try simp only at hc))))))
  all_goals (refine ⟨by simp, ⟨_, ?_, AV.le_refl _⟩, leH_get (by simp [leH, hget])⟩; simp only [Tryz.results17, resL, ldA, oneOf, go_sem])
theorem sum3 (b p s : Nat) : ((b + p) % WW + s) % WW = [b, p, s].sum % WW := by
  rw [Nat.mod_add_mod]
  simp [Nat.add_assoc]
theorem rwealth_fn (w : Wl) (hw : w.ok) (h : rightW w = true) (a : Int) (ua : U a) (h0 : a ≠ 0) : Fn Tryz.prog 15 [wlA w, vi .u64 a] [] (wN (wealthN w a)) [] := by
  have o := rof_fn false w.S hw.kl a
  have bo := find_right h a
  have fd := lg.reffind_fn false w.L (Nat.le_trans hw.l.1 (by decide)) a
  have hl := (right_st h).2
  rw [lg.fdH_eq (lg.okL_srt hl)] at fd
  have e1 : lg.findP w.L a = lg.findH w.L a := by unfold lg.findP; rw [if_neg h0, if_pos hl]
  have lt := findP_lt hw.l.2 a
  have lb := of_lt hw a ua
  rw [e1] at lt
  have a1 := refadd_fn (OfS w.S a).b (lg.findH w.L a).p lb lt.1
  have a2 := refadd_fn (((OfS w.S a).b + (lg.findH w.L a).p) % WW) (lg.findH w.L a).s (Nat.mod_lt _ (by decide)) lt.2
  unfold wealthN
  rw [if_neg h0, if_pos h, e1, ← sum3]
  rw [← bo] at a1 a2 ⊢
  generalize findS w.S a = x at *
  generalize lg.findH w.L a = y at *
  obtain ⟨xa, xb, xn, xc, xs⟩ := x
  obtain ⟨ya, yp, ys, yd, yf⟩ := y
  dsimp only at *
  generalize ((xb + yp) % WW + ys) % WW = m2 at *
  generalize decide (WW ≤ (xb + yp) % WW + ys) = q2 at *
  generalize (xb + yp) % WW = m1 at *
  generalize decide (WW ≤ xb + yp) = q1 at *
  (refine fn_of Tryz.func15 rfl (by rfl) ?_; simp only [Tryz.ntmps15, List.length_cons, List.length_nil, Nat.reduceAdd, Nat.reduceSub, List.replicate, List.cons_append, List.nil_append])
  (repeat (any_goals (first | ((with_reducible refine evL_call ?_ ?_ ?_); rfl; rfl; intro K hK; (first | ((apply opA_callB (fd); rfl; rfl; rfl; rfl; exact Tryz.func38); kernel_rfl; rfl; (simp only [go_sem]; rfl); (first | rfl | simp [AV.inNL, AV.inN])) | ((apply opA_callB (a1); rfl; rfl; rfl; rfl; exact Tryz.func39); kernel_rfl; rfl; (simp only [go_sem]; rfl); (first | rfl | simp [AV.inNL, AV.inN])) | ((apply opA_callB (a2); rfl; rfl; rfl; rfl; exact Tryz.func39); kernel_rfl; rfl; (simp only [go_sem]; rfl); (first | rfl | simp [AV.inNL, AV.inN]))); (simp only [go_sem]; refine hK _ ?_; clear hK K)) | ((with_reducible refine evL_one ?_ ?_); rfl; intro K hK; simp only [go_sem]; ((repeat (refine ndI (by first | assumption | omega | rfl) ?_)); refine hK _ ?_; clear hK K)) | (with_reducible first | (refine evL_nil ?_; refine hR _ ?_; clear hR R) | ((first | refine evC_seq ?_ | refine evC_block ?_); intro Ψ hΨ hΨ') | (refine evC_region ?_; intro R hR) | (refine hΨ _ ?_; clear hΨ hΨ' Ψ) | refine evC_skip ?_ | refine evC_ret ?_ | refine evC_exit ?_) | ((with_reducible refine hΨ' _ _ ?_ ?_); (focus (simp; done)); clear hΨ hΨ' Ψ) | ((with_reducible apply evC_cond); rfl; rfl; all_goals (intro hc; first | (cases hc; done) | (try simp only at hc))) | ((with_reducible refine evD_nil ?_ ?_); kernel_rfl; (with_reducible refine hR _ ?_); clear hR R) | ((first | ((with_reducible apply evD_fcall); rfl; rfl; (first | ((apply opF_callB (o); rfl; rfl; rfl; rfl; exact Tryz.func28); kernel_rfl; rfl; (simp only [go_sem]; rfl); (first | rfl | simp [AV.inNL, AV.inN])) | ((apply opF_callB (a1); rfl; rfl; rfl; rfl; exact Tryz.func39); kernel_rfl; rfl; (simp only [go_sem]; rfl); (first | rfl | simp [AV.inNL, AV.inN])) | ((apply opF_callB (a2); rfl; rfl; rfl; rfl; exact Tryz.func39); kernel_rfl; rfl; (simp only [go_sem]; rfl); (first | rfl | simp [AV.inNL, AV.inN])))) | ((with_reducible apply evD_any); rfl; rfl; (simp only [rdE, rdOf, go_sem]; rfl); (intro τ hA hQ hN; ((try simp only [agree, Op.operands, Call.operands, go_sem, List.mem_cons, List.not_mem_nil, forall_eq_or_imp, forall_eq, List.append_toArray, Option.toArray] at hA); (try simp only [go_sem, List.mem_cons, List.not_mem_nil, forall_eq_or_imp, forall_eq] at hQ hN); (first | (revert hA; intro hA) | have hA := trivial); (first | (revert hQ; intro hQ) | have hQ := trivial); (first | (revert hN; intro hN) | have hN := trivial); simp only [go_sem, hA, hQ, hN]; (repeat (refine ndI (by first | assumption | omega | rfl) ?_)); (first | apply eff_rd | apply eff_st | apply eff_nw)))) | ((first | ((with_reducible apply evD_new); rfl; rfl; rfl) | ((with_reducible apply evD_grd_new); rfl; rfl; rfl; rfl; rfl; rfl)); (intro τ hA hQ hN; ((try simp only [agree, Op.operands, Call.operands, go_sem, List.mem_cons, List.not_mem_nil, forall_eq_or_imp, forall_eq, List.append_toArray, Option.toArray] at hA); (try simp only [go_sem, List.mem_cons, List.not_mem_nil, forall_eq_or_imp, forall_eq] at hQ); (first | (revert hA; intro hA) | have hA := trivial); (first | (revert hQ; intro hQ) | have hQ := trivial); simp only [go_sem, hA, hQ, hN]; (repeat (refine ndI (by first | assumption | omega | rfl) ?_)); exact eff_nw _ _ _ _)))); (simp only [St.eff, setO, hputs, go_sem])) | ((with_reducible refine evC_draw ?_ ?_ ?_ ?_); kernel_rfl; kernel_rfl; (first | kernel_rfl | simp [newNames, isNew, St.free, freeH, AV.refsL, AV.refs]); intro R hR))))
  all_goals (refine ⟨by simp, ⟨_, ?_, AV.le_refl _⟩, leH_get (by simp [leH, hget])⟩; simp only [Tryz.results15, resL, ldA, oneOf, go_sem])
def apv (a : Int) : List PV := [.v (.int .u64 a)]
theorem apv_len (a : Int) : (apv a).length = 1 := rfl
abbrev asl (ex : Bool) (l : List Int) : AV := .c (.sl ex 1 l.length (l.flatMap apv))
theorem as_at {l : List Int} {i : Nat} {y : Int} (h : l[i]? = some y) : ((l.flatMap apv).drop i).take 1 = [.v (.int .u64 y)] := by
  have := flat_at (f := apv) apv_len h
  rwa [Nat.mul_one] at this
theorem decVAs : DecV Tryz.prog 31 1 (fun l : List Int => [.sl false 1 l.length (l.flatMap apv)]) (fun l => l.length ≤ maxLen ∧ ∀ a ∈ l, U a) :=
  decV_slice Tryz.underlying31 (by kernel_rfl) decV_addr (by omega) apv_len
theorem tells_fn (x : Wl) (hx : x.raw) (l : List Int) (hl : l.length ≤ maxLen) (ol : ∀ a ∈ l, U a) : Fn Tryz.prog 3 [wlA x, asl false l] [] (vb true) [] := by
  have l8 : l.length < 9223372036854775808 := Nat.lt_succ_of_le hl
  have wk := wakesI_fn
  have w1 := world_fn x hx
  have wo := cutW_ok hx
  generalize cutW x = w at w1 wo
  have rr := rightw_fn w wo
  have h1 := has_fn w wo
  have h2 := owes_fn w wo
  have h3 := supply_fn w wo
  have h4 := excess_fn w wo
  have sb := refsub_fn (hasN w) (owesN w) (hasN_lt wo) (owesN_lt w)
  have sw := samew_fn w wo
  have wl := fun a ua => wealth_fn w wo a ua
  have hz := hasN_lt wo
  have oz := owesN_lt w
  have z1 := wN_eq hz hz
  have z2 := wN_eq oz oz
  have z3 := wN_eq (supplyN_lt w) (supplyN_lt w)
  have xz : exN w < WW := by unfold exN; split <;> omega
  have z4 := wN_eq xz xz
  rw [decide_eq_true rfl] at z1 z2 z3 z4
  have sm : ¬ hasN w < owesN w → (hasN w + WW - owesN w) % WW = hasN w - owesN w := fun h => by
    rw [show hasN w + WW - owesN w = (hasN w - owesN w) + WW by omega, Nat.add_mod_right, Nat.mod_eq_of_lt (by omega)]
  have wlW : ∀ a, U a → wealthN w a < WW := fun a ua => by
    unfold wealthN
    split
    · decide
    · split
      · exact Nat.mod_lt _ (by decide)
      · decide
  by_cases hr : rightW w = true
  · rw [hr] at rr
    have r1 := rhas_fn w wo hr
    have r2 := rowes_fn w wo hr
    have r3 := rsupply_fn w wo hr
    have rw1 := fun a ua h0 => rwealth_fn w wo hr a ua h0
    by_cases hb : hasN w < owesN w
    · have e1 : exN w = 0 := by unfold exN; rw [decide_eq_false (show ¬ owesN w ≤ hasN w by omega), Bool.and_false]; rfl
      have e2 : exB w = false := by unfold exB; rw [decide_eq_false (show ¬ owesN w ≤ hasN w by omega), Bool.and_false]
      rw [e1, e2] at h4
      rw [decide_eq_true hb] at sb
      simp only [wN, l0_zero, l1_zero, l2_zero, l3_zero] at h4
      clear e1 e2 z4 xz sm
      generalize (hasN w + WW - owesN w) % WW = m at sb
      generalize hasN w = n1 at *
      generalize owesN w = n2 at *
      generalize supplyN w = n3 at *
      (refine fn_of Tryz.func3 rfl (by rfl) ?_; simp only [Tryz.ntmps3, List.length_cons, List.length_nil, Nat.reduceAdd, Nat.reduceSub, List.replicate, List.cons_append, List.nil_append])
      (have W := ndI z1 (ndI z2 z3); (repeat (any_goals (first | ((with_reducible refine evL_call ?_ ?_ ?_); rfl; rfl; intro K hK; ((first | (apply opA_callB (wk); rfl; rfl; rfl; rfl; exact Tryz.func4) | (apply opA_callB (w1); rfl; rfl; rfl; rfl; exact Tryz.func5) | (apply opA_callB (rr); rfl; rfl; rfl; rfl; exact Tryz.func6) | (apply opA_callB (sb); rfl; rfl; rfl; rfl; exact Tryz.func10) | (apply opA_callB (h4); rfl; rfl; rfl; rfl; exact Tryz.func11)); kernel_rfl; rfl; (simp only [go_sem, W]; rfl); (first | rfl | simp [AV.inNL, AV.inN])); (simp only [go_sem, W]; refine hK _ ?_; clear hK K)) | ((with_reducible refine evL_one ?_ ?_); rfl; intro K hK; simp only [go_sem, W]; ((repeat (refine ndI (by first | assumption | omega | rfl) ?_)); refine hK _ ?_; clear hK K)) | (with_reducible first | (refine evL_nil ?_; refine hR _ ?_; clear hR R) | ((first | refine evC_seq ?_ | refine evC_block ?_); intro Ψ hΨ hΨ') | (refine evC_region ?_; intro R hR) | (refine hΨ _ ?_; clear hΨ hΨ' Ψ) | refine evC_skip ?_ | refine evC_ret ?_ | refine evC_exit ?_) | ((with_reducible refine hΨ' _ _ ?_ ?_); (focus (simp; done)); clear hΨ hΨ' Ψ) | ((with_reducible apply evL_unmet); rfl; rfl; rfl; (try simp only [go_sem, W])) | ((with_reducible apply evL_grd); rfl; rfl; rfl; all_goals (intro hb; first | (cases hb; done) | ((try simp only [Bool.not_true, Bool.not_false] at hb); (first | ((with_reducible intro K hK); simp only [go_sem, W]; ((repeat (refine ndI (by first | assumption | omega | rfl) ?_)); refine hK _ ?_; clear hK K)) | ((fail_if_success (with_reducible intro _)); simp only [go_sem, W]))))) | ((with_reducible apply evC_cond); rfl; rfl; all_goals (intro hc; first | (cases hc; done) | (try simp only at hc))) | ((with_reducible refine evD_nil ?_ ?_); kernel_rfl; (with_reducible refine hR _ ?_); clear hR R) | ((first | ((with_reducible apply evD_skip); rfl; rfl; rfl; rfl) | ((with_reducible apply evD_unmet); rfl; rfl; rfl) | ((first | ((with_reducible apply evD_fcall); rfl; rfl) | ((with_reducible apply evD_gcall); rfl; rfl; rfl; rfl; rfl)); ((first | (apply opF_callB (w1); rfl; rfl; rfl; rfl; exact Tryz.func5) | (apply opF_callB (r1); rfl; rfl; rfl; rfl; exact Tryz.func7) | (apply opF_callB (r2); rfl; rfl; rfl; rfl; exact Tryz.func8) | (apply opF_callB (r3); rfl; rfl; rfl; rfl; exact Tryz.func9) | (apply opF_callB (h1); rfl; rfl; rfl; rfl; exact Tryz.func12) | (apply opF_callB (h2); rfl; rfl; rfl; rfl; exact Tryz.func13) | (apply opF_callB (h3); rfl; rfl; rfl; rfl; exact Tryz.func14)); kernel_rfl; rfl; (simp only [go_sem, W]; rfl); (first | rfl | simp [AV.inNL, AV.inN]))) | ((first | ((with_reducible apply evD_any); rfl; rfl) | ((with_reducible apply evD_gany); rfl; rfl; rfl; rfl; rfl)); (simp only [rdE, rdOf, go_sem, W]; rfl); (intro τ hA hQ hN; ((try simp only [agree, Op.operands, Call.operands, go_sem, W, go_sem, List.mem_cons, List.not_mem_nil, forall_eq_or_imp, forall_eq, List.append_toArray, Option.toArray] at hA); (try simp only [go_sem, W, List.mem_cons, List.not_mem_nil, forall_eq_or_imp, forall_eq] at hQ hN); (first | (revert hA; intro hA) | have hA := trivial); (first | (revert hQ; intro hQ) | have hQ := trivial); (first | (revert hN; intro hN) | have hN := trivial); simp only [go_sem, W, go_sem, hA, hQ, hN]; (repeat (refine ndI (by first | assumption | omega | rfl) ?_)); (first | apply eff_rd | apply eff_st | apply eff_nw))))); (simp only [St.eff, setO, hputs, go_sem, W])) | ((with_reducible apply evD_split); rfl; rfl; rfl; all_goals intro hb; all_goals (simp only [St.eff, setO, hputs, go_sem, W])) | ((with_reducible refine evC_draw ?_ ?_ ?_ ?_); kernel_rfl; kernel_rfl; (first | kernel_rfl | simp [newNames, isNew, St.free, freeH, AV.refsL, AV.refs]); intro R hR)))))
      clear wk rr h1 h2 h3 h4 sb r1 r2 r3 z1 z2 z3
      refine evC_upto l.length (fun i => ⟨[.any, .any, .ptr 2 0, .any, vb false, .ptr 5 0, vb true, .any, .any, .any, .any, .any, .any, .any, .any, .any, .any, .any, .any, .any, .any, .any, .any, .any, .any, .any, .any, .any, .any, .any, .any, .any, .any, .any, .any, .any, .any, .any, .any, .any, .any, .any, .any, .any, .any, .any, .any, .any, .any, .any, .any, .any, .any, .any, .any, .any, .any, .any, .any, .any, .any, .any, .any, .any, .any, .any, .any, .any, .any, .any, .any, .any, .any, asl false l, vi .i64 l.length, vi .i64 (i : Int), .any, .any, .any, .any, .any, .any, .any, .any, .any, .any, .any, .any, .any, .any, .any, .any, .any, .any, .any, .any, .any, .any, .any, .any], [(2, [.c (acV x.S), .c (hdV x.L), .c (noV x.N)]), (5, [.c (acV w.S), .c (hdV w.L), .c (noV w.N)])]⟩) (St.le_of (by simp [leT]) (by simp [leH, hget])) ?_
      intro i hi Ψ hΨ hΨ'
      (try dsimp only at hΨ ⊢)
      rcases Nat.lt_or_ge i l.length with hlt | hge
      · obtain ⟨a, ha⟩ : ∃ x, l[i]? = some x := ⟨_, List.getElem?_eq_getElem hlt⟩
        have k1 : (decide ((i : Int) < (l.length : Int))) = true := decide_eq_true (by omega)
        have k2 := as_at ha
        have k7 : (i : Int) + 1 = ((i + 1 : Nat) : Int) := by omega
        have ua := ol a (List.mem_of_getElem? ha)
        have wa := wl a ua
        have wlt := wlW a ua
        by_cases h20 : i = 20
        · have k3 : ((i : Int) == 20) = true := by subst h20; rfl
          (have W := ndI k1 (ndI k2 (ndI k3 @wrI)); (repeat (any_goals (first | ((with_reducible refine evL_call ?_ ?_ ?_); rfl; rfl; intro K hK; ((apply opA_callB (w1); rfl; rfl; rfl; rfl; exact Tryz.func5); kernel_rfl; rfl; (simp (disch := omega) only [go_sem, W, Nat.mul_one]; rfl); (first | rfl | simp [AV.inNL, AV.inN])); (simp (disch := omega) only [go_sem, W, Nat.mul_one]; refine hK _ ?_; clear hK K)) | ((with_reducible refine evL_one ?_ ?_); rfl; intro K hK; simp (disch := omega) only [go_sem, W, Nat.mul_one]; ((repeat (refine ndI (by first | assumption | omega | rfl) ?_)); refine hK _ ?_; clear hK K)) | (with_reducible first | (refine evL_nil ?_; refine hR _ ?_; clear hR R) | ((first | refine evC_seq ?_ | refine evC_block ?_); intro Ψ hΨ hΨ') | (refine evC_region ?_; intro R hR) | (refine hΨ _ ?_; clear hΨ hΨ' Ψ) | refine evC_skip ?_ | refine evC_ret ?_ | refine evC_exit ?_) | ((with_reducible refine hΨ' _ _ ?_ ?_); (focus (simp; done)); clear hΨ hΨ' Ψ) | ((with_reducible apply evL_unmet); rfl; rfl; rfl; (try simp (disch := omega) only [go_sem, W, Nat.mul_one])) | ((with_reducible apply evL_grd); rfl; rfl; rfl; all_goals (intro hb; first | (cases hb; done) | ((try simp only [Bool.not_true, Bool.not_false] at hb); (first | ((with_reducible intro K hK); simp (disch := omega) only [go_sem, W, Nat.mul_one]; ((repeat (refine ndI (by first | assumption | omega | rfl) ?_)); refine hK _ ?_; clear hK K)) | ((fail_if_success (with_reducible intro _)); simp (disch := omega) only [go_sem, W, Nat.mul_one]))))) | ((with_reducible apply evC_cond); rfl; rfl; all_goals (intro hc; first | (cases hc; done) | (try simp only at hc))) | ((with_reducible refine evD_nil ?_ ?_); kernel_rfl; (with_reducible refine hR _ ?_); clear hR R) | ((first | ((with_reducible apply evD_skip); rfl; rfl; rfl; rfl) | ((with_reducible apply evD_unmet); rfl; rfl; rfl) | ((first | ((with_reducible apply evD_fcall); rfl; rfl) | ((with_reducible apply evD_gcall); rfl; rfl; rfl; rfl; rfl)); ((first | (apply opF_callB (w1); rfl; rfl; rfl; rfl; exact Tryz.func5) | (apply opF_callB (sw); rfl; rfl; rfl; rfl; exact Tryz.func17)); kernel_rfl; rfl; (simp (disch := omega) only [go_sem, W, Nat.mul_one]; rfl); (first | rfl | simp [AV.inNL, AV.inN]))) | ((first | ((with_reducible apply evD_any); rfl; rfl) | ((with_reducible apply evD_gany); rfl; rfl; rfl; rfl; rfl)); (simp (disch := omega) only [rdE, rdOf, go_sem, W, Nat.mul_one]; rfl); (intro τ hA hQ hN; ((try simp only [agree, Op.operands, Call.operands, go_sem, W, Nat.mul_one, go_sem, List.mem_cons, List.not_mem_nil, forall_eq_or_imp, forall_eq, List.append_toArray, Option.toArray] at hA); (try simp only [go_sem, W, Nat.mul_one, List.mem_cons, List.not_mem_nil, forall_eq_or_imp, forall_eq] at hQ hN); (first | (revert hA; intro hA) | have hA := trivial); (first | (revert hQ; intro hQ) | have hQ := trivial); (first | (revert hN; intro hN) | have hN := trivial); simp (disch := omega) only [go_sem, W, Nat.mul_one, go_sem, hA, hQ, hN]; (repeat (refine ndI (by first | assumption | omega | rfl) ?_)); (first | apply eff_rd | apply eff_st | apply eff_nw))))); (simp (disch := omega) only [St.eff, setO, hputs, go_sem, W, Nat.mul_one])) | ((with_reducible apply evD_split); rfl; rfl; rfl; all_goals intro hb; all_goals (simp (disch := omega) only [St.eff, setO, hputs, go_sem, W, Nat.mul_one])) | ((with_reducible refine evC_draw ?_ ?_ ?_ ?_); kernel_rfl; kernel_rfl; (first | kernel_rfl | simp [newNames, isNew, St.free, freeH, AV.refsL, AV.refs]); intro R hR)))))
          all_goals (refine ⟨by simp, ⟨_, ?_, AV.le_refl _⟩, leH_get (by simp [leH, hget])⟩; simp only [Tryz.results3, resL, ldA, oneOf, go_sem])
        · have k3 : ((i : Int) == 20) = false := by simp; omega
          have zw := wN_eq wlt wlt
          rw [decide_eq_true rfl] at zw
          by_cases h0 : a = 0
          · have k4 : (a != 0) = false := by simpa using h0
            have e0 : wealthN w a = 0 := by unfold wealthN; rw [if_pos h0]
            rw [e0] at wa
            simp only [wN, l0_zero, l1_zero, l2_zero, l3_zero] at wa
            (have W := ndI k1 (ndI k2 (ndI k3 (ndI k4 (ndI k7 @wrI)))); (repeat (any_goals (first | ((with_reducible refine evL_one ?_ ?_); rfl; intro K hK; simp (disch := omega) only [go_sem, W, Nat.mul_one]; ((repeat (refine ndI (by first | assumption | omega | rfl) ?_)); refine hK _ ?_; clear hK K)) | (with_reducible first | (refine evL_nil ?_; refine hR _ ?_; clear hR R) | ((first | refine evC_seq ?_ | refine evC_block ?_); intro Ψ hΨ hΨ') | (refine evC_region ?_; intro R hR) | (refine hΨ _ ?_; clear hΨ hΨ' Ψ) | refine evC_skip ?_ | refine evC_ret ?_ | refine evC_exit ?_) | ((with_reducible refine hΨ' _ _ ?_ ?_); (focus (simp; done)); clear hΨ hΨ' Ψ) | ((with_reducible apply evL_unmet); rfl; rfl; rfl; (try simp (disch := omega) only [go_sem, W, Nat.mul_one])) | ((with_reducible apply evL_grd); rfl; rfl; rfl; all_goals (intro hb; first | (cases hb; done) | ((try simp only [Bool.not_true, Bool.not_false] at hb); (first | ((with_reducible intro K hK); simp (disch := omega) only [go_sem, W, Nat.mul_one]; ((repeat (refine ndI (by first | assumption | omega | rfl) ?_)); refine hK _ ?_; clear hK K)) | ((fail_if_success (with_reducible intro _)); simp (disch := omega) only [go_sem, W, Nat.mul_one]))))) | ((with_reducible apply evC_cond); rfl; rfl; all_goals (intro hc; first | (cases hc; done) | (try simp only at hc))) | ((with_reducible refine evD_nil ?_ ?_); kernel_rfl; (with_reducible refine hR _ ?_); clear hR R) | ((first | ((with_reducible apply evD_skip); rfl; rfl; rfl; rfl) | ((with_reducible apply evD_unmet); rfl; rfl; rfl) | ((first | ((with_reducible apply evD_fcall); rfl; rfl) | ((with_reducible apply evD_gcall); rfl; rfl; rfl; rfl; rfl)); ((apply opF_callB (wa); rfl; rfl; rfl; rfl; exact Tryz.func16); kernel_rfl; rfl; (simp (disch := omega) only [go_sem, W, Nat.mul_one]; rfl); (first | rfl | simp [AV.inNL, AV.inN]))) | ((first | ((with_reducible apply evD_any); rfl; rfl) | ((with_reducible apply evD_gany); rfl; rfl; rfl; rfl; rfl)); (simp (disch := omega) only [rdE, rdOf, go_sem, W, Nat.mul_one]; rfl); (intro τ hA hQ hN; ((try simp only [agree, Op.operands, Call.operands, go_sem, W, Nat.mul_one, go_sem, List.mem_cons, List.not_mem_nil, forall_eq_or_imp, forall_eq, List.append_toArray, Option.toArray] at hA); (try simp only [go_sem, W, Nat.mul_one, List.mem_cons, List.not_mem_nil, forall_eq_or_imp, forall_eq] at hQ hN); (first | (revert hA; intro hA) | have hA := trivial); (first | (revert hQ; intro hQ) | have hQ := trivial); (first | (revert hN; intro hN) | have hN := trivial); simp (disch := omega) only [go_sem, W, Nat.mul_one, go_sem, hA, hQ, hN]; (repeat (refine ndI (by first | assumption | omega | rfl) ?_)); (first | apply eff_rd | apply eff_st | apply eff_nw))))); (simp (disch := omega) only [St.eff, setO, hputs, go_sem, W, Nat.mul_one])) | ((with_reducible apply evD_split); rfl; rfl; rfl; all_goals intro hb; all_goals (simp (disch := omega) only [St.eff, setO, hputs, go_sem, W, Nat.mul_one])) | ((with_reducible refine evC_draw ?_ ?_ ?_ ?_); kernel_rfl; kernel_rfl; (first | kernel_rfl | simp [newNames, isNew, St.free, freeH, AV.refsL, AV.refs]); intro R hR)))))
            all_goals exact hΨ _ hlt (St.le_of (by simp [leT]) (by simp [leH, hget]))
          · have k4 : (a != 0) = true := by simpa using h0
            have rw2 := rw1 a ua h0
            generalize wealthN w a = n at wa zw rw2
            (have W := ndI k1 (ndI k2 (ndI k3 (ndI k4 (ndI k7 @wrI)))); (repeat (any_goals (first | ((with_reducible refine evL_call ?_ ?_ ?_); rfl; rfl; intro K hK; ((apply opA_callB (rw2); rfl; rfl; rfl; rfl; exact Tryz.func15); kernel_rfl; rfl; (simp (disch := omega) only [go_sem, W, zw, Nat.mul_one]; rfl); (first | rfl | simp [AV.inNL, AV.inN])); (simp (disch := omega) only [go_sem, W, zw, Nat.mul_one]; refine hK _ ?_; clear hK K)) | ((with_reducible refine evL_one ?_ ?_); rfl; intro K hK; simp (disch := omega) only [go_sem, W, zw, Nat.mul_one]; ((repeat (refine ndI (by first | assumption | omega | rfl) ?_)); refine hK _ ?_; clear hK K)) | (with_reducible first | (refine evL_nil ?_; refine hR _ ?_; clear hR R) | ((first | refine evC_seq ?_ | refine evC_block ?_); intro Ψ hΨ hΨ') | (refine evC_region ?_; intro R hR) | (refine hΨ _ ?_; clear hΨ hΨ' Ψ) | refine evC_skip ?_ | refine evC_ret ?_ | refine evC_exit ?_) | ((with_reducible refine hΨ' _ _ ?_ ?_); (focus (simp; done)); clear hΨ hΨ' Ψ) | ((with_reducible apply evL_unmet); rfl; rfl; rfl; (try simp (disch := omega) only [go_sem, W, zw, Nat.mul_one])) | ((with_reducible apply evL_grd); rfl; rfl; rfl; all_goals (intro hb; first | (cases hb; done) | ((try simp only [Bool.not_true, Bool.not_false] at hb); (first | ((with_reducible intro K hK); simp (disch := omega) only [go_sem, W, zw, Nat.mul_one]; ((repeat (refine ndI (by first | assumption | omega | rfl) ?_)); refine hK _ ?_; clear hK K)) | ((fail_if_success (with_reducible intro _)); simp (disch := omega) only [go_sem, W, zw, Nat.mul_one]))))) | ((with_reducible apply evC_cond); rfl; rfl; all_goals (intro hc; first | (cases hc; done) | (try simp only at hc))) | ((with_reducible refine evD_nil ?_ ?_); kernel_rfl; (with_reducible refine hR _ ?_); clear hR R) | ((first | ((with_reducible apply evD_skip); rfl; rfl; rfl; rfl) | ((with_reducible apply evD_unmet); rfl; rfl; rfl) | ((first | ((with_reducible apply evD_fcall); rfl; rfl) | ((with_reducible apply evD_gcall); rfl; rfl; rfl; rfl; rfl)); ((apply opF_callB (wa); rfl; rfl; rfl; rfl; exact Tryz.func16); kernel_rfl; rfl; (simp (disch := omega) only [go_sem, W, zw, Nat.mul_one]; rfl); (first | rfl | simp [AV.inNL, AV.inN]))) | ((first | ((with_reducible apply evD_any); rfl; rfl) | ((with_reducible apply evD_gany); rfl; rfl; rfl; rfl; rfl)); (simp (disch := omega) only [rdE, rdOf, go_sem, W, zw, Nat.mul_one]; rfl); (intro τ hA hQ hN; ((try simp only [agree, Op.operands, Call.operands, go_sem, W, zw, Nat.mul_one, go_sem, List.mem_cons, List.not_mem_nil, forall_eq_or_imp, forall_eq, List.append_toArray, Option.toArray] at hA); (try simp only [go_sem, W, zw, Nat.mul_one, List.mem_cons, List.not_mem_nil, forall_eq_or_imp, forall_eq] at hQ hN); (first | (revert hA; intro hA) | have hA := trivial); (first | (revert hQ; intro hQ) | have hQ := trivial); (first | (revert hN; intro hN) | have hN := trivial); simp (disch := omega) only [go_sem, W, zw, Nat.mul_one, go_sem, hA, hQ, hN]; (repeat (refine ndI (by first | assumption | omega | rfl) ?_)); (first | apply eff_rd | apply eff_st | apply eff_nw))))); (simp (disch := omega) only [St.eff, setO, hputs, go_sem, W, zw, Nat.mul_one])) | ((with_reducible apply evD_split); rfl; rfl; rfl; all_goals intro hb; all_goals (simp (disch := omega) only [St.eff, setO, hputs, go_sem, W, zw, Nat.mul_one])) | ((with_reducible refine evC_draw ?_ ?_ ?_ ?_); kernel_rfl; kernel_rfl; (first | kernel_rfl | simp [newNames, isNew, St.free, freeH, AV.refsL, AV.refs]); intro R hR)))))
            all_goals exact hΨ _ hlt (St.le_of (by simp [leT]) (by simp [leH, hget]))
      · have k1 : (decide ((i : Int) < (l.length : Int))) = false := decide_eq_false (by omega)
        (repeat (any_goals (first | ((with_reducible refine evL_call ?_ ?_ ?_); rfl; rfl; intro K hK; ((apply opA_callB (w1); rfl; rfl; rfl; rfl; exact Tryz.func5); kernel_rfl; rfl; (simp only [go_sem, k1]; rfl); (first | rfl | simp [AV.inNL, AV.inN])); (simp only [go_sem, k1]; refine hK _ ?_; clear hK K)) | ((with_reducible refine evL_one ?_ ?_); rfl; intro K hK; simp only [go_sem, k1]; ((repeat (refine ndI (by first | assumption | omega | rfl) ?_)); refine hK _ ?_; clear hK K)) | (with_reducible first | (refine evL_nil ?_; refine hR _ ?_; clear hR R) | ((first | refine evC_seq ?_ | refine evC_block ?_); intro Ψ hΨ hΨ') | (refine evC_region ?_; intro R hR) | (refine hΨ _ ?_; clear hΨ hΨ' Ψ) | refine evC_skip ?_ | refine evC_ret ?_ | refine evC_exit ?_) | ((with_reducible refine hΨ' _ _ ?_ ?_); (focus (simp; done)); clear hΨ hΨ' Ψ) | ((with_reducible apply evL_unmet); rfl; rfl; rfl; (try simp only [go_sem, k1])) | ((with_reducible apply evL_grd); rfl; rfl; rfl; all_goals (intro hb; first | (cases hb; done) | ((try simp only [Bool.not_true, Bool.not_false] at hb); (first | ((with_reducible intro K hK); simp only [go_sem, k1]; ((repeat (refine ndI (by first | assumption | omega | rfl) ?_)); refine hK _ ?_; clear hK K)) | ((fail_if_success (with_reducible intro _)); simp only [go_sem, k1]))))) | ((with_reducible apply evC_cond); rfl; rfl; all_goals (intro hc; first | (cases hc; done) | (try simp only at hc))) | ((with_reducible refine evD_nil ?_ ?_); kernel_rfl; (with_reducible refine hR _ ?_); clear hR R) | ((first | ((with_reducible apply evD_skip); rfl; rfl; rfl; rfl) | ((with_reducible apply evD_unmet); rfl; rfl; rfl) | ((first | ((with_reducible apply evD_fcall); rfl; rfl) | ((with_reducible apply evD_gcall); rfl; rfl; rfl; rfl; rfl)); ((first | (apply opF_callB (w1); rfl; rfl; rfl; rfl; exact Tryz.func5) | (apply opF_callB (sw); rfl; rfl; rfl; rfl; exact Tryz.func17)); kernel_rfl; rfl; (simp only [go_sem, k1]; rfl); (first | rfl | simp [AV.inNL, AV.inN]))) | ((first | ((with_reducible apply evD_any); rfl; rfl) | ((with_reducible apply evD_gany); rfl; rfl; rfl; rfl; rfl)); (simp only [rdE, rdOf, go_sem, k1]; rfl); (intro τ hA hQ hN; ((try simp only [agree, Op.operands, Call.operands, go_sem, k1, go_sem, List.mem_cons, List.not_mem_nil, forall_eq_or_imp, forall_eq, List.append_toArray, Option.toArray] at hA); (try simp only [go_sem, k1, List.mem_cons, List.not_mem_nil, forall_eq_or_imp, forall_eq] at hQ hN); (first | (revert hA; intro hA) | have hA := trivial); (first | (revert hQ; intro hQ) | have hQ := trivial); (first | (revert hN; intro hN) | have hN := trivial); simp only [go_sem, k1, go_sem, hA, hQ, hN]; (repeat (refine ndI (by first | assumption | omega | rfl) ?_)); (first | apply eff_rd | apply eff_st | apply eff_nw))))); (simp only [St.eff, setO, hputs, go_sem, k1])) | ((with_reducible apply evD_split); rfl; rfl; rfl; all_goals intro hb; all_goals (simp only [St.eff, setO, hputs, go_sem, k1])) | ((with_reducible refine evC_draw ?_ ?_ ?_ ?_); kernel_rfl; kernel_rfl; (first | kernel_rfl | simp [newNames, isNew, St.free, freeH, AV.refsL, AV.refs]); intro R hR))))
        all_goals (refine ⟨by simp, ⟨_, ?_, AV.le_refl _⟩, leH_get (by simp [leH, hget])⟩; simp only [Tryz.results3, resL, ldA, oneOf, go_sem])
    · have e1 : exN w = hasN w - owesN w := by unfold exN; rw [hr, decide_eq_true (show owesN w ≤ hasN w by omega)]; rfl
      have e2 : exB w = true := by unfold exB; rw [hr, decide_eq_true (show owesN w ≤ hasN w by omega)]; rfl
      rw [e2, e1] at h4
      rw [e1] at z4
      rw [decide_eq_false hb, sm hb] at sb
      clear e1 e2 xz sm
      generalize hasN w - owesN w = m at *
      generalize hasN w = n1 at *
      generalize owesN w = n2 at *
      generalize supplyN w = n3 at *
      (refine fn_of Tryz.func3 rfl (by rfl) ?_; simp only [Tryz.ntmps3, List.length_cons, List.length_nil, Nat.reduceAdd, Nat.reduceSub, List.replicate, List.cons_append, List.nil_append])
      (have W := ndI z1 (ndI z2 (ndI z3 z4)); (repeat (any_goals (first | ((with_reducible refine evL_call ?_ ?_ ?_); rfl; rfl; intro K hK; ((first | (apply opA_callB (wk); rfl; rfl; rfl; rfl; exact Tryz.func4) | (apply opA_callB (w1); rfl; rfl; rfl; rfl; exact Tryz.func5) | (apply opA_callB (rr); rfl; rfl; rfl; rfl; exact Tryz.func6) | (apply opA_callB (sb); rfl; rfl; rfl; rfl; exact Tryz.func10) | (apply opA_callB (h4); rfl; rfl; rfl; rfl; exact Tryz.func11)); kernel_rfl; rfl; (simp only [go_sem, W]; rfl); (first | rfl | simp [AV.inNL, AV.inN])); (simp only [go_sem, W]; refine hK _ ?_; clear hK K)) | ((with_reducible refine evL_one ?_ ?_); rfl; intro K hK; simp only [go_sem, W]; ((repeat (refine ndI (by first | assumption | omega | rfl) ?_)); refine hK _ ?_; clear hK K)) | (with_reducible first | (refine evL_nil ?_; refine hR _ ?_; clear hR R) | ((first | refine evC_seq ?_ | refine evC_block ?_); intro Ψ hΨ hΨ') | (refine evC_region ?_; intro R hR) | (refine hΨ _ ?_; clear hΨ hΨ' Ψ) | refine evC_skip ?_ | refine evC_ret ?_ | refine evC_exit ?_) | ((with_reducible refine hΨ' _ _ ?_ ?_); (focus (simp; done)); clear hΨ hΨ' Ψ) | ((with_reducible apply evL_unmet); rfl; rfl; rfl; (try simp only [go_sem, W])) | ((with_reducible apply evL_grd); rfl; rfl; rfl; all_goals (intro hb; first | (cases hb; done) | ((try simp only [Bool.not_true, Bool.not_false] at hb); (first | ((with_reducible intro K hK); simp only [go_sem, W]; ((repeat (refine ndI (by first | assumption | omega | rfl) ?_)); refine hK _ ?_; clear hK K)) | ((fail_if_success (with_reducible intro _)); simp only [go_sem, W]))))) | ((with_reducible apply evC_cond); rfl; rfl; all_goals (intro hc; first | (cases hc; done) | (try simp only at hc))) | ((with_reducible refine evD_nil ?_ ?_); kernel_rfl; (with_reducible refine hR _ ?_); clear hR R) | ((first | ((with_reducible apply evD_skip); rfl; rfl; rfl; rfl) | ((with_reducible apply evD_unmet); rfl; rfl; rfl) | ((first | ((with_reducible apply evD_fcall); rfl; rfl) | ((with_reducible apply evD_gcall); rfl; rfl; rfl; rfl; rfl)); ((first | (apply opF_callB (w1); rfl; rfl; rfl; rfl; exact Tryz.func5) | (apply opF_callB (r1); rfl; rfl; rfl; rfl; exact Tryz.func7) | (apply opF_callB (r2); rfl; rfl; rfl; rfl; exact Tryz.func8) | (apply opF_callB (r3); rfl; rfl; rfl; rfl; exact Tryz.func9) | (apply opF_callB (h1); rfl; rfl; rfl; rfl; exact Tryz.func12) | (apply opF_callB (h2); rfl; rfl; rfl; rfl; exact Tryz.func13) | (apply opF_callB (h3); rfl; rfl; rfl; rfl; exact Tryz.func14)); kernel_rfl; rfl; (simp only [go_sem, W]; rfl); (first | rfl | simp [AV.inNL, AV.inN]))) | ((first | ((with_reducible apply evD_any); rfl; rfl) | ((with_reducible apply evD_gany); rfl; rfl; rfl; rfl; rfl)); (simp only [rdE, rdOf, go_sem, W]; rfl); (intro τ hA hQ hN; ((try simp only [agree, Op.operands, Call.operands, go_sem, W, go_sem, List.mem_cons, List.not_mem_nil, forall_eq_or_imp, forall_eq, List.append_toArray, Option.toArray] at hA); (try simp only [go_sem, W, List.mem_cons, List.not_mem_nil, forall_eq_or_imp, forall_eq] at hQ hN); (first | (revert hA; intro hA) | have hA := trivial); (first | (revert hQ; intro hQ) | have hQ := trivial); (first | (revert hN; intro hN) | have hN := trivial); simp only [go_sem, W, go_sem, hA, hQ, hN]; (repeat (refine ndI (by first | assumption | omega | rfl) ?_)); (first | apply eff_rd | apply eff_st | apply eff_nw))))); (simp only [St.eff, setO, hputs, go_sem, W])) | ((with_reducible apply evD_split); rfl; rfl; rfl; all_goals intro hb; all_goals (simp only [St.eff, setO, hputs, go_sem, W])) | ((with_reducible refine evC_draw ?_ ?_ ?_ ?_); kernel_rfl; kernel_rfl; (first | kernel_rfl | simp [newNames, isNew, St.free, freeH, AV.refsL, AV.refs]); intro R hR)))))
      clear wk rr h1 h2 h3 h4 sb r1 r2 r3 z1 z2 z3 z4
      refine evC_upto l.length (fun i => ⟨[.any, .any, .ptr 2 0, .any, vb false, .ptr 5 0, vb true, .any, .any, .any, .any, .any, .any, .any, .any, .any, .any, .any, .any, .any, .any, .any, .any, .any, .any, .any, .any, .any, .any, .any, .any, .any, .any, .any, .any, .any, .any, .any, .any, .any, .any, .any, .any, .any, .any, .any, .any, .any, .any, .any, .any, .any, .any, .any, .any, .any, .any, .any, .any, .any, .any, .any, .any, .any, .any, .any, .any, .any, .any, .any, .any, .any, .any, asl false l, vi .i64 l.length, vi .i64 (i : Int), .any, .any, .any, .any, .any, .any, .any, .any, .any, .any, .any, .any, .any, .any, .any, .any, .any, .any, .any, .any, .any, .any, .any, .any], [(2, [.c (acV x.S), .c (hdV x.L), .c (noV x.N)]), (5, [.c (acV w.S), .c (hdV w.L), .c (noV w.N)])]⟩) (St.le_of (by simp [leT]) (by simp [leH, hget])) ?_
      intro i hi Ψ hΨ hΨ'
      (try dsimp only at hΨ ⊢)
      rcases Nat.lt_or_ge i l.length with hlt | hge
      · obtain ⟨a, ha⟩ : ∃ x, l[i]? = some x := ⟨_, List.getElem?_eq_getElem hlt⟩
        have k1 : (decide ((i : Int) < (l.length : Int))) = true := decide_eq_true (by omega)
        have k2 := as_at ha
        have k7 : (i : Int) + 1 = ((i + 1 : Nat) : Int) := by omega
        have ua := ol a (List.mem_of_getElem? ha)
        have wa := wl a ua
        have wlt := wlW a ua
        by_cases h20 : i = 20
        · have k3 : ((i : Int) == 20) = true := by subst h20; rfl
          (have W := ndI k1 (ndI k2 (ndI k3 @wrI)); (repeat (any_goals (first | ((with_reducible refine evL_call ?_ ?_ ?_); rfl; rfl; intro K hK; ((apply opA_callB (w1); rfl; rfl; rfl; rfl; exact Tryz.func5); kernel_rfl; rfl; (simp (disch := omega) only [go_sem, W, Nat.mul_one]; rfl); (first | rfl | simp [AV.inNL, AV.inN])); (simp (disch := omega) only [go_sem, W, Nat.mul_one]; refine hK _ ?_; clear hK K)) | ((with_reducible refine evL_one ?_ ?_); rfl; intro K hK; simp (disch := omega) only [go_sem, W, Nat.mul_one]; ((repeat (refine ndI (by first | assumption | omega | rfl) ?_)); refine hK _ ?_; clear hK K)) | (with_reducible first | (refine evL_nil ?_; refine hR _ ?_; clear hR R) | ((first | refine evC_seq ?_ | refine evC_block ?_); intro Ψ hΨ hΨ') | (refine evC_region ?_; intro R hR) | (refine hΨ _ ?_; clear hΨ hΨ' Ψ) | refine evC_skip ?_ | refine evC_ret ?_ | refine evC_exit ?_) | ((with_reducible refine hΨ' _ _ ?_ ?_); (focus (simp; done)); clear hΨ hΨ' Ψ) | ((with_reducible apply evL_unmet); rfl; rfl; rfl; (try simp (disch := omega) only [go_sem, W, Nat.mul_one])) | ((with_reducible apply evL_grd); rfl; rfl; rfl; all_goals (intro hb; first | (cases hb; done) | ((try simp only [Bool.not_true, Bool.not_false] at hb); (first | ((with_reducible intro K hK); simp (disch := omega) only [go_sem, W, Nat.mul_one]; ((repeat (refine ndI (by first | assumption | omega | rfl) ?_)); refine hK _ ?_; clear hK K)) | ((fail_if_success (with_reducible intro _)); simp (disch := omega) only [go_sem, W, Nat.mul_one]))))) | ((with_reducible apply evC_cond); rfl; rfl; all_goals (intro hc; first | (cases hc; done) | (try simp only at hc))) | ((with_reducible refine evD_nil ?_ ?_); kernel_rfl; (with_reducible refine hR _ ?_); clear hR R) | ((first | ((with_reducible apply evD_skip); rfl; rfl; rfl; rfl) | ((with_reducible apply evD_unmet); rfl; rfl; rfl) | ((first | ((with_reducible apply evD_fcall); rfl; rfl) | ((with_reducible apply evD_gcall); rfl; rfl; rfl; rfl; rfl)); ((first | (apply opF_callB (w1); rfl; rfl; rfl; rfl; exact Tryz.func5) | (apply opF_callB (sw); rfl; rfl; rfl; rfl; exact Tryz.func17)); kernel_rfl; rfl; (simp (disch := omega) only [go_sem, W, Nat.mul_one]; rfl); (first | rfl | simp [AV.inNL, AV.inN]))) | ((first | ((with_reducible apply evD_any); rfl; rfl) | ((with_reducible apply evD_gany); rfl; rfl; rfl; rfl; rfl)); (simp (disch := omega) only [rdE, rdOf, go_sem, W, Nat.mul_one]; rfl); (intro τ hA hQ hN; ((try simp only [agree, Op.operands, Call.operands, go_sem, W, Nat.mul_one, go_sem, List.mem_cons, List.not_mem_nil, forall_eq_or_imp, forall_eq, List.append_toArray, Option.toArray] at hA); (try simp only [go_sem, W, Nat.mul_one, List.mem_cons, List.not_mem_nil, forall_eq_or_imp, forall_eq] at hQ hN); (first | (revert hA; intro hA) | have hA := trivial); (first | (revert hQ; intro hQ) | have hQ := trivial); (first | (revert hN; intro hN) | have hN := trivial); simp (disch := omega) only [go_sem, W, Nat.mul_one, go_sem, hA, hQ, hN]; (repeat (refine ndI (by first | assumption | omega | rfl) ?_)); (first | apply eff_rd | apply eff_st | apply eff_nw))))); (simp (disch := omega) only [St.eff, setO, hputs, go_sem, W, Nat.mul_one])) | ((with_reducible apply evD_split); rfl; rfl; rfl; all_goals intro hb; all_goals (simp (disch := omega) only [St.eff, setO, hputs, go_sem, W, Nat.mul_one])) | ((with_reducible refine evC_draw ?_ ?_ ?_ ?_); kernel_rfl; kernel_rfl; (first | kernel_rfl | simp [newNames, isNew, St.free, freeH, AV.refsL, AV.refs]); intro R hR)))))
          all_goals (refine ⟨by simp, ⟨_, ?_, AV.le_refl _⟩, leH_get (by simp [leH, hget])⟩; simp only [Tryz.results3, resL, ldA, oneOf, go_sem])
        · have k3 : ((i : Int) == 20) = false := by simp; omega
          have zw := wN_eq wlt wlt
          rw [decide_eq_true rfl] at zw
          by_cases h0 : a = 0
          · have k4 : (a != 0) = false := by simpa using h0
            have e0 : wealthN w a = 0 := by unfold wealthN; rw [if_pos h0]
            rw [e0] at wa
            simp only [wN, l0_zero, l1_zero, l2_zero, l3_zero] at wa
            (have W := ndI k1 (ndI k2 (ndI k3 (ndI k4 (ndI k7 @wrI)))); (repeat (any_goals (first | ((with_reducible refine evL_one ?_ ?_); rfl; intro K hK; simp (disch := omega) only [go_sem, W, Nat.mul_one]; ((repeat (refine ndI (by first | assumption | omega | rfl) ?_)); refine hK _ ?_; clear hK K)) | (with_reducible first | (refine evL_nil ?_; refine hR _ ?_; clear hR R) | ((first | refine evC_seq ?_ | refine evC_block ?_); intro Ψ hΨ hΨ') | (refine evC_region ?_; intro R hR) | (refine hΨ _ ?_; clear hΨ hΨ' Ψ) | refine evC_skip ?_ | refine evC_ret ?_ | refine evC_exit ?_) | ((with_reducible refine hΨ' _ _ ?_ ?_); (focus (simp; done)); clear hΨ hΨ' Ψ) | ((with_reducible apply evL_unmet); rfl; rfl; rfl; (try simp (disch := omega) only [go_sem, W, Nat.mul_one])) | ((with_reducible apply evL_grd); rfl; rfl; rfl; all_goals (intro hb; first | (cases hb; done) | ((try simp only [Bool.not_true, Bool.not_false] at hb); (first | ((with_reducible intro K hK); simp (disch := omega) only [go_sem, W, Nat.mul_one]; ((repeat (refine ndI (by first | assumption | omega | rfl) ?_)); refine hK _ ?_; clear hK K)) | ((fail_if_success (with_reducible intro _)); simp (disch := omega) only [go_sem, W, Nat.mul_one]))))) | ((with_reducible apply evC_cond); rfl; rfl; all_goals (intro hc; first | (cases hc; done) | (try simp only at hc))) | ((with_reducible refine evD_nil ?_ ?_); kernel_rfl; (with_reducible refine hR _ ?_); clear hR R) | ((first | ((with_reducible apply evD_skip); rfl; rfl; rfl; rfl) | ((with_reducible apply evD_unmet); rfl; rfl; rfl) | ((first | ((with_reducible apply evD_fcall); rfl; rfl) | ((with_reducible apply evD_gcall); rfl; rfl; rfl; rfl; rfl)); ((apply opF_callB (wa); rfl; rfl; rfl; rfl; exact Tryz.func16); kernel_rfl; rfl; (simp (disch := omega) only [go_sem, W, Nat.mul_one]; rfl); (first | rfl | simp [AV.inNL, AV.inN]))) | ((first | ((with_reducible apply evD_any); rfl; rfl) | ((with_reducible apply evD_gany); rfl; rfl; rfl; rfl; rfl)); (simp (disch := omega) only [rdE, rdOf, go_sem, W, Nat.mul_one]; rfl); (intro τ hA hQ hN; ((try simp only [agree, Op.operands, Call.operands, go_sem, W, Nat.mul_one, go_sem, List.mem_cons, List.not_mem_nil, forall_eq_or_imp, forall_eq, List.append_toArray, Option.toArray] at hA); (try simp only [go_sem, W, Nat.mul_one, List.mem_cons, List.not_mem_nil, forall_eq_or_imp, forall_eq] at hQ hN); (first | (revert hA; intro hA) | have hA := trivial); (first | (revert hQ; intro hQ) | have hQ := trivial); (first | (revert hN; intro hN) | have hN := trivial); simp (disch := omega) only [go_sem, W, Nat.mul_one, go_sem, hA, hQ, hN]; (repeat (refine ndI (by first | assumption | omega | rfl) ?_)); (first | apply eff_rd | apply eff_st | apply eff_nw))))); (simp (disch := omega) only [St.eff, setO, hputs, go_sem, W, Nat.mul_one])) | ((with_reducible apply evD_split); rfl; rfl; rfl; all_goals intro hb; all_goals (simp (disch := omega) only [St.eff, setO, hputs, go_sem, W, Nat.mul_one])) | ((with_reducible refine evC_draw ?_ ?_ ?_ ?_); kernel_rfl; kernel_rfl; (first | kernel_rfl | simp [newNames, isNew, St.free, freeH, AV.refsL, AV.refs]); intro R hR)))))
            all_goals exact hΨ _ hlt (St.le_of (by simp [leT]) (by simp [leH, hget]))
          · have k4 : (a != 0) = true := by simpa using h0
            have rw2 := rw1 a ua h0
            generalize wealthN w a = n at wa zw rw2
            (have W := ndI k1 (ndI k2 (ndI k3 (ndI k4 (ndI k7 @wrI)))); (repeat (any_goals (first | ((with_reducible refine evL_call ?_ ?_ ?_); rfl; rfl; intro K hK; ((apply opA_callB (rw2); rfl; rfl; rfl; rfl; exact Tryz.func15); kernel_rfl; rfl; (simp (disch := omega) only [go_sem, W, zw, Nat.mul_one]; rfl); (first | rfl | simp [AV.inNL, AV.inN])); (simp (disch := omega) only [go_sem, W, zw, Nat.mul_one]; refine hK _ ?_; clear hK K)) | ((with_reducible refine evL_one ?_ ?_); rfl; intro K hK; simp (disch := omega) only [go_sem, W, zw, Nat.mul_one]; ((repeat (refine ndI (by first | assumption | omega | rfl) ?_)); refine hK _ ?_; clear hK K)) | (with_reducible first | (refine evL_nil ?_; refine hR _ ?_; clear hR R) | ((first | refine evC_seq ?_ | refine evC_block ?_); intro Ψ hΨ hΨ') | (refine evC_region ?_; intro R hR) | (refine hΨ _ ?_; clear hΨ hΨ' Ψ) | refine evC_skip ?_ | refine evC_ret ?_ | refine evC_exit ?_) | ((with_reducible refine hΨ' _ _ ?_ ?_); (focus (simp; done)); clear hΨ hΨ' Ψ) | ((with_reducible apply evL_unmet); rfl; rfl; rfl; (try simp (disch := omega) only [go_sem, W, zw, Nat.mul_one])) | ((with_reducible apply evL_grd); rfl; rfl; rfl; all_goals (intro hb; first | (cases hb; done) | ((try simp only [Bool.not_true, Bool.not_false] at hb); (first | ((with_reducible intro K hK); simp (disch := omega) only [go_sem, W, zw, Nat.mul_one]; ((repeat (refine ndI (by first | assumption | omega | rfl) ?_)); refine hK _ ?_; clear hK K)) | ((fail_if_success (with_reducible intro _)); simp (disch := omega) only [go_sem, W, zw, Nat.mul_one]))))) | ((with_reducible apply evC_cond); rfl; rfl; all_goals (intro hc; first | (cases hc; done) | (try simp only at hc))) | ((with_reducible refine evD_nil ?_ ?_); kernel_rfl; (with_reducible refine hR _ ?_); clear hR R) | ((first | ((with_reducible apply evD_skip); rfl; rfl; rfl; rfl) | ((with_reducible apply evD_unmet); rfl; rfl; rfl) | ((first | ((with_reducible apply evD_fcall); rfl; rfl) | ((with_reducible apply evD_gcall); rfl; rfl; rfl; rfl; rfl)); ((apply opF_callB (wa); rfl; rfl; rfl; rfl; exact Tryz.func16); kernel_rfl; rfl; (simp (disch := omega) only [go_sem, W, zw, Nat.mul_one]; rfl); (first | rfl | simp [AV.inNL, AV.inN]))) | ((first | ((with_reducible apply evD_any); rfl; rfl) | ((with_reducible apply evD_gany); rfl; rfl; rfl; rfl; rfl)); (simp (disch := omega) only [rdE, rdOf, go_sem, W, zw, Nat.mul_one]; rfl); (intro τ hA hQ hN; ((try simp only [agree, Op.operands, Call.operands, go_sem, W, zw, Nat.mul_one, go_sem, List.mem_cons, List.not_mem_nil, forall_eq_or_imp, forall_eq, List.append_toArray, Option.toArray] at hA); (try simp only [go_sem, W, zw, Nat.mul_one, List.mem_cons, List.not_mem_nil, forall_eq_or_imp, forall_eq] at hQ hN); (first | (revert hA; intro hA) | have hA := trivial); (first | (revert hQ; intro hQ) | have hQ := trivial); (first | (revert hN; intro hN) | have hN := trivial); simp (disch := omega) only [go_sem, W, zw, Nat.mul_one, go_sem, hA, hQ, hN]; (repeat (refine ndI (by first | assumption | omega | rfl) ?_)); (first | apply eff_rd | apply eff_st | apply eff_nw))))); (simp (disch := omega) only [St.eff, setO, hputs, go_sem, W, zw, Nat.mul_one])) | ((with_reducible apply evD_split); rfl; rfl; rfl; all_goals intro hb; all_goals (simp (disch := omega) only [St.eff, setO, hputs, go_sem, W, zw, Nat.mul_one])) | ((with_reducible refine evC_draw ?_ ?_ ?_ ?_); kernel_rfl; kernel_rfl; (first | kernel_rfl | simp [newNames, isNew, St.free, freeH, AV.refsL, AV.refs]); intro R hR)))))
            all_goals exact hΨ _ hlt (St.le_of (by simp [leT]) (by simp [leH, hget]))
      · have k1 : (decide ((i : Int) < (l.length : Int))) = false := decide_eq_false (by omega)
        (repeat (any_goals (first | ((with_reducible refine evL_call ?_ ?_ ?_); rfl; rfl; intro K hK; ((apply opA_callB (w1); rfl; rfl; rfl; rfl; exact Tryz.func5); kernel_rfl; rfl; (simp only [go_sem, k1]; rfl); (first | rfl | simp [AV.inNL, AV.inN])); (simp only [go_sem, k1]; refine hK _ ?_; clear hK K)) | ((with_reducible refine evL_one ?_ ?_); rfl; intro K hK; simp only [go_sem, k1]; ((repeat (refine ndI (by first | assumption | omega | rfl) ?_)); refine hK _ ?_; clear hK K)) | (with_reducible first | (refine evL_nil ?_; refine hR _ ?_; clear hR R) | ((first | refine evC_seq ?_ | refine evC_block ?_); intro Ψ hΨ hΨ') | (refine evC_region ?_; intro R hR) | (refine hΨ _ ?_; clear hΨ hΨ' Ψ) | refine evC_skip ?_ | refine evC_ret ?_ | refine evC_exit ?_) | ((with_reducible refine hΨ' _ _ ?_ ?_); (focus (simp; done)); clear hΨ hΨ' Ψ) | ((with_reducible apply evL_unmet); rfl; rfl; rfl; (try simp only [go_sem, k1])) | ((with_reducible apply evL_grd); rfl; rfl; rfl; all_goals (intro hb; first | (cases hb; done) | ((try simp only [Bool.not_true, Bool.not_false] at hb); (first | ((with_reducible intro K hK); simp only [go_sem, k1]; ((repeat (refine ndI (by first | assumption | omega | rfl) ?_)); refine hK _ ?_; clear hK K)) | ((fail_if_success (with_reducible intro _)); simp only [go_sem, k1]))))) | ((with_reducible apply evC_cond); rfl; rfl; all_goals (intro hc; first | (cases hc; done) | (try simp only at hc))) | ((with_reducible refine evD_nil ?_ ?_); kernel_rfl; (with_reducible refine hR _ ?_); clear hR R) | ((first | ((with_reducible apply evD_skip); rfl; rfl; rfl; rfl) | ((with_reducible apply evD_unmet); rfl; rfl; rfl) | ((first | ((with_reducible apply evD_fcall); rfl; rfl) | ((with_reducible apply evD_gcall); rfl; rfl; rfl; rfl; rfl)); ((first | (apply opF_callB (w1); rfl; rfl; rfl; rfl; exact Tryz.func5) | (apply opF_callB (sw); rfl; rfl; rfl; rfl; exact Tryz.func17)); kernel_rfl; rfl; (simp only [go_sem, k1]; rfl); (first | rfl | simp [AV.inNL, AV.inN]))) | ((first | ((with_reducible apply evD_any); rfl; rfl) | ((with_reducible apply evD_gany); rfl; rfl; rfl; rfl; rfl)); (simp only [rdE, rdOf, go_sem, k1]; rfl); (intro τ hA hQ hN; ((try simp only [agree, Op.operands, Call.operands, go_sem, k1, go_sem, List.mem_cons, List.not_mem_nil, forall_eq_or_imp, forall_eq, List.append_toArray, Option.toArray] at hA); (try simp only [go_sem, k1, List.mem_cons, List.not_mem_nil, forall_eq_or_imp, forall_eq] at hQ hN); (first | (revert hA; intro hA) | have hA := trivial); (first | (revert hQ; intro hQ) | have hQ := trivial); (first | (revert hN; intro hN) | have hN := trivial); simp only [go_sem, k1, go_sem, hA, hQ, hN]; (repeat (refine ndI (by first | assumption | omega | rfl) ?_)); (first | apply eff_rd | apply eff_st | apply eff_nw))))); (simp only [St.eff, setO, hputs, go_sem, k1])) | ((with_reducible apply evD_split); rfl; rfl; rfl; all_goals intro hb; all_goals (simp only [St.eff, setO, hputs, go_sem, k1])) | ((with_reducible refine evC_draw ?_ ?_ ?_ ?_); kernel_rfl; kernel_rfl; (first | kernel_rfl | simp [newNames, isNew, St.free, freeH, AV.refsL, AV.refs]); intro R hR))))
        all_goals (refine ⟨by simp, ⟨_, ?_, AV.le_refl _⟩, leH_get (by simp [leH, hget])⟩; simp only [Tryz.results3, resL, ldA, oneOf, go_sem])
  · have hr2 : rightW w = false := by simpa using hr
    rw [hr2] at rr
    have e0 : hasN w = 0 := by unfold hasN; rw [if_neg hr]
    have e1 : owesN w = 0 := by unfold owesN; rw [if_neg hr]
    have e2 : supplyN w = 0 := by unfold supplyN; rw [if_neg hr]
    have e3 : exN w = 0 := by unfold exN; rw [hr2]; rfl
    have e4 : exB w = false := by unfold exB; rw [hr2]; rfl
    rw [e0] at h1
    rw [e1] at h2
    rw [e2] at h3
    rw [e3, e4] at h4
    have e5 : (0 + WW - 0) % WW = 0 := by decide
    rw [e0, e1, e5, decide_eq_false (Nat.lt_irrefl 0)] at sb
    simp only [wN, l0_zero, l1_zero, l2_zero, l3_zero] at h1 h2 h3 h4 sb
    clear e0 e1 e2 e3 e4 e5 sm xz
    (refine fn_of Tryz.func3 rfl (by rfl) ?_; simp only [Tryz.ntmps3, List.length_cons, List.length_nil, Nat.reduceAdd, Nat.reduceSub, List.replicate, List.cons_append, List.nil_append])
    (repeat (any_goals (first | ((with_reducible refine evL_call ?_ ?_ ?_); rfl; rfl; intro K hK; ((first | (apply opA_callB (wk); rfl; rfl; rfl; rfl; exact Tryz.func4) | (apply opA_callB (w1); rfl; rfl; rfl; rfl; exact Tryz.func5) | (apply opA_callB (rr); rfl; rfl; rfl; rfl; exact Tryz.func6) | (apply opA_callB (sb); rfl; rfl; rfl; rfl; exact Tryz.func10) | (apply opA_callB (h4); rfl; rfl; rfl; rfl; exact Tryz.func11)); kernel_rfl; rfl; (simp only [go_sem]; rfl); (first | rfl | simp [AV.inNL, AV.inN])); (simp only [go_sem]; refine hK _ ?_; clear hK K)) | ((with_reducible refine evL_one ?_ ?_); rfl; intro K hK; simp only [go_sem]; ((repeat (refine ndI (by first | assumption | omega | rfl) ?_)); refine hK _ ?_; clear hK K)) | (with_reducible first | (refine evL_nil ?_; refine hR _ ?_; clear hR R) | ((first | refine evC_seq ?_ | refine evC_block ?_); intro Ψ hΨ hΨ') | (refine evC_region ?_; intro R hR) | (refine hΨ _ ?_; clear hΨ hΨ' Ψ) | refine evC_skip ?_ | refine evC_ret ?_ | refine evC_exit ?_) | ((with_reducible refine hΨ' _ _ ?_ ?_); (focus (simp; done)); clear hΨ hΨ' Ψ) | ((with_reducible apply evL_unmet); rfl; rfl; rfl; (try simp only [go_sem])) | ((with_reducible apply evL_grd); rfl; rfl; rfl; all_goals (intro hb; first | (cases hb; done) | ((try simp only [Bool.not_true, Bool.not_false] at hb); (first | ((with_reducible intro K hK); simp only [go_sem]; ((repeat (refine ndI (by first | assumption | omega | rfl) ?_)); refine hK _ ?_; clear hK K)) | ((fail_if_success (with_reducible intro _)); simp only [go_sem]))))) | ((with_reducible apply evC_cond); rfl; rfl; all_goals (intro hc; first | (cases hc; done) | (try simp only at hc))) | ((with_reducible refine evD_nil ?_ ?_); kernel_rfl; (with_reducible refine hR _ ?_); clear hR R) | ((first | ((with_reducible apply evD_skip); rfl; rfl; rfl; rfl) | ((with_reducible apply evD_unmet); rfl; rfl; rfl) | ((first | ((with_reducible apply evD_fcall); rfl; rfl) | ((with_reducible apply evD_gcall); rfl; rfl; rfl; rfl; rfl)); ((first | (apply opF_callB (w1); rfl; rfl; rfl; rfl; exact Tryz.func5) | (apply opF_callB (h1); rfl; rfl; rfl; rfl; exact Tryz.func12) | (apply opF_callB (h2); rfl; rfl; rfl; rfl; exact Tryz.func13) | (apply opF_callB (h3); rfl; rfl; rfl; rfl; exact Tryz.func14)); kernel_rfl; rfl; (simp only [go_sem]; rfl); (first | rfl | simp [AV.inNL, AV.inN]))) | ((first | ((with_reducible apply evD_any); rfl; rfl) | ((with_reducible apply evD_gany); rfl; rfl; rfl; rfl; rfl)); (simp only [rdE, rdOf, go_sem]; rfl); (intro τ hA hQ hN; ((try simp only [agree, Op.operands, Call.operands, go_sem, List.mem_cons, List.not_mem_nil, forall_eq_or_imp, forall_eq, List.append_toArray, Option.toArray] at hA); (try simp only [go_sem, List.mem_cons, List.not_mem_nil, forall_eq_or_imp, forall_eq] at hQ hN); (first | (revert hA; intro hA) | have hA := trivial); (first | (revert hQ; intro hQ) | have hQ := trivial); (first | (revert hN; intro hN) | have hN := trivial); simp only [go_sem, hA, hQ, hN]; (repeat (refine ndI (by first | assumption | omega | rfl) ?_)); (first | apply eff_rd | apply eff_st | apply eff_nw))))); (simp only [St.eff, setO, hputs, go_sem])) | ((with_reducible apply evD_split); rfl; rfl; rfl; all_goals intro hb; all_goals (simp only [St.eff, setO, hputs, go_sem])) | ((with_reducible refine evC_draw ?_ ?_ ?_ ?_); kernel_rfl; kernel_rfl; (first | kernel_rfl | simp [newNames, isNew, St.free, freeH, AV.refsL, AV.refs]); intro R hR))))
    clear wk rr h1 h2 h3 h4 sb z1 z2 z3 z4
    refine evC_upto l.length (fun i => ⟨[.any, .any, .ptr 2 0, .any, vb false, .ptr 5 0, vb false, .any, .any, .any, .any, .any, .any, .any, .any, .any, .any, .any, .any, .any, .any, .any, .any, .any, .any, .any, .any, .any, .any, .any, .any, .any, .any, .any, .any, .any, .any, .any, .any, .any, .any, .any, .any, .any, .any, .any, .any, .any, .any, .any, .any, .any, .any, .any, .any, .any, .any, .any, .any, .any, .any, .any, .any, .any, .any, .any, .any, .any, .any, .any, .any, .any, .any, asl false l, vi .i64 l.length, vi .i64 (i : Int), .any, .any, .any, .any, .any, .any, .any, .any, .any, .any, .any, .any, .any, .any, .any, .any, .any, .any, .any, .any, .any, .any, .any, .any], [(2, [.c (acV x.S), .c (hdV x.L), .c (noV x.N)]), (5, [.c (acV w.S), .c (hdV w.L), .c (noV w.N)])]⟩) (St.le_of (by simp [leT]) (by simp [leH, hget])) ?_
    intro i hi Ψ hΨ hΨ'
    (try dsimp only at hΨ ⊢)
    rcases Nat.lt_or_ge i l.length with hlt | hge
    · obtain ⟨a, ha⟩ : ∃ x, l[i]? = some x := ⟨_, List.getElem?_eq_getElem hlt⟩
      have k1 : (decide ((i : Int) < (l.length : Int))) = true := decide_eq_true (by omega)
      have k2 := as_at ha
      have k7 : (i : Int) + 1 = ((i + 1 : Nat) : Int) := by omega
      have ua := ol a (List.mem_of_getElem? ha)
      have wa := wl a ua
      have wlt := wlW a ua
      by_cases h20 : i = 20
      · have k3 : ((i : Int) == 20) = true := by subst h20; rfl
        (have W := ndI k1 (ndI k2 (ndI k3 @wrI)); (repeat (any_goals (first | ((with_reducible refine evL_call ?_ ?_ ?_); rfl; rfl; intro K hK; ((apply opA_callB (w1); rfl; rfl; rfl; rfl; exact Tryz.func5); kernel_rfl; rfl; (simp (disch := omega) only [go_sem, W, Nat.mul_one]; rfl); (first | rfl | simp [AV.inNL, AV.inN])); (simp (disch := omega) only [go_sem, W, Nat.mul_one]; refine hK _ ?_; clear hK K)) | ((with_reducible refine evL_one ?_ ?_); rfl; intro K hK; simp (disch := omega) only [go_sem, W, Nat.mul_one]; ((repeat (refine ndI (by first | assumption | omega | rfl) ?_)); refine hK _ ?_; clear hK K)) | (with_reducible first | (refine evL_nil ?_; refine hR _ ?_; clear hR R) | ((first | refine evC_seq ?_ | refine evC_block ?_); intro Ψ hΨ hΨ') | (refine evC_region ?_; intro R hR) | (refine hΨ _ ?_; clear hΨ hΨ' Ψ) | refine evC_skip ?_ | refine evC_ret ?_ | refine evC_exit ?_) | ((with_reducible refine hΨ' _ _ ?_ ?_); (focus (simp; done)); clear hΨ hΨ' Ψ) | ((with_reducible apply evL_unmet); rfl; rfl; rfl; (try simp (disch := omega) only [go_sem, W, Nat.mul_one])) | ((with_reducible apply evL_grd); rfl; rfl; rfl; all_goals (intro hb; first | (cases hb; done) | ((try simp only [Bool.not_true, Bool.not_false] at hb); (first | ((with_reducible intro K hK); simp (disch := omega) only [go_sem, W, Nat.mul_one]; ((repeat (refine ndI (by first | assumption | omega | rfl) ?_)); refine hK _ ?_; clear hK K)) | ((fail_if_success (with_reducible intro _)); simp (disch := omega) only [go_sem, W, Nat.mul_one]))))) | ((with_reducible apply evC_cond); rfl; rfl; all_goals (intro hc; first | (cases hc; done) | (try simp only at hc))) | ((with_reducible refine evD_nil ?_ ?_); kernel_rfl; (with_reducible refine hR _ ?_); clear hR R) | ((first | ((with_reducible apply evD_skip); rfl; rfl; rfl; rfl) | ((with_reducible apply evD_unmet); rfl; rfl; rfl) | ((first | ((with_reducible apply evD_fcall); rfl; rfl) | ((with_reducible apply evD_gcall); rfl; rfl; rfl; rfl; rfl)); ((first | (apply opF_callB (w1); rfl; rfl; rfl; rfl; exact Tryz.func5) | (apply opF_callB (sw); rfl; rfl; rfl; rfl; exact Tryz.func17)); kernel_rfl; rfl; (simp (disch := omega) only [go_sem, W, Nat.mul_one]; rfl); (first | rfl | simp [AV.inNL, AV.inN]))) | ((first | ((with_reducible apply evD_any); rfl; rfl) | ((with_reducible apply evD_gany); rfl; rfl; rfl; rfl; rfl)); (simp (disch := omega) only [rdE, rdOf, go_sem, W, Nat.mul_one]; rfl); (intro τ hA hQ hN; ((try simp only [agree, Op.operands, Call.operands, go_sem, W, Nat.mul_one, go_sem, List.mem_cons, List.not_mem_nil, forall_eq_or_imp, forall_eq, List.append_toArray, Option.toArray] at hA); (try simp only [go_sem, W, Nat.mul_one, List.mem_cons, List.not_mem_nil, forall_eq_or_imp, forall_eq] at hQ hN); (first | (revert hA; intro hA) | have hA := trivial); (first | (revert hQ; intro hQ) | have hQ := trivial); (first | (revert hN; intro hN) | have hN := trivial); simp (disch := omega) only [go_sem, W, Nat.mul_one, go_sem, hA, hQ, hN]; (repeat (refine ndI (by first | assumption | omega | rfl) ?_)); (first | apply eff_rd | apply eff_st | apply eff_nw))))); (simp (disch := omega) only [St.eff, setO, hputs, go_sem, W, Nat.mul_one])) | ((with_reducible apply evD_split); rfl; rfl; rfl; all_goals intro hb; all_goals (simp (disch := omega) only [St.eff, setO, hputs, go_sem, W, Nat.mul_one])) | ((with_reducible refine evC_draw ?_ ?_ ?_ ?_); kernel_rfl; kernel_rfl; (first | kernel_rfl | simp [newNames, isNew, St.free, freeH, AV.refsL, AV.refs]); intro R hR)))))
        all_goals (refine ⟨by simp, ⟨_, ?_, AV.le_refl _⟩, leH_get (by simp [leH, hget])⟩; simp only [Tryz.results3, resL, ldA, oneOf, go_sem])
      · have k3 : ((i : Int) == 20) = false := by simp; omega
        have zw := wN_eq wlt wlt
        rw [decide_eq_true rfl] at zw
        by_cases h0 : a = 0
        · have k4 : (a != 0) = false := by simpa using h0
          have e0 : wealthN w a = 0 := by unfold wealthN; rw [if_pos h0]
          rw [e0] at wa
          simp only [wN, l0_zero, l1_zero, l2_zero, l3_zero] at wa
          (have W := ndI k1 (ndI k2 (ndI k3 (ndI k4 (ndI k7 @wrI)))); (repeat (any_goals (first | ((with_reducible refine evL_one ?_ ?_); rfl; intro K hK; simp (disch := omega) only [go_sem, W, Nat.mul_one]; ((repeat (refine ndI (by first | assumption | omega | rfl) ?_)); refine hK _ ?_; clear hK K)) | (with_reducible first | (refine evL_nil ?_; refine hR _ ?_; clear hR R) | ((first | refine evC_seq ?_ | refine evC_block ?_); intro Ψ hΨ hΨ') | (refine evC_region ?_; intro R hR) | (refine hΨ _ ?_; clear hΨ hΨ' Ψ) | refine evC_skip ?_ | refine evC_ret ?_ | refine evC_exit ?_) | ((with_reducible refine hΨ' _ _ ?_ ?_); (focus (simp; done)); clear hΨ hΨ' Ψ) | ((with_reducible apply evL_unmet); rfl; rfl; rfl; (try simp (disch := omega) only [go_sem, W, Nat.mul_one])) | ((with_reducible apply evL_grd); rfl; rfl; rfl; all_goals (intro hb; first | (cases hb; done) | ((try simp only [Bool.not_true, Bool.not_false] at hb); (first | ((with_reducible intro K hK); simp (disch := omega) only [go_sem, W, Nat.mul_one]; ((repeat (refine ndI (by first | assumption | omega | rfl) ?_)); refine hK _ ?_; clear hK K)) | ((fail_if_success (with_reducible intro _)); simp (disch := omega) only [go_sem, W, Nat.mul_one]))))) | ((with_reducible apply evC_cond); rfl; rfl; all_goals (intro hc; first | (cases hc; done) | (try simp only at hc))) | ((with_reducible refine evD_nil ?_ ?_); kernel_rfl; (with_reducible refine hR _ ?_); clear hR R) | ((first | ((with_reducible apply evD_skip); rfl; rfl; rfl; rfl) | ((with_reducible apply evD_unmet); rfl; rfl; rfl) | ((first | ((with_reducible apply evD_fcall); rfl; rfl) | ((with_reducible apply evD_gcall); rfl; rfl; rfl; rfl; rfl)); ((apply opF_callB (wa); rfl; rfl; rfl; rfl; exact Tryz.func16); kernel_rfl; rfl; (simp (disch := omega) only [go_sem, W, Nat.mul_one]; rfl); (first | rfl | simp [AV.inNL, AV.inN]))) | ((first | ((with_reducible apply evD_any); rfl; rfl) | ((with_reducible apply evD_gany); rfl; rfl; rfl; rfl; rfl)); (simp (disch := omega) only [rdE, rdOf, go_sem, W, Nat.mul_one]; rfl); (intro τ hA hQ hN; ((try simp only [agree, Op.operands, Call.operands, go_sem, W, Nat.mul_one, go_sem, List.mem_cons, List.not_mem_nil, forall_eq_or_imp, forall_eq, List.append_toArray, Option.toArray] at hA); (try simp only [go_sem, W, Nat.mul_one, List.mem_cons, List.not_mem_nil, forall_eq_or_imp, forall_eq] at hQ hN); (first | (revert hA; intro hA) | have hA := trivial); (first | (revert hQ; intro hQ) | have hQ := trivial); (first | (revert hN; intro hN) | have hN := trivial); simp (disch := omega) only [go_sem, W, Nat.mul_one, go_sem, hA, hQ, hN]; (repeat (refine ndI (by first | assumption | omega | rfl) ?_)); (first | apply eff_rd | apply eff_st | apply eff_nw))))); (simp (disch := omega) only [St.eff, setO, hputs, go_sem, W, Nat.mul_one])) | ((with_reducible apply evD_split); rfl; rfl; rfl; all_goals intro hb; all_goals (simp (disch := omega) only [St.eff, setO, hputs, go_sem, W, Nat.mul_one])) | ((with_reducible refine evC_draw ?_ ?_ ?_ ?_); kernel_rfl; kernel_rfl; (first | kernel_rfl | simp [newNames, isNew, St.free, freeH, AV.refsL, AV.refs]); intro R hR)))))
          all_goals exact hΨ _ hlt (St.le_of (by simp [leT]) (by simp [leH, hget]))
        · have k4 : (a != 0) = true := by simpa using h0
          have e0 : wealthN w a = 0 := by unfold wealthN; rw [if_neg h0, if_neg hr]
          rw [e0] at wa
          simp only [wN, l0_zero, l1_zero, l2_zero, l3_zero] at wa
          (have W := ndI k1 (ndI k2 (ndI k3 (ndI k4 (ndI k7 @wrI)))); (repeat (any_goals (first | ((with_reducible refine evL_one ?_ ?_); rfl; intro K hK; simp (disch := omega) only [go_sem, W, Nat.mul_one]; ((repeat (refine ndI (by first | assumption | omega | rfl) ?_)); refine hK _ ?_; clear hK K)) | (with_reducible first | (refine evL_nil ?_; refine hR _ ?_; clear hR R) | ((first | refine evC_seq ?_ | refine evC_block ?_); intro Ψ hΨ hΨ') | (refine evC_region ?_; intro R hR) | (refine hΨ _ ?_; clear hΨ hΨ' Ψ) | refine evC_skip ?_ | refine evC_ret ?_ | refine evC_exit ?_) | ((with_reducible refine hΨ' _ _ ?_ ?_); (focus (simp; done)); clear hΨ hΨ' Ψ) | ((with_reducible apply evL_unmet); rfl; rfl; rfl; (try simp (disch := omega) only [go_sem, W, Nat.mul_one])) | ((with_reducible apply evL_grd); rfl; rfl; rfl; all_goals (intro hb; first | (cases hb; done) | ((try simp only [Bool.not_true, Bool.not_false] at hb); (first | ((with_reducible intro K hK); simp (disch := omega) only [go_sem, W, Nat.mul_one]; ((repeat (refine ndI (by first | assumption | omega | rfl) ?_)); refine hK _ ?_; clear hK K)) | ((fail_if_success (with_reducible intro _)); simp (disch := omega) only [go_sem, W, Nat.mul_one]))))) | ((with_reducible apply evC_cond); rfl; rfl; all_goals (intro hc; first | (cases hc; done) | (try simp only at hc))) | ((with_reducible refine evD_nil ?_ ?_); kernel_rfl; (with_reducible refine hR _ ?_); clear hR R) | ((first | ((with_reducible apply evD_skip); rfl; rfl; rfl; rfl) | ((with_reducible apply evD_unmet); rfl; rfl; rfl) | ((first | ((with_reducible apply evD_fcall); rfl; rfl) | ((with_reducible apply evD_gcall); rfl; rfl; rfl; rfl; rfl)); ((apply opF_callB (wa); rfl; rfl; rfl; rfl; exact Tryz.func16); kernel_rfl; rfl; (simp (disch := omega) only [go_sem, W, Nat.mul_one]; rfl); (first | rfl | simp [AV.inNL, AV.inN]))) | ((first | ((with_reducible apply evD_any); rfl; rfl) | ((with_reducible apply evD_gany); rfl; rfl; rfl; rfl; rfl)); (simp (disch := omega) only [rdE, rdOf, go_sem, W, Nat.mul_one]; rfl); (intro τ hA hQ hN; ((try simp only [agree, Op.operands, Call.operands, go_sem, W, Nat.mul_one, go_sem, List.mem_cons, List.not_mem_nil, forall_eq_or_imp, forall_eq, List.append_toArray, Option.toArray] at hA); (try simp only [go_sem, W, Nat.mul_one, List.mem_cons, List.not_mem_nil, forall_eq_or_imp, forall_eq] at hQ hN); (first | (revert hA; intro hA) | have hA := trivial); (first | (revert hQ; intro hQ) | have hQ := trivial); (first | (revert hN; intro hN) | have hN := trivial); simp (disch := omega) only [go_sem, W, Nat.mul_one, go_sem, hA, hQ, hN]; (repeat (refine ndI (by first | assumption | omega | rfl) ?_)); (first | apply eff_rd | apply eff_st | apply eff_nw))))); (simp (disch := omega) only [St.eff, setO, hputs, go_sem, W, Nat.mul_one])) | ((with_reducible apply evD_split); rfl; rfl; rfl; all_goals intro hb; all_goals (simp (disch := omega) only [St.eff, setO, hputs, go_sem, W, Nat.mul_one])) | ((with_reducible refine evC_draw ?_ ?_ ?_ ?_); kernel_rfl; kernel_rfl; (first | kernel_rfl | simp [newNames, isNew, St.free, freeH, AV.refsL, AV.refs]); intro R hR)))))
          all_goals exact hΨ _ hlt (St.le_of (by simp [leT]) (by simp [leH, hget]))
    · have k1 : (decide ((i : Int) < (l.length : Int))) = false := decide_eq_false (by omega)
      (repeat (any_goals (first | ((with_reducible refine evL_call ?_ ?_ ?_); rfl; rfl; intro K hK; ((apply opA_callB (w1); rfl; rfl; rfl; rfl; exact Tryz.func5); kernel_rfl; rfl; (simp only [go_sem, k1]; rfl); (first | rfl | simp [AV.inNL, AV.inN])); (simp only [go_sem, k1]; refine hK _ ?_; clear hK K)) | ((with_reducible refine evL_one ?_ ?_); rfl; intro K hK; simp only [go_sem, k1]; ((repeat (refine ndI (by first | assumption | omega | rfl) ?_)); refine hK _ ?_; clear hK K)) | (with_reducible first | (refine evL_nil ?_; refine hR _ ?_; clear hR R) | ((first | refine evC_seq ?_ | refine evC_block ?_); intro Ψ hΨ hΨ') | (refine evC_region ?_; intro R hR) | (refine hΨ _ ?_; clear hΨ hΨ' Ψ) | refine evC_skip ?_ | refine evC_ret ?_ | refine evC_exit ?_) | ((with_reducible refine hΨ' _ _ ?_ ?_); (focus (simp; done)); clear hΨ hΨ' Ψ) | ((with_reducible apply evL_unmet); rfl; rfl; rfl; (try simp only [go_sem, k1])) | ((with_reducible apply evL_grd); rfl; rfl; rfl; all_goals (intro hb; first | (cases hb; done) | ((try simp only [Bool.not_true, Bool.not_false] at hb); (first | ((with_reducible intro K hK); simp only [go_sem, k1]; ((repeat (refine ndI (by first | assumption | omega | rfl) ?_)); refine hK _ ?_; clear hK K)) | ((fail_if_success (with_reducible intro _)); simp only [go_sem, k1]))))) | ((with_reducible apply evC_cond); rfl; rfl; all_goals (intro hc; first | (cases hc; done) | (try simp only at hc))) | ((with_reducible refine evD_nil ?_ ?_); kernel_rfl; (with_reducible refine hR _ ?_); clear hR R) | ((first | ((with_reducible apply evD_skip); rfl; rfl; rfl; rfl) | ((with_reducible apply evD_unmet); rfl; rfl; rfl) | ((first | ((with_reducible apply evD_fcall); rfl; rfl) | ((with_reducible apply evD_gcall); rfl; rfl; rfl; rfl; rfl)); ((first | (apply opF_callB (w1); rfl; rfl; rfl; rfl; exact Tryz.func5) | (apply opF_callB (sw); rfl; rfl; rfl; rfl; exact Tryz.func17)); kernel_rfl; rfl; (simp only [go_sem, k1]; rfl); (first | rfl | simp [AV.inNL, AV.inN]))) | ((first | ((with_reducible apply evD_any); rfl; rfl) | ((with_reducible apply evD_gany); rfl; rfl; rfl; rfl; rfl)); (simp only [rdE, rdOf, go_sem, k1]; rfl); (intro τ hA hQ hN; ((try simp only [agree, Op.operands, Call.operands, go_sem, k1, go_sem, List.mem_cons, List.not_mem_nil, forall_eq_or_imp, forall_eq, List.append_toArray, Option.toArray] at hA); (try simp only [go_sem, k1, List.mem_cons, List.not_mem_nil, forall_eq_or_imp, forall_eq] at hQ hN); (first | (revert hA; intro hA) | have hA := trivial); (first | (revert hQ; intro hQ) | have hQ := trivial); (first | (revert hN; intro hN) | have hN := trivial); simp only [go_sem, k1, go_sem, hA, hQ, hN]; (repeat (refine ndI (by first | assumption | omega | rfl) ?_)); (first | apply eff_rd | apply eff_st | apply eff_nw))))); (simp only [St.eff, setO, hputs, go_sem, k1])) | ((with_reducible apply evD_split); rfl; rfl; rfl; all_goals intro hb; all_goals (simp only [St.eff, setO, hputs, go_sem, k1])) | ((with_reducible refine evC_draw ?_ ?_ ?_ ?_); kernel_rfl; kernel_rfl; (first | kernel_rfl | simp [newNames, isNew, St.free, freeH, AV.refsL, AV.refs]); intro R hR))))
      all_goals (refine ⟨by simp, ⟨_, ?_, AV.le_refl _⟩, leH_get (by simp [leH, hget])⟩; simp only [Tryz.results3, resL, ldA, oneOf, go_sem])
theorem law_tells {x : Wl} {l : List Int} {v0 v1 : Value} {W : World} (h0 : RV (fun _ => True) (fun _ => (0, 0, 0)) W v0 (.agg (x.pv.map .c))) (g0 : x.raw) (h1 : RV (fun _ => True) (fun _ => (0, 0, 0)) W v1 (asl false l)) (g1 : l.length ≤ maxLen ∧ ∀ a ∈ l, U a) : Calls Tryz.prog 3 #[v0, v1] W (RetT W true) := by
  refine Fn.law (tells_fn x g0 l g1.1 g1.2) (vs := [_, _]) rfl fun j v x hj hx => ?_
  rcases j with _ | _ | j
  · cases hj; cases hx; exact h0
  · cases hj; cases hx; exact h1
  · simp at hj
end Go.Proofs.YtgdnmdnhkhpieaaGreat
namespace Go.Proofs.YtgdnmdnhkhpieaaGreat.idealTellsDone
open Go.RowKit Go.ChangeShapes Go.WideShapes Go.ChangeAt

theorem own : ownKnob Tryz.prog.godebug = none := by kernel_rfl
theorem laidOut : laidOutB Tryz.prog = true := by kernel_rfl
theorem reads : ∀ t ∈ Tryz.f3.params.toList, Tryz.prog.readableRec t = true ∧ t < Tryz.prog.types.size := by
  rw [Tryz.params3]
  intro t ht
  simp only [List.mem_cons, List.not_mem_nil, or_false] at ht
  rcases ht with rfl | rfl
  · exact ⟨by kernel_rfl, of_decide_eq_true (by kernel_rfl)⟩
  · exact ⟨by kernel_rfl, of_decide_eq_true (by kernel_rfl)⟩

set_option maxRecDepth 100000 in
theorem lifted (os : Os) (started : os.Started) (H : Type) (enc : TypeId × Value → H) :
    ReturnsInHanded {} Tryz.checked os 3 .any (Rows.idealTellsSpec.pre6 enc Tryz.prog Tryz.f3 Rows.idealTellsRow.domain false) (Rows.idealTellsSpec.post enc Tryz.prog Tryz.f3 false true false false) := by
  refine returnsInHanded_of_change (C := Tryz.checked) own started (by kernel_rfl) Tryz.func3
    (ChangeSpec.witness6 (enc := enc) (C := Tryz.checked) false ⟨#[], #[.agg #[.slice none 0 0, .slice none 0 0, .slice none 0 0], .slice none 0 0], []⟩ 8 (by kernel_rfl) (by kernel_rfl) (by kernel_rfl) (by kernel_rfl)) ?_
  intro W base args ds gs before hval0 hW hcnd _
  have hval : ∀ (j : Nat) t v, Tryz.f3.params[j]? = some t → args[j]? = some v → Value.okWide Tryz.prog W .any base t v := hval0
  refine law_post (P := Tryz.prog) laidOut rfl Tryz.underlying4 rfl reads (fun ds hds => by
    match ds, hds with
    | [d1, d2], _ => rfl) hW ?_
  obtain ⟨p, q, hA0, hV, rfl, hfz, hnd⟩ := hW
  have hA : DataW.TrodAll enc Tryz.prog W 0 (fun _ => true) true Tryz.f3.params.toList args.toList ds p := hA0
  rw [Tryz.params3] at hA hval
  obtain ⟨v0, vs0, d0, ds0, p0, q0, hargs, rfl, rfl, h0, r0⟩ := trodAll_cons hA
  obtain ⟨v1, vs1, d1, ds1, p1, q1, rfl, rfl, rfl, h1, r1⟩ := trodAll_cons r0
  obtain ⟨rfl, rfl, rfl⟩ := trodAll_nil r1
  obtain rfl : args = #[v0, v1] := by cases args; simp_all
  obtain ⟨cs0, rfl⟩ := okWide_struct Tryz.underlying30 (hval 0 30 v0 rfl rfl)
  obtain ⟨l0, hr0, hg0⟩ := open_VA decVW h0 (fun _ => (0, 0, 0))
  obtain ⟨a1, n1, c1, rfl⟩ := okWide_slice Tryz.underlying31 (hval 1 31 v1 rfl rfl)
  obtain ⟨l1, hr1, hg1⟩ := open_V decVAs rfl h1 (fun _ => (0, 0, 0))
  exact law_tells hr0 hg0 hr1 hg1

theorem over : Rows.idealTellsRow.holds Tryz.pinned (OpenSpec.ofChange Rows.idealTellsSpec) :=
  OpenClaim.holds_of_wide 3 Tryz.f3 rfl rfl rfl rfl rfl rfl rfl ⟨rfl, rfl, rfl, rfl, rfl⟩ rfl rfl rfl rfl rfl (by kernel_rfl) Tryz.func3 (by kernel_rfl)
    (of_decide_eq_true (by kernel_rfl)) (by unfold Func.isWrapper; first | (rw [if_pos (by decide +kernel)]; kernel_rfl) | (rw [if_neg (by decide +kernel)]; exact ⟨rfl, rfl⟩))
    (fun os started H enc _ => lifted os started H enc)

theorem proved : Rows.IdealTellsSaid := over
end Go.Proofs.YtgdnmdnhkhpieaaGreat.idealTellsDone
