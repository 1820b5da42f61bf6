/-
  None, and all that is held, as the document has them; reckoned.
-/
import Derived.Test.YtmibmodibicibaaRd
import Derived.Test.YtmibmodibicibaaMa
namespace Go.Proofs.Ytmibmodibicibaa
open Go.RowKit
open Nat (reduceBEq)
set_option linter.unusedVariables false
set_option linter.unusedSimpArgs false
set_option maxRecDepth 20000
set_option maxHeartbeats 2000000
theorem rnone_fn (x : Nat) (hx : x < WW) : Fn Try.prog 47 [wN x] [] (vb (decide (x = 0))) [] := by
  have f := wN_zero hx
  obtain ⟨q, hq⟩ : ∃ q, decide (x = 0) = q := ⟨_, rfl⟩
  rw [hq] at f ⊢
  clear hq hx
  (refine fn_of Try.func47 rfl (by rfl) ?_; simp only [Try.ntmps47, List.length_cons, List.length_nil, Nat.reduceAdd, Nat.reduceSub, List.replicate, List.cons_append, List.nil_append])
  (repeat (any_goals (first | ((with_reducible refine evL_one ?_ ?_); rfl; intro K hK; simp only [go_sem]; ((repeat (refine ndI (by first | assumption | omega | rfl) ?_)); refine hK _ ?_; clear hK K)) | (with_reducible first | (refine evL_nil ?_; refine hR _ ?_; clear hR R) | ((first | refine evC_seq ?_ | refine evC_block ?_); intro Ψ hΨ hΨ') | (refine evC_region ?_; intro R hR) | (refine hΨ _ ?_; clear hΨ hΨ' Ψ) | refine evC_skip ?_ | refine evC_ret ?_ | refine evC_exit ?_) | ((with_reducible refine hΨ' _ _ ?_ ?_); (focus (simp; done)); clear hΨ hΨ' Ψ) | ((with_reducible apply evL_unmet); rfl; rfl; rfl; (try simp only [go_sem])) | ((with_reducible apply evL_grd); rfl; rfl; rfl; all_goals (intro hb; first | (cases hb; done) | ((try simp only [Bool.not_true, Bool.not_false] at hb); (first | ((with_reducible intro K hK); simp only [go_sem]; ((repeat (refine ndI (by first | assumption | omega | rfl) ?_)); refine hK _ ?_; clear hK K)) | ((fail_if_success (with_reducible intro _)); simp only [go_sem]))))) | ((with_reducible apply evC_cond); rfl; rfl; all_goals (intro hc; first | (cases hc; done) | (try simp only at hc))))))
  all_goals (refine ⟨by simp, ⟨_, ?_, AV.le_refl _⟩, leH_get (by simp [leH, hget])⟩; simp only [Try.results47, resL, ldA, oneOf, go_sem])
  all_goals simp_all
/-- all that is held, step by step: what it comes to, whether it fits -/
def rsm (n : Nat) : List Hd → Nat × Bool
  | [] => (n, true)
  | h :: l => if WW ≤ n + h.p then ((n + h.p) % WW, false) else if WW ≤ n + h.p + h.s then ((n + h.p + h.s) % WW, false) else rsm (n + h.p + h.s) l
theorem rsm_drop {n : Nat} {L : List Hd} {i : Nat} {y : Hd} (hx : L[i]? = some y) : rsm n (L.drop i) = if WW ≤ n + y.p then ((n + y.p) % WW, false) else if WW ≤ n + y.p + y.s then ((n + y.p + y.s) % WW, false) else rsm (n + y.p + y.s) (L.drop (i + 1)) := by
  obtain ⟨hl, rfl⟩ := List.getElem?_eq_some_iff.1 hx
  rw [List.drop_eq_getElem_cons hl]; rfl
theorem rsm_flag : ∀ {l : List Hd} {n : Nat}, n < WW → (rsm n l).2 = decide (n + tot l < WW)
  | [], n, hn => by
    have : n + tot [] < WW := by simpa [tot] using hn
    rw [decide_eq_true this]; rfl
  | h :: l, n, hn => by
    unfold rsm
    rw [tot_cons]
    by_cases h1 : WW ≤ n + h.p
    · rw [if_pos h1, decide_eq_false (by omega)]
    · rw [if_neg h1]
      by_cases h2 : WW ≤ n + h.p + h.s
      · rw [if_pos h2, decide_eq_false (by omega)]
      · rw [if_neg h2, rsm_flag (Nat.lt_of_not_le h2)]
        exact decide_eq_decide.2 (by omega)
theorem rsm_lt : ∀ {l : List Hd} {n : Nat}, n < WW → (rsm n l).1 < WW
  | [], n, hn => hn
  | h :: l, n, hn => by
    unfold rsm
    by_cases h1 : WW ≤ n + h.p
    · rw [if_pos h1]; exact Nat.mod_lt _ (by decide)
    · rw [if_neg h1]
      by_cases h2 : WW ≤ n + h.p + h.s
      · rw [if_pos h2]; exact Nat.mod_lt _ (by decide)
      · rw [if_neg h2]; exact rsm_lt (Nat.lt_of_not_le h2)
theorem rsum_fn (ex : Bool) (l : List Hd) (hl : l.length ≤ 1000) (ok : ∀ h ∈ l, h.ok) : Fn Try.prog 48 [lg ex l] [] (.tup [wN (rsm 0 l).1, vb (rsm 0 l).2]) [] := by
  obtain ⟨R, hR⟩ : ∃ R, rsm 0 l = R := ⟨_, rfl⟩
  rw [hR]
  (refine fn_of Try.func48 rfl (by rfl) ?_; simp only [Try.ntmps48, List.length_cons, List.length_nil, Nat.reduceAdd, Nat.reduceSub, List.replicate, List.cons_append, List.nil_append])
  (repeat (any_goals (first | ((with_reducible refine evL_one ?_ ?_); rfl; intro K hK; simp only [go_sem]; ((repeat (refine ndI (by first | assumption | omega | rfl) ?_)); refine hK _ ?_; clear hK K)) | (with_reducible first | (refine evL_nil ?_; refine hR _ ?_; clear hR R) | ((first | refine evC_seq ?_ | refine evC_block ?_); intro Ψ hΨ hΨ') | (refine evC_region ?_; intro R hR) | (refine hΨ _ ?_; clear hΨ hΨ' Ψ) | refine evC_skip ?_ | refine evC_ret ?_ | refine evC_exit ?_) | ((with_reducible refine hΨ' _ _ ?_ ?_); (focus (simp; done)); clear hΨ hΨ' Ψ) | ((with_reducible apply evC_cond); rfl; rfl; all_goals (intro hc; first | (cases hc; done) | (try simp only at hc))) | ((with_reducible refine evD_nil ?_ ?_); kernel_rfl; (with_reducible refine hR _ ?_); clear hR R) | (((with_reducible apply evD_any); rfl; rfl; (simp only [rdE, rdOf, go_sem]; rfl); (intro τ hA hQ hN; ((try simp only [agree, Op.operands, Call.operands, go_sem, List.mem_cons, List.not_mem_nil, forall_eq_or_imp, forall_eq, List.append_toArray, Option.toArray] at hA); (try simp only [go_sem, List.mem_cons, List.not_mem_nil, forall_eq_or_imp, forall_eq] at hQ hN); (first | (revert hA; intro hA) | have hA := trivial); (first | (revert hQ; intro hQ) | have hQ := trivial); (first | (revert hN; intro hN) | have hN := trivial); simp only [go_sem, hA, hQ, hN]; (repeat (refine ndI (by first | assumption | omega | rfl) ?_)); (first | apply eff_rd | apply eff_st | apply eff_nw)))); (simp only [St.eff, setO, hputs, go_sem])) | ((with_reducible refine evC_draw ?_ ?_ ?_ ?_); kernel_rfl; kernel_rfl; (first | kernel_rfl | simp [newNames, isNew, St.free, freeH, AV.refsL, AV.refs]); intro R hR))))
  refine evC_loop (α := { s : Nat × Nat // s.1 ≤ l.length ∧ s.2 < WW ∧ rsm s.2 (l.drop s.1) = R }) (fun s => ⟨[.any, .ptr 1 0, .ptr 2 0, vb false, .ptr 4 0, vb false, vi .i64 (s.1.1 : Int), .any, .any, .any, .any, .any, .any, .any, .any, .any, .any, .any, .any, .any, .any, .any, .any, .any, .any, .any, .any, .any, .any, .any, .any, .any, .any, .any, .any, .any, .any, .any, .any, .any, .any], [(1, [hsl ex l]), (2, [vi .u64 0, vi .u64 0, vi .u64 0, vi .u64 0]), (4, cW s.1.2)]⟩) (fun s => l.length - s.1.1) ⟨(0, 0), Nat.zero_le _, by decide, by simpa using hR⟩ (St.le_of (by simp [leT]) (by simp [leH, hget, l0_zero, l1_zero, l2_zero, l3_zero])) ?_
  rintro ⟨⟨i, n⟩, hi, hn, hok⟩ Ψ hΨ hΨ'
  (try dsimp only at hi hn hok hΨ ⊢)
  rcases Nat.lt_or_ge i l.length with hlt | hge
  · obtain ⟨y, hy⟩ : ∃ x, l[i]? = some x := ⟨_, List.getElem?_eq_getElem hlt⟩
    have k1 : (decide ((i : Int) < (l.length : Int))) = true := decide_eq_true (by omega)
    have k2 := hsl_at hy
    have k7 : (i : Int) + 1 = ((i + 1 : Nat) : Int) := by omega
    obtain ⟨_, op, os, _, _⟩ := ok y (List.mem_of_getElem? hy)
    rw [rsm_drop hy] at hok
    have a1 := refadd_fn n y.p hn op
    by_cases h1 : WW ≤ n + y.p
    · rw [if_pos h1] at hok
      rw [decide_eq_true h1] at a1
      generalize (n + y.p) % WW = m at a1 hok
      (repeat (any_goals (first | ((with_reducible refine evL_one ?_ ?_); rfl; intro K hK; simp only [go_sem, k1, k2]; ((repeat (refine ndI (by first | assumption | omega | rfl) ?_)); refine hK _ ?_; clear hK K)) | (with_reducible first | (refine evL_nil ?_; refine hR _ ?_; clear hR R) | ((first | refine evC_seq ?_ | refine evC_block ?_); intro Ψ hΨ hΨ') | (refine evC_region ?_; intro R hR) | (refine hΨ _ ?_; clear hΨ hΨ' Ψ) | refine evC_skip ?_ | refine evC_ret ?_ | refine evC_exit ?_) | ((with_reducible refine hΨ' _ _ ?_ ?_); (focus (simp; done)); clear hΨ hΨ' Ψ) | ((with_reducible apply evC_cond); rfl; rfl; all_goals (intro hc; first | (cases hc; done) | (try simp only at hc))) | ((with_reducible refine evD_nil ?_ ?_); kernel_rfl; (with_reducible refine hR _ ?_); clear hR R) | ((first | ((with_reducible apply evD_fcall); rfl; rfl; ((apply opF_callB (a1); rfl; rfl; rfl; rfl; exact Try.func50); kernel_rfl; rfl; (simp only [go_sem, k1, k2]; rfl); (first | rfl | simp [AV.inNL, AV.inN]))) | ((with_reducible apply evD_any); rfl; rfl; (simp only [rdE, rdOf, go_sem, k1, k2]; rfl); (intro τ hA hQ hN; ((try simp only [agree, Op.operands, Call.operands, go_sem, k1, k2, go_sem, List.mem_cons, List.not_mem_nil, forall_eq_or_imp, forall_eq, List.append_toArray, Option.toArray] at hA); (try simp only [go_sem, k1, k2, List.mem_cons, List.not_mem_nil, forall_eq_or_imp, forall_eq] at hQ hN); (first | (revert hA; intro hA) | have hA := trivial); (first | (revert hQ; intro hQ) | have hQ := trivial); (first | (revert hN; intro hN) | have hN := trivial); simp only [go_sem, k1, k2, go_sem, hA, hQ, hN]; (repeat (refine ndI (by first | assumption | omega | rfl) ?_)); (first | apply eff_rd | apply eff_st | apply eff_nw))))); (simp only [St.eff, setO, hputs, go_sem, k1, k2])) | ((with_reducible refine evC_draw ?_ ?_ ?_ ?_); kernel_rfl; kernel_rfl; (first | kernel_rfl | simp [newNames, isNew, St.free, freeH, AV.refsL, AV.refs]); intro R hR))))
      all_goals rw [← hok]
      all_goals (refine ⟨by simp, ⟨_, ?_, AV.le_refl _⟩, leH_get (by simp [leH, hget])⟩; simp only [Try.results48, resL, ldA, oneOf, go_sem])
    · have h1' : n + y.p < WW := Nat.lt_of_not_le h1
      rw [if_neg h1] at hok
      rw [decide_eq_false h1, Nat.mod_eq_of_lt h1'] at a1
      have a2 := refadd_fn (n + y.p) y.s h1' os
      obtain ⟨n1, hn1⟩ : ∃ n1, n + y.p = n1 := ⟨_, rfl⟩
      rw [hn1] at a1 a2 hok
      by_cases h2 : WW ≤ n1 + y.s
      · rw [if_pos h2] at hok
        rw [decide_eq_true h2] at a2
        generalize (n1 + y.s) % WW = m at a2 hok
        (repeat (any_goals (first | ((with_reducible refine evL_one ?_ ?_); rfl; intro K hK; simp only [go_sem, k1, k2]; ((repeat (refine ndI (by first | assumption | omega | rfl) ?_)); refine hK _ ?_; clear hK K)) | (with_reducible first | (refine evL_nil ?_; refine hR _ ?_; clear hR R) | ((first | refine evC_seq ?_ | refine evC_block ?_); intro Ψ hΨ hΨ') | (refine evC_region ?_; intro R hR) | (refine hΨ _ ?_; clear hΨ hΨ' Ψ) | refine evC_skip ?_ | refine evC_ret ?_ | refine evC_exit ?_) | ((with_reducible refine hΨ' _ _ ?_ ?_); (focus (simp; done)); clear hΨ hΨ' Ψ) | ((with_reducible apply evC_cond); rfl; rfl; all_goals (intro hc; first | (cases hc; done) | (try simp only at hc))) | ((with_reducible refine evD_nil ?_ ?_); kernel_rfl; (with_reducible refine hR _ ?_); clear hR R) | ((first | ((with_reducible apply evD_fcall); rfl; rfl; (first | ((apply opF_callB (a1); rfl; rfl; rfl; rfl; exact Try.func50); kernel_rfl; rfl; (simp only [go_sem, k1, k2]; rfl); (first | rfl | simp [AV.inNL, AV.inN])) | ((apply opF_callB (a2); rfl; rfl; rfl; rfl; exact Try.func50); kernel_rfl; rfl; (simp only [go_sem, k1, k2]; rfl); (first | rfl | simp [AV.inNL, AV.inN])))) | ((with_reducible apply evD_any); rfl; rfl; (simp only [rdE, rdOf, go_sem, k1, k2]; rfl); (intro τ hA hQ hN; ((try simp only [agree, Op.operands, Call.operands, go_sem, k1, k2, go_sem, List.mem_cons, List.not_mem_nil, forall_eq_or_imp, forall_eq, List.append_toArray, Option.toArray] at hA); (try simp only [go_sem, k1, k2, List.mem_cons, List.not_mem_nil, forall_eq_or_imp, forall_eq] at hQ hN); (first | (revert hA; intro hA) | have hA := trivial); (first | (revert hQ; intro hQ) | have hQ := trivial); (first | (revert hN; intro hN) | have hN := trivial); simp only [go_sem, k1, k2, go_sem, hA, hQ, hN]; (repeat (refine ndI (by first | assumption | omega | rfl) ?_)); (first | apply eff_rd | apply eff_st | apply eff_nw))))); (simp only [St.eff, setO, hputs, go_sem, k1, k2])) | ((with_reducible refine evC_draw ?_ ?_ ?_ ?_); kernel_rfl; kernel_rfl; (first | kernel_rfl | simp [newNames, isNew, St.free, freeH, AV.refsL, AV.refs]); intro R hR))))
        all_goals rw [← hok]
        all_goals (refine ⟨by simp, ⟨_, ?_, AV.le_refl _⟩, leH_get (by simp [leH, hget])⟩; simp only [Try.results48, resL, ldA, oneOf, go_sem])
      · have h2' : n1 + y.s < WW := Nat.lt_of_not_le h2
        rw [if_neg h2] at hok
        rw [decide_eq_false h2, Nat.mod_eq_of_lt h2'] at a2
        obtain ⟨n2, hn2⟩ : ∃ n2, n1 + y.s = n2 := ⟨_, rfl⟩
        rw [hn2] at a2 hok h2'
        clear hn1 hn2 h1 h1' h2
        (have W := ndI k1 (ndI k2 (ndI k7 @wrI)); (repeat (any_goals (first | ((with_reducible refine evL_one ?_ ?_); rfl; intro K hK; simp (disch := omega) only [go_sem, W]; ((repeat (refine ndI (by first | assumption | omega | rfl) ?_)); refine hK _ ?_; clear hK K)) | (with_reducible first | (refine evL_nil ?_; refine hR _ ?_; clear hR R) | ((first | refine evC_seq ?_ | refine evC_block ?_); intro Ψ hΨ hΨ') | (refine evC_region ?_; intro R hR) | (refine hΨ _ ?_; clear hΨ hΨ' Ψ) | refine evC_skip ?_ | refine evC_ret ?_ | refine evC_exit ?_) | ((with_reducible refine hΨ' _ _ ?_ ?_); (focus (simp; done)); clear hΨ hΨ' Ψ) | ((with_reducible apply evC_cond); rfl; rfl; all_goals (intro hc; first | (cases hc; done) | (try simp only at hc))) | ((with_reducible refine evD_nil ?_ ?_); kernel_rfl; (with_reducible refine hR _ ?_); clear hR R) | ((first | ((with_reducible apply evD_fcall); rfl; rfl; (first | ((apply opF_callB (a1); rfl; rfl; rfl; rfl; exact Try.func50); kernel_rfl; rfl; (simp (disch := omega) only [go_sem, W]; rfl); (first | rfl | simp [AV.inNL, AV.inN])) | ((apply opF_callB (a2); rfl; rfl; rfl; rfl; exact Try.func50); kernel_rfl; rfl; (simp (disch := omega) only [go_sem, W]; rfl); (first | rfl | simp [AV.inNL, AV.inN])))) | ((with_reducible apply evD_any); rfl; rfl; (simp (disch := omega) only [rdE, rdOf, go_sem, W]; rfl); (intro τ hA hQ hN; ((try simp only [agree, Op.operands, Call.operands, go_sem, W, go_sem, List.mem_cons, List.not_mem_nil, forall_eq_or_imp, forall_eq, List.append_toArray, Option.toArray] at hA); (try simp only [go_sem, W, List.mem_cons, List.not_mem_nil, forall_eq_or_imp, forall_eq] at hQ hN); (first | (revert hA; intro hA) | have hA := trivial); (first | (revert hQ; intro hQ) | have hQ := trivial); (first | (revert hN; intro hN) | have hN := trivial); simp (disch := omega) only [go_sem, W, go_sem, hA, hQ, hN]; (repeat (refine ndI (by first | assumption | omega | rfl) ?_)); (first | apply eff_rd | apply eff_st | apply eff_nw))))); (simp (disch := omega) only [St.eff, setO, hputs, go_sem, W])) | ((with_reducible refine evC_draw ?_ ?_ ?_ ?_); kernel_rfl; kernel_rfl; (first | kernel_rfl | simp [newNames, isNew, St.free, freeH, AV.refsL, AV.refs]); intro R hR)))))
        exact hΨ _ ⟨(i + 1, n2), hlt, h2', hok⟩ (by dsimp only; omega) (St.le_of (by simp [leT]) (by simp [leH, hget]))
  · have k1 : (decide ((i : Int) < (l.length : Int))) = false := decide_eq_false (by omega)
    rw [List.drop_eq_nil_of_le hge] at hok
    have e : R = (n, true) := hok.symm
    (repeat (any_goals (first | ((with_reducible refine evL_one ?_ ?_); rfl; intro K hK; simp only [go_sem, k1]; ((repeat (refine ndI (by first | assumption | omega | rfl) ?_)); refine hK _ ?_; clear hK K)) | (with_reducible first | (refine evL_nil ?_; refine hR _ ?_; clear hR R) | ((first | refine evC_seq ?_ | refine evC_block ?_); intro Ψ hΨ hΨ') | (refine evC_region ?_; intro R hR) | (refine hΨ _ ?_; clear hΨ hΨ' Ψ) | refine evC_skip ?_ | refine evC_ret ?_ | refine evC_exit ?_) | ((with_reducible refine hΨ' _ _ ?_ ?_); (focus (simp; done)); clear hΨ hΨ' Ψ) | ((with_reducible apply evC_cond); rfl; rfl; all_goals (intro hc; first | (cases hc; done) | (try simp only at hc))) | ((with_reducible refine evD_nil ?_ ?_); kernel_rfl; (with_reducible refine hR _ ?_); clear hR R) | (((with_reducible apply evD_any); rfl; rfl; (simp only [rdE, rdOf, go_sem, k1]; rfl); (intro τ hA hQ hN; ((try simp only [agree, Op.operands, Call.operands, go_sem, k1, go_sem, List.mem_cons, List.not_mem_nil, forall_eq_or_imp, forall_eq, List.append_toArray, Option.toArray] at hA); (try simp only [go_sem, k1, List.mem_cons, List.not_mem_nil, forall_eq_or_imp, forall_eq] at hQ hN); (first | (revert hA; intro hA) | have hA := trivial); (first | (revert hQ; intro hQ) | have hQ := trivial); (first | (revert hN; intro hN) | have hN := trivial); simp only [go_sem, k1, go_sem, hA, hQ, hN]; (repeat (refine ndI (by first | assumption | omega | rfl) ?_)); (first | apply eff_rd | apply eff_st | apply eff_nw)))); (simp only [St.eff, setO, hputs, go_sem, k1])) | ((with_reducible refine evC_draw ?_ ?_ ?_ ?_); kernel_rfl; kernel_rfl; (first | kernel_rfl | simp [newNames, isNew, St.free, freeH, AV.refsL, AV.refs]); intro R hR))))
    all_goals rw [e]
    all_goals (refine ⟨by simp, ⟨_, ?_, AV.le_refl _⟩, leH_get (by simp [leH, hget])⟩; simp only [Try.results48, resL, ldA, oneOf, go_sem])
end Go.Proofs.Ytmibmodibicibaa
