/-
  What the entry point has above what it owes, what one has; the layer does something; reckoned.
-/
import Derived.Test.YtgdnmdnhkhpieaaMa
import Derived.Test.YtgdnmdnhkhpieaaSs
import Derived.Test.YtgdnmdnhkhpieaaIg
import Derived.Test.YtgdnmdnhkhpieaaAvW
set_option linter.unusedSimpArgs false
set_option linter.unusedVariables false
namespace Go.Proofs.Ytgdnmdnhkhpieaa.lg
open Go.RowKit
open Nat (reduceBEq)
set_option maxRecDepth 20000
set_option maxHeartbeats 2000000
theorem rnone_fn (x : Nat) (hx : x < WW) : Fn Try.prog 77 [wN x] [] (vb (decide (x = 0))) [] := by
  have f := wN_zero hx
  obtain ⟨q, hq⟩ : ∃ q, decide (x = 0) = q := ⟨_, rfl⟩
  rw [hq] at f ⊢
  clear hq hx
  (refine fn_of Try.func77 rfl (by rfl) ?_; simp only [Try.ntmps77, List.length_cons, List.length_nil, Nat.reduceAdd, Nat.reduceSub, List.replicate, List.cons_append, List.nil_append])
  (repeat (any_goals (first | ((with_reducible refine evL_one ?_ ?_); rfl; intro K hK; simp only [go_sem]; ((repeat (refine ndI (by first | assumption | omega | rfl) ?_)); refine hK _ ?_; clear hK K)) | (with_reducible first | (refine evL_nil ?_; refine hR _ ?_; clear hR R) | ((first | refine evC_seq ?_ | refine evC_block ?_); intro Ψ hΨ hΨ') | (refine evC_region ?_; intro R hR) | (refine hΨ _ ?_; clear hΨ hΨ' Ψ) | refine evC_skip ?_ | refine evC_ret ?_ | refine evC_exit ?_) | ((with_reducible refine hΨ' _ _ ?_ ?_); (focus (simp; done)); clear hΨ hΨ' Ψ) | ((with_reducible apply evL_unmet); rfl; rfl; rfl; (try simp only [go_sem])) | ((with_reducible apply evL_grd); rfl; rfl; rfl; all_goals (intro hb; first | (cases hb; done) | ((try simp only [Bool.not_true, Bool.not_false] at hb); (first | ((with_reducible intro K hK); simp only [go_sem]; ((repeat (refine ndI (by first | assumption | omega | rfl) ?_)); refine hK _ ?_; clear hK K)) | ((fail_if_success (with_reducible intro _)); simp only [go_sem]))))) | ((with_reducible apply evC_cond); rfl; rfl; all_goals (intro hc; first | (cases hc; done) | (try simp only at hc))))))
  all_goals (refine ⟨by simp, ⟨_, ?_, AV.le_refl _⟩, leH_get (by simp [leH, hget])⟩; simp only [Try.results77, resL, ldA, oneOf, go_sem])
  all_goals simp_all
def rsm (n : Nat) : List Hd → Nat × Bool
  | [] => (n, true)
  | h :: l => if WW ≤ n + h.p then ((n + h.p) % WW, false) else if WW ≤ n + h.p + h.s then ((n + h.p + h.s) % WW, false) else rsm (n + h.p + h.s) l
theorem rsm_drop {n : Nat} {L : List Hd} {i : Nat} {y : Hd} (hx : L[i]? = some y) : rsm n (L.drop i) = if WW ≤ n + y.p then ((n + y.p) % WW, false) else if WW ≤ n + y.p + y.s then ((n + y.p + y.s) % WW, false) else rsm (n + y.p + y.s) (L.drop (i + 1)) := by
  obtain ⟨hl, rfl⟩ := List.getElem?_eq_some_iff.1 hx
  rw [List.drop_eq_getElem_cons hl]; rfl
theorem rsm_flag : ∀ {l : List Hd} {n : Nat}, n < WW → (rsm n l).2 = decide (n + tot l < WW)
  | [], n, hn => by
    have : n + tot [] < WW := by simpa [tot] using hn
    rw [decide_eq_true this]; rfl
  | h :: l, n, hn => by
    unfold rsm
    rw [tot_cons]
    by_cases h1 : WW ≤ n + h.p
    · rw [if_pos h1, decide_eq_false (by omega)]
    · rw [if_neg h1]
      by_cases h2 : WW ≤ n + h.p + h.s
      · rw [if_pos h2, decide_eq_false (by omega)]
      · rw [if_neg h2, rsm_flag (Nat.lt_of_not_le h2)]
        exact decide_eq_decide.2 (by omega)
theorem rsum_fn (ex : Bool) (l : List Hd) (hl : l.length ≤ 1000) (ok : ∀ h ∈ l, h.ok) : Fn Try.prog 78 [lg ex l] [] (.tup [wN (rsm 0 l).1, vb (rsm 0 l).2]) [] := by
  obtain ⟨R, hR⟩ : ∃ R, rsm 0 l = R := ⟨_, rfl⟩
  rw [hR]
  (refine fn_of Try.func78 rfl (by rfl) ?_; simp only [Try.ntmps78, List.length_cons, List.length_nil, Nat.reduceAdd, Nat.reduceSub, List.replicate, List.cons_append, List.nil_append])
  (repeat (any_goals (first | ((with_reducible refine evL_one ?_ ?_); rfl; intro K hK; simp only [go_sem]; ((repeat (refine ndI (by first | assumption | omega | rfl) ?_)); refine hK _ ?_; clear hK K)) | (with_reducible first | (refine evL_nil ?_; refine hR _ ?_; clear hR R) | ((first | refine evC_seq ?_ | refine evC_block ?_); intro Ψ hΨ hΨ') | (refine evC_region ?_; intro R hR) | (refine hΨ _ ?_; clear hΨ hΨ' Ψ) | refine evC_skip ?_ | refine evC_ret ?_ | refine evC_exit ?_) | ((with_reducible refine hΨ' _ _ ?_ ?_); (focus (simp; done)); clear hΨ hΨ' Ψ) | ((with_reducible apply evC_cond); rfl; rfl; all_goals (intro hc; first | (cases hc; done) | (try simp only at hc))) | ((with_reducible refine evD_nil ?_ ?_); kernel_rfl; (with_reducible refine hR _ ?_); clear hR R) | (((with_reducible apply evD_any); rfl; rfl; (simp only [rdE, rdOf, go_sem]; rfl); (intro τ hA hQ hN; ((try simp only [agree, Op.operands, Call.operands, go_sem, List.mem_cons, List.not_mem_nil, forall_eq_or_imp, forall_eq, List.append_toArray, Option.toArray] at hA); (try simp only [go_sem, List.mem_cons, List.not_mem_nil, forall_eq_or_imp, forall_eq] at hQ hN); (first | (revert hA; intro hA) | have hA := trivial); (first | (revert hQ; intro hQ) | have hQ := trivial); (first | (revert hN; intro hN) | have hN := trivial); simp only [go_sem, hA, hQ, hN]; (repeat (refine ndI (by first | assumption | omega | rfl) ?_)); (first | apply eff_rd | apply eff_st | apply eff_nw)))); (simp only [St.eff, setO, hputs, go_sem])) | ((with_reducible refine evC_draw ?_ ?_ ?_ ?_); kernel_rfl; kernel_rfl; (first | kernel_rfl | simp [newNames, isNew, St.free, freeH, AV.refsL, AV.refs]); intro R hR))))
  refine evC_loop (α := { s : Nat × Nat // s.1 ≤ l.length ∧ s.2 < WW ∧ rsm s.2 (l.drop s.1) = R }) (fun s => ⟨[.any, .ptr 1 0, .ptr 2 0, vb false, .ptr 4 0, vb false, vi .i64 (s.1.1 : Int), .any, .any, .any, .any, .any, .any, .any, .any, .any, .any, .any, .any, .any, .any, .any, .any, .any, .any, .any, .any, .any, .any, .any, .any, .any, .any, .any, .any, .any, .any, .any, .any, .any, .any], [(1, [hsl ex l]), (2, [vi .u64 0, vi .u64 0, vi .u64 0, vi .u64 0]), (4, cW s.1.2)]⟩) (fun s => l.length - s.1.1) ⟨(0, 0), Nat.zero_le _, by decide, by simpa using hR⟩ (St.le_of (by simp [leT]) (by simp [leH, hget, l0_zero, l1_zero, l2_zero, l3_zero])) ?_
  rintro ⟨⟨i, n⟩, hi, hn, hok⟩ Ψ hΨ hΨ'
  (try dsimp only at hi hn hok hΨ ⊢)
  rcases Nat.lt_or_ge i l.length with hlt | hge
  · obtain ⟨y, hy⟩ : ∃ x, l[i]? = some x := ⟨_, List.getElem?_eq_getElem hlt⟩
    have k1 : (decide ((i : Int) < (l.length : Int))) = true := decide_eq_true (by omega)
    have k2 := hsl_at hy
    have k7 : (i : Int) + 1 = ((i + 1 : Nat) : Int) := by omega
    obtain ⟨_, op, os, _, _⟩ := ok y (List.mem_of_getElem? hy)
    rw [rsm_drop hy] at hok
    have a1 := refadd_fn n y.p hn op
    by_cases h1 : WW ≤ n + y.p
    · rw [if_pos h1] at hok
      rw [decide_eq_true h1] at a1
      generalize (n + y.p) % WW = m at a1 hok
      (repeat (any_goals (first | ((with_reducible refine evL_one ?_ ?_); rfl; intro K hK; simp only [go_sem, k1, k2]; ((repeat (refine ndI (by first | assumption | omega | rfl) ?_)); refine hK _ ?_; clear hK K)) | (with_reducible first | (refine evL_nil ?_; refine hR _ ?_; clear hR R) | ((first | refine evC_seq ?_ | refine evC_block ?_); intro Ψ hΨ hΨ') | (refine evC_region ?_; intro R hR) | (refine hΨ _ ?_; clear hΨ hΨ' Ψ) | refine evC_skip ?_ | refine evC_ret ?_ | refine evC_exit ?_) | ((with_reducible refine hΨ' _ _ ?_ ?_); (focus (simp; done)); clear hΨ hΨ' Ψ) | ((with_reducible apply evC_cond); rfl; rfl; all_goals (intro hc; first | (cases hc; done) | (try simp only at hc))) | ((with_reducible refine evD_nil ?_ ?_); kernel_rfl; (with_reducible refine hR _ ?_); clear hR R) | ((first | ((with_reducible apply evD_fcall); rfl; rfl; ((apply opF_callB (a1); rfl; rfl; rfl; rfl; exact Try.func60); kernel_rfl; rfl; (simp only [go_sem, k1, k2]; rfl); (first | rfl | simp [AV.inNL, AV.inN]))) | ((with_reducible apply evD_any); rfl; rfl; (simp only [rdE, rdOf, go_sem, k1, k2]; rfl); (intro τ hA hQ hN; ((try simp only [agree, Op.operands, Call.operands, go_sem, k1, k2, go_sem, List.mem_cons, List.not_mem_nil, forall_eq_or_imp, forall_eq, List.append_toArray, Option.toArray] at hA); (try simp only [go_sem, k1, k2, List.mem_cons, List.not_mem_nil, forall_eq_or_imp, forall_eq] at hQ hN); (first | (revert hA; intro hA) | have hA := trivial); (first | (revert hQ; intro hQ) | have hQ := trivial); (first | (revert hN; intro hN) | have hN := trivial); simp only [go_sem, k1, k2, go_sem, hA, hQ, hN]; (repeat (refine ndI (by first | assumption | omega | rfl) ?_)); (first | apply eff_rd | apply eff_st | apply eff_nw))))); (simp only [St.eff, setO, hputs, go_sem, k1, k2])) | ((with_reducible refine evC_draw ?_ ?_ ?_ ?_); kernel_rfl; kernel_rfl; (first | kernel_rfl | simp [newNames, isNew, St.free, freeH, AV.refsL, AV.refs]); intro R hR))))
      all_goals rw [← hok]
      all_goals (refine ⟨by simp, ⟨_, ?_, AV.le_refl _⟩, leH_get (by simp [leH, hget])⟩; simp only [Try.results78, resL, ldA, oneOf, go_sem])
    · have h1' : n + y.p < WW := Nat.lt_of_not_le h1
      rw [if_neg h1] at hok
      rw [decide_eq_false h1, Nat.mod_eq_of_lt h1'] at a1
      have a2 := refadd_fn (n + y.p) y.s h1' os
      obtain ⟨n1, hn1⟩ : ∃ n1, n + y.p = n1 := ⟨_, rfl⟩
      rw [hn1] at a1 a2 hok
      by_cases h2 : WW ≤ n1 + y.s
      · rw [if_pos h2] at hok
        rw [decide_eq_true h2] at a2
        generalize (n1 + y.s) % WW = m at a2 hok
        (repeat (any_goals (first | ((with_reducible refine evL_one ?_ ?_); rfl; intro K hK; simp only [go_sem, k1, k2]; ((repeat (refine ndI (by first | assumption | omega | rfl) ?_)); refine hK _ ?_; clear hK K)) | (with_reducible first | (refine evL_nil ?_; refine hR _ ?_; clear hR R) | ((first | refine evC_seq ?_ | refine evC_block ?_); intro Ψ hΨ hΨ') | (refine evC_region ?_; intro R hR) | (refine hΨ _ ?_; clear hΨ hΨ' Ψ) | refine evC_skip ?_ | refine evC_ret ?_ | refine evC_exit ?_) | ((with_reducible refine hΨ' _ _ ?_ ?_); (focus (simp; done)); clear hΨ hΨ' Ψ) | ((with_reducible apply evC_cond); rfl; rfl; all_goals (intro hc; first | (cases hc; done) | (try simp only at hc))) | ((with_reducible refine evD_nil ?_ ?_); kernel_rfl; (with_reducible refine hR _ ?_); clear hR R) | ((first | ((with_reducible apply evD_fcall); rfl; rfl; (first | ((apply opF_callB (a1); rfl; rfl; rfl; rfl; exact Try.func60); kernel_rfl; rfl; (simp only [go_sem, k1, k2]; rfl); (first | rfl | simp [AV.inNL, AV.inN])) | ((apply opF_callB (a2); rfl; rfl; rfl; rfl; exact Try.func60); kernel_rfl; rfl; (simp only [go_sem, k1, k2]; rfl); (first | rfl | simp [AV.inNL, AV.inN])))) | ((with_reducible apply evD_any); rfl; rfl; (simp only [rdE, rdOf, go_sem, k1, k2]; rfl); (intro τ hA hQ hN; ((try simp only [agree, Op.operands, Call.operands, go_sem, k1, k2, go_sem, List.mem_cons, List.not_mem_nil, forall_eq_or_imp, forall_eq, List.append_toArray, Option.toArray] at hA); (try simp only [go_sem, k1, k2, List.mem_cons, List.not_mem_nil, forall_eq_or_imp, forall_eq] at hQ hN); (first | (revert hA; intro hA) | have hA := trivial); (first | (revert hQ; intro hQ) | have hQ := trivial); (first | (revert hN; intro hN) | have hN := trivial); simp only [go_sem, k1, k2, go_sem, hA, hQ, hN]; (repeat (refine ndI (by first | assumption | omega | rfl) ?_)); (first | apply eff_rd | apply eff_st | apply eff_nw))))); (simp only [St.eff, setO, hputs, go_sem, k1, k2])) | ((with_reducible refine evC_draw ?_ ?_ ?_ ?_); kernel_rfl; kernel_rfl; (first | kernel_rfl | simp [newNames, isNew, St.free, freeH, AV.refsL, AV.refs]); intro R hR))))
        all_goals rw [← hok]
        all_goals (refine ⟨by simp, ⟨_, ?_, AV.le_refl _⟩, leH_get (by simp [leH, hget])⟩; simp only [Try.results78, resL, ldA, oneOf, go_sem])
      · have h2' : n1 + y.s < WW := Nat.lt_of_not_le h2
        rw [if_neg h2] at hok
        rw [decide_eq_false h2, Nat.mod_eq_of_lt h2'] at a2
        obtain ⟨n2, hn2⟩ : ∃ n2, n1 + y.s = n2 := ⟨_, rfl⟩
        rw [hn2] at a2 hok h2'
        clear hn1 hn2 h1 h1' h2
        (have W := ndI k1 (ndI k2 (ndI k7 @wrI)); (repeat (any_goals (first | ((with_reducible refine evL_one ?_ ?_); rfl; intro K hK; simp (disch := omega) only [go_sem, W]; ((repeat (refine ndI (by first | assumption | omega | rfl) ?_)); refine hK _ ?_; clear hK K)) | (with_reducible first | (refine evL_nil ?_; refine hR _ ?_; clear hR R) | ((first | refine evC_seq ?_ | refine evC_block ?_); intro Ψ hΨ hΨ') | (refine evC_region ?_; intro R hR) | (refine hΨ _ ?_; clear hΨ hΨ' Ψ) | refine evC_skip ?_ | refine evC_ret ?_ | refine evC_exit ?_) | ((with_reducible refine hΨ' _ _ ?_ ?_); (focus (simp; done)); clear hΨ hΨ' Ψ) | ((with_reducible apply evC_cond); rfl; rfl; all_goals (intro hc; first | (cases hc; done) | (try simp only at hc))) | ((with_reducible refine evD_nil ?_ ?_); kernel_rfl; (with_reducible refine hR _ ?_); clear hR R) | ((first | ((with_reducible apply evD_fcall); rfl; rfl; (first | ((apply opF_callB (a1); rfl; rfl; rfl; rfl; exact Try.func60); kernel_rfl; rfl; (simp (disch := omega) only [go_sem, W]; rfl); (first | rfl | simp [AV.inNL, AV.inN])) | ((apply opF_callB (a2); rfl; rfl; rfl; rfl; exact Try.func60); kernel_rfl; rfl; (simp (disch := omega) only [go_sem, W]; rfl); (first | rfl | simp [AV.inNL, AV.inN])))) | ((with_reducible apply evD_any); rfl; rfl; (simp (disch := omega) only [rdE, rdOf, go_sem, W]; rfl); (intro τ hA hQ hN; ((try simp only [agree, Op.operands, Call.operands, go_sem, W, go_sem, List.mem_cons, List.not_mem_nil, forall_eq_or_imp, forall_eq, List.append_toArray, Option.toArray] at hA); (try simp only [go_sem, W, List.mem_cons, List.not_mem_nil, forall_eq_or_imp, forall_eq] at hQ hN); (first | (revert hA; intro hA) | have hA := trivial); (first | (revert hQ; intro hQ) | have hQ := trivial); (first | (revert hN; intro hN) | have hN := trivial); simp (disch := omega) only [go_sem, W, go_sem, hA, hQ, hN]; (repeat (refine ndI (by first | assumption | omega | rfl) ?_)); (first | apply eff_rd | apply eff_st | apply eff_nw))))); (simp (disch := omega) only [St.eff, setO, hputs, go_sem, W])) | ((with_reducible refine evC_draw ?_ ?_ ?_ ?_); kernel_rfl; kernel_rfl; (first | kernel_rfl | simp [newNames, isNew, St.free, freeH, AV.refsL, AV.refs]); intro R hR)))))
        exact hΨ _ ⟨(i + 1, n2), hlt, h2', hok⟩ (by dsimp only; omega) (St.le_of (by simp [leT]) (by simp [leH, hget]))
  · have k1 : (decide ((i : Int) < (l.length : Int))) = false := decide_eq_false (by omega)
    rw [List.drop_eq_nil_of_le hge] at hok
    have e : R = (n, true) := hok.symm
    (repeat (any_goals (first | ((with_reducible refine evL_one ?_ ?_); rfl; intro K hK; simp only [go_sem, k1]; ((repeat (refine ndI (by first | assumption | omega | rfl) ?_)); refine hK _ ?_; clear hK K)) | (with_reducible first | (refine evL_nil ?_; refine hR _ ?_; clear hR R) | ((first | refine evC_seq ?_ | refine evC_block ?_); intro Ψ hΨ hΨ') | (refine evC_region ?_; intro R hR) | (refine hΨ _ ?_; clear hΨ hΨ' Ψ) | refine evC_skip ?_ | refine evC_ret ?_ | refine evC_exit ?_) | ((with_reducible refine hΨ' _ _ ?_ ?_); (focus (simp; done)); clear hΨ hΨ' Ψ) | ((with_reducible apply evC_cond); rfl; rfl; all_goals (intro hc; first | (cases hc; done) | (try simp only at hc))) | ((with_reducible refine evD_nil ?_ ?_); kernel_rfl; (with_reducible refine hR _ ?_); clear hR R) | (((with_reducible apply evD_any); rfl; rfl; (simp only [rdE, rdOf, go_sem, k1]; rfl); (intro τ hA hQ hN; ((try simp only [agree, Op.operands, Call.operands, go_sem, k1, go_sem, List.mem_cons, List.not_mem_nil, forall_eq_or_imp, forall_eq, List.append_toArray, Option.toArray] at hA); (try simp only [go_sem, k1, List.mem_cons, List.not_mem_nil, forall_eq_or_imp, forall_eq] at hQ hN); (first | (revert hA; intro hA) | have hA := trivial); (first | (revert hQ; intro hQ) | have hQ := trivial); (first | (revert hN; intro hN) | have hN := trivial); simp only [go_sem, k1, go_sem, hA, hQ, hN]; (repeat (refine ndI (by first | assumption | omega | rfl) ?_)); (first | apply eff_rd | apply eff_st | apply eff_nw)))); (simp only [St.eff, setO, hputs, go_sem, k1])) | ((with_reducible refine evC_draw ?_ ?_ ?_ ?_); kernel_rfl; kernel_rfl; (first | kernel_rfl | simp [newNames, isNew, St.free, freeH, AV.refsL, AV.refs]); intro R hR))))
    all_goals rw [e]
    all_goals (refine ⟨by simp, ⟨_, ?_, AV.le_refl _⟩, leH_get (by simp [leH, hget])⟩; simp only [Try.results78, resL, ldA, oneOf, go_sem])
end Go.Proofs.Ytgdnmdnhkhpieaa.lg
namespace Go.Proofs.Ytgdnmdnhkhpieaa.lg
open Go.RowKit
open Nat (reduceBEq)
set_option maxRecDepth 20000
set_option maxHeartbeats 2000000
theorem okU_step {l : List Hd} {i : Nat} (hu : okU l i = true) : okU l (i + 1) = okR l i := by
  show (okU l i && okR l i) = _
  rw [hu, Bool.true_and]
theorem tree7 : ∀ q1 q2 q3 q4 q5 q6 q7 : Bool, ((!q1 && (!q2 && (!q3 && (!(q4 && q5) && ((q6 == q5) && (!q7 || !q5)))))) = false ∧ ((q1 = true) ∨ (q1 = false ∧ q2 = true) ∨ (q1 = false ∧ q2 = false ∧ q3 = true) ∨ (q1 = false ∧ q2 = false ∧ q3 = false ∧ q4 = true ∧ q5 = true) ∨ (q1 = false ∧ q2 = false ∧ q3 = false ∧ q4 = false ∧ q5 = true ∧ q6 = false) ∨ (q1 = false ∧ q2 = false ∧ q3 = false ∧ q4 = false ∧ q5 = true ∧ q6 = true ∧ q7 = true) ∨ (q1 = false ∧ q2 = false ∧ q3 = false ∧ q4 = true ∧ q5 = false ∧ q6 = true) ∨ (q1 = false ∧ q2 = false ∧ q3 = false ∧ q4 = false ∧ q5 = false ∧ q6 = true)))
    ∨ ((!q1 && (!q2 && (!q3 && (!(q4 && q5) && ((q6 == q5) && (!q7 || !q5)))))) = true ∧ ((q1 = false ∧ q2 = false ∧ q3 = false ∧ q4 = false ∧ q5 = true ∧ q6 = true ∧ q7 = false) ∨ (q1 = false ∧ q2 = false ∧ q3 = false ∧ q4 = true ∧ q5 = false ∧ q6 = false) ∨ (q1 = false ∧ q2 = false ∧ q3 = false ∧ q4 = false ∧ q5 = false ∧ q6 = false))) := by
  intro q1 q2 q3 q4 q5 q6 q7
  cases q1 <;> cases q2 <;> cases q3 <;> cases q4 <;> cases q5 <;> cases q6 <;> cases q7 <;> simp
theorem refright_fn (ex : Bool) (l : List Hd) (hl : l.length ≤ 1000) (ok : ∀ h ∈ l, h.ok) : Fn Try.prog 58 [lg ex l] [] (vb (okL l)) [] := by
  have sm := rsum_fn ex l hl ok
  have fl := rsm_flag (l := l) (n := 0) (by decide)
  rw [Nat.zero_add] at fl
  unfold okL
  rw [← fl]
  generalize (rsm 0 l).1 = m1 at sm
  generalize (rsm 0 l).2 = m2 at sm ⊢
  clear fl
  obtain ⟨q24, e24⟩ : ∃ q, decide (l.length ≤ 24) = q := ⟨_, rfl⟩
  have e24' : decide ((l.length : Int) ≤ 24) = q24 := by rw [← e24]; exact decide_eq_decide.2 (by omega)
  rw [e24]
  clear e24
  obtain ⟨tu, htu⟩ : ∃ q, okU l l.length = q := ⟨_, rfl⟩
  rw [htu]
  (refine fn_of Try.func58 rfl (by rfl) ?_; simp only [Try.ntmps58, List.length_cons, List.length_nil, Nat.reduceAdd, Nat.reduceSub, List.replicate, List.cons_append, List.nil_append])
  (repeat (any_goals (first | ((with_reducible refine evL_one ?_ ?_); rfl; intro K hK; simp only [go_sem]; ((repeat (refine ndI (by first | assumption | omega | rfl) ?_)); refine hK _ ?_; clear hK K)) | (with_reducible first | (refine evL_nil ?_; refine hR _ ?_; clear hR R) | ((first | refine evC_seq ?_ | refine evC_block ?_); intro Ψ hΨ hΨ') | (refine evC_region ?_; intro R hR) | (refine hΨ _ ?_; clear hΨ hΨ' Ψ) | refine evC_skip ?_ | refine evC_ret ?_ | refine evC_exit ?_) | ((with_reducible refine hΨ' _ _ ?_ ?_); (focus (simp; done)); clear hΨ hΨ' Ψ) | ((with_reducible apply evL_unmet); rfl; rfl; rfl; (try simp only [go_sem])) | ((with_reducible apply evL_grd); rfl; rfl; rfl; all_goals (intro hb; first | (cases hb; done) | ((try simp only [Bool.not_true, Bool.not_false] at hb); (first | ((with_reducible intro K hK); simp only [go_sem]; ((repeat (refine ndI (by first | assumption | omega | rfl) ?_)); refine hK _ ?_; clear hK K)) | ((fail_if_success (with_reducible intro _)); simp only [go_sem]))))) | ((with_reducible apply evC_cond); rfl; rfl; all_goals (intro hc; first | (cases hc; done) | (try simp only at hc))) | ((with_reducible refine evD_nil ?_ ?_); kernel_rfl; (with_reducible refine hR _ ?_); clear hR R) | ((first | ((with_reducible apply evD_skip); rfl; rfl; rfl; rfl) | ((with_reducible apply evD_unmet); rfl; rfl; rfl) | ((first | ((with_reducible apply evD_any); rfl; rfl) | ((with_reducible apply evD_gany); rfl; rfl; rfl; rfl; rfl)); (simp only [rdE, rdOf, go_sem]; rfl); (intro τ hA hQ hN; ((try simp only [agree, Op.operands, Call.operands, go_sem, List.mem_cons, List.not_mem_nil, forall_eq_or_imp, forall_eq, List.append_toArray, Option.toArray] at hA); (try simp only [go_sem, List.mem_cons, List.not_mem_nil, forall_eq_or_imp, forall_eq] at hQ hN); (first | (revert hA; intro hA) | have hA := trivial); (first | (revert hQ; intro hQ) | have hQ := trivial); (first | (revert hN; intro hN) | have hN := trivial); simp only [go_sem, hA, hQ, hN]; (repeat (refine ndI (by first | assumption | omega | rfl) ?_)); (first | apply eff_rd | apply eff_st | apply eff_nw))))); (simp only [St.eff, setO, hputs, go_sem])) | ((with_reducible apply evD_split); rfl; rfl; rfl; all_goals intro hb; all_goals (simp only [St.eff, setO, hputs, go_sem])) | ((with_reducible refine evC_draw ?_ ?_ ?_ ?_); kernel_rfl; kernel_rfl; (first | kernel_rfl | simp [newNames, isNew, St.free, freeH, AV.refsL, AV.refs]); intro R hR))))
  refine evC_loop (α := { i : Nat // i ≤ l.length ∧ okU l i = true }) (fun x => ⟨[.any, .ptr 1 0, vb false, vi .i64 (x.1 : Int), .any, .any, .any, .any, .any, .any, .any, .any, .any, .any, .any, .any, .any, .any, .any, .any, .any, .any, .any, .any, .any, .any, .any, .any, .any, .any, .any, .any, .any, .any, .any, .any, .any, .any, .any, .any, .any, .any, .any, .any, .any, .any, .any, .any, .any, .any, .any, .any, .any, .any, .any, .any, .any, .any, .any, .any, .any, .any, .any, .any, .any, .any, .any, .any, .any, .any, .any, .any, .any, .any, .any, .any, .any, .any, .any, .any, .any, .any, .any, .any, .any, .any, .any, .any, .any, .any, .any, .any], [(1, [hsl ex l])]⟩) (fun x => l.length - x.1) ⟨0, Nat.zero_le _, rfl⟩ (St.le_of (by simp [leT]) (by simp [leH, hget])) ?_
  rintro ⟨i, hi, hu⟩ Ψ hΨ hΨ'
  (try dsimp only at hi hu hΨ ⊢)
  rcases Nat.lt_or_ge i l.length with hlt | hge
  · obtain ⟨y, hy⟩ : ∃ x, l[i]? = some x := ⟨_, List.getElem?_eq_getElem hlt⟩
    have k1 : (decide ((i : Int) < (l.length : Int))) = true := decide_eq_true (by omega)
    have k2 := hsl_at hy
    have k7 : (i : Int) + 1 = ((i + 1 : Nat) : Int) := by omega
    obtain ⟨oa, op, os, _, _⟩ := ok y (List.mem_of_getElem? hy)
    have n1 := rnone_fn y.p op
    have n2 := rnone_fn y.s os
    have hR : okR l i = (rightH y && decide (lastA l i < y.a)) := by unfold okR; rw [hy]
    have hno : okR l i = false → tu = false := fun h => by rw [← htu]; exact okU_false h hlt
    have hnx := okU_step hu
    rw [hR] at hno hnx
    have hr : rightH y = (!(y.a == 0) && (!decide (y.d > 1073741824) && (!decide (y.f > 1100585369600) && (!(decide (y.p = 0) && decide (y.s = 0)) && (((y.d == 0) == decide (y.s = 0)) && (!(y.f != 0) || !decide (y.s = 0))))))) := by
      unfold rightH
      have c1 : decide (y.d ≤ 1073741824) = !decide (y.d > 1073741824) := by rw [← decide_not]; exact decide_eq_decide.2 (by omega)
      have c2 : decide (y.f ≤ 1100585369600) = !decide (y.f > 1100585369600) := by rw [← decide_not]; exact decide_eq_decide.2 (by omega)
      rw [c1, c2]
      simp only [bne, Bool.not_not]
    rw [hr] at hno hnx
    obtain ⟨q1, g1⟩ : ∃ q, (y.a == 0) = q := ⟨_, rfl⟩
    obtain ⟨q2, g2⟩ : ∃ q, decide (y.d > 1073741824) = q := ⟨_, rfl⟩
    obtain ⟨q3, g3⟩ : ∃ q, decide (y.f > 1100585369600) = q := ⟨_, rfl⟩
    obtain ⟨q6, g6⟩ : ∃ q, (y.d == 0) = q := ⟨_, rfl⟩
    obtain ⟨q7, g7⟩ : ∃ q, (y.f != 0) = q := ⟨_, rfl⟩
    have g8 : (y.d != 0) = !q6 := by rw [← g6]; rfl
    rw [g1, g2, g3, g6, g7] at hno hnx
    generalize decide (y.p = 0) = q4 at n1 hno hnx
    generalize decide (y.s = 0) = q5 at n2 hno hnx
    clear hr hR
    rcases tree7 q1 q2 q3 q4 q5 q6 q7 with ⟨ht, hq⟩ | ⟨ht, hq⟩
    · rw [ht, Bool.false_and] at hno
      have hrf := hno rfl
      clear hno hnx ht
      rcases hq with rfl | ⟨rfl, rfl⟩ | ⟨rfl, rfl, rfl⟩ | ⟨rfl, rfl, rfl, rfl, rfl⟩ | ⟨rfl, rfl, rfl, rfl, rfl, rfl⟩ | ⟨rfl, rfl, rfl, rfl, rfl, rfl, rfl⟩ | ⟨rfl, rfl, rfl, rfl, rfl, rfl⟩ | ⟨rfl, rfl, rfl, rfl, rfl, rfl⟩
      all_goals (have W := ndI k1 (ndI k2 (ndI g1 (ndI g2 (ndI g3 (ndI g6 (ndI g7 g8)))))); (repeat (any_goals (first | ((with_reducible refine evL_call ?_ ?_ ?_); rfl; rfl; intro K hK; (first | ((apply opA_callB (n1); rfl; rfl; rfl; rfl; exact Try.func77); kernel_rfl; rfl; (simp only [go_sem, W, Bool.not_true, Bool.not_false]; rfl); (first | rfl | simp [AV.inNL, AV.inN])) | ((apply opA_callB (n2); rfl; rfl; rfl; rfl; exact Try.func77); kernel_rfl; rfl; (simp only [go_sem, W, Bool.not_true, Bool.not_false]; rfl); (first | rfl | simp [AV.inNL, AV.inN])) | ((apply opA_callB (n1); rfl; rfl; rfl; rfl; exact Try.func77); kernel_rfl; rfl; (simp only [go_sem, W, Bool.not_true, Bool.not_false]; rfl); (first | rfl | simp [AV.inNL, AV.inN])) | ((apply opA_callB (n2); rfl; rfl; rfl; rfl; exact Try.func77); kernel_rfl; rfl; (simp only [go_sem, W, Bool.not_true, Bool.not_false]; rfl); (first | rfl | simp [AV.inNL, AV.inN]))); (simp only [go_sem, W, Bool.not_true, Bool.not_false]; refine hK _ ?_; clear hK K)) | ((with_reducible refine evL_one ?_ ?_); rfl; intro K hK; simp only [go_sem, W, Bool.not_true, Bool.not_false]; ((repeat (refine ndI (by first | assumption | omega | rfl) ?_)); refine hK _ ?_; clear hK K)) | (with_reducible first | (refine evL_nil ?_; refine hR _ ?_; clear hR R) | ((first | refine evC_seq ?_ | refine evC_block ?_); intro Ψ hΨ hΨ') | (refine evC_region ?_; intro R hR) | (refine hΨ _ ?_; clear hΨ hΨ' Ψ) | refine evC_skip ?_ | refine evC_ret ?_ | refine evC_exit ?_) | ((with_reducible refine hΨ' _ _ ?_ ?_); (focus (simp; done)); clear hΨ hΨ' Ψ) | ((with_reducible apply evL_unmet); rfl; rfl; rfl; (try simp only [go_sem, W, Bool.not_true, Bool.not_false])) | ((with_reducible apply evL_grd); rfl; rfl; rfl; all_goals (intro hb; first | (cases hb; done) | ((try simp only [Bool.not_true, Bool.not_false] at hb); (first | ((with_reducible intro K hK); (first | ((apply opA_callB (n1); rfl; rfl; rfl; rfl; exact Try.func77); kernel_rfl; rfl; (simp only [go_sem, W, Bool.not_true, Bool.not_false]; rfl); (first | rfl | simp [AV.inNL, AV.inN])) | ((apply opA_callB (n2); rfl; rfl; rfl; rfl; exact Try.func77); kernel_rfl; rfl; (simp only [go_sem, W, Bool.not_true, Bool.not_false]; rfl); (first | rfl | simp [AV.inNL, AV.inN])) | skip); simp only [go_sem, W, Bool.not_true, Bool.not_false]; ((repeat (refine ndI (by first | assumption | omega | rfl) ?_)); refine hK _ ?_; clear hK K)) | ((fail_if_success (with_reducible intro _)); simp only [go_sem, W, Bool.not_true, Bool.not_false]))))) | ((with_reducible apply evC_cond); rfl; rfl; all_goals (intro hc; first | (cases hc; done) | (try simp only at hc))) | ((with_reducible refine evD_nil ?_ ?_); kernel_rfl; (with_reducible refine hR _ ?_); clear hR R) | ((first | ((with_reducible apply evD_skip); rfl; rfl; rfl; rfl) | ((with_reducible apply evD_unmet); rfl; rfl; rfl) | ((first | ((with_reducible apply evD_any); rfl; rfl) | ((with_reducible apply evD_gany); rfl; rfl; rfl; rfl; rfl)); (simp only [rdE, rdOf, go_sem, W, Bool.not_true, Bool.not_false]; rfl); (intro τ hA hQ hN; ((try simp only [agree, Op.operands, Call.operands, go_sem, W, Bool.not_true, Bool.not_false, go_sem, List.mem_cons, List.not_mem_nil, forall_eq_or_imp, forall_eq, List.append_toArray, Option.toArray] at hA); (try simp only [go_sem, W, Bool.not_true, Bool.not_false, List.mem_cons, List.not_mem_nil, forall_eq_or_imp, forall_eq] at hQ hN); (first | (revert hA; intro hA) | have hA := trivial); (first | (revert hQ; intro hQ) | have hQ := trivial); (first | (revert hN; intro hN) | have hN := trivial); simp only [go_sem, W, Bool.not_true, Bool.not_false, go_sem, hA, hQ, hN]; (repeat (refine ndI (by first | assumption | omega | rfl) ?_)); (first | apply eff_rd | apply eff_st | apply eff_nw))))); (simp only [St.eff, setO, hputs, go_sem, W, Bool.not_true, Bool.not_false])) | ((with_reducible apply evD_split); rfl; rfl; rfl; all_goals intro hb; all_goals (simp only [St.eff, setO, hputs, go_sem, W, Bool.not_true, Bool.not_false])) | ((with_reducible refine evC_draw ?_ ?_ ?_ ?_); kernel_rfl; kernel_rfl; (first | kernel_rfl | simp [newNames, isNew, St.free, freeH, AV.refsL, AV.refs]); intro R hR)))))
      all_goals rw [hrf]
      all_goals (refine ⟨by simp, ⟨_, ?_, AV.le_refl _⟩, leH_get (by simp [leH, hget])⟩; simp only [Try.results58, resL, ldA, oneOf, go_sem])
      all_goals simp
    · rw [ht, Bool.true_and] at hno hnx
      have hΨ1 := fun (h : decide (lastA l i < y.a) = true) σ' => hΨ σ' ⟨i + 1, hlt, by rw [hnx]; exact h⟩ (by dsimp only; omega)
      dsimp only at hΨ1
      rcases Nat.eq_zero_or_pos i with h0 | h0
      · have n3 : (decide ((i : Int) > 0)) = false := by simp; omega
        have ho : decide (lastA l i < y.a) = true := by
          rw [h0, decide_eq_true_eq]
          show (0 : Int) < y.a
          have : y.a ≠ 0 := by
            intro e
            rw [e] at g1
            rcases hq with ⟨h, _⟩ | ⟨h, _⟩ | ⟨h, _⟩ <;> · rw [h] at g1; cases g1
          unfold U at oa
          omega
        have hΨ2 := hΨ1 ho
        clear hΨ1 ho hno hnx ht
        rcases hq with ⟨rfl, rfl, rfl, rfl, rfl, rfl, rfl⟩ | ⟨rfl, rfl, rfl, rfl, rfl, rfl⟩ | ⟨rfl, rfl, rfl, rfl, rfl, rfl⟩
        all_goals (have W := ndI k1 (ndI k2 (ndI k7 (ndI g1 (ndI g2 (ndI g3 (ndI g6 (ndI g7 (ndI g8 (ndI n3 @wrI))))))))); (repeat (any_goals (first | ((with_reducible refine evL_call ?_ ?_ ?_); rfl; rfl; intro K hK; (first | ((apply opA_callB (n1); rfl; rfl; rfl; rfl; exact Try.func77); kernel_rfl; rfl; (simp (disch := omega) only [go_sem, W, Bool.not_true, Bool.not_false]; rfl); (first | rfl | simp [AV.inNL, AV.inN])) | ((apply opA_callB (n2); rfl; rfl; rfl; rfl; exact Try.func77); kernel_rfl; rfl; (simp (disch := omega) only [go_sem, W, Bool.not_true, Bool.not_false]; rfl); (first | rfl | simp [AV.inNL, AV.inN])) | ((apply opA_callB (n1); rfl; rfl; rfl; rfl; exact Try.func77); kernel_rfl; rfl; (simp (disch := omega) only [go_sem, W, Bool.not_true, Bool.not_false]; rfl); (first | rfl | simp [AV.inNL, AV.inN])) | ((apply opA_callB (n2); rfl; rfl; rfl; rfl; exact Try.func77); kernel_rfl; rfl; (simp (disch := omega) only [go_sem, W, Bool.not_true, Bool.not_false]; rfl); (first | rfl | simp [AV.inNL, AV.inN]))); (simp (disch := omega) only [go_sem, W, Bool.not_true, Bool.not_false]; refine hK _ ?_; clear hK K)) | ((with_reducible refine evL_one ?_ ?_); rfl; intro K hK; simp (disch := omega) only [go_sem, W, Bool.not_true, Bool.not_false]; ((repeat (refine ndI (by first | assumption | omega | rfl) ?_)); refine hK _ ?_; clear hK K)) | (with_reducible first | (refine evL_nil ?_; refine hR _ ?_; clear hR R) | ((first | refine evC_seq ?_ | refine evC_block ?_); intro Ψ hΨ hΨ') | (refine evC_region ?_; intro R hR) | (refine hΨ _ ?_; clear hΨ hΨ' Ψ) | refine evC_skip ?_ | refine evC_ret ?_ | refine evC_exit ?_) | ((with_reducible refine hΨ' _ _ ?_ ?_); (focus (simp; done)); clear hΨ hΨ' Ψ) | ((with_reducible apply evL_unmet); rfl; rfl; rfl; (try simp (disch := omega) only [go_sem, W, Bool.not_true, Bool.not_false])) | ((with_reducible apply evL_grd); rfl; rfl; rfl; all_goals (intro hb; first | (cases hb; done) | ((try simp only [Bool.not_true, Bool.not_false] at hb); (first | ((with_reducible intro K hK); (first | ((apply opA_callB (n1); rfl; rfl; rfl; rfl; exact Try.func77); kernel_rfl; rfl; (simp (disch := omega) only [go_sem, W, Bool.not_true, Bool.not_false]; rfl); (first | rfl | simp [AV.inNL, AV.inN])) | ((apply opA_callB (n2); rfl; rfl; rfl; rfl; exact Try.func77); kernel_rfl; rfl; (simp (disch := omega) only [go_sem, W, Bool.not_true, Bool.not_false]; rfl); (first | rfl | simp [AV.inNL, AV.inN])) | skip); simp (disch := omega) only [go_sem, W, Bool.not_true, Bool.not_false]; ((repeat (refine ndI (by first | assumption | omega | rfl) ?_)); refine hK _ ?_; clear hK K)) | ((fail_if_success (with_reducible intro _)); simp (disch := omega) only [go_sem, W, Bool.not_true, Bool.not_false]))))) | ((with_reducible apply evC_cond); rfl; rfl; all_goals (intro hc; first | (cases hc; done) | (try simp only at hc))) | ((with_reducible refine evD_nil ?_ ?_); kernel_rfl; (with_reducible refine hR _ ?_); clear hR R) | ((first | ((with_reducible apply evD_skip); rfl; rfl; rfl; rfl) | ((with_reducible apply evD_unmet); rfl; rfl; rfl) | ((first | ((with_reducible apply evD_any); rfl; rfl) | ((with_reducible apply evD_gany); rfl; rfl; rfl; rfl; rfl)); (simp (disch := omega) only [rdE, rdOf, go_sem, W, Bool.not_true, Bool.not_false]; rfl); (intro τ hA hQ hN; ((try simp only [agree, Op.operands, Call.operands, go_sem, W, Bool.not_true, Bool.not_false, go_sem, List.mem_cons, List.not_mem_nil, forall_eq_or_imp, forall_eq, List.append_toArray, Option.toArray] at hA); (try simp only [go_sem, W, Bool.not_true, Bool.not_false, List.mem_cons, List.not_mem_nil, forall_eq_or_imp, forall_eq] at hQ hN); (first | (revert hA; intro hA) | have hA := trivial); (first | (revert hQ; intro hQ) | have hQ := trivial); (first | (revert hN; intro hN) | have hN := trivial); simp (disch := omega) only [go_sem, W, Bool.not_true, Bool.not_false, go_sem, hA, hQ, hN]; (repeat (refine ndI (by first | assumption | omega | rfl) ?_)); (first | apply eff_rd | apply eff_st | apply eff_nw))))); (simp (disch := omega) only [St.eff, setO, hputs, go_sem, W, Bool.not_true, Bool.not_false])) | ((with_reducible apply evD_split); rfl; rfl; rfl; all_goals intro hb; all_goals (simp (disch := omega) only [St.eff, setO, hputs, go_sem, W, Bool.not_true, Bool.not_false])) | ((with_reducible refine evC_draw ?_ ?_ ?_ ?_); kernel_rfl; kernel_rfl; (first | kernel_rfl | simp [newNames, isNew, St.free, freeH, AV.refsL, AV.refs]); intro R hR)))))
        all_goals exact hΨ2 _ (St.le_of (by simp [leT]) (by simp [leH, hget]))
      · obtain ⟨j, hj⟩ : ∃ j, i = j + 1 := ⟨i - 1, by omega⟩
        obtain ⟨q, hq'⟩ : ∃ q, l[j]? = some q := ⟨_, List.getElem?_eq_getElem (by omega)⟩
        have n3 : (decide ((i : Int) > 0)) = true := by simp; omega
        have n4 := hsl_at hq'
        have n5 : (i : Int) - 1 = (j : Int) := by omega
        have hjl : j < l.length := by omega
        have hla : lastA l i = q.a := by rw [hj]; exact lastA_succ hq'
        rw [hla] at hno hΨ1
        obtain ⟨q8, hq8⟩ : ∃ c, decide (q.a < y.a) = c := ⟨_, rfl⟩
        have hge : decide (q.a ≥ y.a) = !q8 := by
          rw [← hq8, ← decide_not]; exact decide_eq_decide.2 (by omega)
        rw [hq8] at hno hΨ1
        clear hnx ht hla
        cases q8 with
        | false =>
          have hrf := hno rfl
          clear hno hΨ1
          rcases hq with ⟨rfl, rfl, rfl, rfl, rfl, rfl, rfl⟩ | ⟨rfl, rfl, rfl, rfl, rfl, rfl⟩ | ⟨rfl, rfl, rfl, rfl, rfl, rfl⟩
          all_goals (have W := ndI k1 (ndI k2 (ndI k7 (ndI g1 (ndI g2 (ndI g3 (ndI g6 (ndI g7 (ndI g8 (ndI n3 (ndI n4 (ndI n5 @wrI))))))))))); (repeat (any_goals (first | ((with_reducible refine evL_call ?_ ?_ ?_); rfl; rfl; intro K hK; (first | ((apply opA_callB (n1); rfl; rfl; rfl; rfl; exact Try.func77); kernel_rfl; rfl; (simp (disch := omega) only [go_sem, W, hge, Bool.not_true, Bool.not_false]; rfl); (first | rfl | simp [AV.inNL, AV.inN])) | ((apply opA_callB (n2); rfl; rfl; rfl; rfl; exact Try.func77); kernel_rfl; rfl; (simp (disch := omega) only [go_sem, W, hge, Bool.not_true, Bool.not_false]; rfl); (first | rfl | simp [AV.inNL, AV.inN])) | ((apply opA_callB (n1); rfl; rfl; rfl; rfl; exact Try.func77); kernel_rfl; rfl; (simp (disch := omega) only [go_sem, W, hge, Bool.not_true, Bool.not_false]; rfl); (first | rfl | simp [AV.inNL, AV.inN])) | ((apply opA_callB (n2); rfl; rfl; rfl; rfl; exact Try.func77); kernel_rfl; rfl; (simp (disch := omega) only [go_sem, W, hge, Bool.not_true, Bool.not_false]; rfl); (first | rfl | simp [AV.inNL, AV.inN]))); (simp (disch := omega) only [go_sem, W, hge, Bool.not_true, Bool.not_false]; refine hK _ ?_; clear hK K)) | ((with_reducible refine evL_one ?_ ?_); rfl; intro K hK; simp (disch := omega) only [go_sem, W, hge, Bool.not_true, Bool.not_false]; ((repeat (refine ndI (by first | assumption | omega | rfl) ?_)); refine hK _ ?_; clear hK K)) | (with_reducible first | (refine evL_nil ?_; refine hR _ ?_; clear hR R) | ((first | refine evC_seq ?_ | refine evC_block ?_); intro Ψ hΨ hΨ') | (refine evC_region ?_; intro R hR) | (refine hΨ _ ?_; clear hΨ hΨ' Ψ) | refine evC_skip ?_ | refine evC_ret ?_ | refine evC_exit ?_) | ((with_reducible refine hΨ' _ _ ?_ ?_); (focus (simp; done)); clear hΨ hΨ' Ψ) | ((with_reducible apply evL_unmet); rfl; rfl; rfl; (try simp (disch := omega) only [go_sem, W, hge, Bool.not_true, Bool.not_false])) | ((with_reducible apply evL_grd); rfl; rfl; rfl; all_goals (intro hb; first | (cases hb; done) | ((try simp only [Bool.not_true, Bool.not_false] at hb); (first | ((with_reducible intro K hK); (first | ((apply opA_callB (n1); rfl; rfl; rfl; rfl; exact Try.func77); kernel_rfl; rfl; (simp (disch := omega) only [go_sem, W, hge, Bool.not_true, Bool.not_false]; rfl); (first | rfl | simp [AV.inNL, AV.inN])) | ((apply opA_callB (n2); rfl; rfl; rfl; rfl; exact Try.func77); kernel_rfl; rfl; (simp (disch := omega) only [go_sem, W, hge, Bool.not_true, Bool.not_false]; rfl); (first | rfl | simp [AV.inNL, AV.inN])) | skip); simp (disch := omega) only [go_sem, W, hge, Bool.not_true, Bool.not_false]; ((repeat (refine ndI (by first | assumption | omega | rfl) ?_)); refine hK _ ?_; clear hK K)) | ((fail_if_success (with_reducible intro _)); simp (disch := omega) only [go_sem, W, hge, Bool.not_true, Bool.not_false]))))) | ((with_reducible apply evC_cond); rfl; rfl; all_goals (intro hc; first | (cases hc; done) | (try simp only at hc))) | ((with_reducible refine evD_nil ?_ ?_); kernel_rfl; (with_reducible refine hR _ ?_); clear hR R) | ((first | ((with_reducible apply evD_skip); rfl; rfl; rfl; rfl) | ((with_reducible apply evD_unmet); rfl; rfl; rfl) | ((first | ((with_reducible apply evD_any); rfl; rfl) | ((with_reducible apply evD_gany); rfl; rfl; rfl; rfl; rfl)); (simp (disch := omega) only [rdE, rdOf, go_sem, W, hge, Bool.not_true, Bool.not_false]; rfl); (intro τ hA hQ hN; ((try simp only [agree, Op.operands, Call.operands, go_sem, W, hge, Bool.not_true, Bool.not_false, go_sem, List.mem_cons, List.not_mem_nil, forall_eq_or_imp, forall_eq, List.append_toArray, Option.toArray] at hA); (try simp only [go_sem, W, hge, Bool.not_true, Bool.not_false, List.mem_cons, List.not_mem_nil, forall_eq_or_imp, forall_eq] at hQ hN); (first | (revert hA; intro hA) | have hA := trivial); (first | (revert hQ; intro hQ) | have hQ := trivial); (first | (revert hN; intro hN) | have hN := trivial); simp (disch := omega) only [go_sem, W, hge, Bool.not_true, Bool.not_false, go_sem, hA, hQ, hN]; (repeat (refine ndI (by first | assumption | omega | rfl) ?_)); (first | apply eff_rd | apply eff_st | apply eff_nw))))); (simp (disch := omega) only [St.eff, setO, hputs, go_sem, W, hge, Bool.not_true, Bool.not_false])) | ((with_reducible apply evD_split); rfl; rfl; rfl; all_goals intro hb; all_goals (simp (disch := omega) only [St.eff, setO, hputs, go_sem, W, hge, Bool.not_true, Bool.not_false])) | ((with_reducible refine evC_draw ?_ ?_ ?_ ?_); kernel_rfl; kernel_rfl; (first | kernel_rfl | simp [newNames, isNew, St.free, freeH, AV.refsL, AV.refs]); intro R hR)))))
          all_goals rw [hrf]
          all_goals (refine ⟨by simp, ⟨_, ?_, AV.le_refl _⟩, leH_get (by simp [leH, hget])⟩; simp only [Try.results58, resL, ldA, oneOf, go_sem])
          all_goals simp
        | true =>
          have hΨ2 := hΨ1 rfl
          clear hno hΨ1
          rcases hq with ⟨rfl, rfl, rfl, rfl, rfl, rfl, rfl⟩ | ⟨rfl, rfl, rfl, rfl, rfl, rfl⟩ | ⟨rfl, rfl, rfl, rfl, rfl, rfl⟩
          all_goals (have W := ndI k1 (ndI k2 (ndI k7 (ndI g1 (ndI g2 (ndI g3 (ndI g6 (ndI g7 (ndI g8 (ndI n3 (ndI n4 (ndI n5 @wrI))))))))))); (repeat (any_goals (first | ((with_reducible refine evL_call ?_ ?_ ?_); rfl; rfl; intro K hK; (first | ((apply opA_callB (n1); rfl; rfl; rfl; rfl; exact Try.func77); kernel_rfl; rfl; (simp (disch := omega) only [go_sem, W, hge, Bool.not_true, Bool.not_false]; rfl); (first | rfl | simp [AV.inNL, AV.inN])) | ((apply opA_callB (n2); rfl; rfl; rfl; rfl; exact Try.func77); kernel_rfl; rfl; (simp (disch := omega) only [go_sem, W, hge, Bool.not_true, Bool.not_false]; rfl); (first | rfl | simp [AV.inNL, AV.inN])) | ((apply opA_callB (n1); rfl; rfl; rfl; rfl; exact Try.func77); kernel_rfl; rfl; (simp (disch := omega) only [go_sem, W, hge, Bool.not_true, Bool.not_false]; rfl); (first | rfl | simp [AV.inNL, AV.inN])) | ((apply opA_callB (n2); rfl; rfl; rfl; rfl; exact Try.func77); kernel_rfl; rfl; (simp (disch := omega) only [go_sem, W, hge, Bool.not_true, Bool.not_false]; rfl); (first | rfl | simp [AV.inNL, AV.inN]))); (simp (disch := omega) only [go_sem, W, hge, Bool.not_true, Bool.not_false]; refine hK _ ?_; clear hK K)) | ((with_reducible refine evL_one ?_ ?_); rfl; intro K hK; simp (disch := omega) only [go_sem, W, hge, Bool.not_true, Bool.not_false]; ((repeat (refine ndI (by first | assumption | omega | rfl) ?_)); refine hK _ ?_; clear hK K)) | (with_reducible first | (refine evL_nil ?_; refine hR _ ?_; clear hR R) | ((first | refine evC_seq ?_ | refine evC_block ?_); intro Ψ hΨ hΨ') | (refine evC_region ?_; intro R hR) | (refine hΨ _ ?_; clear hΨ hΨ' Ψ) | refine evC_skip ?_ | refine evC_ret ?_ | refine evC_exit ?_) | ((with_reducible refine hΨ' _ _ ?_ ?_); (focus (simp; done)); clear hΨ hΨ' Ψ) | ((with_reducible apply evL_unmet); rfl; rfl; rfl; (try simp (disch := omega) only [go_sem, W, hge, Bool.not_true, Bool.not_false])) | ((with_reducible apply evL_grd); rfl; rfl; rfl; all_goals (intro hb; first | (cases hb; done) | ((try simp only [Bool.not_true, Bool.not_false] at hb); (first | ((with_reducible intro K hK); (first | ((apply opA_callB (n1); rfl; rfl; rfl; rfl; exact Try.func77); kernel_rfl; rfl; (simp (disch := omega) only [go_sem, W, hge, Bool.not_true, Bool.not_false]; rfl); (first | rfl | simp [AV.inNL, AV.inN])) | ((apply opA_callB (n2); rfl; rfl; rfl; rfl; exact Try.func77); kernel_rfl; rfl; (simp (disch := omega) only [go_sem, W, hge, Bool.not_true, Bool.not_false]; rfl); (first | rfl | simp [AV.inNL, AV.inN])) | skip); simp (disch := omega) only [go_sem, W, hge, Bool.not_true, Bool.not_false]; ((repeat (refine ndI (by first | assumption | omega | rfl) ?_)); refine hK _ ?_; clear hK K)) | ((fail_if_success (with_reducible intro _)); simp (disch := omega) only [go_sem, W, hge, Bool.not_true, Bool.not_false]))))) | ((with_reducible apply evC_cond); rfl; rfl; all_goals (intro hc; first | (cases hc; done) | (try simp only at hc))) | ((with_reducible refine evD_nil ?_ ?_); kernel_rfl; (with_reducible refine hR _ ?_); clear hR R) | ((first | ((with_reducible apply evD_skip); rfl; rfl; rfl; rfl) | ((with_reducible apply evD_unmet); rfl; rfl; rfl) | ((first | ((with_reducible apply evD_any); rfl; rfl) | ((with_reducible apply evD_gany); rfl; rfl; rfl; rfl; rfl)); (simp (disch := omega) only [rdE, rdOf, go_sem, W, hge, Bool.not_true, Bool.not_false]; rfl); (intro τ hA hQ hN; ((try simp only [agree, Op.operands, Call.operands, go_sem, W, hge, Bool.not_true, Bool.not_false, go_sem, List.mem_cons, List.not_mem_nil, forall_eq_or_imp, forall_eq, List.append_toArray, Option.toArray] at hA); (try simp only [go_sem, W, hge, Bool.not_true, Bool.not_false, List.mem_cons, List.not_mem_nil, forall_eq_or_imp, forall_eq] at hQ hN); (first | (revert hA; intro hA) | have hA := trivial); (first | (revert hQ; intro hQ) | have hQ := trivial); (first | (revert hN; intro hN) | have hN := trivial); simp (disch := omega) only [go_sem, W, hge, Bool.not_true, Bool.not_false, go_sem, hA, hQ, hN]; (repeat (refine ndI (by first | assumption | omega | rfl) ?_)); (first | apply eff_rd | apply eff_st | apply eff_nw))))); (simp (disch := omega) only [St.eff, setO, hputs, go_sem, W, hge, Bool.not_true, Bool.not_false])) | ((with_reducible apply evD_split); rfl; rfl; rfl; all_goals intro hb; all_goals (simp (disch := omega) only [St.eff, setO, hputs, go_sem, W, hge, Bool.not_true, Bool.not_false])) | ((with_reducible refine evC_draw ?_ ?_ ?_ ?_); kernel_rfl; kernel_rfl; (first | kernel_rfl | simp [newNames, isNew, St.free, freeH, AV.refsL, AV.refs]); intro R hR)))))
          all_goals exact hΨ2 _ (St.le_of (by simp [leT]) (by simp [leH, hget]))
  · have k1 : (decide ((i : Int) < (l.length : Int))) = false := decide_eq_false (by omega)
    have e : i = l.length := by omega
    have hrt : tu = true := by rw [← htu, ← e]; exact hu
    have c24 : q24 = true ∨ q24 = false := by cases q24 <;> simp
    rcases c24 with c24 | c24
    all_goals rw [c24] at e24'
    all_goals (repeat (any_goals (first | ((with_reducible refine evL_call ?_ ?_ ?_); rfl; rfl; intro K hK; ((apply opA_callB (sm); rfl; rfl; rfl; rfl; exact Try.func78); kernel_rfl; rfl; (simp only [go_sem, k1, e24']; rfl); (first | rfl | simp [AV.inNL, AV.inN])); (simp only [go_sem, k1, e24']; refine hK _ ?_; clear hK K)) | ((with_reducible refine evL_one ?_ ?_); rfl; intro K hK; simp only [go_sem, k1, e24']; ((repeat (refine ndI (by first | assumption | omega | rfl) ?_)); refine hK _ ?_; clear hK K)) | (with_reducible first | (refine evL_nil ?_; refine hR _ ?_; clear hR R) | ((first | refine evC_seq ?_ | refine evC_block ?_); intro Ψ hΨ hΨ') | (refine evC_region ?_; intro R hR) | (refine hΨ _ ?_; clear hΨ hΨ' Ψ) | refine evC_skip ?_ | refine evC_ret ?_ | refine evC_exit ?_) | ((with_reducible refine hΨ' _ _ ?_ ?_); (focus (simp; done)); clear hΨ hΨ' Ψ) | ((with_reducible apply evL_unmet); rfl; rfl; rfl; (try simp only [go_sem, k1, e24'])) | ((with_reducible apply evL_grd); rfl; rfl; rfl; all_goals (intro hb; first | (cases hb; done) | ((try simp only [Bool.not_true, Bool.not_false] at hb); (first | ((with_reducible intro K hK); simp only [go_sem, k1, e24']; ((repeat (refine ndI (by first | assumption | omega | rfl) ?_)); refine hK _ ?_; clear hK K)) | ((fail_if_success (with_reducible intro _)); simp only [go_sem, k1, e24']))))) | ((with_reducible apply evC_cond); rfl; rfl; all_goals (intro hc; first | (cases hc; done) | (try simp only at hc))) | ((with_reducible refine evD_nil ?_ ?_); kernel_rfl; (with_reducible refine hR _ ?_); clear hR R) | ((first | ((with_reducible apply evD_skip); rfl; rfl; rfl; rfl) | ((with_reducible apply evD_unmet); rfl; rfl; rfl) | ((first | ((with_reducible apply evD_any); rfl; rfl) | ((with_reducible apply evD_gany); rfl; rfl; rfl; rfl; rfl)); (simp only [rdE, rdOf, go_sem, k1, e24']; rfl); (intro τ hA hQ hN; ((try simp only [agree, Op.operands, Call.operands, go_sem, k1, e24', go_sem, List.mem_cons, List.not_mem_nil, forall_eq_or_imp, forall_eq, List.append_toArray, Option.toArray] at hA); (try simp only [go_sem, k1, e24', List.mem_cons, List.not_mem_nil, forall_eq_or_imp, forall_eq] at hQ hN); (first | (revert hA; intro hA) | have hA := trivial); (first | (revert hQ; intro hQ) | have hQ := trivial); (first | (revert hN; intro hN) | have hN := trivial); simp only [go_sem, k1, e24', go_sem, hA, hQ, hN]; (repeat (refine ndI (by first | assumption | omega | rfl) ?_)); (first | apply eff_rd | apply eff_st | apply eff_nw))))); (simp only [St.eff, setO, hputs, go_sem, k1, e24'])) | ((with_reducible apply evD_split); rfl; rfl; rfl; all_goals intro hb; all_goals (simp only [St.eff, setO, hputs, go_sem, k1, e24'])) | ((with_reducible refine evC_draw ?_ ?_ ?_ ?_); kernel_rfl; kernel_rfl; (first | kernel_rfl | simp [newNames, isNew, St.free, freeH, AV.refsL, AV.refs]); intro R hR))))
    all_goals rw [hrt, c24]
    all_goals (refine ⟨by simp, ⟨_, ?_, AV.le_refl _⟩, leH_get (by simp [leH, hget])⟩; simp only [Try.results58, resL, ldA, oneOf, go_sem])
    all_goals simp
end Go.Proofs.Ytgdnmdnhkhpieaa.lg
namespace Go.Proofs.Ytgdnmdnhkhpieaa.nz
open Go.RowKit
open Nat (reduceBEq)
set_option maxRecDepth 20000
set_option maxHeartbeats 1000000
theorem okTo_iff (l : List N6) : ∀ n, okTo l n = true ↔ (l.length : Int) ≤ 48 ∧ ∀ j, j < n → okS l j = true
  | 0 => by simp [okTo]
  | n + 1 => by
    simp only [okTo, Bool.and_eq_true, okTo_iff l n]
    constructor
    · rintro ⟨⟨h1, h2⟩, h3⟩
      refine ⟨h1, fun j hj => ?_⟩
      rcases Nat.lt_or_ge j n with h | h
      · exact h2 j h
      · obtain rfl : j = n := by omega
        exact h3
    · rintro ⟨h1, h2⟩
      exact ⟨⟨h1, fun j hj => h2 j (by omega)⟩, h2 n (by omega)⟩
theorem okS_no {l : List N6} {i : Nat} (hi : i < l.length) (h : okS l i = false) : okTo l l.length = false := by
  cases hh : okTo l l.length with
  | false => rfl
  | true => have := ((okTo_iff l _).1 hh).2 i hi; rw [h] at this; cases this
theorem refright_fn (ex : Bool) (l : List N6) (hl : l.length ≤ 4611686018427387904) (ok : ∀ n ∈ l, n.ok) : Fn Try.prog 59 [nsl ex l] [] (vb (okTo l l.length)) [] := by
  (refine fn_of Try.func59 rfl (by rfl) ?_; simp only [Try.ntmps59, List.length_cons, List.length_nil, Nat.reduceAdd, Nat.reduceSub, List.replicate, List.cons_append, List.nil_append])
  (repeat (any_goals (first | ((with_reducible refine evL_one ?_ ?_); rfl; intro K hK; simp only [go_sem]; ((repeat (refine ndI (by first | assumption | omega | rfl) ?_)); refine hK _ ?_; clear hK K)) | (with_reducible first | (refine evL_nil ?_; refine hR _ ?_; clear hR R) | ((first | refine evC_seq ?_ | refine evC_block ?_); intro Ψ hΨ hΨ') | (refine evC_region ?_; intro R hR) | (refine hΨ _ ?_; clear hΨ hΨ' Ψ) | refine evC_skip ?_ | refine evC_ret ?_ | refine evC_exit ?_) | ((with_reducible refine hΨ' _ _ ?_ ?_); (focus (simp; done)); clear hΨ hΨ' Ψ) | ((with_reducible apply evC_cond); rfl; rfl; all_goals (intro hc; first | (cases hc; done) | (try simp only at hc))) | ((with_reducible refine evD_nil ?_ ?_); kernel_rfl; (with_reducible refine hR _ ?_); clear hR R) | ((first | ((with_reducible apply evD_skip); rfl; rfl; rfl; rfl) | ((with_reducible apply evD_unmet); rfl; rfl; rfl) | ((first | ((with_reducible apply evD_any); rfl; rfl) | ((with_reducible apply evD_gany); rfl; rfl; rfl; rfl; rfl)); (simp only [rdE, rdOf, go_sem]; rfl); (intro τ hA hQ hN; ((try simp only [agree, Op.operands, Call.operands, go_sem, List.mem_cons, List.not_mem_nil, forall_eq_or_imp, forall_eq, List.append_toArray, Option.toArray] at hA); (try simp only [go_sem, List.mem_cons, List.not_mem_nil, forall_eq_or_imp, forall_eq] at hQ hN); (first | (revert hA; intro hA) | have hA := trivial); (first | (revert hQ; intro hQ) | have hQ := trivial); (first | (revert hN; intro hN) | have hN := trivial); simp only [go_sem, hA, hQ, hN]; (repeat (refine ndI (by first | assumption | omega | rfl) ?_)); (first | apply eff_rd | apply eff_st | apply eff_nw))))); (simp only [St.eff, setO, hputs, go_sem])) | ((with_reducible apply evD_split); rfl; rfl; rfl; all_goals intro hb; all_goals (simp only [St.eff, setO, hputs, go_sem])) | ((with_reducible refine evC_draw ?_ ?_ ?_ ?_); kernel_rfl; kernel_rfl; (first | kernel_rfl | simp [newNames, isNew, St.free, freeH, AV.refsL, AV.refs]); intro R hR))))
  refine evC_loop (α := { i : Nat // i ≤ l.length ∧ ∀ j, j < i → okS l j = true }) (fun p => ⟨[nsl ex l, .any, .any, .any, .any, nsl ex l, vi .i64 l.length, vi .i64 p.1, .any, .any, .any, .any, .any, .any, .any, .any, .any, .any, .any, .any, .any, .any, .any, .any, .any, .any, .any, .any, .any, .any, .any, .any, .any, .any, .any, .any, .any, .any, .any, .any, .any, .any, .any, .any], []⟩) (fun p => l.length - p.1) ⟨0, Nat.zero_le _, fun j hj => by omega⟩ (St.le_of (by simp [leT]) (by simp [leH])) ?_
  rintro ⟨i, hi, hok⟩ Ψ hΨ hΨ'
  dsimp only at hΨ ⊢
  rcases Nat.lt_or_ge i l.length with hlt | hge
  · obtain ⟨y, hy⟩ : ∃ y, l[i]? = some y := ⟨l[i], List.getElem?_eq_getElem hlt⟩
    have e1 : (decide ((i : Int) < (l.length : Int))) = true := by simpa using hlt
    have e2 := nsl_at hy
    have oy := ok y (List.mem_of_getElem? hy)
    have hnx : okS l i = true → ∀ j, j < i + 1 → okS l j = true := fun h j hj => by
      rcases Nat.lt_or_ge j i with h' | h'
      · exact hok j h'
      · obtain rfl : j = i := by omega
        exact h
    have hx : U y.x := oy.2.2.2.2.2
    have hx2 : decide (y.x > 0) = !(y.x == 0) := by
      have := hx.1
      by_cases h0 : y.x = 0
      · simp [h0]
      · have : y.x > 0 := by omega
        simp [h0, this]
    rcases i with _ | j
    · simp only [Nat.zero_mul, List.drop_zero] at e2
      have hk : okS l 0 = ((y.a != 0) && (y.e == 0) && !(y.x == 0)) := by simp [okS, hy, hx2]
      have e4 : (decide (((0 : Nat) : Int) > 0)) = false := by decide
      have e7 : ((0 : Nat) : Int) + 1 = ((0 + 1 : Nat) : Int) := by omega
      (have W := ndI e1 (ndI e2 (ndI e4 (ndI e7 @wrI))); (repeat (any_goals (first | ((with_reducible refine evL_one ?_ ?_); rfl; intro K hK; simp (disch := omega) only [go_sem, W]; ((repeat (refine ndI (by first | assumption | omega | rfl) ?_)); refine hK _ ?_; clear hK K)) | (with_reducible first | (refine evL_nil ?_; refine hR _ ?_; clear hR R) | ((first | refine evC_seq ?_ | refine evC_block ?_); intro Ψ hΨ hΨ') | (refine evC_region ?_; intro R hR) | (refine hΨ _ ?_; clear hΨ hΨ' Ψ) | refine evC_skip ?_ | refine evC_ret ?_ | refine evC_exit ?_) | ((with_reducible refine hΨ' _ _ ?_ ?_); (focus (simp; done)); clear hΨ hΨ' Ψ) | ((with_reducible apply evC_cond); rfl; rfl; all_goals (intro hc; first | (cases hc; done) | (try simp only at hc))) | ((with_reducible refine evD_nil ?_ ?_); kernel_rfl; (with_reducible refine hR _ ?_); clear hR R) | ((first | ((with_reducible apply evD_skip); rfl; rfl; rfl; rfl) | ((with_reducible apply evD_unmet); rfl; rfl; rfl) | ((first | ((with_reducible apply evD_fcall); rfl; rfl) | ((with_reducible apply evD_gcall); rfl; rfl; rfl; rfl; rfl)); ((apply opF_callB (refkey_fn _ _ _ _); rfl; rfl; rfl; rfl; exact Try.func79); kernel_rfl; rfl; (simp (disch := omega) only [go_sem, W]; rfl); (first | rfl | simp [AV.inNL, AV.inN]))) | ((first | ((with_reducible apply evD_any); rfl; rfl) | ((with_reducible apply evD_gany); rfl; rfl; rfl; rfl; rfl)); (simp (disch := omega) only [rdE, rdOf, go_sem, W]; rfl); (intro τ hA hQ hN; ((try simp only [agree, Op.operands, Call.operands, go_sem, W, go_sem, List.mem_cons, List.not_mem_nil, forall_eq_or_imp, forall_eq, List.append_toArray, Option.toArray] at hA); (try simp only [go_sem, W, List.mem_cons, List.not_mem_nil, forall_eq_or_imp, forall_eq] at hQ hN); (first | (revert hA; intro hA) | have hA := trivial); (first | (revert hQ; intro hQ) | have hQ := trivial); (first | (revert hN; intro hN) | have hN := trivial); simp (disch := omega) only [go_sem, W, go_sem, hA, hQ, hN]; (repeat (refine ndI (by first | assumption | omega | rfl) ?_)); (first | apply eff_rd | apply eff_st | apply eff_nw))))); (simp (disch := omega) only [St.eff, setO, hputs, go_sem, W])) | ((with_reducible apply evD_split); rfl; rfl; rfl; all_goals intro hb; all_goals (simp (disch := omega) only [St.eff, setO, hputs, go_sem, W])) | ((with_reducible refine evC_draw ?_ ?_ ?_ ?_); kernel_rfl; kernel_rfl; (first | kernel_rfl | simp [newNames, isNew, St.free, freeH, AV.refsL, AV.refs]); intro R hR)))))
      rotate_left 3
      · refine hΨ _ ⟨_, hlt, hnx ?_⟩ (by simp only; omega) (St.le_of ?_ ?_)
        · rw [hk]; clear hΨ hk hx2 e2 hy ok oy hx hnx hok; simp_all
        · simp [leT]
        · simp [leH]
      all_goals have hno : okTo l l.length = false := (by
        refine okS_no hlt ?_
        rw [hk]
        clear hk hx2 e2 hy ok oy hx hnx hok
        simp_all)
      all_goals (refine ⟨by simp, ⟨_, ?_, AV.le_refl _⟩, leH_get (by simp [leH, hget])⟩; simp only [Try.results59, resL, ldA, oneOf, go_sem])
      all_goals rw [hno]
    · obtain ⟨z, hz⟩ : ∃ z, l[j]? = some z := ⟨l[j], List.getElem?_eq_getElem (by omega)⟩
      have oz := ok z (List.mem_of_getElem? hz)
      have e3 := nsl_at hz
      have e4 : (decide (((j + 1 : Nat) : Int) > 0)) = true := by simp
      have e5 : ((j + 1 : Nat) : Int) - 1 = (j : Int) := by omega
      have e7 : ((j + 1 : Nat) : Int) + 1 = ((j + 1 + 1 : Nat) : Int) := by omega
      have hbf := before_fn z.a z.b z.c z.d z.e z.x y.a y.b y.c y.d y.e y.x oz oy
      obtain ⟨q, hq⟩ : ∃ q, decide (rk z.a z.b z.c z.d z.e < rk y.a y.b y.c y.d y.e) = q := ⟨_, rfl⟩
      rw [hq] at hbf
      have hk : okS l (j + 1) = ((y.a != 0) && (y.e == 0) && !(y.x == 0) && decide (z.rk < y.rk)) := by
        simp only [okS, hy, Nat.add_sub_cancel, hz, hx2, cN_rk oz oy, cmpN_neg]; simp
      rw [show decide (z.rk < y.rk) = q from hq] at hk
      clear hq
      (have W := ndI e1 (ndI e2 (ndI e3 (ndI e4 (ndI e5 (ndI e7 @wrI))))); (repeat (any_goals (first | ((with_reducible refine evL_one ?_ ?_); rfl; intro K hK; simp (disch := omega) only [go_sem, W]; ((repeat (refine ndI (by first | assumption | omega | rfl) ?_)); refine hK _ ?_; clear hK K)) | (with_reducible first | (refine evL_nil ?_; refine hR _ ?_; clear hR R) | ((first | refine evC_seq ?_ | refine evC_block ?_); intro Ψ hΨ hΨ') | (refine evC_region ?_; intro R hR) | (refine hΨ _ ?_; clear hΨ hΨ' Ψ) | refine evC_skip ?_ | refine evC_ret ?_ | refine evC_exit ?_) | ((with_reducible refine hΨ' _ _ ?_ ?_); (focus (simp; done)); clear hΨ hΨ' Ψ) | ((with_reducible apply evC_cond); rfl; rfl; all_goals (intro hc; first | (cases hc; done) | (try simp only at hc))) | ((with_reducible refine evD_nil ?_ ?_); kernel_rfl; (with_reducible refine hR _ ?_); clear hR R) | ((first | ((with_reducible apply evD_skip); rfl; rfl; rfl; rfl) | ((with_reducible apply evD_unmet); rfl; rfl; rfl) | ((first | ((with_reducible apply evD_fcall); rfl; rfl) | ((with_reducible apply evD_gcall); rfl; rfl; rfl; rfl; rfl)); ((first | (apply opF_callB (refkey_fn _ _ _ _); rfl; rfl; rfl; rfl; exact Try.func79) | (apply opF_callB (hbf); rfl; rfl; rfl; rfl; exact Try.func80)); kernel_rfl; rfl; (simp (disch := omega) only [go_sem, W]; rfl); (first | rfl | simp [AV.inNL, AV.inN]))) | ((first | ((with_reducible apply evD_any); rfl; rfl) | ((with_reducible apply evD_gany); rfl; rfl; rfl; rfl; rfl)); (simp (disch := omega) only [rdE, rdOf, go_sem, W]; rfl); (intro τ hA hQ hN; ((try simp only [agree, Op.operands, Call.operands, go_sem, W, go_sem, List.mem_cons, List.not_mem_nil, forall_eq_or_imp, forall_eq, List.append_toArray, Option.toArray] at hA); (try simp only [go_sem, W, List.mem_cons, List.not_mem_nil, forall_eq_or_imp, forall_eq] at hQ hN); (first | (revert hA; intro hA) | have hA := trivial); (first | (revert hQ; intro hQ) | have hQ := trivial); (first | (revert hN; intro hN) | have hN := trivial); simp (disch := omega) only [go_sem, W, go_sem, hA, hQ, hN]; (repeat (refine ndI (by first | assumption | omega | rfl) ?_)); (first | apply eff_rd | apply eff_st | apply eff_nw))))); (simp (disch := omega) only [St.eff, setO, hputs, go_sem, W])) | ((with_reducible apply evD_split); rfl; rfl; rfl; all_goals intro hb; all_goals (simp (disch := omega) only [St.eff, setO, hputs, go_sem, W])) | ((with_reducible refine evC_draw ?_ ?_ ?_ ?_); kernel_rfl; kernel_rfl; (first | kernel_rfl | simp [newNames, isNew, St.free, freeH, AV.refsL, AV.refs]); intro R hR)))))
      rotate_left 4
      · refine hΨ _ ⟨_, hlt, hnx ?_⟩ (by simp only; omega) (St.le_of ?_ ?_)
        · rw [hk]; clear hΨ hk hx2 e2 hy ok oy hx hnx hok; simp_all
        · simp [leT]
        · simp [leH]
      all_goals have hno : okTo l l.length = false := (by
        refine okS_no hlt ?_
        rw [hk]
        clear hk hx2 e2 hy ok oy hx hnx hok
        simp_all)
      all_goals (refine ⟨by simp, ⟨_, ?_, AV.le_refl _⟩, leH_get (by simp [leH, hget])⟩; simp only [Try.results59, resL, ldA, oneOf, go_sem])
      all_goals rw [hno]
  · have e1 : (decide ((i : Int) < (l.length : Int))) = false := by simpa using hge
    obtain rfl : i = l.length := by omega
    have e8 : decide ((l.length : Int) ≤ 48) = okTo l l.length := by
      rw [Bool.eq_iff_iff, okTo_iff]; simp; exact fun _ => hok
    (repeat (any_goals (first | ((with_reducible refine evL_one ?_ ?_); rfl; intro K hK; simp only [go_sem, e1, e8]; ((repeat (refine ndI (by first | assumption | omega | rfl) ?_)); refine hK _ ?_; clear hK K)) | (with_reducible first | (refine evL_nil ?_; refine hR _ ?_; clear hR R) | ((first | refine evC_seq ?_ | refine evC_block ?_); intro Ψ hΨ hΨ') | (refine evC_region ?_; intro R hR) | (refine hΨ _ ?_; clear hΨ hΨ' Ψ) | refine evC_skip ?_ | refine evC_ret ?_ | refine evC_exit ?_) | ((with_reducible refine hΨ' _ _ ?_ ?_); (focus (simp; done)); clear hΨ hΨ' Ψ) | ((with_reducible apply evC_cond); rfl; rfl; all_goals (intro hc; first | (cases hc; done) | (try simp only at hc))) | ((with_reducible refine evD_nil ?_ ?_); kernel_rfl; (with_reducible refine hR _ ?_); clear hR R) | ((first | ((with_reducible apply evD_skip); rfl; rfl; rfl; rfl) | ((with_reducible apply evD_unmet); rfl; rfl; rfl) | ((first | ((with_reducible apply evD_any); rfl; rfl) | ((with_reducible apply evD_gany); rfl; rfl; rfl; rfl; rfl)); (simp only [rdE, rdOf, go_sem, e1, e8]; rfl); (intro τ hA hQ hN; ((try simp only [agree, Op.operands, Call.operands, go_sem, e1, e8, go_sem, List.mem_cons, List.not_mem_nil, forall_eq_or_imp, forall_eq, List.append_toArray, Option.toArray] at hA); (try simp only [go_sem, e1, e8, List.mem_cons, List.not_mem_nil, forall_eq_or_imp, forall_eq] at hQ hN); (first | (revert hA; intro hA) | have hA := trivial); (first | (revert hQ; intro hQ) | have hQ := trivial); (first | (revert hN; intro hN) | have hN := trivial); simp only [go_sem, e1, e8, go_sem, hA, hQ, hN]; (repeat (refine ndI (by first | assumption | omega | rfl) ?_)); (first | apply eff_rd | apply eff_st | apply eff_nw))))); (simp only [St.eff, setO, hputs, go_sem, e1, e8])) | ((with_reducible apply evD_split); rfl; rfl; rfl; all_goals intro hb; all_goals (simp only [St.eff, setO, hputs, go_sem, e1, e8])) | ((with_reducible refine evC_draw ?_ ?_ ?_ ?_); kernel_rfl; kernel_rfl; (first | kernel_rfl | simp [newNames, isNew, St.free, freeH, AV.refsL, AV.refs]); intro R hR))))
    all_goals (refine ⟨by simp, ⟨_, ?_, AV.le_refl _⟩, leH_get (by simp [leH, hget])⟩; simp only [Try.results59, resL, ldA, oneOf, go_sem])
end Go.Proofs.Ytgdnmdnhkhpieaa.nz
namespace Go.Proofs.Ytgdnmdnhkhpieaa
open Go.RowKit
open Nat (reduceBEq)
set_option maxRecDepth 20000
set_option maxHeartbeats 4000000
theorem rightw_fn (w : Wl) (hw : w.ok) : Fn Try.prog 37 [wlA w] [] (vb (rightW w)) [] := by
  have f1 := rright_fn false w.S hw.kl
  have f2 := lg.refright_fn false w.L (Nat.le_trans hw.l.1 (by decide)) hw.l.2
  have f3 := nz.refright_fn false w.N (Nat.le_trans hw.n.1 (by decide)) hw.n.2
  unfold rightW
  generalize okSt w.S = q1 at f1 ⊢
  generalize lg.okL w.L = q2 at f2 ⊢
  generalize nz.okTo w.N w.N.length = q3 at f3 ⊢
  cases q1 <;> cases q2 <;> cases q3
  all_goals (refine fn_of Try.func37 rfl (by rfl) ?_; simp only [Try.ntmps37, List.length_cons, List.length_nil, Nat.reduceAdd, Nat.reduceSub, List.replicate, List.cons_append, List.nil_append])
  all_goals (repeat (any_goals (first | ((with_reducible refine evL_call ?_ ?_ ?_); rfl; rfl; intro K hK; ((apply opA_callB (f1); rfl; rfl; rfl; rfl; exact Try.func57); kernel_rfl; rfl; (simp only [go_sem]; rfl); (first | rfl | simp [AV.inNL, AV.inN])); (simp only [go_sem]; refine hK _ ?_; clear hK K)) | ((with_reducible refine evL_one ?_ ?_); rfl; intro K hK; simp only [go_sem]; ((repeat (refine ndI (by first | assumption | omega | rfl) ?_)); refine hK _ ?_; clear hK K)) | (with_reducible first | (refine evL_nil ?_; refine hR _ ?_; clear hR R) | ((first | refine evC_seq ?_ | refine evC_block ?_); intro Ψ hΨ hΨ') | (refine evC_region ?_; intro R hR) | (refine hΨ _ ?_; clear hΨ hΨ' Ψ) | refine evC_skip ?_ | refine evC_ret ?_ | refine evC_exit ?_) | ((with_reducible refine hΨ' _ _ ?_ ?_); (focus (simp; done)); clear hΨ hΨ' Ψ) | ((with_reducible apply evL_unmet); rfl; rfl; rfl; (try simp only [go_sem])) | ((with_reducible apply evL_grd); rfl; rfl; rfl; all_goals (intro hb; first | (cases hb; done) | ((try simp only [Bool.not_true, Bool.not_false] at hb); (first | ((with_reducible intro K hK); (first | ((first | (apply opA_callB (f2); rfl; rfl; rfl; rfl; exact Try.func58) | (apply opA_callB (f3); rfl; rfl; rfl; rfl; exact Try.func59)); kernel_rfl; rfl; (simp only [go_sem]; rfl); (first | rfl | simp [AV.inNL, AV.inN])) | skip); simp only [go_sem]; ((repeat (refine ndI (by first | assumption | omega | rfl) ?_)); refine hK _ ?_; clear hK K)) | ((fail_if_success (with_reducible intro _)); simp only [go_sem]))))) | ((with_reducible apply evC_cond); rfl; rfl; all_goals (intro hc; first | (cases hc; done) | (try simp only at hc))))))
  all_goals (refine ⟨by simp, ⟨_, ?_, AV.le_refl _⟩, leH_get (by simp [leH, hget])⟩; simp only [Try.results37, resL, ldA, oneOf, go_sem])
  all_goals rfl
theorem right_st {w : Wl} (h : rightW w = true) : okSt w.S = true ∧ lg.okL w.L = true := by
  unfold rightW at h
  simp only [Bool.and_eq_true] at h
  exact ⟨h.1.1, h.1.2⟩
theorem find_right {w : Wl} (h : rightW w = true) (a : Int) : (findS w.S a).b = (OfS w.S a).b := by
  have h1 := (right_st h).1
  rw [findS_of h1]
  unfold OfS
  rw [h1, if_pos rfl]
theorem rhas_fn (w : Wl) (hw : w.ok) (h : rightW w = true) : Fn Try.prog 40 [wlA w] [] (wN (hasN w)) [] := by
  have f := rof_fn false w.S hw.kl 1
  unfold hasN
  rw [h, if_pos rfl, ← find_right h]
  generalize findS w.S 1 = x at f ⊢
  obtain ⟨a, b, n, c, s⟩ := x
  dsimp only at f ⊢
  (refine fn_of Try.func40 rfl (by rfl) ?_; simp only [Try.ntmps40, List.length_cons, List.length_nil, Nat.reduceAdd, Nat.reduceSub, List.replicate, List.cons_append, List.nil_append])
  (repeat (any_goals (first | ((with_reducible refine evL_call ?_ ?_ ?_); rfl; rfl; intro K hK; ((apply opA_callB (f); rfl; rfl; rfl; rfl; exact Try.func44); kernel_rfl; rfl; (simp only [go_sem]; rfl); (first | rfl | simp [AV.inNL, AV.inN])); (simp only [go_sem]; refine hK _ ?_; clear hK K)) | ((with_reducible refine evL_one ?_ ?_); rfl; intro K hK; simp only [go_sem]; ((repeat (refine ndI (by first | assumption | omega | rfl) ?_)); refine hK _ ?_; clear hK K)) | (with_reducible first | (refine evL_nil ?_; refine hR _ ?_; clear hR R) | ((first | refine evC_seq ?_ | refine evC_block ?_); intro Ψ hΨ hΨ') | (refine evC_region ?_; intro R hR) | (refine hΨ _ ?_; clear hΨ hΨ' Ψ) | refine evC_skip ?_ | refine evC_ret ?_ | refine evC_exit ?_) | ((with_reducible refine hΨ' _ _ ?_ ?_); (focus (simp; done)); clear hΨ hΨ' Ψ) | ((with_reducible apply evC_cond); rfl; rfl; all_goals (intro hc; first | (cases hc; done) | (try simp only at hc))))))
  all_goals (refine ⟨by simp, ⟨_, ?_, AV.le_refl _⟩, leH_get (by simp [leH, hget])⟩; simp only [Try.results40, resL, ldA, oneOf, go_sem])
theorem rsumF_fn (l : List lg.Hd) (hl : l.length ≤ 1000) (ok : ∀ h ∈ l, h.ok) (h : lg.okL l = true) : Fn Try.prog 61 [lg.lg false l] [] (wN (lg.sumP l)) [] := by
  have f := lg.rsum_fn false l hl ok
  have e : (lg.rsm 0 l).1 = lg.sumP l := by
    unfold lg.sumP
    rw [if_pos h]
    have key : ∀ (l : List lg.Hd) (n : Nat), n + lg.tot l < WW → (lg.rsm n l).1 = n + lg.tot l := by
      intro l
      induction l with
      | nil => intro n _; rfl
      | cons x l ih =>
        intro n hn
        have e1 : lg.tot (x :: l) = x.p + x.s + lg.tot l := by simp [lg.tot]
        rw [e1] at hn
        unfold lg.rsm
        rw [if_neg (by omega), if_neg (by omega), ih _ (by omega), e1]
        omega
    have := key l 0 (by have := lg.okL_tot h; omega)
    rw [this, Nat.zero_add]
  rw [e] at f
  generalize lg.sumP l = n at f ⊢
  generalize (lg.rsm 0 l).2 = q at f
  (refine fn_of Try.func61 rfl (by rfl) ?_; simp only [Try.ntmps61, List.length_cons, List.length_nil, Nat.reduceAdd, Nat.reduceSub, List.replicate, List.cons_append, List.nil_append])
  (repeat (any_goals (first | ((with_reducible refine evL_call ?_ ?_ ?_); rfl; rfl; intro K hK; ((apply opA_callB (f); rfl; rfl; rfl; rfl; exact Try.func78); kernel_rfl; rfl; (simp only [go_sem]; rfl); (first | rfl | simp [AV.inNL, AV.inN])); (simp only [go_sem]; refine hK _ ?_; clear hK K)) | ((with_reducible refine evL_one ?_ ?_); rfl; intro K hK; simp only [go_sem]; ((repeat (refine ndI (by first | assumption | omega | rfl) ?_)); refine hK _ ?_; clear hK K)) | (with_reducible first | (refine evL_nil ?_; refine hR _ ?_; clear hR R) | ((first | refine evC_seq ?_ | refine evC_block ?_); intro Ψ hΨ hΨ') | (refine evC_region ?_; intro R hR) | (refine hΨ _ ?_; clear hΨ hΨ' Ψ) | refine evC_skip ?_ | refine evC_ret ?_ | refine evC_exit ?_) | ((with_reducible refine hΨ' _ _ ?_ ?_); (focus (simp; done)); clear hΨ hΨ' Ψ) | ((with_reducible apply evC_cond); rfl; rfl; all_goals (intro hc; first | (cases hc; done) | (try simp only at hc))))))
  all_goals (refine ⟨by simp, ⟨_, ?_, AV.le_refl _⟩, leH_get (by simp [leH, hget])⟩; simp only [Try.results61, resL, ldA, oneOf, go_sem])
theorem rowes_fn (w : Wl) (hw : w.ok) (h : rightW w = true) : Fn Try.prog 41 [wlA w] [] (wN (owesN w)) [] := by
  have f := rsumF_fn w.L (Nat.le_trans hw.l.1 (by decide)) hw.l.2 (right_st h).2
  unfold owesN
  rw [h, if_pos rfl]
  generalize lg.sumP w.L = n at f ⊢
  (refine fn_of Try.func41 rfl (by rfl) ?_; simp only [Try.ntmps41, List.length_cons, List.length_nil, Nat.reduceAdd, Nat.reduceSub, List.replicate, List.cons_append, List.nil_append])
  (repeat (any_goals (first | ((with_reducible refine evL_call ?_ ?_ ?_); rfl; rfl; intro K hK; ((apply opA_callB (f); rfl; rfl; rfl; rfl; exact Try.func61); kernel_rfl; rfl; (simp only [go_sem]; rfl); (first | rfl | simp [AV.inNL, AV.inN])); (simp only [go_sem]; refine hK _ ?_; clear hK K)) | ((with_reducible refine evL_one ?_ ?_); rfl; intro K hK; simp only [go_sem]; ((repeat (refine ndI (by first | assumption | omega | rfl) ?_)); refine hK _ ?_; clear hK K)) | (with_reducible first | (refine evL_nil ?_; refine hR _ ?_; clear hR R) | ((first | refine evC_seq ?_ | refine evC_block ?_); intro Ψ hΨ hΨ') | (refine evC_region ?_; intro R hR) | (refine hΨ _ ?_; clear hΨ hΨ' Ψ) | refine evC_skip ?_ | refine evC_ret ?_ | refine evC_exit ?_) | ((with_reducible refine hΨ' _ _ ?_ ?_); (focus (simp; done)); clear hΨ hΨ' Ψ) | ((with_reducible apply evC_cond); rfl; rfl; all_goals (intro hc; first | (cases hc; done) | (try simp only at hc))))))
  all_goals (refine ⟨by simp, ⟨_, ?_, AV.le_refl _⟩, leH_get (by simp [leH, hget])⟩; simp only [Try.results41, resL, ldA, oneOf, go_sem])
theorem rsupply_fn (w : Wl) (hw : w.ok) (h : rightW w = true) : Fn Try.prog 42 [wlA w] [] (wN (supplyN w)) [] := by
  have f := rtotal_fn false w.S (by have := hw.kl.1; omega) fun x hx => (hw.kl.2 x hx).1.2.1
  unfold supplyN totalS
  rw [h, if_pos rfl, (right_st h).1, if_pos rfl]
  generalize (w.S.map Ac.b).sum % WW = n at f ⊢
  generalize decide (WW ≤ (w.S.map Ac.b).sum) = q at f
  (refine fn_of Try.func42 rfl (by rfl) ?_; simp only [Try.ntmps42, List.length_cons, List.length_nil, Nat.reduceAdd, Nat.reduceSub, List.replicate, List.cons_append, List.nil_append])
  (repeat (any_goals (first | ((with_reducible refine evL_call ?_ ?_ ?_); rfl; rfl; intro K hK; ((apply opA_callB (f); rfl; rfl; rfl; rfl; exact Try.func62); kernel_rfl; rfl; (simp only [go_sem]; rfl); (first | rfl | simp [AV.inNL, AV.inN])); (simp only [go_sem]; refine hK _ ?_; clear hK K)) | ((with_reducible refine evL_one ?_ ?_); rfl; intro K hK; simp only [go_sem]; ((repeat (refine ndI (by first | assumption | omega | rfl) ?_)); refine hK _ ?_; clear hK K)) | (with_reducible first | (refine evL_nil ?_; refine hR _ ?_; clear hR R) | ((first | refine evC_seq ?_ | refine evC_block ?_); intro Ψ hΨ hΨ') | (refine evC_region ?_; intro R hR) | (refine hΨ _ ?_; clear hΨ hΨ' Ψ) | refine evC_skip ?_ | refine evC_ret ?_ | refine evC_exit ?_) | ((with_reducible refine hΨ' _ _ ?_ ?_); (focus (simp; done)); clear hΨ hΨ' Ψ) | ((with_reducible apply evC_cond); rfl; rfl; all_goals (intro hc; first | (cases hc; done) | (try simp only at hc))))))
  all_goals (refine ⟨by simp, ⟨_, ?_, AV.le_refl _⟩, leH_get (by simp [leH, hget])⟩; simp only [Try.results42, resL, ldA, oneOf, go_sem])
abbrev gA (g : Nat) : AV := .agg [vi .u64 (l0 (g % WW)), vi .u64 (l1 (g % WW)), vi .u64 (l2 (g % WW)), vi .u64 (l3 (g % WW)), vi .i64 (g / WW : Nat)]
theorem plus_fn (g x : Nat) (hg : g / WW ≤ 1000000) (hx : x < WW) : Fn Try.prog 39 [gA g, wN x] [] (gA (g + x)) [] := by
  have hW : 0 < WW := by decide
  have f := refadd_fn (g % WW) x (Nat.mod_lt _ hW) hx
  have e1 : (g + x) % WW = (g % WW + x) % WW := by rw [Nat.add_mod, Nat.mod_eq_of_lt hx]
  have e2 : (g + x) / WW = g / WW + if WW ≤ g % WW + x then 1 else 0 := by
    have h1 := Nat.div_add_mod g WW
    have h2 := Nat.mod_lt g hW
    split
    · rename_i h
      rw [Nat.div_eq_iff hW]
      generalize g / WW = d at *
      generalize g % WW = m at *
      generalize WW = W at *
      rw [Nat.add_mul, Nat.one_mul]
      have : W * d = d * W := Nat.mul_comm _ _
      omega
    · rename_i h
      rw [Nat.div_eq_iff hW]
      generalize g / WW = d at *
      generalize g % WW = m at *
      generalize WW = W at *
      rw [Nat.add_zero]
      have : W * d = d * W := Nat.mul_comm _ _
      omega
  unfold gA
  rw [e1, e2]
  generalize (g % WW + x) % WW = m at f ⊢
  generalize g % WW = r at *
  generalize g / WW = d at *
  by_cases h : WW ≤ r + x
  · rw [decide_eq_true h] at f
    rw [if_pos h]
    have e3 : (d : Int) + 1 = ((d + 1 : Nat) : Int) := by omega
    clear e1 e2
    (refine fn_of Try.func39 rfl (by rfl) ?_; simp only [Try.ntmps39, List.length_cons, List.length_nil, Nat.reduceAdd, Nat.reduceSub, List.replicate, List.cons_append, List.nil_append])
    (repeat (any_goals (first | ((with_reducible refine evL_call ?_ ?_ ?_); rfl; rfl; intro K hK; ((apply opA_callB (f); rfl; rfl; rfl; rfl; exact Try.func60); kernel_rfl; rfl; (simp (disch := omega) only [go_sem, e3, wrI]; rfl); (first | rfl | simp [AV.inNL, AV.inN])); (simp (disch := omega) only [go_sem, e3, wrI]; refine hK _ ?_; clear hK K)) | ((with_reducible refine evL_one ?_ ?_); rfl; intro K hK; simp (disch := omega) only [go_sem, e3, wrI]; ((repeat (refine ndI (by first | assumption | omega | rfl) ?_)); refine hK _ ?_; clear hK K)) | (with_reducible first | (refine evL_nil ?_; refine hR _ ?_; clear hR R) | ((first | refine evC_seq ?_ | refine evC_block ?_); intro Ψ hΨ hΨ') | (refine evC_region ?_; intro R hR) | (refine hΨ _ ?_; clear hΨ hΨ' Ψ) | refine evC_skip ?_ | refine evC_ret ?_ | refine evC_exit ?_) | ((with_reducible refine hΨ' _ _ ?_ ?_); (focus (simp; done)); clear hΨ hΨ' Ψ) | ((with_reducible apply evC_cond); rfl; rfl; all_goals (intro hc; first | (cases hc; done) | (try simp only at hc))))))
    all_goals (refine ⟨by simp, ⟨_, ?_, AV.le_refl _⟩, leH_get (by simp [leH, hget])⟩; simp only [Try.results39, resL, ldA, oneOf, go_sem])
  · rw [decide_eq_false h] at f
    rw [if_neg h]
    clear e1 e2
    (refine fn_of Try.func39 rfl (by rfl) ?_; simp only [Try.ntmps39, List.length_cons, List.length_nil, Nat.reduceAdd, Nat.reduceSub, List.replicate, List.cons_append, List.nil_append])
    (repeat (any_goals (first | ((with_reducible refine evL_call ?_ ?_ ?_); rfl; rfl; intro K hK; ((apply opA_callB (f); rfl; rfl; rfl; rfl; exact Try.func60); kernel_rfl; rfl; (simp only [go_sem]; rfl); (first | rfl | simp [AV.inNL, AV.inN])); (simp only [go_sem]; refine hK _ ?_; clear hK K)) | ((with_reducible refine evL_one ?_ ?_); rfl; intro K hK; simp only [go_sem]; ((repeat (refine ndI (by first | assumption | omega | rfl) ?_)); refine hK _ ?_; clear hK K)) | (with_reducible first | (refine evL_nil ?_; refine hR _ ?_; clear hR R) | ((first | refine evC_seq ?_ | refine evC_block ?_); intro Ψ hΨ hΨ') | (refine evC_region ?_; intro R hR) | (refine hΨ _ ?_; clear hΨ hΨ' Ψ) | refine evC_skip ?_ | refine evC_ret ?_ | refine evC_exit ?_) | ((with_reducible refine hΨ' _ _ ?_ ?_); (focus (simp; done)); clear hΨ hΨ' Ψ) | ((with_reducible apply evC_cond); rfl; rfl; all_goals (intro hc; first | (cases hc; done) | (try simp only at hc))))))
    all_goals (refine ⟨by simp, ⟨_, ?_, AV.le_refl _⟩, leH_get (by simp [leH, hget])⟩; simp only [Try.results39, resL, ldA, oneOf, go_sem])
    all_goals rfl
theorem gcmp_fn (m n : Nat) : Fn Try.prog 38 [gA m, gA n] [] (vi .i64 (cmpN m n)) [] := by
  have hW : 0 < WW := by decide
  have f := refcmp_fn (m % WW) (n % WW) (Nat.mod_lt _ hW) (Nat.mod_lt _ hW)
  have h1 := Nat.div_add_mod m WW
  have h2 := Nat.mod_lt m hW
  have h3 := Nat.div_add_mod n WW
  have h4 := Nat.mod_lt n hW
  unfold gA
  by_cases c1 : m / WW < n / WW
  · have e : cmpN m n = -1 := by
      unfold cmpN
      have : (m / WW + 1) * WW ≤ n / WW * WW := Nat.mul_le_mul_right _ c1
      rw [Nat.add_mul, Nat.one_mul] at this
      rw [Nat.mul_comm] at h1 h3
      rw [if_pos (by omega)]
    rw [e]
    have k1 : decide (((m / WW : Nat) : Int) < ((n / WW : Nat) : Int)) = true := decide_eq_true (by omega)
    generalize m / WW = d1 at *
    generalize n / WW = d2 at *
    generalize m % WW = r1 at *
    generalize n % WW = r2 at *
    (refine fn_of Try.func38 rfl (by rfl) ?_; simp only [Try.ntmps38, List.length_cons, List.length_nil, Nat.reduceAdd, Nat.reduceSub, List.replicate, List.cons_append, List.nil_append])
    (repeat (any_goals (first | ((with_reducible refine evL_one ?_ ?_); rfl; intro K hK; simp only [go_sem, k1]; ((repeat (refine ndI (by first | assumption | omega | rfl) ?_)); refine hK _ ?_; clear hK K)) | (with_reducible first | (refine evL_nil ?_; refine hR _ ?_; clear hR R) | ((first | refine evC_seq ?_ | refine evC_block ?_); intro Ψ hΨ hΨ') | (refine evC_region ?_; intro R hR) | (refine hΨ _ ?_; clear hΨ hΨ' Ψ) | refine evC_skip ?_ | refine evC_ret ?_ | refine evC_exit ?_) | ((with_reducible refine hΨ' _ _ ?_ ?_); (focus (simp; done)); clear hΨ hΨ' Ψ) | ((with_reducible apply evC_cond); rfl; rfl; all_goals (intro hc; first | (cases hc; done) | (try simp only at hc))))))
    all_goals (refine ⟨by simp, ⟨_, ?_, AV.le_refl _⟩, leH_get (by simp [leH, hget])⟩; simp only [Try.results38, resL, ldA, oneOf, go_sem])
  have k1 : decide (((m / WW : Nat) : Int) < ((n / WW : Nat) : Int)) = false := decide_eq_false (by omega)
  by_cases c2 : n / WW < m / WW
  · have e : cmpN m n = 1 := by
      unfold cmpN
      have : (n / WW + 1) * WW ≤ m / WW * WW := Nat.mul_le_mul_right _ c2
      rw [Nat.add_mul, Nat.one_mul] at this
      rw [Nat.mul_comm] at h1 h3
      rw [if_neg (by omega), if_pos (by omega)]
    rw [e]
    have k2 : decide (((m / WW : Nat) : Int) > ((n / WW : Nat) : Int)) = true := decide_eq_true (by omega)
    generalize m / WW = d1 at *
    generalize n / WW = d2 at *
    generalize m % WW = r1 at *
    generalize n % WW = r2 at *
    (refine fn_of Try.func38 rfl (by rfl) ?_; simp only [Try.ntmps38, List.length_cons, List.length_nil, Nat.reduceAdd, Nat.reduceSub, List.replicate, List.cons_append, List.nil_append])
    (repeat (any_goals (first | ((with_reducible refine evL_one ?_ ?_); rfl; intro K hK; simp only [go_sem, k1, k2]; ((repeat (refine ndI (by first | assumption | omega | rfl) ?_)); refine hK _ ?_; clear hK K)) | (with_reducible first | (refine evL_nil ?_; refine hR _ ?_; clear hR R) | ((first | refine evC_seq ?_ | refine evC_block ?_); intro Ψ hΨ hΨ') | (refine evC_region ?_; intro R hR) | (refine hΨ _ ?_; clear hΨ hΨ' Ψ) | refine evC_skip ?_ | refine evC_ret ?_ | refine evC_exit ?_) | ((with_reducible refine hΨ' _ _ ?_ ?_); (focus (simp; done)); clear hΨ hΨ' Ψ) | ((with_reducible apply evC_cond); rfl; rfl; all_goals (intro hc; first | (cases hc; done) | (try simp only at hc))))))
    all_goals (refine ⟨by simp, ⟨_, ?_, AV.le_refl _⟩, leH_get (by simp [leH, hget])⟩; simp only [Try.results38, resL, ldA, oneOf, go_sem])
  have k2 : decide (((m / WW : Nat) : Int) > ((n / WW : Nat) : Int)) = false := decide_eq_false (by omega)
  have e : cmpN m n = cmpN (m % WW) (n % WW) := by
    have : m / WW = n / WW := by omega
    rw [this] at h1
    unfold cmpN
    rw [Nat.mul_comm] at h1 h3
    generalize n / WW * WW = d at *
    repeat' split
    all_goals omega
  rw [e]
  generalize cmpN (m % WW) (n % WW) = z at f ⊢
  generalize m / WW = d1 at *
  generalize n / WW = d2 at *
  generalize m % WW = r1 at *
  generalize n % WW = r2 at *
  (refine fn_of Try.func38 rfl (by rfl) ?_; simp only [Try.ntmps38, List.length_cons, List.length_nil, Nat.reduceAdd, Nat.reduceSub, List.replicate, List.cons_append, List.nil_append])
  (repeat (any_goals (first | ((with_reducible refine evL_call ?_ ?_ ?_); rfl; rfl; intro K hK; ((apply opA_callB (f); rfl; rfl; rfl; rfl; exact Try.func43); kernel_rfl; rfl; (simp only [go_sem, k1, k2]; rfl); (first | rfl | simp [AV.inNL, AV.inN])); (simp only [go_sem, k1, k2]; refine hK _ ?_; clear hK K)) | ((with_reducible refine evL_one ?_ ?_); rfl; intro K hK; simp only [go_sem, k1, k2]; ((repeat (refine ndI (by first | assumption | omega | rfl) ?_)); refine hK _ ?_; clear hK K)) | (with_reducible first | (refine evL_nil ?_; refine hR _ ?_; clear hR R) | ((first | refine evC_seq ?_ | refine evC_block ?_); intro Ψ hΨ hΨ') | (refine evC_region ?_; intro R hR) | (refine hΨ _ ?_; clear hΨ hΨ' Ψ) | refine evC_skip ?_ | refine evC_ret ?_ | refine evC_exit ?_) | ((with_reducible refine hΨ' _ _ ?_ ?_); (focus (simp; done)); clear hΨ hΨ' Ψ) | ((with_reducible apply evC_cond); rfl; rfl; all_goals (intro hc; first | (cases hc; done) | (try simp only at hc))))))
  all_goals (refine ⟨by simp, ⟨_, ?_, AV.le_refl _⟩, leH_get (by simp [leH, hget])⟩; simp only [Try.results38, resL, ldA, oneOf, go_sem])
theorem small_div {n k : Nat} (h : n ≤ k * WW) : n / WW ≤ k := by
  have := Nat.div_le_div_right (c := WW) h
  rwa [Nat.mul_div_cancel _ (by decide)] at this
theorem csum_le {l : List Rp} (ok : ∀ r ∈ l, r.ok) : (csL l).sum ≤ l.length * WW := by
  induction l with
  | nil => simp [csL]
  | cons x l ih =>
    have h1 := ih fun r hr => ok r (by simp [hr])
    have h2 := (ok x (by simp)).2.2.1
    have e : (csL (x :: l)).sum = x.c + (csL l).sum := by simp [csL]
    rw [e, List.length_cons, Nat.add_mul, Nat.one_mul]
    omega
theorem gcosts_fn (ex : Bool) (l : List Rp) (hl : l.length ≤ 1000) (ok : ∀ r ∈ l, r.ok) : Fn Try.prog 45 [rsl ex l] [] (gA (csL l).sum) [] := by
  obtain ⟨s, hs⟩ : ∃ s, (csL l).sum = s := ⟨_, rfl⟩
  rw [hs]
  have k8 : l.length < 9223372036854775808 := by omega
  (refine fn_of Try.func45 rfl (by rfl) ?_; simp only [Try.ntmps45, List.length_cons, List.length_nil, Nat.reduceAdd, Nat.reduceSub, List.replicate, List.cons_append, List.nil_append])
  (repeat (any_goals (first | ((with_reducible refine evL_one ?_ ?_); rfl; intro K hK; simp only [go_sem]; ((repeat (refine ndI (by first | assumption | omega | rfl) ?_)); refine hK _ ?_; clear hK K)) | (with_reducible first | (refine evL_nil ?_; refine hR _ ?_; clear hR R) | ((first | refine evC_seq ?_ | refine evC_block ?_); intro Ψ hΨ hΨ') | (refine evC_region ?_; intro R hR) | (refine hΨ _ ?_; clear hΨ hΨ' Ψ) | refine evC_skip ?_ | refine evC_ret ?_ | refine evC_exit ?_) | ((with_reducible refine hΨ' _ _ ?_ ?_); (focus (simp; done)); clear hΨ hΨ' Ψ) | ((with_reducible apply evC_cond); rfl; rfl; all_goals (intro hc; first | (cases hc; done) | (try simp only at hc))))))
  refine evC_upto l.length (fun i => ⟨[rsl ex l, .any, .ptr 2 0, .ptr 3 0, .any, .any, rsl ex l, vi .i64 l.length, vi .i64 (i : Int), .any, .any, .any, .any, .any, .any, .any, .any, .any], [(2, [vi .u64 0, vi .u64 0, vi .u64 0, vi .u64 0, vi .i64 0]), (3, [vi .u64 (l0 ((csL (l.take i)).sum % WW)), vi .u64 (l1 ((csL (l.take i)).sum % WW)), vi .u64 (l2 ((csL (l.take i)).sum % WW)), vi .u64 (l3 ((csL (l.take i)).sum % WW)), vi .i64 ((csL (l.take i)).sum / WW : Nat)])]⟩) (St.le_of (by simp [leT]) (by simp [leH, hget, csL, l0_zero, l1_zero, l2_zero, l3_zero])) ?_
  intro i hi Ψ hΨ hΨ'
  (try dsimp only at hΨ ⊢)
  rcases Nat.lt_or_ge i l.length with hlt | hge
  · obtain ⟨x, hx⟩ : ∃ x, l[i]? = some x := ⟨_, List.getElem?_eq_getElem hlt⟩
    have k1 : (decide ((i : Int) < (l.length : Int))) = true := decide_eq_true (by omega)
    have k2 := rp_at hx
    have k7 : (i : Int) + 1 = ((i + 1 : Nat) : Int) := by omega
    have k3 : (csL (l.take (i + 1))).sum = (csL (l.take i)).sum + x.c := by
      rw [List.take_add_one, hx]
      simp [csL]
    have hle : (csL (l.take i)).sum ≤ 1000 * WW := by
      have := csum_le (l := l.take i) fun r hr => ok r (List.mem_of_mem_take hr)
      refine Nat.le_trans this (Nat.mul_le_mul_right _ ?_)
      rw [List.length_take]; omega
    rw [k3] at hΨ
    generalize (csL (l.take i)).sum = g at hΨ hle ⊢
    have pl := plus_fn g x.c (Nat.le_trans (small_div hle) (by decide)) (ok x (List.mem_of_getElem? hx)).2.2.1
    unfold gA at pl
    generalize (g + x.c) % WW = m1 at hΨ pl
    generalize (g + x.c) / WW = d1 at hΨ pl
    generalize g % WW = m0 at pl ⊢
    generalize g / WW = d0 at pl ⊢
    (have W := ndI k1 (ndI k2 (ndI k7 @wrI)); (repeat (any_goals (first | ((with_reducible refine evL_call ?_ ?_ ?_); rfl; rfl; intro K hK; ((apply opA_callB (pl); rfl; rfl; rfl; rfl; exact Try.func39); kernel_rfl; rfl; (simp (disch := omega) only [go_sem, W]; rfl); (first | rfl | simp [AV.inNL, AV.inN])); (simp (disch := omega) only [go_sem, W]; refine hK _ ?_; clear hK K)) | ((with_reducible refine evL_one ?_ ?_); rfl; intro K hK; simp (disch := omega) only [go_sem, W]; ((repeat (refine ndI (by first | assumption | omega | rfl) ?_)); refine hK _ ?_; clear hK K)) | (with_reducible first | (refine evL_nil ?_; refine hR _ ?_; clear hR R) | ((first | refine evC_seq ?_ | refine evC_block ?_); intro Ψ hΨ hΨ') | (refine evC_region ?_; intro R hR) | (refine hΨ _ ?_; clear hΨ hΨ' Ψ) | refine evC_skip ?_ | refine evC_ret ?_ | refine evC_exit ?_) | ((with_reducible refine hΨ' _ _ ?_ ?_); (focus (simp; done)); clear hΨ hΨ' Ψ) | ((with_reducible apply evC_cond); rfl; rfl; all_goals (intro hc; first | (cases hc; done) | (try simp only at hc)))))))
    all_goals exact hΨ _ hlt (St.le_of (by simp [leT]) (by simp [leH, hget]))
  · have k1 : (decide ((i : Int) < (l.length : Int))) = false := decide_eq_false (by omega)
    rw [List.take_of_length_le hge, hs]
    (repeat (any_goals (first | ((with_reducible refine evL_one ?_ ?_); rfl; intro K hK; simp only [go_sem, k1]; ((repeat (refine ndI (by first | assumption | omega | rfl) ?_)); refine hK _ ?_; clear hK K)) | (with_reducible first | (refine evL_nil ?_; refine hR _ ?_; clear hR R) | ((first | refine evC_seq ?_ | refine evC_block ?_); intro Ψ hΨ hΨ') | (refine evC_region ?_; intro R hR) | (refine hΨ _ ?_; clear hΨ hΨ' Ψ) | refine evC_skip ?_ | refine evC_ret ?_ | refine evC_exit ?_) | ((with_reducible refine hΨ' _ _ ?_ ?_); (focus (simp; done)); clear hΨ hΨ' Ψ) | ((with_reducible apply evC_cond); rfl; rfl; all_goals (intro hc; first | (cases hc; done) | (try simp only at hc))))))
    all_goals (refine ⟨by simp, ⟨_, ?_, AV.le_refl _⟩, leH_get (by simp [leH, hget])⟩; simp only [Try.results45, resL, ldA, oneOf, go_sem])
end Go.Proofs.Ytgdnmdnhkhpieaa
namespace Go.Proofs.Ytgdnmdnhkhpieaa
open Go.RowKit
open Nat (reduceBEq)
set_option maxRecDepth 20000
set_option maxHeartbeats 4000000
def rjN (t : Tn) : Int := if rightW t.w && rightW t.v then brk t else 0
theorem cmp_lt {m n : Nat} : decide (cmpN m n < 0) = decide (m < n) := by
  refine decide_eq_decide.2 ?_
  unfold cmpN
  repeat' split
  all_goals omega
theorem cmp_ne {m n : Nat} : (cmpN m n != 0) = !decide (m = n) := by
  have h : cmpN m n = 0 ↔ m = n := by
    unfold cmpN
    repeat' split
    all_goals omega
  by_cases e : m = n
  · rw [decide_eq_true e, h.2 e]; rfl
  · rw [decide_eq_false e]
    simp [h, e]
theorem fund_eq {t : Tn} (ht : t.ok) (h0 : t.f ≠ 0) : decide (balN t.v t.f < (csL t.r).sum + balN t.w t.f) = brkF t := by
  unfold brkF
  have hb := balN_lt ht.v ht.f
  have e : (csL t.r ++ [balN t.w t.f]).sum = (csL t.r).sum + balN t.w t.f := by simp
  rw [e, decide_eq_false h0]
  generalize (csL t.r).sum + balN t.w t.f = s
  generalize balN t.v t.f = b at *
  have hW : 0 < WW := by decide
  have hm := Nat.mod_eq_of_lt (a := s) (b := WW)
  generalize WW = W at *
  by_cases h : W ≤ s
  · rw [decide_eq_true (by omega), decide_eq_true h]; rfl
  · rw [hm (by omega), decide_eq_false h]; rfl
abbrev zG : List AV := [vi .u64 0, vi .u64 0, vi .u64 0, vi .u64 0, vi .i64 0]
theorem gA_zero : gA 0 = .agg zG := rfl
theorem dear_ref (x : Rp) (ok : x.ok) : Fn Try.prog 43 [wN x.c, wN x.h] [] (vi .i64 (cmpN x.c x.h)) [] ∧ decide (cmpN x.c x.h > 0) = decide (x.h < x.c) := by
  refine ⟨refcmp_fn _ _ ok.2.2.1 ok.2.1, decide_eq_decide.2 ?_⟩
  unfold cmpN
  repeat' split
  all_goals omega
theorem rjudge_fn (t : Tn) (ht : t.ok) : Fn Try.prog 9 [tnA t] [] (.tup [vi .i64 (rjN t), vb (rightW t.w && rightW t.v)]) [] := by
  have r1 := rightw_fn t.w ht.w
  have r2 := rightw_fn t.v ht.v
  unfold rjN
  by_cases hr : (rightW t.w && rightW t.v) = true
  case neg =>
    have hr2 : (rightW t.w && rightW t.v) = false := by simpa using hr
    rw [hr2]
    simp only [Bool.false_eq_true, if_false]
    generalize rightW t.w = q1 at *
    generalize rightW t.v = q2 at *
    cases q1 <;> cases q2
    all_goals first | (simp at hr; done) | skip
    all_goals (refine fn_of Try.func9 rfl (by rfl) ?_; simp only [Try.ntmps9, List.length_cons, List.length_nil, Nat.reduceAdd, Nat.reduceSub, List.replicate, List.cons_append, List.nil_append])
    all_goals (repeat (any_goals (first | ((with_reducible refine evL_call ?_ ?_ ?_); rfl; rfl; intro K hK; (first | ((apply opA_callB (r1); rfl; rfl; rfl; rfl; exact Try.func37); kernel_rfl; rfl; (simp only [go_sem]; rfl); (first | rfl | simp [AV.inNL, AV.inN])) | ((apply opA_callB (r2); rfl; rfl; rfl; rfl; exact Try.func37); kernel_rfl; rfl; (simp only [go_sem]; rfl); (first | rfl | simp [AV.inNL, AV.inN]))); (simp only [go_sem]; refine hK _ ?_; clear hK K)) | ((with_reducible refine evL_one ?_ ?_); rfl; intro K hK; simp only [go_sem]; ((repeat (refine ndI (by first | assumption | omega | rfl) ?_)); refine hK _ ?_; clear hK K)) | (with_reducible first | (refine evL_nil ?_; refine hR _ ?_; clear hR R) | ((first | refine evC_seq ?_ | refine evC_block ?_); intro Ψ hΨ hΨ') | (refine evC_region ?_; intro R hR) | (refine hΨ _ ?_; clear hΨ hΨ' Ψ) | refine evC_skip ?_ | refine evC_ret ?_ | refine evC_exit ?_) | ((with_reducible refine hΨ' _ _ ?_ ?_); (focus (simp; done)); clear hΨ hΨ' Ψ) | ((with_reducible apply evL_unmet); rfl; rfl; rfl; (try simp only [go_sem])) | ((with_reducible apply evL_grd); rfl; rfl; rfl; all_goals (intro hb; first | (cases hb; done) | ((try simp only [Bool.not_true, Bool.not_false] at hb); (first | ((with_reducible intro K hK); (first | ((apply opA_callB (r2); rfl; rfl; rfl; rfl; exact Try.func37); kernel_rfl; rfl; (simp only [go_sem]; rfl); (first | rfl | simp [AV.inNL, AV.inN])) | skip); simp only [go_sem]; ((repeat (refine ndI (by first | assumption | omega | rfl) ?_)); refine hK _ ?_; clear hK K)) | ((fail_if_success (with_reducible intro _)); simp only [go_sem]))))) | ((with_reducible apply evC_cond); rfl; rfl; all_goals (intro hc; first | (cases hc; done) | (try simp only at hc))) | ((with_reducible refine evD_nil ?_ ?_); kernel_rfl; (with_reducible refine hR _ ?_); clear hR R) | ((first | ((with_reducible apply evD_any); rfl; rfl; (simp only [rdE, rdOf, go_sem]; rfl); (intro τ hA hQ hN; ((try simp only [agree, Op.operands, Call.operands, go_sem, List.mem_cons, List.not_mem_nil, forall_eq_or_imp, forall_eq, List.append_toArray, Option.toArray] at hA); (try simp only [go_sem, List.mem_cons, List.not_mem_nil, forall_eq_or_imp, forall_eq] at hQ hN); (first | (revert hA; intro hA) | have hA := trivial); (first | (revert hQ; intro hQ) | have hQ := trivial); (first | (revert hN; intro hN) | have hN := trivial); simp only [go_sem, hA, hQ, hN]; (repeat (refine ndI (by first | assumption | omega | rfl) ?_)); (first | apply eff_rd | apply eff_st | apply eff_nw)))) | ((first | ((with_reducible apply evD_new); rfl; rfl; rfl) | ((with_reducible apply evD_grd_new); rfl; rfl; rfl; rfl; rfl; rfl)); (intro τ hA hQ hN; ((try simp only [agree, Op.operands, Call.operands, go_sem, List.mem_cons, List.not_mem_nil, forall_eq_or_imp, forall_eq, List.append_toArray, Option.toArray] at hA); (try simp only [go_sem, List.mem_cons, List.not_mem_nil, forall_eq_or_imp, forall_eq] at hQ); (first | (revert hA; intro hA) | have hA := trivial); (first | (revert hQ; intro hQ) | have hQ := trivial); simp only [go_sem, hA, hQ, hN]; (repeat (refine ndI (by first | assumption | omega | rfl) ?_)); exact eff_nw _ _ _ _)))); (simp only [St.eff, setO, hputs, go_sem])) | ((with_reducible refine evC_draw ?_ ?_ ?_ ?_); kernel_rfl; kernel_rfl; (first | kernel_rfl | simp [newNames, isNew, St.free, freeH, AV.refsL, AV.refs]); intro R hR))))
    all_goals (refine ⟨by simp, ⟨_, ?_, AV.le_refl _⟩, leH_get (by simp [leH, hget])⟩; simp only [Try.results9, resL, ldA, oneOf, go_sem])
  rw [hr, if_pos rfl]
  rw [Bool.and_eq_true] at hr
  obtain ⟨hw, hv⟩ := hr
  rw [hw] at r1
  rw [hv] at r2
  have a1 := rhas_fn t.v ht.v hv
  have a2 := rowes_fn t.w ht.w hw
  have a3 := rhas_fn t.w ht.w hw
  have a4 := rowes_fn t.v ht.v hv
  have s1 := rsupply_fn t.v ht.v hv
  have s2 := rsupply_fn t.w ht.w hw
  have z0 : ∀ x, x < WW → x / WW ≤ 1000000 := fun x hx => by rw [Nat.div_eq_of_lt hx]; decide
  have p1 := plus_fn 0 (hasN t.v) (by decide) (hasN_lt ht.v)
  have p2 := plus_fn (hasN t.v) (owesN t.w) (z0 _ (hasN_lt ht.v)) (owesN_lt _)
  have p3 := plus_fn 0 (hasN t.w) (by decide) (hasN_lt ht.w)
  have p4 := plus_fn (hasN t.w) (owesN t.v) (z0 _ (hasN_lt ht.w)) (owesN_lt _)
  have c1 := gcmp_fn (hasN t.v + owesN t.w) (hasN t.w + owesN t.v)
  have p5 := plus_fn 0 (supplyN t.v) (by decide) (supplyN_lt _)
  have p6 := plus_fn (supplyN t.v) t.b (z0 _ (supplyN_lt _)) ht.b
  have p7 := plus_fn 0 (supplyN t.w) (by decide) (supplyN_lt _)
  have p8 := plus_fn (supplyN t.w) t.m (z0 _ (supplyN_lt _)) ht.m
  have c2 := gcmp_fn (supplyN t.v + t.b) (supplyN t.w + t.m)
  have o1 := rof_fn false t.w.S ht.w.kl t.f
  have o2 := rof_fn false t.v.S ht.v.kl t.f
  have b1 : (findS t.w.S t.f).b = balN t.w t.f := find_right hw _
  have b2 : (findS t.v.S t.f).b = balN t.v t.f := find_right hv _
  have p9 := plus_fn 0 (balN t.v t.f) (by decide) (balN_lt ht.v ht.f)
  have gc := gcosts_fn false t.r (by have := ht.r.1; omega) ht.r.2
  have p10 := plus_fn (csL t.r).sum (balN t.w t.f) (by
    refine Nat.le_trans (small_div (k := 1000) (Nat.le_trans (csum_le ht.r.2) (Nat.mul_le_mul_right _ ?_))) (by decide)
    have := ht.r.1; omega) (balN_lt ht.w ht.f)
  have c3 := gcmp_fn (balN t.v t.f) ((csL t.r).sum + balN t.w t.f)
  have q1 : decide (cmpN (hasN t.v + owesN t.w) (hasN t.w + owesN t.v) < 0) = brkE t := cmp_lt
  have q2 : (cmpN (supplyN t.v + t.b) (supplyN t.w + t.m) != 0) = brkS t := cmp_ne
  have q3 := fun h0 => (cmp_lt (m := balN t.v t.f) (n := (csL t.r).sum + balN t.w t.f)).trans (fund_eq ht h0)
  rw [Nat.zero_add] at p1 p3 p5 p7 p9
  rw [gA_zero] at p1 p3 p5 p7 p9
  generalize cmpN (hasN t.v + owesN t.w) (hasN t.w + owesN t.v) = x1 at c1 q1
  generalize cmpN (supplyN t.v + t.b) (supplyN t.w + t.m) = x2 at c2 q2
  generalize cmpN (balN t.v t.f) ((csL t.r).sum + balN t.w t.f) = x3 at c3 q3
  have hdear : ∀ (i : Nat) (x : Rp), t.r[i]? = some x → Fn Try.prog 43 [wN x.c, wN x.h] [] (vi .i64 (cmpN x.c x.h)) [] ∧ decide (cmpN x.c x.h > 0) = decide (x.h < x.c) := fun i x hx => dear_ref x (ht.r.2 x (List.mem_of_getElem? hx))
  have h900 := ht.r.1
  have hC : ∀ (i : Nat) (x : Rp), t.r[i]? = some x → decide (x.h < x.c) = true → brkC t = true := fun i x hx h => by
    unfold brkC
    rw [List.any_eq_true]
    exact ⟨x, List.mem_of_getElem? hx, h⟩
  have hC2 : (∀ i, i < t.r.length → ∀ x : Rp, t.r[i]? = some x → decide (x.h < x.c) = false) → brkC t = false := fun h => by
    unfold brkC
    rw [List.any_eq_false]
    intro x hx
    obtain ⟨j, hj⟩ := List.getElem?_of_mem hx
    rw [h j (List.getElem?_eq_some_iff.1 hj).1 x hj]
    decide
  have hF0 : t.f = 0 → brkF t = false := fun h => by unfold brkF; rw [h]; rfl
  have hB : brk t = if brkE t then 1 else if brkS t then 2 else if brkC t then 3 else if brkF t then 4 else 0 := rfl
  generalize brk t = B at hB ⊢
  generalize brkE t = bE at *
  generalize brkS t = bS at *
  generalize brkC t = bC at *
  generalize brkF t = bF at *
  unfold gA at p1 p2 p3 p4 p5 p6 p7 p8 p9 p10 c1 c2 c3 gc
  generalize (hasN t.v + owesN t.w) % WW = m1 at *
  generalize (hasN t.v + owesN t.w) / WW = d1 at *
  generalize (hasN t.w + owesN t.v) % WW = m2 at *
  generalize (hasN t.w + owesN t.v) / WW = d2 at *
  generalize (supplyN t.v + t.b) % WW = m3 at *
  generalize (supplyN t.v + t.b) / WW = d3 at *
  generalize (supplyN t.w + t.m) % WW = m4 at *
  generalize (supplyN t.w + t.m) / WW = d4 at *
  generalize ((csL t.r).sum + balN t.w t.f) % WW = m5 at *
  generalize ((csL t.r).sum + balN t.w t.f) / WW = d5 at *
  generalize (hasN t.v) % WW = m6 at *
  generalize (hasN t.v) / WW = d6 at *
  generalize (hasN t.w) % WW = m7 at *
  generalize (hasN t.w) / WW = d7 at *
  generalize (supplyN t.v) % WW = m8 at *
  generalize (supplyN t.v) / WW = d8 at *
  generalize (supplyN t.w) % WW = m9 at *
  generalize (supplyN t.w) / WW = d9 at *
  generalize (balN t.v t.f) % WW = m10 at *
  generalize (balN t.v t.f) / WW = d10 at *
  generalize ((csL t.r).sum) % WW = m11 at *
  generalize ((csL t.r).sum) / WW = d11 at *
  generalize hasN t.v = n1 at *
  generalize owesN t.w = n2 at *
  generalize hasN t.w = n3 at *
  generalize owesN t.v = n4 at *
  generalize supplyN t.v = n5 at *
  generalize supplyN t.w = n6 at *
  rw [← b1] at p10
  rw [← b2] at p9
  clear b1 b2 z0
  generalize findS t.w.S t.f = y1 at o1 p10
  generalize findS t.v.S t.f = y2 at o2 p9
  obtain ⟨ya, yb, yn, yc, ys⟩ := y1
  obtain ⟨za, zb, zn, zc, zs⟩ := y2
  dsimp only at o1 o2 p9 p10
  cases bE with
  | true =>
    rw [if_pos rfl] at hB
    rw [hB]
    (refine fn_of Try.func9 rfl (by rfl) ?_; simp only [Try.ntmps9, List.length_cons, List.length_nil, Nat.reduceAdd, Nat.reduceSub, List.replicate, List.cons_append, List.nil_append])
    (repeat (any_goals (first | ((with_reducible refine evL_call ?_ ?_ ?_); rfl; rfl; intro K hK; (first | ((apply opA_callB (r1); rfl; rfl; rfl; rfl; exact Try.func37); kernel_rfl; rfl; (simp only [go_sem, q1]; rfl); (first | rfl | simp [AV.inNL, AV.inN])) | ((apply opA_callB (r2); rfl; rfl; rfl; rfl; exact Try.func37); kernel_rfl; rfl; (simp only [go_sem, q1]; rfl); (first | rfl | simp [AV.inNL, AV.inN]))); (simp only [go_sem, q1]; refine hK _ ?_; clear hK K)) | ((with_reducible refine evL_one ?_ ?_); rfl; intro K hK; simp only [go_sem, q1]; ((repeat (refine ndI (by first | assumption | omega | rfl) ?_)); refine hK _ ?_; clear hK K)) | (with_reducible first | (refine evL_nil ?_; refine hR _ ?_; clear hR R) | ((first | refine evC_seq ?_ | refine evC_block ?_); intro Ψ hΨ hΨ') | (refine evC_region ?_; intro R hR) | (refine hΨ _ ?_; clear hΨ hΨ' Ψ) | refine evC_skip ?_ | refine evC_ret ?_ | refine evC_exit ?_) | ((with_reducible refine hΨ' _ _ ?_ ?_); (focus (simp; done)); clear hΨ hΨ' Ψ) | ((with_reducible apply evL_unmet); rfl; rfl; rfl; (try simp only [go_sem, q1])) | ((with_reducible apply evL_grd); rfl; rfl; rfl; all_goals (intro hb; first | (cases hb; done) | ((try simp only [Bool.not_true, Bool.not_false] at hb); (first | ((with_reducible intro K hK); (first | ((apply opA_callB (r2); rfl; rfl; rfl; rfl; exact Try.func37); kernel_rfl; rfl; (simp only [go_sem, q1]; rfl); (first | rfl | simp [AV.inNL, AV.inN])) | skip); simp only [go_sem, q1]; ((repeat (refine ndI (by first | assumption | omega | rfl) ?_)); refine hK _ ?_; clear hK K)) | ((fail_if_success (with_reducible intro _)); simp only [go_sem, q1]))))) | ((with_reducible apply evC_cond); rfl; rfl; all_goals (intro hc; first | (cases hc; done) | (try simp only at hc))) | ((with_reducible refine evD_nil ?_ ?_); kernel_rfl; (with_reducible refine hR _ ?_); clear hR R) | ((first | ((with_reducible apply evD_fcall); rfl; rfl; (first | ((apply opF_callB (c1); rfl; rfl; rfl; rfl; exact Try.func38); kernel_rfl; rfl; (simp only [go_sem, q1]; rfl); (first | rfl | simp [AV.inNL, AV.inN])) | ((apply opF_callB (a1); rfl; rfl; rfl; rfl; exact Try.func40); kernel_rfl; rfl; (simp only [go_sem, q1]; rfl); (first | rfl | simp [AV.inNL, AV.inN])) | ((apply opF_callB (a2); rfl; rfl; rfl; rfl; exact Try.func41); kernel_rfl; rfl; (simp only [go_sem, q1]; rfl); (first | rfl | simp [AV.inNL, AV.inN])) | ((apply opF_callB (a3); rfl; rfl; rfl; rfl; exact Try.func40); kernel_rfl; rfl; (simp only [go_sem, q1]; rfl); (first | rfl | simp [AV.inNL, AV.inN])) | ((apply opF_callB (a4); rfl; rfl; rfl; rfl; exact Try.func41); kernel_rfl; rfl; (simp only [go_sem, q1]; rfl); (first | rfl | simp [AV.inNL, AV.inN])) | ((apply opF_callB (p1); rfl; rfl; rfl; rfl; exact Try.func39); kernel_rfl; rfl; (simp only [go_sem, q1]; rfl); (first | rfl | simp [AV.inNL, AV.inN])) | ((apply opF_callB (p2); rfl; rfl; rfl; rfl; exact Try.func39); kernel_rfl; rfl; (simp only [go_sem, q1]; rfl); (first | rfl | simp [AV.inNL, AV.inN])) | ((apply opF_callB (p3); rfl; rfl; rfl; rfl; exact Try.func39); kernel_rfl; rfl; (simp only [go_sem, q1]; rfl); (first | rfl | simp [AV.inNL, AV.inN])) | ((apply opF_callB (p4); rfl; rfl; rfl; rfl; exact Try.func39); kernel_rfl; rfl; (simp only [go_sem, q1]; rfl); (first | rfl | simp [AV.inNL, AV.inN])))) | ((with_reducible apply evD_any); rfl; rfl; (simp only [rdE, rdOf, go_sem, q1]; rfl); (intro τ hA hQ hN; ((try simp only [agree, Op.operands, Call.operands, go_sem, q1, go_sem, List.mem_cons, List.not_mem_nil, forall_eq_or_imp, forall_eq, List.append_toArray, Option.toArray] at hA); (try simp only [go_sem, q1, List.mem_cons, List.not_mem_nil, forall_eq_or_imp, forall_eq] at hQ hN); (first | (revert hA; intro hA) | have hA := trivial); (first | (revert hQ; intro hQ) | have hQ := trivial); (first | (revert hN; intro hN) | have hN := trivial); simp only [go_sem, q1, go_sem, hA, hQ, hN]; (repeat (refine ndI (by first | assumption | omega | rfl) ?_)); (first | apply eff_rd | apply eff_st | apply eff_nw)))) | ((first | ((with_reducible apply evD_new); rfl; rfl; rfl) | ((with_reducible apply evD_grd_new); rfl; rfl; rfl; rfl; rfl; rfl)); (intro τ hA hQ hN; ((try simp only [agree, Op.operands, Call.operands, go_sem, q1, go_sem, List.mem_cons, List.not_mem_nil, forall_eq_or_imp, forall_eq, List.append_toArray, Option.toArray] at hA); (try simp only [go_sem, q1, List.mem_cons, List.not_mem_nil, forall_eq_or_imp, forall_eq] at hQ); (first | (revert hA; intro hA) | have hA := trivial); (first | (revert hQ; intro hQ) | have hQ := trivial); simp only [go_sem, q1, go_sem, hA, hQ, hN]; (repeat (refine ndI (by first | assumption | omega | rfl) ?_)); exact eff_nw _ _ _ _)))); (simp only [St.eff, setO, hputs, go_sem, q1])) | ((with_reducible refine evC_draw ?_ ?_ ?_ ?_); kernel_rfl; kernel_rfl; (first | kernel_rfl | simp [newNames, isNew, St.free, freeH, AV.refsL, AV.refs]); intro R hR))))
    all_goals (refine ⟨by simp, ⟨_, ?_, AV.le_refl _⟩, leH_get (by simp [leH, hget])⟩; simp only [Try.results9, resL, ldA, oneOf, go_sem])
  | false =>
  rw [if_neg (by decide)] at hB
  cases bS with
  | true =>
    rw [if_pos rfl] at hB
    rw [hB]
    (refine fn_of Try.func9 rfl (by rfl) ?_; simp only [Try.ntmps9, List.length_cons, List.length_nil, Nat.reduceAdd, Nat.reduceSub, List.replicate, List.cons_append, List.nil_append])
    (repeat (any_goals (first | ((with_reducible refine evL_call ?_ ?_ ?_); rfl; rfl; intro K hK; (first | ((apply opA_callB (r1); rfl; rfl; rfl; rfl; exact Try.func37); kernel_rfl; rfl; (simp only [go_sem, q1, q2]; rfl); (first | rfl | simp [AV.inNL, AV.inN])) | ((apply opA_callB (r2); rfl; rfl; rfl; rfl; exact Try.func37); kernel_rfl; rfl; (simp only [go_sem, q1, q2]; rfl); (first | rfl | simp [AV.inNL, AV.inN]))); (simp only [go_sem, q1, q2]; refine hK _ ?_; clear hK K)) | ((with_reducible refine evL_one ?_ ?_); rfl; intro K hK; simp only [go_sem, q1, q2]; ((repeat (refine ndI (by first | assumption | omega | rfl) ?_)); refine hK _ ?_; clear hK K)) | (with_reducible first | (refine evL_nil ?_; refine hR _ ?_; clear hR R) | ((first | refine evC_seq ?_ | refine evC_block ?_); intro Ψ hΨ hΨ') | (refine evC_region ?_; intro R hR) | (refine hΨ _ ?_; clear hΨ hΨ' Ψ) | refine evC_skip ?_ | refine evC_ret ?_ | refine evC_exit ?_) | ((with_reducible refine hΨ' _ _ ?_ ?_); (focus (simp; done)); clear hΨ hΨ' Ψ) | ((with_reducible apply evL_unmet); rfl; rfl; rfl; (try simp only [go_sem, q1, q2])) | ((with_reducible apply evL_grd); rfl; rfl; rfl; all_goals (intro hb; first | (cases hb; done) | ((try simp only [Bool.not_true, Bool.not_false] at hb); (first | ((with_reducible intro K hK); (first | ((apply opA_callB (r2); rfl; rfl; rfl; rfl; exact Try.func37); kernel_rfl; rfl; (simp only [go_sem, q1, q2]; rfl); (first | rfl | simp [AV.inNL, AV.inN])) | skip); simp only [go_sem, q1, q2]; ((repeat (refine ndI (by first | assumption | omega | rfl) ?_)); refine hK _ ?_; clear hK K)) | ((fail_if_success (with_reducible intro _)); simp only [go_sem, q1, q2]))))) | ((with_reducible apply evC_cond); rfl; rfl; all_goals (intro hc; first | (cases hc; done) | (try simp only at hc))) | ((with_reducible refine evD_nil ?_ ?_); kernel_rfl; (with_reducible refine hR _ ?_); clear hR R) | ((first | ((with_reducible apply evD_fcall); rfl; rfl; (first | ((apply opF_callB (a1); rfl; rfl; rfl; rfl; exact Try.func40); kernel_rfl; rfl; (simp only [go_sem, q1, q2]; rfl); (first | rfl | simp [AV.inNL, AV.inN])) | ((apply opF_callB (a2); rfl; rfl; rfl; rfl; exact Try.func41); kernel_rfl; rfl; (simp only [go_sem, q1, q2]; rfl); (first | rfl | simp [AV.inNL, AV.inN])) | ((apply opF_callB (a3); rfl; rfl; rfl; rfl; exact Try.func40); kernel_rfl; rfl; (simp only [go_sem, q1, q2]; rfl); (first | rfl | simp [AV.inNL, AV.inN])) | ((apply opF_callB (a4); rfl; rfl; rfl; rfl; exact Try.func41); kernel_rfl; rfl; (simp only [go_sem, q1, q2]; rfl); (first | rfl | simp [AV.inNL, AV.inN])) | ((apply opF_callB (c1); rfl; rfl; rfl; rfl; exact Try.func38); kernel_rfl; rfl; (simp only [go_sem, q1, q2]; rfl); (first | rfl | simp [AV.inNL, AV.inN])) | ((apply opF_callB (p1); rfl; rfl; rfl; rfl; exact Try.func39); kernel_rfl; rfl; (simp only [go_sem, q1, q2]; rfl); (first | rfl | simp [AV.inNL, AV.inN])) | ((apply opF_callB (p2); rfl; rfl; rfl; rfl; exact Try.func39); kernel_rfl; rfl; (simp only [go_sem, q1, q2]; rfl); (first | rfl | simp [AV.inNL, AV.inN])) | ((apply opF_callB (p3); rfl; rfl; rfl; rfl; exact Try.func39); kernel_rfl; rfl; (simp only [go_sem, q1, q2]; rfl); (first | rfl | simp [AV.inNL, AV.inN])) | ((apply opF_callB (p4); rfl; rfl; rfl; rfl; exact Try.func39); kernel_rfl; rfl; (simp only [go_sem, q1, q2]; rfl); (first | rfl | simp [AV.inNL, AV.inN])) | ((apply opF_callB (s1); rfl; rfl; rfl; rfl; exact Try.func42); kernel_rfl; rfl; (simp only [go_sem, q1, q2]; rfl); (first | rfl | simp [AV.inNL, AV.inN])) | ((apply opF_callB (s2); rfl; rfl; rfl; rfl; exact Try.func42); kernel_rfl; rfl; (simp only [go_sem, q1, q2]; rfl); (first | rfl | simp [AV.inNL, AV.inN])) | ((apply opF_callB (c2); rfl; rfl; rfl; rfl; exact Try.func38); kernel_rfl; rfl; (simp only [go_sem, q1, q2]; rfl); (first | rfl | simp [AV.inNL, AV.inN])) | ((apply opF_callB (p5); rfl; rfl; rfl; rfl; exact Try.func39); kernel_rfl; rfl; (simp only [go_sem, q1, q2]; rfl); (first | rfl | simp [AV.inNL, AV.inN])) | ((apply opF_callB (p6); rfl; rfl; rfl; rfl; exact Try.func39); kernel_rfl; rfl; (simp only [go_sem, q1, q2]; rfl); (first | rfl | simp [AV.inNL, AV.inN])) | ((apply opF_callB (p7); rfl; rfl; rfl; rfl; exact Try.func39); kernel_rfl; rfl; (simp only [go_sem, q1, q2]; rfl); (first | rfl | simp [AV.inNL, AV.inN])) | ((apply opF_callB (p8); rfl; rfl; rfl; rfl; exact Try.func39); kernel_rfl; rfl; (simp only [go_sem, q1, q2]; rfl); (first | rfl | simp [AV.inNL, AV.inN])))) | ((with_reducible apply evD_any); rfl; rfl; (simp only [rdE, rdOf, go_sem, q1, q2]; rfl); (intro τ hA hQ hN; ((try simp only [agree, Op.operands, Call.operands, go_sem, q1, q2, go_sem, List.mem_cons, List.not_mem_nil, forall_eq_or_imp, forall_eq, List.append_toArray, Option.toArray] at hA); (try simp only [go_sem, q1, q2, List.mem_cons, List.not_mem_nil, forall_eq_or_imp, forall_eq] at hQ hN); (first | (revert hA; intro hA) | have hA := trivial); (first | (revert hQ; intro hQ) | have hQ := trivial); (first | (revert hN; intro hN) | have hN := trivial); simp only [go_sem, q1, q2, go_sem, hA, hQ, hN]; (repeat (refine ndI (by first | assumption | omega | rfl) ?_)); (first | apply eff_rd | apply eff_st | apply eff_nw)))) | ((first | ((with_reducible apply evD_new); rfl; rfl; rfl) | ((with_reducible apply evD_grd_new); rfl; rfl; rfl; rfl; rfl; rfl)); (intro τ hA hQ hN; ((try simp only [agree, Op.operands, Call.operands, go_sem, q1, q2, go_sem, List.mem_cons, List.not_mem_nil, forall_eq_or_imp, forall_eq, List.append_toArray, Option.toArray] at hA); (try simp only [go_sem, q1, q2, List.mem_cons, List.not_mem_nil, forall_eq_or_imp, forall_eq] at hQ); (first | (revert hA; intro hA) | have hA := trivial); (first | (revert hQ; intro hQ) | have hQ := trivial); simp only [go_sem, q1, q2, go_sem, hA, hQ, hN]; (repeat (refine ndI (by first | assumption | omega | rfl) ?_)); exact eff_nw _ _ _ _)))); (simp only [St.eff, setO, hputs, go_sem, q1, q2])) | ((with_reducible refine evC_draw ?_ ?_ ?_ ?_); kernel_rfl; kernel_rfl; (first | kernel_rfl | simp [newNames, isNew, St.free, freeH, AV.refsL, AV.refs]); intro R hR))))
    all_goals (refine ⟨by simp, ⟨_, ?_, AV.le_refl _⟩, leH_get (by simp [leH, hget])⟩; simp only [Try.results9, resL, ldA, oneOf, go_sem])
  | false =>
  rw [if_neg (by decide)] at hB
  have k8 : t.r.length < 9223372036854775808 := by omega
  (refine fn_of Try.func9 rfl (by rfl) ?_; simp only [Try.ntmps9, List.length_cons, List.length_nil, Nat.reduceAdd, Nat.reduceSub, List.replicate, List.cons_append, List.nil_append])
  (repeat (any_goals (first | ((with_reducible refine evL_call ?_ ?_ ?_); rfl; rfl; intro K hK; (first | ((apply opA_callB (r1); rfl; rfl; rfl; rfl; exact Try.func37); kernel_rfl; rfl; (simp only [go_sem, q1, q2]; rfl); (first | rfl | simp [AV.inNL, AV.inN])) | ((apply opA_callB (r2); rfl; rfl; rfl; rfl; exact Try.func37); kernel_rfl; rfl; (simp only [go_sem, q1, q2]; rfl); (first | rfl | simp [AV.inNL, AV.inN]))); (simp only [go_sem, q1, q2]; refine hK _ ?_; clear hK K)) | ((with_reducible refine evL_one ?_ ?_); rfl; intro K hK; simp only [go_sem, q1, q2]; ((repeat (refine ndI (by first | assumption | omega | rfl) ?_)); refine hK _ ?_; clear hK K)) | (with_reducible first | (refine evL_nil ?_; refine hR _ ?_; clear hR R) | ((first | refine evC_seq ?_ | refine evC_block ?_); intro Ψ hΨ hΨ') | (refine evC_region ?_; intro R hR) | (refine hΨ _ ?_; clear hΨ hΨ' Ψ) | refine evC_skip ?_ | refine evC_ret ?_ | refine evC_exit ?_) | ((with_reducible refine hΨ' _ _ ?_ ?_); (focus (simp; done)); clear hΨ hΨ' Ψ) | ((with_reducible apply evL_unmet); rfl; rfl; rfl; (try simp only [go_sem, q1, q2])) | ((with_reducible apply evL_grd); rfl; rfl; rfl; all_goals (intro hb; first | (cases hb; done) | ((try simp only [Bool.not_true, Bool.not_false] at hb); (first | ((with_reducible intro K hK); (first | ((apply opA_callB (r2); rfl; rfl; rfl; rfl; exact Try.func37); kernel_rfl; rfl; (simp only [go_sem, q1, q2]; rfl); (first | rfl | simp [AV.inNL, AV.inN])) | skip); simp only [go_sem, q1, q2]; ((repeat (refine ndI (by first | assumption | omega | rfl) ?_)); refine hK _ ?_; clear hK K)) | ((fail_if_success (with_reducible intro _)); simp only [go_sem, q1, q2]))))) | ((with_reducible apply evC_cond); rfl; rfl; all_goals (intro hc; first | (cases hc; done) | (try simp only at hc))) | ((with_reducible refine evD_nil ?_ ?_); kernel_rfl; (with_reducible refine hR _ ?_); clear hR R) | ((first | ((with_reducible apply evD_fcall); rfl; rfl; (first | ((apply opF_callB (a1); rfl; rfl; rfl; rfl; exact Try.func40); kernel_rfl; rfl; (simp only [go_sem, q1, q2]; rfl); (first | rfl | simp [AV.inNL, AV.inN])) | ((apply opF_callB (a2); rfl; rfl; rfl; rfl; exact Try.func41); kernel_rfl; rfl; (simp only [go_sem, q1, q2]; rfl); (first | rfl | simp [AV.inNL, AV.inN])) | ((apply opF_callB (a3); rfl; rfl; rfl; rfl; exact Try.func40); kernel_rfl; rfl; (simp only [go_sem, q1, q2]; rfl); (first | rfl | simp [AV.inNL, AV.inN])) | ((apply opF_callB (a4); rfl; rfl; rfl; rfl; exact Try.func41); kernel_rfl; rfl; (simp only [go_sem, q1, q2]; rfl); (first | rfl | simp [AV.inNL, AV.inN])) | ((apply opF_callB (c1); rfl; rfl; rfl; rfl; exact Try.func38); kernel_rfl; rfl; (simp only [go_sem, q1, q2]; rfl); (first | rfl | simp [AV.inNL, AV.inN])) | ((apply opF_callB (p1); rfl; rfl; rfl; rfl; exact Try.func39); kernel_rfl; rfl; (simp only [go_sem, q1, q2]; rfl); (first | rfl | simp [AV.inNL, AV.inN])) | ((apply opF_callB (p2); rfl; rfl; rfl; rfl; exact Try.func39); kernel_rfl; rfl; (simp only [go_sem, q1, q2]; rfl); (first | rfl | simp [AV.inNL, AV.inN])) | ((apply opF_callB (p3); rfl; rfl; rfl; rfl; exact Try.func39); kernel_rfl; rfl; (simp only [go_sem, q1, q2]; rfl); (first | rfl | simp [AV.inNL, AV.inN])) | ((apply opF_callB (p4); rfl; rfl; rfl; rfl; exact Try.func39); kernel_rfl; rfl; (simp only [go_sem, q1, q2]; rfl); (first | rfl | simp [AV.inNL, AV.inN])) | ((apply opF_callB (s1); rfl; rfl; rfl; rfl; exact Try.func42); kernel_rfl; rfl; (simp only [go_sem, q1, q2]; rfl); (first | rfl | simp [AV.inNL, AV.inN])) | ((apply opF_callB (s2); rfl; rfl; rfl; rfl; exact Try.func42); kernel_rfl; rfl; (simp only [go_sem, q1, q2]; rfl); (first | rfl | simp [AV.inNL, AV.inN])) | ((apply opF_callB (c2); rfl; rfl; rfl; rfl; exact Try.func38); kernel_rfl; rfl; (simp only [go_sem, q1, q2]; rfl); (first | rfl | simp [AV.inNL, AV.inN])) | ((apply opF_callB (p5); rfl; rfl; rfl; rfl; exact Try.func39); kernel_rfl; rfl; (simp only [go_sem, q1, q2]; rfl); (first | rfl | simp [AV.inNL, AV.inN])) | ((apply opF_callB (p6); rfl; rfl; rfl; rfl; exact Try.func39); kernel_rfl; rfl; (simp only [go_sem, q1, q2]; rfl); (first | rfl | simp [AV.inNL, AV.inN])) | ((apply opF_callB (p7); rfl; rfl; rfl; rfl; exact Try.func39); kernel_rfl; rfl; (simp only [go_sem, q1, q2]; rfl); (first | rfl | simp [AV.inNL, AV.inN])) | ((apply opF_callB (p8); rfl; rfl; rfl; rfl; exact Try.func39); kernel_rfl; rfl; (simp only [go_sem, q1, q2]; rfl); (first | rfl | simp [AV.inNL, AV.inN])))) | ((with_reducible apply evD_any); rfl; rfl; (simp only [rdE, rdOf, go_sem, q1, q2]; rfl); (intro τ hA hQ hN; ((try simp only [agree, Op.operands, Call.operands, go_sem, q1, q2, go_sem, List.mem_cons, List.not_mem_nil, forall_eq_or_imp, forall_eq, List.append_toArray, Option.toArray] at hA); (try simp only [go_sem, q1, q2, List.mem_cons, List.not_mem_nil, forall_eq_or_imp, forall_eq] at hQ hN); (first | (revert hA; intro hA) | have hA := trivial); (first | (revert hQ; intro hQ) | have hQ := trivial); (first | (revert hN; intro hN) | have hN := trivial); simp only [go_sem, q1, q2, go_sem, hA, hQ, hN]; (repeat (refine ndI (by first | assumption | omega | rfl) ?_)); (first | apply eff_rd | apply eff_st | apply eff_nw)))) | ((first | ((with_reducible apply evD_new); rfl; rfl; rfl) | ((with_reducible apply evD_grd_new); rfl; rfl; rfl; rfl; rfl; rfl)); (intro τ hA hQ hN; ((try simp only [agree, Op.operands, Call.operands, go_sem, q1, q2, go_sem, List.mem_cons, List.not_mem_nil, forall_eq_or_imp, forall_eq, List.append_toArray, Option.toArray] at hA); (try simp only [go_sem, q1, q2, List.mem_cons, List.not_mem_nil, forall_eq_or_imp, forall_eq] at hQ); (first | (revert hA; intro hA) | have hA := trivial); (first | (revert hQ; intro hQ) | have hQ := trivial); simp only [go_sem, q1, q2, go_sem, hA, hQ, hN]; (repeat (refine ndI (by first | assumption | omega | rfl) ?_)); exact eff_nw _ _ _ _)))); (simp only [St.eff, setO, hputs, go_sem, q1, q2])) | ((with_reducible refine evC_draw ?_ ?_ ?_ ?_); kernel_rfl; kernel_rfl; (first | kernel_rfl | simp [newNames, isNew, St.free, freeH, AV.refsL, AV.refs]); intro R hR))))
  clear r1 r2 a1 a2 a3 a4 s1 s2 p1 p2 p3 p4 c1 p5 p6 p7 p8 c2 q1 q2
  refine evC_loop (α := { i : Nat // i ≤ t.r.length ∧ ∀ j, j < i → ∀ x : Rp, t.r[j]? = some x → decide (x.h < x.c) = false }) (fun p => ⟨[.any, .ptr 1 0, vi .i64 0, vb false, .ptr 4 0, .any, .any, .any, .any, .any, .any, .any, .any, .any, .any, .any, .any, .any, .any, .any, .any, .any, .any, .any, .any, .any, .any, .any, .any, .any, .any, .any, .any, .any, .any, .any, .any, .any, .any, .any, .any, .any, .any, .any, .any, .any, .any, .any, .any, .any, .any, .any, .any, .any, .any, .any, .any, .any, rsl false t.r, vi .i64 t.r.length, vi .i64 p.1, .any, .any, .any, .any, .any, .any, .any, .any, .any, .any, .any, .any, .any, .any, .any, .any, .any, .any, .any, .any, .any, .any, .any, .any, .any, .any, .any, .any, .any, .any, .any, .any, .any, .any, .any, .any, .any], [(1, [.c (acV t.w.S), .c (hdV t.w.L), .c (noV t.w.N), .c (acV t.v.S), .c (hdV t.v.L), .c (noV t.v.N), .c (rpV t.r), vi .u64 t.f, vi .u64 (l0 t.m), vi .u64 (l1 t.m), vi .u64 (l2 t.m), vi .u64 (l3 t.m), vi .u64 (l0 t.b), vi .u64 (l1 t.b), vi .u64 (l2 t.b), vi .u64 (l3 t.b)]), (4, zG)]⟩) (fun p => t.r.length - p.1) ⟨0, Nat.zero_le _, fun j hj => by omega⟩ (St.le_of (by simp [leT]) (by simp [leH, hget])) ?_
  rintro ⟨i, hi, hno⟩ Ψ hΨ hΨ'
  dsimp only at hi hΨ ⊢
  rcases Nat.lt_or_ge i t.r.length with hlt | hge
  · obtain ⟨y, hy⟩ : ∃ y, t.r[i]? = some y := ⟨t.r[i], List.getElem?_eq_getElem hlt⟩
    have k1 : (decide ((i : Int) < (t.r.length : Int))) = true := by simpa using hlt
    have k2 := rp_at hy
    have k7 : (i : Int) + 1 = ((i + 1 : Nat) : Int) := by omega
    obtain ⟨dr, de⟩ := hdear i y hy
    generalize cmpN y.c y.h = z at dr de
    cases hm : decide (y.h < y.c)
    · rw [hm] at de
      (have W := ndI k1 (ndI k2 (ndI k7 @wrI)); (repeat (any_goals (first | ((with_reducible refine evL_call ?_ ?_ ?_); rfl; rfl; intro K hK; ((apply opA_callB (dr); rfl; rfl; rfl; rfl; exact Try.func43); kernel_rfl; rfl; (simp (disch := omega) only [go_sem, W, de]; rfl); (first | rfl | simp [AV.inNL, AV.inN])); (simp (disch := omega) only [go_sem, W, de]; refine hK _ ?_; clear hK K)) | ((with_reducible refine evL_one ?_ ?_); rfl; intro K hK; simp (disch := omega) only [go_sem, W, de]; ((repeat (refine ndI (by first | assumption | omega | rfl) ?_)); refine hK _ ?_; clear hK K)) | (with_reducible first | (refine evL_nil ?_; refine hR _ ?_; clear hR R) | ((first | refine evC_seq ?_ | refine evC_block ?_); intro Ψ hΨ hΨ') | (refine evC_region ?_; intro R hR) | (refine hΨ _ ?_; clear hΨ hΨ' Ψ) | refine evC_skip ?_ | refine evC_ret ?_ | refine evC_exit ?_) | ((with_reducible refine hΨ' _ _ ?_ ?_); (focus (simp; done)); clear hΨ hΨ' Ψ) | ((with_reducible apply evL_unmet); rfl; rfl; rfl; (try simp (disch := omega) only [go_sem, W, de])) | ((with_reducible apply evL_grd); rfl; rfl; rfl; all_goals (intro hb; first | (cases hb; done) | ((try simp only [Bool.not_true, Bool.not_false] at hb); (first | ((with_reducible intro K hK); simp (disch := omega) only [go_sem, W, de]; ((repeat (refine ndI (by first | assumption | omega | rfl) ?_)); refine hK _ ?_; clear hK K)) | ((fail_if_success (with_reducible intro _)); simp (disch := omega) only [go_sem, W, de]))))) | ((with_reducible apply evC_cond); rfl; rfl; all_goals (intro hc; first | (cases hc; done) | (try simp only at hc))) | ((with_reducible refine evD_nil ?_ ?_); kernel_rfl; (with_reducible refine hR _ ?_); clear hR R) | ((first | ((with_reducible apply evD_any); rfl; rfl; (simp (disch := omega) only [rdE, rdOf, go_sem, W, de]; rfl); (intro τ hA hQ hN; ((try simp only [agree, Op.operands, Call.operands, go_sem, W, de, go_sem, List.mem_cons, List.not_mem_nil, forall_eq_or_imp, forall_eq, List.append_toArray, Option.toArray] at hA); (try simp only [go_sem, W, de, List.mem_cons, List.not_mem_nil, forall_eq_or_imp, forall_eq] at hQ hN); (first | (revert hA; intro hA) | have hA := trivial); (first | (revert hQ; intro hQ) | have hQ := trivial); (first | (revert hN; intro hN) | have hN := trivial); simp (disch := omega) only [go_sem, W, de, go_sem, hA, hQ, hN]; (repeat (refine ndI (by first | assumption | omega | rfl) ?_)); (first | apply eff_rd | apply eff_st | apply eff_nw)))) | ((first | ((with_reducible apply evD_new); rfl; rfl; rfl) | ((with_reducible apply evD_grd_new); rfl; rfl; rfl; rfl; rfl; rfl)); (intro τ hA hQ hN; ((try simp (disch := omega) only [agree, Op.operands, Call.operands, go_sem, W, de, go_sem, List.mem_cons, List.not_mem_nil, forall_eq_or_imp, forall_eq, List.append_toArray, Option.toArray] at hA); (try simp (disch := omega) only [go_sem, W, de, List.mem_cons, List.not_mem_nil, forall_eq_or_imp, forall_eq] at hQ); (first | (revert hA; intro hA) | have hA := trivial); (first | (revert hQ; intro hQ) | have hQ := trivial); simp (disch := omega) only [go_sem, W, de, go_sem, hA, hQ, hN]; (repeat (refine ndI (by first | assumption | omega | rfl) ?_)); exact eff_nw _ _ _ _)))); (simp (disch := omega) only [St.eff, setO, hputs, go_sem, W, de])) | ((with_reducible refine evC_draw ?_ ?_ ?_ ?_); kernel_rfl; kernel_rfl; (first | kernel_rfl | simp [newNames, isNew, St.free, freeH, AV.refsL, AV.refs]); intro R hR)))))
      refine hΨ _ ⟨i + 1, hlt, fun j hj n hn => ?_⟩ (by simp only; omega) (St.le_of (by simp [leT]) (by simp [leH, hget]))
      rcases Nat.lt_or_ge j i with h' | h'
      · exact hno j h' n hn
      · obtain rfl : j = i := by omega
        rw [hy] at hn; cases hn; exact hm
    · rw [hm] at de
      have := hC i y hy hm
      rw [this, if_pos rfl] at hB
      (have W := ndI k1 (ndI k2 (ndI k7 @wrI)); (repeat (any_goals (first | ((with_reducible refine evL_call ?_ ?_ ?_); rfl; rfl; intro K hK; ((apply opA_callB (dr); rfl; rfl; rfl; rfl; exact Try.func43); kernel_rfl; rfl; (simp (disch := omega) only [go_sem, W, de]; rfl); (first | rfl | simp [AV.inNL, AV.inN])); (simp (disch := omega) only [go_sem, W, de]; refine hK _ ?_; clear hK K)) | ((with_reducible refine evL_one ?_ ?_); rfl; intro K hK; simp (disch := omega) only [go_sem, W, de]; ((repeat (refine ndI (by first | assumption | omega | rfl) ?_)); refine hK _ ?_; clear hK K)) | (with_reducible first | (refine evL_nil ?_; refine hR _ ?_; clear hR R) | ((first | refine evC_seq ?_ | refine evC_block ?_); intro Ψ hΨ hΨ') | (refine evC_region ?_; intro R hR) | (refine hΨ _ ?_; clear hΨ hΨ' Ψ) | refine evC_skip ?_ | refine evC_ret ?_ | refine evC_exit ?_) | ((with_reducible refine hΨ' _ _ ?_ ?_); (focus (simp; done)); clear hΨ hΨ' Ψ) | ((with_reducible apply evL_unmet); rfl; rfl; rfl; (try simp (disch := omega) only [go_sem, W, de])) | ((with_reducible apply evL_grd); rfl; rfl; rfl; all_goals (intro hb; first | (cases hb; done) | ((try simp only [Bool.not_true, Bool.not_false] at hb); (first | ((with_reducible intro K hK); simp (disch := omega) only [go_sem, W, de]; ((repeat (refine ndI (by first | assumption | omega | rfl) ?_)); refine hK _ ?_; clear hK K)) | ((fail_if_success (with_reducible intro _)); simp (disch := omega) only [go_sem, W, de]))))) | ((with_reducible apply evC_cond); rfl; rfl; all_goals (intro hc; first | (cases hc; done) | (try simp only at hc))) | ((with_reducible refine evD_nil ?_ ?_); kernel_rfl; (with_reducible refine hR _ ?_); clear hR R) | ((first | ((with_reducible apply evD_any); rfl; rfl; (simp (disch := omega) only [rdE, rdOf, go_sem, W, de]; rfl); (intro τ hA hQ hN; ((try simp only [agree, Op.operands, Call.operands, go_sem, W, de, go_sem, List.mem_cons, List.not_mem_nil, forall_eq_or_imp, forall_eq, List.append_toArray, Option.toArray] at hA); (try simp only [go_sem, W, de, List.mem_cons, List.not_mem_nil, forall_eq_or_imp, forall_eq] at hQ hN); (first | (revert hA; intro hA) | have hA := trivial); (first | (revert hQ; intro hQ) | have hQ := trivial); (first | (revert hN; intro hN) | have hN := trivial); simp (disch := omega) only [go_sem, W, de, go_sem, hA, hQ, hN]; (repeat (refine ndI (by first | assumption | omega | rfl) ?_)); (first | apply eff_rd | apply eff_st | apply eff_nw)))) | ((first | ((with_reducible apply evD_new); rfl; rfl; rfl) | ((with_reducible apply evD_grd_new); rfl; rfl; rfl; rfl; rfl; rfl)); (intro τ hA hQ hN; ((try simp (disch := omega) only [agree, Op.operands, Call.operands, go_sem, W, de, go_sem, List.mem_cons, List.not_mem_nil, forall_eq_or_imp, forall_eq, List.append_toArray, Option.toArray] at hA); (try simp (disch := omega) only [go_sem, W, de, List.mem_cons, List.not_mem_nil, forall_eq_or_imp, forall_eq] at hQ); (first | (revert hA; intro hA) | have hA := trivial); (first | (revert hQ; intro hQ) | have hQ := trivial); simp (disch := omega) only [go_sem, W, de, go_sem, hA, hQ, hN]; (repeat (refine ndI (by first | assumption | omega | rfl) ?_)); exact eff_nw _ _ _ _)))); (simp (disch := omega) only [St.eff, setO, hputs, go_sem, W, de])) | ((with_reducible refine evC_draw ?_ ?_ ?_ ?_); kernel_rfl; kernel_rfl; (first | kernel_rfl | simp [newNames, isNew, St.free, freeH, AV.refsL, AV.refs]); intro R hR)))))
      all_goals (refine ⟨by simp, ⟨_, ?_, AV.le_refl _⟩, leH_get (by simp [leH, hget])⟩; simp only [Try.results9, resL, ldA, oneOf, go_sem])
      all_goals rw [hB]
  · have k1 : (decide ((i : Int) < (t.r.length : Int))) = false := by simpa using hge
    have := hC2 fun j hj => hno j (by omega)
    rw [this, if_neg (by decide)] at hB
    by_cases h0 : t.f = 0
    · have q0 : (t.f == 0) = true := by simpa using h0
      rw [hF0 h0, if_neg (by decide)] at hB
      (repeat (any_goals (first | ((with_reducible refine evL_one ?_ ?_); rfl; intro K hK; simp only [go_sem, k1, q0]; ((repeat (refine ndI (by first | assumption | omega | rfl) ?_)); refine hK _ ?_; clear hK K)) | (with_reducible first | (refine evL_nil ?_; refine hR _ ?_; clear hR R) | ((first | refine evC_seq ?_ | refine evC_block ?_); intro Ψ hΨ hΨ') | (refine evC_region ?_; intro R hR) | (refine hΨ _ ?_; clear hΨ hΨ' Ψ) | refine evC_skip ?_ | refine evC_ret ?_ | refine evC_exit ?_) | ((with_reducible refine hΨ' _ _ ?_ ?_); (focus (simp; done)); clear hΨ hΨ' Ψ) | ((with_reducible apply evL_unmet); rfl; rfl; rfl; (try simp only [go_sem, k1, q0])) | ((with_reducible apply evL_grd); rfl; rfl; rfl; all_goals (intro hb; first | (cases hb; done) | ((try simp only [Bool.not_true, Bool.not_false] at hb); (first | ((with_reducible intro K hK); simp only [go_sem, k1, q0]; ((repeat (refine ndI (by first | assumption | omega | rfl) ?_)); refine hK _ ?_; clear hK K)) | ((fail_if_success (with_reducible intro _)); simp only [go_sem, k1, q0]))))) | ((with_reducible apply evC_cond); rfl; rfl; all_goals (intro hc; first | (cases hc; done) | (try simp only at hc))) | ((with_reducible refine evD_nil ?_ ?_); kernel_rfl; (with_reducible refine hR _ ?_); clear hR R) | ((first | ((with_reducible apply evD_any); rfl; rfl; (simp only [rdE, rdOf, go_sem, k1, q0]; rfl); (intro τ hA hQ hN; ((try simp only [agree, Op.operands, Call.operands, go_sem, k1, q0, go_sem, List.mem_cons, List.not_mem_nil, forall_eq_or_imp, forall_eq, List.append_toArray, Option.toArray] at hA); (try simp only [go_sem, k1, q0, List.mem_cons, List.not_mem_nil, forall_eq_or_imp, forall_eq] at hQ hN); (first | (revert hA; intro hA) | have hA := trivial); (first | (revert hQ; intro hQ) | have hQ := trivial); (first | (revert hN; intro hN) | have hN := trivial); simp only [go_sem, k1, q0, go_sem, hA, hQ, hN]; (repeat (refine ndI (by first | assumption | omega | rfl) ?_)); (first | apply eff_rd | apply eff_st | apply eff_nw)))) | ((first | ((with_reducible apply evD_new); rfl; rfl; rfl) | ((with_reducible apply evD_grd_new); rfl; rfl; rfl; rfl; rfl; rfl)); (intro τ hA hQ hN; ((try simp only [agree, Op.operands, Call.operands, go_sem, k1, q0, go_sem, List.mem_cons, List.not_mem_nil, forall_eq_or_imp, forall_eq, List.append_toArray, Option.toArray] at hA); (try simp only [go_sem, k1, q0, List.mem_cons, List.not_mem_nil, forall_eq_or_imp, forall_eq] at hQ); (first | (revert hA; intro hA) | have hA := trivial); (first | (revert hQ; intro hQ) | have hQ := trivial); simp only [go_sem, k1, q0, go_sem, hA, hQ, hN]; (repeat (refine ndI (by first | assumption | omega | rfl) ?_)); exact eff_nw _ _ _ _)))); (simp only [St.eff, setO, hputs, go_sem, k1, q0])) | ((with_reducible refine evC_draw ?_ ?_ ?_ ?_); kernel_rfl; kernel_rfl; (first | kernel_rfl | simp [newNames, isNew, St.free, freeH, AV.refsL, AV.refs]); intro R hR))))
      all_goals (refine ⟨by simp, ⟨_, ?_, AV.le_refl _⟩, leH_get (by simp [leH, hget])⟩; simp only [Try.results9, resL, ldA, oneOf, go_sem])
      all_goals rw [hB]
    · have q0 : (t.f == 0) = false := by simpa using h0
      have q4 := q3 h0
      cases bF with
      | true =>
        rw [if_pos rfl] at hB
        (have W := ndI k1 (ndI q0 q4); (repeat (any_goals (first | ((with_reducible refine evL_one ?_ ?_); rfl; intro K hK; simp only [go_sem, W]; ((repeat (refine ndI (by first | assumption | omega | rfl) ?_)); refine hK _ ?_; clear hK K)) | (with_reducible first | (refine evL_nil ?_; refine hR _ ?_; clear hR R) | ((first | refine evC_seq ?_ | refine evC_block ?_); intro Ψ hΨ hΨ') | (refine evC_region ?_; intro R hR) | (refine hΨ _ ?_; clear hΨ hΨ' Ψ) | refine evC_skip ?_ | refine evC_ret ?_ | refine evC_exit ?_) | ((with_reducible refine hΨ' _ _ ?_ ?_); (focus (simp; done)); clear hΨ hΨ' Ψ) | ((with_reducible apply evL_unmet); rfl; rfl; rfl; (try simp only [go_sem, W])) | ((with_reducible apply evL_grd); rfl; rfl; rfl; all_goals (intro hb; first | (cases hb; done) | ((try simp only [Bool.not_true, Bool.not_false] at hb); (first | ((with_reducible intro K hK); simp only [go_sem, W]; ((repeat (refine ndI (by first | assumption | omega | rfl) ?_)); refine hK _ ?_; clear hK K)) | ((fail_if_success (with_reducible intro _)); simp only [go_sem, W]))))) | ((with_reducible apply evC_cond); rfl; rfl; all_goals (intro hc; first | (cases hc; done) | (try simp only at hc))) | ((with_reducible refine evD_nil ?_ ?_); kernel_rfl; (with_reducible refine hR _ ?_); clear hR R) | ((first | ((with_reducible apply evD_fcall); rfl; rfl; (first | ((first | (apply opF_callB (gc); rfl; rfl; rfl; rfl; exact Try.func45) | (apply opF_callB (c3); rfl; rfl; rfl; rfl; exact Try.func38)); kernel_rfl; rfl; (simp only [go_sem, W]; rfl); (first | rfl | simp [AV.inNL, AV.inN])) | ((apply opF_callB (o1); rfl; rfl; rfl; rfl; exact Try.func44); kernel_rfl; rfl; (simp only [go_sem, W]; rfl); (first | rfl | simp [AV.inNL, AV.inN])) | ((apply opF_callB (o2); rfl; rfl; rfl; rfl; exact Try.func44); kernel_rfl; rfl; (simp only [go_sem, W]; rfl); (first | rfl | simp [AV.inNL, AV.inN])) | ((apply opF_callB (p9); rfl; rfl; rfl; rfl; exact Try.func39); kernel_rfl; rfl; (simp only [go_sem, W]; rfl); (first | rfl | simp [AV.inNL, AV.inN])) | ((apply opF_callB (p10); rfl; rfl; rfl; rfl; exact Try.func39); kernel_rfl; rfl; (simp only [go_sem, W]; rfl); (first | rfl | simp [AV.inNL, AV.inN])))) | ((with_reducible apply evD_any); rfl; rfl; (simp only [rdE, rdOf, go_sem, W]; rfl); (intro τ hA hQ hN; ((try simp only [agree, Op.operands, Call.operands, go_sem, W, go_sem, List.mem_cons, List.not_mem_nil, forall_eq_or_imp, forall_eq, List.append_toArray, Option.toArray] at hA); (try simp only [go_sem, W, List.mem_cons, List.not_mem_nil, forall_eq_or_imp, forall_eq] at hQ hN); (first | (revert hA; intro hA) | have hA := trivial); (first | (revert hQ; intro hQ) | have hQ := trivial); (first | (revert hN; intro hN) | have hN := trivial); simp only [go_sem, W, go_sem, hA, hQ, hN]; (repeat (refine ndI (by first | assumption | omega | rfl) ?_)); (first | apply eff_rd | apply eff_st | apply eff_nw)))) | ((first | ((with_reducible apply evD_new); rfl; rfl; rfl) | ((with_reducible apply evD_grd_new); rfl; rfl; rfl; rfl; rfl; rfl)); (intro τ hA hQ hN; ((try simp only [agree, Op.operands, Call.operands, go_sem, W, go_sem, List.mem_cons, List.not_mem_nil, forall_eq_or_imp, forall_eq, List.append_toArray, Option.toArray] at hA); (try simp only [go_sem, W, List.mem_cons, List.not_mem_nil, forall_eq_or_imp, forall_eq] at hQ); (first | (revert hA; intro hA) | have hA := trivial); (first | (revert hQ; intro hQ) | have hQ := trivial); simp only [go_sem, W, go_sem, hA, hQ, hN]; (repeat (refine ndI (by first | assumption | omega | rfl) ?_)); exact eff_nw _ _ _ _)))); (simp only [St.eff, setO, hputs, go_sem, W])) | ((with_reducible refine evC_draw ?_ ?_ ?_ ?_); kernel_rfl; kernel_rfl; (first | kernel_rfl | simp [newNames, isNew, St.free, freeH, AV.refsL, AV.refs]); intro R hR)))))
        all_goals (refine ⟨by simp, ⟨_, ?_, AV.le_refl _⟩, leH_get (by simp [leH, hget])⟩; simp only [Try.results9, resL, ldA, oneOf, go_sem])
        all_goals rw [hB]
      | false =>
        rw [if_neg (by decide)] at hB
        (have W := ndI k1 (ndI q0 q4); (repeat (any_goals (first | ((with_reducible refine evL_one ?_ ?_); rfl; intro K hK; simp only [go_sem, W]; ((repeat (refine ndI (by first | assumption | omega | rfl) ?_)); refine hK _ ?_; clear hK K)) | (with_reducible first | (refine evL_nil ?_; refine hR _ ?_; clear hR R) | ((first | refine evC_seq ?_ | refine evC_block ?_); intro Ψ hΨ hΨ') | (refine evC_region ?_; intro R hR) | (refine hΨ _ ?_; clear hΨ hΨ' Ψ) | refine evC_skip ?_ | refine evC_ret ?_ | refine evC_exit ?_) | ((with_reducible refine hΨ' _ _ ?_ ?_); (focus (simp; done)); clear hΨ hΨ' Ψ) | ((with_reducible apply evL_unmet); rfl; rfl; rfl; (try simp only [go_sem, W])) | ((with_reducible apply evL_grd); rfl; rfl; rfl; all_goals (intro hb; first | (cases hb; done) | ((try simp only [Bool.not_true, Bool.not_false] at hb); (first | ((with_reducible intro K hK); simp only [go_sem, W]; ((repeat (refine ndI (by first | assumption | omega | rfl) ?_)); refine hK _ ?_; clear hK K)) | ((fail_if_success (with_reducible intro _)); simp only [go_sem, W]))))) | ((with_reducible apply evC_cond); rfl; rfl; all_goals (intro hc; first | (cases hc; done) | (try simp only at hc))) | ((with_reducible refine evD_nil ?_ ?_); kernel_rfl; (with_reducible refine hR _ ?_); clear hR R) | ((first | ((with_reducible apply evD_fcall); rfl; rfl; (first | ((first | (apply opF_callB (gc); rfl; rfl; rfl; rfl; exact Try.func45) | (apply opF_callB (c3); rfl; rfl; rfl; rfl; exact Try.func38)); kernel_rfl; rfl; (simp only [go_sem, W]; rfl); (first | rfl | simp [AV.inNL, AV.inN])) | ((apply opF_callB (o1); rfl; rfl; rfl; rfl; exact Try.func44); kernel_rfl; rfl; (simp only [go_sem, W]; rfl); (first | rfl | simp [AV.inNL, AV.inN])) | ((apply opF_callB (o2); rfl; rfl; rfl; rfl; exact Try.func44); kernel_rfl; rfl; (simp only [go_sem, W]; rfl); (first | rfl | simp [AV.inNL, AV.inN])) | ((apply opF_callB (p9); rfl; rfl; rfl; rfl; exact Try.func39); kernel_rfl; rfl; (simp only [go_sem, W]; rfl); (first | rfl | simp [AV.inNL, AV.inN])) | ((apply opF_callB (p10); rfl; rfl; rfl; rfl; exact Try.func39); kernel_rfl; rfl; (simp only [go_sem, W]; rfl); (first | rfl | simp [AV.inNL, AV.inN])))) | ((with_reducible apply evD_any); rfl; rfl; (simp only [rdE, rdOf, go_sem, W]; rfl); (intro τ hA hQ hN; ((try simp only [agree, Op.operands, Call.operands, go_sem, W, go_sem, List.mem_cons, List.not_mem_nil, forall_eq_or_imp, forall_eq, List.append_toArray, Option.toArray] at hA); (try simp only [go_sem, W, List.mem_cons, List.not_mem_nil, forall_eq_or_imp, forall_eq] at hQ hN); (first | (revert hA; intro hA) | have hA := trivial); (first | (revert hQ; intro hQ) | have hQ := trivial); (first | (revert hN; intro hN) | have hN := trivial); simp only [go_sem, W, go_sem, hA, hQ, hN]; (repeat (refine ndI (by first | assumption | omega | rfl) ?_)); (first | apply eff_rd | apply eff_st | apply eff_nw)))) | ((first | ((with_reducible apply evD_new); rfl; rfl; rfl) | ((with_reducible apply evD_grd_new); rfl; rfl; rfl; rfl; rfl; rfl)); (intro τ hA hQ hN; ((try simp only [agree, Op.operands, Call.operands, go_sem, W, go_sem, List.mem_cons, List.not_mem_nil, forall_eq_or_imp, forall_eq, List.append_toArray, Option.toArray] at hA); (try simp only [go_sem, W, List.mem_cons, List.not_mem_nil, forall_eq_or_imp, forall_eq] at hQ); (first | (revert hA; intro hA) | have hA := trivial); (first | (revert hQ; intro hQ) | have hQ := trivial); simp only [go_sem, W, go_sem, hA, hQ, hN]; (repeat (refine ndI (by first | assumption | omega | rfl) ?_)); exact eff_nw _ _ _ _)))); (simp only [St.eff, setO, hputs, go_sem, W])) | ((with_reducible refine evC_draw ?_ ?_ ?_ ?_); kernel_rfl; kernel_rfl; (first | kernel_rfl | simp [newNames, isNew, St.free, freeH, AV.refsL, AV.refs]); intro R hR)))))
        all_goals (refine ⟨by simp, ⟨_, ?_, AV.le_refl _⟩, leH_get (by simp [leH, hget])⟩; simp only [Try.results9, resL, ldA, oneOf, go_sem])
        all_goals rw [hB]
end Go.Proofs.Ytgdnmdnhkhpieaa
namespace Go.Proofs.Ytgdnmdnhkhpieaa.nz
open Go.RowKit
set_option maxRecDepth 20000
set_option maxHeartbeats 1000000
abbrev rcN (l : List N6) : List AV := (l.flatMap N6.pv).map .c
theorem rcN_len (l : List N6) : (rcN l).length = l.length * 6 := by rw [List.length_map, flat_length pv_len]
end Go.Proofs.Ytgdnmdnhkhpieaa.nz
namespace Go.Proofs.Ytgdnmdnhkhpieaa.nz
open Go.RowKit
open Nat (reduceBEq)
set_option maxRecDepth 20000
set_option maxHeartbeats 1000000
theorem cloneN_fn (ex : Bool) (l : List N6) (hl : l.length ≤ 1000000) : Fn Try.prog 20 [nsl ex l] [] (.row 7 69 6 l.length) [(7, rcN l)] := by
  have e1 := rcN_len l
  (refine fn_of Try.func20 rfl (by rfl) ?_; simp only [Try.ntmps20, List.length_cons, List.length_nil, Nat.reduceAdd, Nat.reduceSub, List.replicate, List.cons_append, List.nil_append])
  (repeat (any_goals (first | ((have hz0 := hb0 hc); (with_reducible refine evL_op ?_ ?_); rfl; intro K hK; refine OpA.nilrow_after 2 7 69 6 (evO_sound ?_); (simp (disch := omega) only [go_sem, e1, refsL_map]); (repeat (refine And.intro (by first | assumption | omega | rfl | decide) ?_)); refine hK _ ?_; clear hK K; clear hb0) | ((with_reducible refine evL_one ?_ ?_); rfl; intro K hK; simp (disch := omega) only [go_sem, e1, refsL_map]; ((repeat (refine ndI (by first | assumption | omega | rfl) ?_)); refine hK _ ?_; clear hK K)) | ((with_reducible refine evL_one ?_ ?_); rfl; intro K hK; refine evO_isnil rfl rfl (by first | exact .inl rfl | exact .inr rfl) ?_ rfl ?_; (focus (simp (disch := omega) only [go_sem]; try rfl)); (intro b hb0; simp (disch := omega) only [eq_self, go_sem, e1, refsL_map]; (with_reducible refine hK _ ?_); clear hK K)) | ((with_reducible refine evL_one ?_ ?_); rfl; intro K hK; simp (disch := omega) only [go_sem, e1, refsL_map]; (repeat (refine And.intro rfl ?_)); (refine evO_nilnil rfl rfl (by first | exact .inl rfl | exact .inr rfl) ?_ rfl ?_); (focus (simp (disch := omega) only [go_sem]; try rfl)); (simp (disch := omega) only [eq_self, go_sem, e1, refsL_map]; (with_reducible refine hK _ ?_); clear hK K)) | (with_reducible first | (refine evL_nil ?_; refine hR _ ?_; clear hR R) | ((first | refine evC_seq ?_ | refine evC_block ?_); intro Ψ hΨ hΨ') | (refine evC_region ?_; intro R hR) | (refine hΨ _ ?_; clear hΨ hΨ' Ψ) | refine evC_skip ?_ | refine evC_ret ?_ | refine evC_exit ?_) | ((with_reducible refine hΨ' _ _ ?_ ?_); (focus (simp; done)); clear hΨ hΨ' Ψ) | ((with_reducible apply evC_cond); rfl; rfl; all_goals (intro hc; first | (cases hc; done) | (try simp only at hc))))))
  all_goals (try (obtain rfl := List.eq_nil_of_length_eq_zero hz0))
  all_goals exact ⟨by simp, ⟨_, rfl, AV.le_refl _⟩, leH_get (by simp [leH, hget])⟩
end Go.Proofs.Ytgdnmdnhkhpieaa.nz
namespace Go.Proofs.Ytgdnmdnhkhpieaa
open Go.RowKit
open Nat (reduceBEq)
set_option maxRecDepth 20000
set_option maxHeartbeats 4000000
def rcR (l : List Rp) : List AV := (l.flatMap Rp.pv).map .c
theorem rcR_len (l : List Rp) : (rcR l).length = l.length * 12 := by unfold rcR; rw [List.length_map, flat_length rp_len]
theorem cloneR_fn (ex : Bool) (l : List Rp) (hl : l.length ≤ 1000000) : Fn Try.prog 21 [rsl ex l] [] (.row 7 71 12 l.length) [(7, rcR l)] := by
  have e1 := rcR_len l
  unfold rcR at e1 ⊢
  (refine fn_of Try.func21 rfl (by rfl) ?_; simp only [Try.ntmps21, List.length_cons, List.length_nil, Nat.reduceAdd, Nat.reduceSub, List.replicate, List.cons_append, List.nil_append])
  (repeat (any_goals (first | ((have hz0 := hb0 hc); (with_reducible refine evL_op ?_ ?_); rfl; intro K hK; refine OpA.nilrow_after 2 7 71 12 (evO_sound ?_); (simp (disch := omega) only [go_sem, e1, refsL_map]); (repeat (refine And.intro (by first | assumption | omega | rfl | decide) ?_)); refine hK _ ?_; clear hK K; clear hb0) | ((with_reducible refine evL_one ?_ ?_); rfl; intro K hK; simp (disch := omega) only [go_sem, e1, refsL_map]; ((repeat (refine ndI (by first | assumption | omega | rfl) ?_)); refine hK _ ?_; clear hK K)) | ((with_reducible refine evL_one ?_ ?_); rfl; intro K hK; refine evO_isnil rfl rfl (by first | exact .inl rfl | exact .inr rfl) ?_ rfl ?_; (focus (simp (disch := omega) only [go_sem]; try rfl)); (intro b hb0; simp (disch := omega) only [eq_self, go_sem, e1, refsL_map]; (with_reducible refine hK _ ?_); clear hK K)) | ((with_reducible refine evL_one ?_ ?_); rfl; intro K hK; simp (disch := omega) only [go_sem, e1, refsL_map]; (repeat (refine And.intro rfl ?_)); (refine evO_nilnil rfl rfl (by first | exact .inl rfl | exact .inr rfl) ?_ rfl ?_); (focus (simp (disch := omega) only [go_sem]; try rfl)); (simp (disch := omega) only [eq_self, go_sem, e1, refsL_map]; (with_reducible refine hK _ ?_); clear hK K)) | (with_reducible first | (refine evL_nil ?_; refine hR _ ?_; clear hR R) | ((first | refine evC_seq ?_ | refine evC_block ?_); intro Ψ hΨ hΨ') | (refine evC_region ?_; intro R hR) | (refine hΨ _ ?_; clear hΨ hΨ' Ψ) | refine evC_skip ?_ | refine evC_ret ?_ | refine evC_exit ?_) | ((with_reducible refine hΨ' _ _ ?_ ?_); (focus (simp; done)); clear hΨ hΨ' Ψ) | ((with_reducible apply evC_cond); rfl; rfl; all_goals (intro hc; first | (cases hc; done) | (try simp only at hc))))))
  all_goals (try (obtain rfl := List.eq_nil_of_length_eq_zero hz0))
  all_goals exact ⟨by simp, ⟨_, rfl, AV.le_refl _⟩, leH_get (by simp [leH, hget])⟩
theorem take_min {α : Type} (l : List α) (k : Nat) : l.take (min l.length k) = l.take k := by
  rw [List.take_eq_take_iff, Nat.min_comm l.length k, Nat.min_assoc, Nat.min_self]
theorem few_row (ex : Bool) (l : List Rp) (hl : l.length ≤ maxLen) : Fn Try.prog 7 [rsl ex l] [] (.row 8 71 12 (l.take 50).length) [(8, rcR (l.take 50))] := by
  have hl2 : l.length < 9223372036854775808 := Nat.lt_succ_of_le hl
  have c1 := cloneR_fn false (l.take 50) (by rw [List.length_take]; omega)
  have e1 : (if (50 : Int) < (l.length : Int) then (50 : Int) else (l.length : Int)) = ((min l.length 50 : Nat) : Int) := by split <;> omega
  have e2 : (l.flatMap Rp.pv).take (min l.length 50 * 12) = (l.take 50).flatMap Rp.pv := by rw [flat_take rp_len, take_min]
  have e3 : (l.take 50).length = min l.length 50 := by rw [List.length_take, Nat.min_comm]
  unfold rcR at c1 ⊢
  unfold rsl at c1
  rw [e3] at c1 ⊢
  (refine fn_of Try.func7 rfl (by rfl) ?_; simp only [Try.ntmps7, List.length_cons, List.length_nil, Nat.reduceAdd, Nat.reduceSub, List.replicate, List.cons_append, List.nil_append])
  (have W := ndI e1 (ndI e2 @refsL_map); (repeat (any_goals (first | ((with_reducible refine evL_call ?_ ?_ ?_); rfl; rfl; intro K hK; (apply opA_callR (c1) (fun r => 8); rfl; rfl; rfl; rfl; exact Try.func21; kernel_rfl; rfl; rfl; (intro r hr q hq h; simp (disch := omega) only [List.map_cons, List.map_nil, List.cons_append, List.nil_append, List.mem_cons, List.not_mem_nil, or_false] at hr hq; (try dsimp only at h); first | omega | (rcases hr with rfl | rfl | rfl <;> rcases hq with rfl | rfl | rfl <;> simp at h ⊢) | (rcases hr with rfl | rfl <;> rcases hq with rfl | rfl <;> simp at h ⊢) | ((repeat' split at h) <;> omega)); (simp (disch := omega) only [argsOk, argOk, AV.ren, AV.renL, renL_map, List.mem_cons, List.not_mem_nil, forall_eq_or_imp, forall_eq, newOk, List.contains_cons, List.contains_nil, AV.refsL, AV.refs, refsL_map, AV.inN, AV.inNL, inH, inNL_map, go_sem, W, Bool.false_and, renL_map, inNL_map])); (simp (disch := omega) only [hputs, hdels, renH, AV.ren, AV.renL, renL_map, go_sem, W, Bool.false_and, renL_map, inNL_map]; refine hK _ ?_; clear hK K)) | ((with_reducible refine evL_one ?_ ?_); rfl; intro K hK; simp (disch := omega) only [go_sem, W, Bool.false_and, renL_map, inNL_map]; ((repeat (refine ndI (by first | assumption | omega | rfl) ?_)); refine hK _ ?_; clear hK K)) | ((with_reducible refine evL_one ?_ ?_); rfl; intro K hK; simp (disch := omega) only [go_sem, W, Bool.false_and, renL_map, inNL_map]; apply opA_cut_nil; rfl; rfl; rfl; rfl; (focus (simp (disch := omega) only [go_sem]; try rfl)); rfl; (simp (disch := omega) only [go_sem, W, Bool.false_and, renL_map, inNL_map]; (with_reducible refine hK _ ?_); clear hK K)) | ((with_reducible refine evL_one ?_ ?_); rfl; intro K hK; (try simp (disch := omega) only [go_sem, W, Bool.false_and, renL_map, inNL_map]); (repeat (refine ndI (by first | assumption | omega | rfl) ?_)); refine opA_slice_row rfl rfl rfl rfl rfl ?_ rfl rfl rfl rfl ?_ ?_ ?_; (focus (simp only [go_sem]; try rfl)); (intro h; first | rfl | cases h); (first | omega | (dsimp only; omega) | (simp (disch := omega) only [Option.isSome_some, Option.isSome_none]; omega) | (simp; omega) | (focus (simp; done))); (intro q hq1 hq2; (simp (disch := omega) only [go_sem, W, Bool.false_and, renL_map, inNL_map]; refine hK _ ?_; clear hK K))) | ((with_reducible refine evL_one ?_ ?_); rfl; intro K hK; (try simp (disch := omega) only [go_sem, W, Bool.false_and, renL_map, inNL_map]); (repeat (refine ndI (by first | assumption | omega | rfl) ?_)); refine opA_slice_cut rfl rfl rfl rfl rfl ?_ rfl rfl rfl rfl ?_ ?_ ?_; (focus (simp only [go_sem]; try rfl)); (intro h; first | rfl | cases h); (first | omega | (dsimp only; omega) | (simp (disch := omega) only [Option.isSome_some, Option.isSome_none]; omega) | (simp; omega) | (focus (simp; done))); (simp (disch := omega) only [go_sem, W, Bool.false_and, renL_map, inNL_map]; refine hK _ ?_; clear hK K)) | (with_reducible first | (refine evL_nil ?_; refine hR _ ?_; clear hR R) | ((first | refine evC_seq ?_ | refine evC_block ?_); intro Ψ hΨ hΨ') | (refine evC_region ?_; intro R hR) | (refine hΨ _ ?_; clear hΨ hΨ' Ψ) | refine evC_skip ?_ | refine evC_ret ?_ | refine evC_exit ?_) | ((with_reducible refine hΨ' _ _ ?_ ?_); (focus (simp; done)); clear hΨ hΨ' Ψ) | ((with_reducible apply evC_cond); rfl; rfl; all_goals (intro hc; first | (cases hc; done) | (try simp only at hc)))))))
  all_goals (refine ⟨by simp, ⟨_, ?_, AV.le_refl _⟩, leH_get (by simp [leH, hget])⟩; simp only [Try.results7, resL, ldA, oneOf, go_sem])
theorem few_fn (ex : Bool) (l : List Rp) (hl : l.length ≤ maxLen) : Fn Try.prog 7 [rsl ex l] [] (rsl false (l.take 50)) [] := by
  have k := (few_row ex l hl).frzN (d := 8) (pcs := (l.take 50).flatMap Rp.pv) rfl
  have e1 : ((l.take 50).flatMap Rp.pv).length = (l.take 50).length * 12 := flat_length rp_len _
  simpa [-List.length_flatMap, -List.length_take, rsl, e1, AV.frz, AV.frzL, frzH, vi] using k
theorem cloneBv (ex : Bool) (l : List Nat) (hl : l.length ≤ 1000000) : Fn Try.prog 17 [.c (.sl ex 1 l.length (l.flatMap bpv))] [] (.c (bsV l)) [] := by
  have k := (cloneB_fn ex l hl).frzN (d := 7) (pcs := l.flatMap bpv) rfl
  have e1 : (l.flatMap bpv).length = l.length * 1 := flat_length bpv_len _
  simpa [-List.length_flatMap, e1, AV.frz, AV.frzL, frzH] using k
theorem clonePv (ex : Bool) (l : List Pr) (hl : l.length ≤ 1000000) : Fn Try.prog 18 [.c (.sl ex 8 l.length (l.flatMap Pr.pv))] [] (.c (psV l)) [] := by
  have k := (cloneP_fn ex l hl).frzN (d := 7) (pcs := l.flatMap Pr.pv) rfl
  have e1 : (l.flatMap Pr.pv).length = l.length * 8 := flat_length pr_len _
  simpa [-List.length_flatMap, e1, AV.frz, AV.frzL, frzH] using k
theorem cloneHv (ex : Bool) (l : List lg.Hd) (hl : l.length ≤ 100) : Fn Try.prog 19 [.c (.sl ex 11 l.length (l.flatMap lg.Hd.pv))] [] (.c (hdV l)) [] := by
  have k := (lg.cloneH_fn ex l (by omega)).frzN (d := 7) (pcs := l.flatMap lg.Hd.pv) rfl
  have e1 : (l.flatMap lg.Hd.pv).length = l.length * 11 := flat_length lg.hd_len _
  simpa [-List.length_flatMap, e1, AV.frz, AV.frzL, frzH] using k
theorem cloneNv (ex : Bool) (l : List nz.N6) (hl : l.length ≤ 100) : Fn Try.prog 20 [.c (.sl ex 6 l.length (l.flatMap nz.N6.pv))] [] (.c (noV l)) [] := by
  have k := (nz.cloneN_fn ex l (by omega)).frzN (d := 7) (pcs := l.flatMap nz.N6.pv) rfl
  have e1 : (l.flatMap nz.N6.pv).length = l.length * 6 := flat_length nz.pv_len _
  simpa [-List.length_flatMap, e1, AV.frz, AV.frzL, frzH] using k
def cutA (x : Ac) : Ac := ⟨x.a, x.b, x.n, x.code.take 300, x.store.take 40⟩
def cutW (w : Wl) : Wl := ⟨(w.S.take 45).map cutA, w.L.take 40, w.N.take 70⟩
structure Wl.raw (w : Wl) : Prop where
  s : w.S.length ≤ maxLen ∧ ∀ x ∈ w.S, x.ok
  l : w.L.length ≤ maxLen ∧ ∀ h ∈ w.L, h.ok
  n : w.N.length ≤ maxLen ∧ ∀ x ∈ w.N, x.ok
theorem cutW_ok {w : Wl} (h : w.raw) : (cutW w).ok := by
  refine ⟨⟨?_, fun y hy => ?_⟩, ⟨?_, fun y hy => h.l.2 y (List.mem_of_mem_take hy)⟩, ⟨?_, fun y hy => h.n.2 y (List.mem_of_mem_take hy)⟩⟩
  · show ((w.S.take 45).map cutA).length ≤ 45
    rw [List.length_map, List.length_take]; omega
  · obtain ⟨x, hx, rfl⟩ := List.mem_map.1 hy
    obtain ⟨u1, u2, u3, ⟨u4, u5⟩, u6, u7⟩ := h.s.2 x (List.mem_of_mem_take hx)
    refine ⟨⟨u1, u2, u3, ⟨?_, fun c hc => u5 c (List.mem_of_mem_take hc)⟩, ?_, fun p hp => u7 p (List.mem_of_mem_take hp)⟩, ?_, ?_⟩
    · show (x.code.take 300).length ≤ maxLen; rw [List.length_take]; omega
    · show (x.store.take 40).length ≤ maxLen; rw [List.length_take]; omega
    · show (x.code.take 300).length ≤ 300; rw [List.length_take]; omega
    · show (x.store.take 40).length ≤ 40; rw [List.length_take]; omega
  · show (w.L.take 40).length ≤ 40; rw [List.length_take]; omega
  · show (w.N.take 70).length ≤ 70; rw [List.length_take]; omega
theorem min_if (n k : Nat) : (if (k : Int) < (n : Int) then (k : Int) else (n : Int)) = ((min n k : Nat) : Int) := by split <;> omega
theorem rcS_mid (A B : List Ac) (y : Ac) : rcS (A ++ y :: B) = rcS A ++ ([vi .u64 y.a, vi .u64 (l0 y.b), vi .u64 (l1 y.b), vi .u64 (l2 y.b), vi .u64 (l3 y.b), vi .u64 y.n, .c (bsV y.code), .c (psV y.store)] ++ rcS B) := by simp [rcS, Ac.pv]
theorem acell {A B : List Ac} {y : Ac} {k : Nat} (hA : A.length = k) : (rcS (A ++ y :: B))[k * 8 + 6]? = some (.c (bsV y.code)) ∧ (rcS (A ++ y :: B))[k * 8 + 7]? = some (.c (psV y.store)) := by
  have hl := rcS_len A
  rw [hA] at hl
  rw [rcS_mid]
  constructor
  · rw [List.getElem?_append_right (by omega), hl, show k * 8 + 6 - k * 8 = 6 by omega]; rfl
  · rw [List.getElem?_append_right (by omega), hl, show k * 8 + 7 - k * 8 = 7 by omega]; rfl
theorem spl_code {A B : List Ac} {y : Ac} {k : Nat} (hA : A.length = k) (c : List Nat) : spl (rcS (A ++ y :: B)) (k * 8 + 6) [.c (bsV c)] = rcS (A ++ ⟨y.a, y.b, y.n, c, y.store⟩ :: B) := by
  have hl := rcS_len A
  rw [hA] at hl
  rw [rcS_mid, rcS_mid]
  generalize rcS A = X at hl
  unfold spl
  rw [List.take_append, List.drop_append]
  simp [hl, List.take_of_length_le, show k * 8 + 6 - k * 8 = 6 by omega, show k * 8 + 6 + 1 - k * 8 = 7 by omega, show X.length ≤ k * 8 + 6 by omega, List.drop_eq_nil_of_le, show k * 8 ≤ k * 8 + 6 + 1 by omega]
theorem spl_store {A B : List Ac} {y : Ac} {k : Nat} (hA : A.length = k) (s : List Pr) : spl (rcS (A ++ y :: B)) (k * 8 + 7) [.c (psV s)] = rcS (A ++ ⟨y.a, y.b, y.n, y.code, s⟩ :: B) := by
  have hl := rcS_len A
  rw [hA] at hl
  rw [rcS_mid, rcS_mid]
  generalize rcS A = X at hl
  unfold spl
  rw [List.take_append, List.drop_append]
  simp [hl, List.take_of_length_le, show k * 8 + 7 - k * 8 = 7 by omega, show k * 8 + 7 + 1 - k * 8 = 8 by omega, show X.length ≤ k * 8 + 7 by omega, List.drop_eq_nil_of_le, show k * 8 ≤ k * 8 + 7 + 1 by omega]
end Go.Proofs.Ytgdnmdnhkhpieaa
namespace Go.Proofs.Ytgdnmdnhkhpieaa
open Go.RowKit
open Nat (reduceBEq)
set_option maxRecDepth 20000
set_option maxHeartbeats 4000000
theorem world_row (w : Wl) (hw : w.raw) : Fn Try.prog 6 [wlA w] [] (.agg [.row 9 58 8 (cutW w).S.length, .c (hdV (cutW w).L), .c (noV (cutW w).N)]) [(9, rcS (cutW w).S)] := by
  obtain ⟨S, L, N⟩ := w
  obtain ⟨⟨hs, os⟩, ⟨hl, ol⟩, ⟨hn, on'⟩⟩ := hw
  dsimp only at hs os hl ol hn on'
  have s8 : S.length < 9223372036854775808 := Nat.lt_succ_of_le hs
  have l8 : L.length < 9223372036854775808 := Nat.lt_succ_of_le hl
  have n8 : N.length < 9223372036854775808 := Nat.lt_succ_of_le hn
  have c1 := cloneA_fn false (S.take 45) (by rw [List.length_take]; omega)
  have c4 := cloneHv false (L.take 40) (by rw [List.length_take]; omega)
  have c5 := cloneNv false (N.take 70) (by rw [List.length_take]; omega)
  have e1 : (if (45 : Int) < (S.length : Int) then (45 : Int) else (S.length : Int)) = ((min S.length 45 : Nat) : Int) := min_if S.length 45
  have e2 : (S.flatMap Ac.pv).take (min S.length 45 * 8) = (S.take 45).flatMap Ac.pv := by rw [flat_take ac_len, take_min]
  have e3 : (S.take 45).length = min S.length 45 := by rw [List.length_take, Nat.min_comm]
  have e4 : (if (40 : Int) < (L.length : Int) then (40 : Int) else (L.length : Int)) = ((min L.length 40 : Nat) : Int) := min_if L.length 40
  have e5 : (L.flatMap lg.Hd.pv).take (min L.length 40 * 11) = (L.take 40).flatMap lg.Hd.pv := by rw [flat_take lg.hd_len, take_min]
  have e6 : (L.take 40).length = min L.length 40 := by rw [List.length_take, Nat.min_comm]
  have e7 : (if (70 : Int) < (N.length : Int) then (70 : Int) else (N.length : Int)) = ((min N.length 70 : Nat) : Int) := min_if N.length 70
  have e8 : (N.flatMap nz.N6.pv).take (min N.length 70 * 6) = (N.take 70).flatMap nz.N6.pv := by rw [flat_take nz.pv_len, take_min]
  have e9 : (N.take 70).length = min N.length 70 := by rw [List.length_take, Nat.min_comm]
  have os' : ∀ x ∈ S.take 45, x.ok := fun x hx => os x (List.mem_of_mem_take hx)
  show Fn Try.prog 6 [wlA ⟨S, L, N⟩] [] (.agg [.row 9 58 8 ((S.take 45).map cutA).length, .c (hdV (L.take 40)), .c (noV (N.take 70))]) [(9, rcS ((S.take 45).map cutA))]
  have h45 : (S.take 45).length ≤ 45 := by rw [List.length_take]; omega
  unfold acS at c1
  rw [e3] at c1
  unfold hdV at c4
  rw [e6] at c4
  unfold noV at c5
  rw [e9] at c5
  have m1 : ((S.take 45).map cutA).length = min S.length 45 := by rw [List.length_map, e3]
  unfold hdV noV
  rw [m1, e6, e9]
  rw [← e3] at e1 e2 c1 m1 ⊢
  generalize S.take 45 = M at *
  have f1 : ∀ d, AV.refsL d (rcS M) = false := fun d => refsL_map d _
  have f2 : ∀ r, AV.renL r (rcS M) = rcS M := fun r => renL_map r _
  have f3 : ∀ r, AV.inNL r (rcS M) = true := fun r => inNL_map r _
  have f4 := rcS_len M
  (refine fn_of Try.func6 rfl (by rfl) ?_; simp only [Try.ntmps6, List.length_cons, List.length_nil, Nat.reduceAdd, Nat.reduceSub, List.replicate, List.cons_append, List.nil_append])
  (have W := ndI e1 (ndI e2 (ndI f1 (ndI f2 (ndI f3 f4)))); (repeat (any_goals (first | ((with_reducible refine evL_call ?_ ?_ ?_); rfl; rfl; intro K hK; (apply opA_callR (c1) (fun r => 9); rfl; rfl; rfl; rfl; exact Try.func16; kernel_rfl; rfl; rfl; (intro r hr q hq h; simp (disch := omega) only [List.map_cons, List.map_nil, List.cons_append, List.nil_append, List.mem_cons, List.not_mem_nil, or_false] at hr hq; (try dsimp only at h); first | omega | (rcases hr with rfl | rfl | rfl <;> rcases hq with rfl | rfl | rfl <;> simp at h ⊢) | (rcases hr with rfl | rfl <;> rcases hq with rfl | rfl <;> simp at h ⊢) | ((repeat' split at h) <;> omega)); (simp (disch := omega) only [argsOk, argOk, AV.ren, AV.renL, renL_map, List.mem_cons, List.not_mem_nil, forall_eq_or_imp, forall_eq, newOk, List.contains_cons, List.contains_nil, AV.refsL, AV.refs, refsL_map, AV.inN, AV.inNL, inH, inNL_map, go_sem, W, Bool.false_and])); (simp (disch := omega) only [hputs, hdels, renH, AV.ren, AV.renL, renL_map, go_sem, W, Bool.false_and]; refine hK _ ?_; clear hK K)) | ((with_reducible refine evL_one ?_ ?_); rfl; intro K hK; simp (disch := omega) only [go_sem, W, Bool.false_and]; ((repeat (refine ndI (by first | assumption | omega | rfl) ?_)); refine hK _ ?_; clear hK K)) | ((with_reducible refine evL_one ?_ ?_); rfl; intro K hK; simp (disch := omega) only [go_sem, W, Bool.false_and]; apply opA_cut_nil; rfl; rfl; rfl; rfl; (focus (simp (disch := omega) only [go_sem]; try rfl)); rfl; (simp (disch := omega) only [go_sem, W, Bool.false_and]; (with_reducible refine hK _ ?_); clear hK K)) | ((with_reducible refine evL_one ?_ ?_); rfl; intro K hK; (try simp (disch := omega) only [go_sem, W, Bool.false_and]); (repeat (refine ndI (by first | assumption | omega | rfl) ?_)); refine opA_slice_row rfl rfl rfl rfl rfl ?_ rfl rfl rfl rfl ?_ ?_ ?_; (focus (simp only [go_sem]; try rfl)); (intro h; first | rfl | cases h); (first | omega | (dsimp only; omega) | (simp (disch := omega) only [Option.isSome_some, Option.isSome_none]; omega) | (simp; omega) | (focus (simp; done))); (intro q hq1 hq2; (simp (disch := omega) only [go_sem, W, Bool.false_and]; refine hK _ ?_; clear hK K))) | ((with_reducible refine evL_one ?_ ?_); rfl; intro K hK; (try simp (disch := omega) only [go_sem, W, Bool.false_and]); (repeat (refine ndI (by first | assumption | omega | rfl) ?_)); refine opA_slice_cut rfl rfl rfl rfl rfl ?_ rfl rfl rfl rfl ?_ ?_ ?_; (focus (simp only [go_sem]; try rfl)); (intro h; first | rfl | cases h); (first | omega | (dsimp only; omega) | (simp (disch := omega) only [Option.isSome_some, Option.isSome_none]; omega) | (simp; omega) | (focus (simp; done))); (simp (disch := omega) only [go_sem, W, Bool.false_and]; refine hK _ ?_; clear hK K)) | ((with_reducible refine evL_one ?_ ?_); rfl; intro K hK; (try simp (disch := omega) only [go_sem, W, Bool.false_and]); (repeat (refine ndI (by first | assumption | omega | rfl) ?_)); refine opA_index_cut rfl rfl rfl rfl rfl ?_ ?_ ?_; (focus (simp only [go_sem]; try rfl)); (first | omega | (dsimp only; omega) | (simp (disch := omega) only [Option.isSome_some, Option.isSome_none]; omega) | (simp; omega) | (focus (simp; done))); (simp (disch := omega) only [go_sem, W, Bool.false_and]; refine hK _ ?_; clear hK K)) | (with_reducible first | (refine evL_nil ?_; refine hR _ ?_; clear hR R) | ((first | refine evC_seq ?_ | refine evC_block ?_); intro Ψ hΨ hΨ') | (refine evC_region ?_; intro R hR) | (refine hΨ _ ?_; clear hΨ hΨ' Ψ) | refine evC_skip ?_ | refine evC_ret ?_ | refine evC_exit ?_) | ((with_reducible refine hΨ' _ _ ?_ ?_); (focus (simp; done)); clear hΨ hΨ' Ψ) | ((with_reducible apply evC_cond); rfl; rfl; all_goals (intro hc; first | (cases hc; done) | (try simp only at hc))) | ((with_reducible refine evD_nil ?_ ?_); kernel_rfl; (with_reducible refine hR _ ?_); clear hR R) | ((first | ((with_reducible apply evD_any); rfl; rfl; (simp (disch := omega) only [rdE, rdOf, go_sem, W, Bool.false_and]; rfl); (intro τ hA hQ hN; ((try simp only [agree, Op.operands, Call.operands, go_sem, W, Bool.false_and, go_sem, List.mem_cons, List.not_mem_nil, forall_eq_or_imp, forall_eq, List.append_toArray, Option.toArray] at hA); (try simp only [go_sem, W, Bool.false_and, List.mem_cons, List.not_mem_nil, forall_eq_or_imp, forall_eq] at hQ hN); (first | (revert hA; intro hA) | have hA := trivial); (first | (revert hQ; intro hQ) | have hQ := trivial); (first | (revert hN; intro hN) | have hN := trivial); simp (disch := omega) only [go_sem, W, Bool.false_and, go_sem, hA, hQ, hN]; (repeat (refine ndI (by first | assumption | omega | rfl) ?_)); (first | apply eff_rd | apply eff_st | apply eff_nw)))) | ((first | ((with_reducible apply evD_one); rfl) | ((with_reducible apply evD_grd); rfl; rfl; rfl; rfl)); apply opF_slice_cut; rfl; rfl; rfl; rfl; rfl; (focus (simp only [go_sem]; try rfl)); rfl; rfl; rfl; rfl; (intro h; first | rfl | cases h); (first | omega | (dsimp only; omega) | (simp (disch := omega) only [Option.isSome_some, Option.isSome_none]; omega) | (simp; omega) | (focus (simp; done))))); (simp (disch := omega) only [St.eff, setO, hputs, go_sem, W, Bool.false_and])) | ((with_reducible refine evC_draw ?_ ?_ ?_ ?_); kernel_rfl; kernel_rfl; (first | kernel_rfl | simp [newNames, isNew, St.free, freeH, AV.refsL, AV.refs]); intro R hR)))))
  have rr : ∀ (A B : List Ac) (d : Nat), AV.refsL d (rcS (A ++ B)) = false := fun A B d => refsL_map d _
  refine evC_upto M.length (fun i => ⟨[wlA ⟨S, L, N⟩, .ptr 1 0, .ptr 2 0, .any, .any, .any, .any, .any, .any, .any, .any, .any, .any, .any, .any, .any, .any, .any, .any, .any, vi .i64 M.length, vi .i64 (i : Int), .any, .any, .any, .any, .any, .any, .any, .any, .any, .any, .any, .any, .any, .any, .any, .any, .any, .any, .any, .any, .any, .any, .any, .any, .any, .any, .any, .any, .any, .any, .any, .any, .any, .any, .any, .any, .any, .any, .any, .any, .any, .any, .any, .any, .any, .any, .any, .any, .any, .any, .any, .any, .any, .any, .any, .any, .any, .any, .any, .any], [(1, [.row 9 58 8 M.length, .c (hdV L), .c (noV N)]), (2, [.c (.v (.slice none 0 0)), .c (.v (.slice none 0 0)), .c (.v (.slice none 0 0))]), (9, rcS ((M.take i).map cutA ++ M.drop i))]⟩) (St.le_of (by simp [leT]) (by simp [leH, hget])) ?_
  intro i hi Ψ hΨ hΨ'
  (try dsimp only at hΨ ⊢)
  have k8 : M.length < 9223372036854775808 := by omega
  rcases Nat.lt_or_ge i M.length with hlt | hge
  · obtain ⟨y, hy⟩ : ∃ x, M[i]? = some x := ⟨_, List.getElem?_eq_getElem hlt⟩
    have k1 : (decide ((i : Int) < (M.length : Int))) = true := decide_eq_true (by omega)
    have k7 : (i : Int) + 1 = ((i + 1 : Nat) : Int) := by omega
    have hA : ((M.take i).map cutA).length = i := by rw [List.length_map, List.length_take]; omega
    have d1 : M.drop i = y :: M.drop (i + 1) := by
      rw [List.drop_eq_getElem_cons hlt]
      congr 1
      exact (List.getElem?_eq_some_iff.1 hy).2
    have d2 : (M.take (i + 1)).map cutA ++ M.drop (i + 1) = (M.take i).map cutA ++ cutA y :: M.drop (i + 1) := by
      rw [List.take_add_one, hy, List.map_append]; simp
    rw [d2] at hΨ
    rw [d1]
    have yo := os' y (List.mem_of_getElem? hy)
    have y8 : y.code.length < 9223372036854775808 := Nat.lt_succ_of_le yo.2.2.2.1.1
    have z8 : y.store.length < 9223372036854775808 := Nat.lt_succ_of_le yo.2.2.2.2.1
    have b1 := cloneBv false (y.code.take 300) (by rw [List.length_take]; omega)
    have b2 := clonePv false (y.store.take 40) (by rw [List.length_take]; omega)
    have g1 : (if (300 : Int) < (y.code.length : Int) then (300 : Int) else (y.code.length : Int)) = ((min y.code.length 300 : Nat) : Int) := min_if y.code.length 300
    have g2 : (y.code.flatMap bpv).take (min y.code.length 300) = (y.code.take 300).flatMap bpv := by
      have := flat_take (f := bpv) bpv_len y.code (min y.code.length 300)
      rw [Nat.mul_one] at this
      rw [this, take_min]
    have g3 : (y.code.take 300).length = min y.code.length 300 := by rw [List.length_take, Nat.min_comm]
    have g4 : (if (40 : Int) < (y.store.length : Int) then (40 : Int) else (y.store.length : Int)) = ((min y.store.length 40 : Nat) : Int) := min_if y.store.length 40
    have g5 : (y.store.flatMap Pr.pv).take (min y.store.length 40 * 8) = (y.store.take 40).flatMap Pr.pv := by rw [flat_take pr_len, take_min]
    have g6 : (y.store.take 40).length = min y.store.length 40 := by rw [List.length_take, Nat.min_comm]
    generalize (M.take i).map cutA = A at hA hΨ ⊢
    generalize M.drop (i + 1) = B at hΨ ⊢
    obtain ⟨u1, u2⟩ := acell (B := B) (y := y) hA
    have u3 := spl_code (B := B) (y := y) hA (y.code.take 300)
    have u4 := spl_store (B := B) (y := ⟨y.a, y.b, y.n, y.code.take 300, y.store⟩) hA (y.store.take 40)
    have u5 := rcS_len (A ++ y :: B)
    have u6 := rcS_len (A ++ ⟨y.a, y.b, y.n, y.code.take 300, y.store⟩ :: B)
    have v1 : i * 8 + 8 ≤ (rcS (A ++ y :: B)).length := by rw [u5, List.length_append, List.length_cons]; omega
    have v2 : i * 8 + 8 ≤ (rcS (A ++ ⟨y.a, y.b, y.n, y.code.take 300, y.store⟩ :: B)).length := by rw [u6, List.length_append, List.length_cons]; omega
    unfold bsV at b1 u3
    unfold psV at b2 u4
    rw [g3] at b1 u3
    rw [g6] at b2 u4
    have q1 := rr A (y :: B)
    have q2 := rr A (⟨y.a, y.b, y.n, y.code.take 300, y.store⟩ :: B)
    have q3 := rr A (⟨y.a, y.b, y.n, y.code.take 300, y.store.take 40⟩ :: B)
    (have W := ndI k1 (ndI k7 (ndI g1 (ndI g2 (ndI g4 (ndI g5 (ndI u1 (ndI u2 (ndI u3 (ndI u4 (ndI q1 (ndI q2 (ndI q3 @wrI)))))))))))); (repeat (any_goals (first | ((with_reducible refine evL_one ?_ ?_); rfl; intro K hK; simp (disch := omega) only [go_sem, W, Bool.false_and, Nat.mul_one]; ((repeat (refine ndI (by first | assumption | omega | rfl) ?_)); refine hK _ ?_; clear hK K)) | ((with_reducible refine evL_one ?_ ?_); rfl; intro K hK; simp (disch := omega) only [go_sem, W, Bool.false_and, Nat.mul_one]; apply opA_cut_nil; rfl; rfl; rfl; rfl; (focus (simp (disch := omega) only [go_sem]; try rfl)); rfl; (simp (disch := omega) only [go_sem, W, Bool.false_and, Nat.mul_one]; (with_reducible refine hK _ ?_); clear hK K)) | ((with_reducible refine evL_one ?_ ?_); rfl; intro K hK; (try simp (disch := omega) only [go_sem, W, Bool.false_and, Nat.mul_one]); (repeat (refine ndI (by first | assumption | omega | rfl) ?_)); refine opA_slice_row rfl rfl rfl rfl rfl ?_ rfl rfl rfl rfl ?_ ?_ ?_; (focus (simp only [go_sem]; try rfl)); (intro h; first | rfl | cases h); (first | omega | (dsimp only; omega) | (simp (disch := omega) only [Option.isSome_some, Option.isSome_none]; omega) | (simp; omega) | (focus (simp; done))); (intro q hq1 hq2; (simp (disch := omega) only [go_sem, W, Bool.false_and, Nat.mul_one]; refine hK _ ?_; clear hK K))) | ((with_reducible refine evL_one ?_ ?_); rfl; intro K hK; (try simp (disch := omega) only [go_sem, W, Bool.false_and, Nat.mul_one]); (repeat (refine ndI (by first | assumption | omega | rfl) ?_)); refine opA_slice_cut rfl rfl rfl rfl rfl ?_ rfl rfl rfl rfl ?_ ?_ ?_; (focus (simp only [go_sem]; try rfl)); (intro h; first | rfl | cases h); (first | omega | (dsimp only; omega) | (simp (disch := omega) only [Option.isSome_some, Option.isSome_none]; omega) | (simp; omega) | (focus (simp; done))); (simp (disch := omega) only [go_sem, W, Bool.false_and, Nat.mul_one]; refine hK _ ?_; clear hK K)) | ((with_reducible refine evL_one ?_ ?_); rfl; intro K hK; (try simp (disch := omega) only [go_sem, W, Bool.false_and, Nat.mul_one]); (repeat (refine ndI (by first | assumption | omega | rfl) ?_)); refine opA_index_cut rfl rfl rfl rfl rfl ?_ ?_ ?_; (focus (simp only [go_sem]; try rfl)); (first | omega | (dsimp only; omega) | (simp (disch := omega) only [Option.isSome_some, Option.isSome_none]; omega) | (simp; omega) | (focus (simp; done))); (simp (disch := omega) only [go_sem, W, Bool.false_and, Nat.mul_one]; refine hK _ ?_; clear hK K)) | (with_reducible first | (refine evL_nil ?_; refine hR _ ?_; clear hR R) | ((first | refine evC_seq ?_ | refine evC_block ?_); intro Ψ hΨ hΨ') | (refine evC_region ?_; intro R hR) | (refine hΨ _ ?_; clear hΨ hΨ' Ψ) | refine evC_skip ?_ | refine evC_ret ?_ | refine evC_exit ?_) | ((with_reducible refine hΨ' _ _ ?_ ?_); (focus (simp; done)); clear hΨ hΨ' Ψ) | ((with_reducible apply evC_cond); rfl; rfl; all_goals (intro hc; first | (cases hc; done) | (try simp only at hc))) | ((with_reducible refine evD_nil ?_ ?_); (apply drawOK_sim); (focus (repeat (first | exact Sims.nil | ((apply Sims.cons); (focus (first | ((apply Ef.sim_row); assumption) | exact Ef.sim_refl _)))))); kernel_rfl; (with_reducible refine hR _ ?_); clear hR R) | ((first | ((with_reducible apply evD_fcall); rfl; rfl; ((first | (apply opF_callB (b1); rfl; rfl; rfl; rfl; exact Try.func17) | (apply opF_callB (b2); rfl; rfl; rfl; rfl; exact Try.func18)); kernel_rfl; rfl; (simp (disch := omega) only [go_sem, W, Bool.false_and, Nat.mul_one]; rfl); (first | rfl | simp [AV.inNL, AV.inN]))) | ((with_reducible apply evD_any); rfl; rfl; (simp (disch := omega) only [rdE, rdOf, go_sem, W, Bool.false_and, Nat.mul_one]; rfl); (intro τ hA hQ hN; ((try simp only [agree, Op.operands, Call.operands, go_sem, W, Bool.false_and, Nat.mul_one, go_sem, List.mem_cons, List.not_mem_nil, forall_eq_or_imp, forall_eq, List.append_toArray, Option.toArray] at hA); (try simp only [go_sem, W, Bool.false_and, Nat.mul_one, List.mem_cons, List.not_mem_nil, forall_eq_or_imp, forall_eq] at hQ hN); (first | (revert hA; intro hA) | have hA := trivial); (first | (revert hQ; intro hQ) | have hQ := trivial); (first | (revert hN; intro hN) | have hN := trivial); simp (disch := omega) only [go_sem, W, Bool.false_and, Nat.mul_one, go_sem, hA, hQ, hN]; (repeat (refine ndI (by first | assumption | omega | rfl) ?_)); (first | apply eff_rd | apply eff_st | apply eff_nw)))) | ((first | ((with_reducible apply evD_one); rfl) | ((with_reducible apply evD_grd); rfl; rfl; rfl; rfl)); apply opF_slice_cut; rfl; rfl; rfl; rfl; rfl; (focus (simp only [go_sem]; try rfl)); rfl; rfl; rfl; rfl; (intro h; first | rfl | cases h); (first | omega | (dsimp only; omega) | (simp (disch := omega) only [Option.isSome_some, Option.isSome_none]; omega) | (simp; omega) | (focus (simp; done))))); (simp (disch := omega) only [St.eff, setO, hputs, go_sem, W, Bool.false_and, Nat.mul_one])) | ((with_reducible refine evC_draw ?_ ?_ ?_ ?_); kernel_rfl; kernel_rfl; (simp [newNames, isNew, St.free, freeH, AV.refsL, AV.refs, q1]); intro R hR)))))
    all_goals exact hΨ _ hlt (St.le_of (by simp [leT]) (by simp [leH, hget, cutA]))
  · have k1 : (decide ((i : Int) < (M.length : Int))) = false := decide_eq_false (by omega)
    rw [List.take_of_length_le hge, List.drop_eq_nil_of_le hge, List.append_nil]
    have f5 : ∀ d, AV.refsL d (rcS (M.map cutA)) = false := fun d => refsL_map d _
    (have W := ndI k1 (ndI e4 (ndI e5 (ndI e7 (ndI e8 f5)))); (repeat (any_goals (first | ((with_reducible refine evL_call ?_ ?_ ?_); rfl; rfl; intro K hK; ((first | (apply opA_callB (c4); rfl; rfl; rfl; rfl; exact Try.func19) | (apply opA_callB (c5); rfl; rfl; rfl; rfl; exact Try.func20)); kernel_rfl; rfl; (simp (disch := omega) only [go_sem, W, Bool.false_and]; rfl); (first | rfl | simp [AV.inNL, AV.inN])); (simp (disch := omega) only [go_sem, W, Bool.false_and]; refine hK _ ?_; clear hK K)) | ((with_reducible refine evL_one ?_ ?_); rfl; intro K hK; simp (disch := omega) only [go_sem, W, Bool.false_and]; ((repeat (refine ndI (by first | assumption | omega | rfl) ?_)); refine hK _ ?_; clear hK K)) | ((with_reducible refine evL_one ?_ ?_); rfl; intro K hK; simp (disch := omega) only [go_sem, W, Bool.false_and]; apply opA_cut_nil; rfl; rfl; rfl; rfl; (focus (simp (disch := omega) only [go_sem]; try rfl)); rfl; (simp (disch := omega) only [go_sem, W, Bool.false_and]; (with_reducible refine hK _ ?_); clear hK K)) | ((with_reducible refine evL_one ?_ ?_); rfl; intro K hK; (try simp (disch := omega) only [go_sem, W, Bool.false_and]); (repeat (refine ndI (by first | assumption | omega | rfl) ?_)); refine opA_slice_row rfl rfl rfl rfl rfl ?_ rfl rfl rfl rfl ?_ ?_ ?_; (focus (simp only [go_sem]; try rfl)); (intro h; first | rfl | cases h); (first | omega | (dsimp only; omega) | (simp (disch := omega) only [Option.isSome_some, Option.isSome_none]; omega) | (simp; omega) | (focus (simp; done))); (intro q hq1 hq2; (simp (disch := omega) only [go_sem, W, Bool.false_and]; refine hK _ ?_; clear hK K))) | ((with_reducible refine evL_one ?_ ?_); rfl; intro K hK; (try simp (disch := omega) only [go_sem, W, Bool.false_and]); (repeat (refine ndI (by first | assumption | omega | rfl) ?_)); refine opA_slice_cut rfl rfl rfl rfl rfl ?_ rfl rfl rfl rfl ?_ ?_ ?_; (focus (simp only [go_sem]; try rfl)); (intro h; first | rfl | cases h); (first | omega | (dsimp only; omega) | (simp (disch := omega) only [Option.isSome_some, Option.isSome_none]; omega) | (simp; omega) | (focus (simp; done))); (simp (disch := omega) only [go_sem, W, Bool.false_and]; refine hK _ ?_; clear hK K)) | ((with_reducible refine evL_one ?_ ?_); rfl; intro K hK; (try simp (disch := omega) only [go_sem, W, Bool.false_and]); (repeat (refine ndI (by first | assumption | omega | rfl) ?_)); refine opA_index_cut rfl rfl rfl rfl rfl ?_ ?_ ?_; (focus (simp only [go_sem]; try rfl)); (first | omega | (dsimp only; omega) | (simp (disch := omega) only [Option.isSome_some, Option.isSome_none]; omega) | (simp; omega) | (focus (simp; done))); (simp (disch := omega) only [go_sem, W, Bool.false_and]; refine hK _ ?_; clear hK K)) | (with_reducible first | (refine evL_nil ?_; refine hR _ ?_; clear hR R) | ((first | refine evC_seq ?_ | refine evC_block ?_); intro Ψ hΨ hΨ') | (refine evC_region ?_; intro R hR) | (refine hΨ _ ?_; clear hΨ hΨ' Ψ) | refine evC_skip ?_ | refine evC_ret ?_ | refine evC_exit ?_) | ((with_reducible refine hΨ' _ _ ?_ ?_); (focus (simp; done)); clear hΨ hΨ' Ψ) | ((with_reducible apply evC_cond); rfl; rfl; all_goals (intro hc; first | (cases hc; done) | (try simp only at hc))) | ((with_reducible refine evD_nil ?_ ?_); kernel_rfl; (with_reducible refine hR _ ?_); clear hR R) | ((first | ((with_reducible apply evD_any); rfl; rfl; (simp (disch := omega) only [rdE, rdOf, go_sem, W, Bool.false_and]; rfl); (intro τ hA hQ hN; ((try simp only [agree, Op.operands, Call.operands, go_sem, W, Bool.false_and, go_sem, List.mem_cons, List.not_mem_nil, forall_eq_or_imp, forall_eq, List.append_toArray, Option.toArray] at hA); (try simp only [go_sem, W, Bool.false_and, List.mem_cons, List.not_mem_nil, forall_eq_or_imp, forall_eq] at hQ hN); (first | (revert hA; intro hA) | have hA := trivial); (first | (revert hQ; intro hQ) | have hQ := trivial); (first | (revert hN; intro hN) | have hN := trivial); simp (disch := omega) only [go_sem, W, Bool.false_and, go_sem, hA, hQ, hN]; (repeat (refine ndI (by first | assumption | omega | rfl) ?_)); (first | apply eff_rd | apply eff_st | apply eff_nw)))) | ((first | ((with_reducible apply evD_one); rfl) | ((with_reducible apply evD_grd); rfl; rfl; rfl; rfl)); apply opF_slice_cut; rfl; rfl; rfl; rfl; rfl; (focus (simp only [go_sem]; try rfl)); rfl; rfl; rfl; rfl; (intro h; first | rfl | cases h); (first | omega | (dsimp only; omega) | (simp (disch := omega) only [Option.isSome_some, Option.isSome_none]; omega) | (simp; omega) | (focus (simp; done))))); (simp (disch := omega) only [St.eff, setO, hputs, go_sem, W, Bool.false_and])) | ((with_reducible refine evC_draw ?_ ?_ ?_ ?_); kernel_rfl; kernel_rfl; (first | kernel_rfl | simp [newNames, isNew, St.free, freeH, AV.refsL, AV.refs]); intro R hR)))))
    all_goals (refine ⟨by simp, ⟨_, ?_, AV.le_refl _⟩, leH_get (by simp [leH, hget])⟩; simp only [Try.results6, resL, ldA, oneOf, go_sem])
theorem world_fn (w : Wl) (hw : w.raw) : Fn Try.prog 6 [wlA w] [] (wlA (cutW w)) [] := by
  have k := (world_row w hw).frzN (d := 9) (pcs := (cutW w).S.flatMap Ac.pv) rfl
  have e1 : ((cutW w).S.flatMap Ac.pv).length = (cutW w).S.length * 8 := flat_length ac_len _
  simpa [-List.length_flatMap, e1, AV.frz, AV.frzL, frzH, acV, vi] using k
end Go.Proofs.Ytgdnmdnhkhpieaa
namespace Go.Proofs.Ytgdnmdnhkhpieaa
open Go.RowKit
open Nat (reduceBEq)
set_option maxRecDepth 20000
set_option maxHeartbeats 4000000
def exN (w : Wl) : Nat := if rightW w && decide (owesN w ≤ hasN w) then hasN w - owesN w else 0
def exB (w : Wl) : Bool := rightW w && decide (owesN w ≤ hasN w)
theorem excess_fn (w : Wl) (hw : w.ok) : Fn Try.prog 12 [wlA w] [] (.tup [wN (exN w), vb (exB w)]) [] := by
  have f1 := has_fn w hw
  have f2 := owes_fn w hw
  have f3 := may1_fn false w hw
  have s := sub_fn (hasN w) (owesN w) (hasN_lt hw) (owesN_lt w)
  have e : ¬ hasN w < owesN w → (hasN w + WW - owesN w) % WW = hasN w - owesN w := fun h => by
    have h1 := hasN_lt hw
    rw [show hasN w + WW - owesN w = (hasN w - owesN w) + WW by omega, Nat.add_mod_right, Nat.mod_eq_of_lt (by omega)]
  unfold exN exB
  by_cases h : hasN w < owesN w
  · rw [decide_eq_true h] at s
    rw [decide_eq_false (show ¬ owesN w ≤ hasN w by omega), Bool.and_false]
    simp only [Bool.false_eq_true, if_false]
    generalize (hasN w + WW - owesN w) % WW = m at s
    generalize hasN w = n1 at *
    generalize owesN w = n2 at *
    (refine fn_of Try.func12 rfl (by rfl) ?_; simp only [Try.ntmps12, List.length_cons, List.length_nil, Nat.reduceAdd, Nat.reduceSub, List.replicate, List.cons_append, List.nil_append])
    (repeat (any_goals (first | ((with_reducible refine evL_one ?_ ?_); rfl; intro K hK; simp only [go_sem]; ((repeat (refine ndI (by first | assumption | omega | rfl) ?_)); refine hK _ ?_; clear hK K)) | (with_reducible first | (refine evL_nil ?_; refine hR _ ?_; clear hR R) | ((first | refine evC_seq ?_ | refine evC_block ?_); intro Ψ hΨ hΨ') | (refine evC_region ?_; intro R hR) | (refine hΨ _ ?_; clear hΨ hΨ' Ψ) | refine evC_skip ?_ | refine evC_ret ?_ | refine evC_exit ?_) | ((with_reducible refine hΨ' _ _ ?_ ?_); (focus (simp; done)); clear hΨ hΨ' Ψ) | ((with_reducible apply evL_unmet); rfl; rfl; rfl; (try simp only [go_sem])) | ((with_reducible apply evL_grd); rfl; rfl; rfl; all_goals (intro hb; first | (cases hb; done) | ((try simp only [Bool.not_true, Bool.not_false] at hb); (first | ((with_reducible intro K hK); simp only [go_sem]; ((repeat (refine ndI (by first | assumption | omega | rfl) ?_)); refine hK _ ?_; clear hK K)) | ((fail_if_success (with_reducible intro _)); simp only [go_sem]))))) | ((with_reducible apply evC_cond); rfl; rfl; all_goals (intro hc; first | (cases hc; done) | (try simp only at hc))) | ((with_reducible refine evD_nil ?_ ?_); kernel_rfl; (with_reducible refine hR _ ?_); clear hR R) | ((first | ((with_reducible apply evD_fcall); rfl; rfl; ((first | (apply opF_callB (f1); rfl; rfl; rfl; rfl; exact Try.func26) | (apply opF_callB (f2); rfl; rfl; rfl; rfl; exact Try.func27) | (apply opF_callB (s); rfl; rfl; rfl; rfl; exact Try.func48)); kernel_rfl; rfl; (simp only [go_sem]; rfl); (first | rfl | simp [AV.inNL, AV.inN]))) | ((with_reducible apply evD_any); rfl; rfl; (simp only [rdE, rdOf, go_sem]; rfl); (intro τ hA hQ hN; ((try simp only [agree, Op.operands, Call.operands, go_sem, List.mem_cons, List.not_mem_nil, forall_eq_or_imp, forall_eq, List.append_toArray, Option.toArray] at hA); (try simp only [go_sem, List.mem_cons, List.not_mem_nil, forall_eq_or_imp, forall_eq] at hQ hN); (first | (revert hA; intro hA) | have hA := trivial); (first | (revert hQ; intro hQ) | have hQ := trivial); (first | (revert hN; intro hN) | have hN := trivial); simp only [go_sem, hA, hQ, hN]; (repeat (refine ndI (by first | assumption | omega | rfl) ?_)); (first | apply eff_rd | apply eff_st | apply eff_nw)))) | ((first | ((with_reducible apply evD_new); rfl; rfl; rfl) | ((with_reducible apply evD_grd_new); rfl; rfl; rfl; rfl; rfl; rfl)); (intro τ hA hQ hN; ((try simp only [agree, Op.operands, Call.operands, go_sem, List.mem_cons, List.not_mem_nil, forall_eq_or_imp, forall_eq, List.append_toArray, Option.toArray] at hA); (try simp only [go_sem, List.mem_cons, List.not_mem_nil, forall_eq_or_imp, forall_eq] at hQ); (first | (revert hA; intro hA) | have hA := trivial); (first | (revert hQ; intro hQ) | have hQ := trivial); simp only [go_sem, hA, hQ, hN]; (repeat (refine ndI (by first | assumption | omega | rfl) ?_)); exact eff_nw _ _ _ _)))); (simp only [St.eff, setO, hputs, go_sem])) | ((with_reducible refine evC_draw ?_ ?_ ?_ ?_); kernel_rfl; kernel_rfl; (first | kernel_rfl | simp [newNames, isNew, St.free, freeH, AV.refsL, AV.refs]); intro R hR))))
    all_goals (refine ⟨by simp, ⟨_, ?_, AV.le_refl _⟩, leH_get (by simp [leH, hget])⟩; simp only [Try.results12, resL, ldA, oneOf, go_sem])
    all_goals rfl
  · rw [decide_eq_false h, e h] at s
    rw [decide_eq_true (show owesN w ≤ hasN w by omega), Bool.and_true]
    generalize hasN w - owesN w = m at s ⊢
    generalize hasN w = n1 at *
    generalize owesN w = n2 at *
    generalize rightW w = q at *
    cases q
    all_goals simp only [Bool.false_eq_true, if_false, if_true]
    all_goals (refine fn_of Try.func12 rfl (by rfl) ?_; simp only [Try.ntmps12, List.length_cons, List.length_nil, Nat.reduceAdd, Nat.reduceSub, List.replicate, List.cons_append, List.nil_append])
    all_goals (repeat (any_goals (first | ((with_reducible refine evL_one ?_ ?_); rfl; intro K hK; simp only [go_sem]; ((repeat (refine ndI (by first | assumption | omega | rfl) ?_)); refine hK _ ?_; clear hK K)) | (with_reducible first | (refine evL_nil ?_; refine hR _ ?_; clear hR R) | ((first | refine evC_seq ?_ | refine evC_block ?_); intro Ψ hΨ hΨ') | (refine evC_region ?_; intro R hR) | (refine hΨ _ ?_; clear hΨ hΨ' Ψ) | refine evC_skip ?_ | refine evC_ret ?_ | refine evC_exit ?_) | ((with_reducible refine hΨ' _ _ ?_ ?_); (focus (simp; done)); clear hΨ hΨ' Ψ) | ((with_reducible apply evL_unmet); rfl; rfl; rfl; (try simp only [go_sem])) | ((with_reducible apply evL_grd); rfl; rfl; rfl; all_goals (intro hb; first | (cases hb; done) | ((try simp only [Bool.not_true, Bool.not_false] at hb); (first | ((with_reducible intro K hK); (first | ((apply opA_callv (f3); rfl; rfl; rfl; rfl; exact Try.func22); kernel_rfl; rfl; (focus ((simp only [AV.viewL, AV.view, viewRow, unC, Option.map_some, go_sem]); (try rfl))); rfl) | skip); simp only [go_sem]; ((repeat (refine ndI (by first | assumption | omega | rfl) ?_)); refine hK _ ?_; clear hK K)) | ((fail_if_success (with_reducible intro _)); simp only [go_sem]))))) | ((with_reducible apply evC_cond); rfl; rfl; all_goals (intro hc; first | (cases hc; done) | (try simp only at hc))) | ((with_reducible refine evD_nil ?_ ?_); kernel_rfl; (with_reducible refine hR _ ?_); clear hR R) | ((first | ((with_reducible apply evD_fcall); rfl; rfl; ((first | (apply opF_callB (f1); rfl; rfl; rfl; rfl; exact Try.func26) | (apply opF_callB (f2); rfl; rfl; rfl; rfl; exact Try.func27) | (apply opF_callB (s); rfl; rfl; rfl; rfl; exact Try.func48)); kernel_rfl; rfl; (simp only [go_sem]; rfl); (first | rfl | simp [AV.inNL, AV.inN]))) | ((with_reducible apply evD_any); rfl; rfl; (simp only [rdE, rdOf, go_sem]; rfl); (intro τ hA hQ hN; ((try simp only [agree, Op.operands, Call.operands, go_sem, List.mem_cons, List.not_mem_nil, forall_eq_or_imp, forall_eq, List.append_toArray, Option.toArray] at hA); (try simp only [go_sem, List.mem_cons, List.not_mem_nil, forall_eq_or_imp, forall_eq] at hQ hN); (first | (revert hA; intro hA) | have hA := trivial); (first | (revert hQ; intro hQ) | have hQ := trivial); (first | (revert hN; intro hN) | have hN := trivial); simp only [go_sem, hA, hQ, hN]; (repeat (refine ndI (by first | assumption | omega | rfl) ?_)); (first | apply eff_rd | apply eff_st | apply eff_nw)))) | ((first | ((with_reducible apply evD_new); rfl; rfl; rfl) | ((with_reducible apply evD_grd_new); rfl; rfl; rfl; rfl; rfl; rfl)); (intro τ hA hQ hN; ((try simp only [agree, Op.operands, Call.operands, go_sem, List.mem_cons, List.not_mem_nil, forall_eq_or_imp, forall_eq, List.append_toArray, Option.toArray] at hA); (try simp only [go_sem, List.mem_cons, List.not_mem_nil, forall_eq_or_imp, forall_eq] at hQ); (first | (revert hA; intro hA) | have hA := trivial); (first | (revert hQ; intro hQ) | have hQ := trivial); simp only [go_sem, hA, hQ, hN]; (repeat (refine ndI (by first | assumption | omega | rfl) ?_)); exact eff_nw _ _ _ _)))); (simp only [St.eff, setO, hputs, go_sem])) | ((with_reducible refine evC_draw ?_ ?_ ?_ ?_); kernel_rfl; kernel_rfl; (first | kernel_rfl | simp [newNames, isNew, St.free, freeH, AV.refsL, AV.refs]); intro R hR))))
    all_goals (refine ⟨by simp, ⟨_, ?_, AV.le_refl _⟩, leH_get (by simp [leH, hget])⟩; simp only [Try.results12, resL, ldA, oneOf, go_sem])
    all_goals rfl
theorem findP_lt {l : List lg.Hd} (ok : ∀ h ∈ l, h.ok) (a : Int) : (lg.findP l a).p < WW ∧ (lg.findP l a).s < WW := by
  unfold lg.findP
  split
  · exact ⟨by decide, by decide⟩
  · split
    · unfold lg.findH
      split
      · rename_i y hy
        split
        · have := ok y (List.mem_of_getElem? hy)
          exact ⟨this.2.1, this.2.2.1⟩
        · exact ⟨(by decide : 0 < WW), (by decide : 0 < WW)⟩
      · exact ⟨(by decide : 0 < WW), (by decide : 0 < WW)⟩
    · exact ⟨by decide, by decide⟩
theorem wealth_fn (w : Wl) (hw : w.ok) (a : Int) (ua : U a) : Fn Try.prog 14 [wlA w, vi .u64 a] [] (wN (wealthN w a)) [] := by
  have f1 := may1_fn false w hw
  have f2 := bal_fn w hw a
  have f3 := lg.findF_fn false w.L (Nat.le_trans hw.l.1 (by decide)) hw.l.2 a
  have lt := findP_lt hw.l.2 a
  have sm := sum_fn false [(OfS w.S a).b, (lg.findP w.L a).p, (lg.findP w.L a).s] (by simp) (fun x hx => by
    simp only [List.mem_cons, List.not_mem_nil, or_false] at hx
    rcases hx with rfl | rfl | rfl
    · exact of_lt hw a ua
    · exact lt.1
    · exact lt.2)
  unfold wealthN
  by_cases h0 : a = 0
  · have k0 : (a == 0) = true := by simpa using h0
    rw [if_pos h0]
    (refine fn_of Try.func14 rfl (by rfl) ?_; simp only [Try.ntmps14, List.length_cons, List.length_nil, Nat.reduceAdd, Nat.reduceSub, List.replicate, List.cons_append, List.nil_append])
    (repeat (any_goals (first | ((with_reducible refine evL_one ?_ ?_); rfl; intro K hK; simp only [go_sem, k0]; ((repeat (refine ndI (by first | assumption | omega | rfl) ?_)); refine hK _ ?_; clear hK K)) | (with_reducible first | (refine evL_nil ?_; refine hR _ ?_; clear hR R) | ((first | refine evC_seq ?_ | refine evC_block ?_); intro Ψ hΨ hΨ') | (refine evC_region ?_; intro R hR) | (refine hΨ _ ?_; clear hΨ hΨ' Ψ) | refine evC_skip ?_ | refine evC_ret ?_ | refine evC_exit ?_) | ((with_reducible refine hΨ' _ _ ?_ ?_); (focus (simp; done)); clear hΨ hΨ' Ψ) | ((with_reducible apply evL_unmet); rfl; rfl; rfl; (try simp only [go_sem, k0])) | ((with_reducible apply evL_grd); rfl; rfl; rfl; all_goals (intro hb; first | (cases hb; done) | ((try simp only [Bool.not_true, Bool.not_false] at hb); (first | ((with_reducible intro K hK); simp only [go_sem, k0]; ((repeat (refine ndI (by first | assumption | omega | rfl) ?_)); refine hK _ ?_; clear hK K)) | ((fail_if_success (with_reducible intro _)); simp only [go_sem, k0]))))) | ((with_reducible apply evC_cond); rfl; rfl; all_goals (intro hc; first | (cases hc; done) | (try simp only at hc))) | ((with_reducible refine evD_nil ?_ ?_); kernel_rfl; (with_reducible refine hR _ ?_); clear hR R) | ((first | ((with_reducible apply evD_any); rfl; rfl; (simp only [rdE, rdOf, go_sem, k0]; rfl); (intro τ hA hQ hN; ((try simp only [agree, Op.operands, Call.operands, go_sem, k0, go_sem, List.mem_cons, List.not_mem_nil, forall_eq_or_imp, forall_eq, List.append_toArray, Option.toArray] at hA); (try simp only [go_sem, k0, List.mem_cons, List.not_mem_nil, forall_eq_or_imp, forall_eq] at hQ hN); (first | (revert hA; intro hA) | have hA := trivial); (first | (revert hQ; intro hQ) | have hQ := trivial); (first | (revert hN; intro hN) | have hN := trivial); simp only [go_sem, k0, go_sem, hA, hQ, hN]; (repeat (refine ndI (by first | assumption | omega | rfl) ?_)); (first | apply eff_rd | apply eff_st | apply eff_nw)))) | ((first | ((with_reducible apply evD_new); rfl; rfl; rfl) | ((with_reducible apply evD_grd_new); rfl; rfl; rfl; rfl; rfl; rfl)); (intro τ hA hQ hN; ((try simp only [agree, Op.operands, Call.operands, go_sem, k0, go_sem, List.mem_cons, List.not_mem_nil, forall_eq_or_imp, forall_eq, List.append_toArray, Option.toArray] at hA); (try simp only [go_sem, k0, List.mem_cons, List.not_mem_nil, forall_eq_or_imp, forall_eq] at hQ); (first | (revert hA; intro hA) | have hA := trivial); (first | (revert hQ; intro hQ) | have hQ := trivial); simp only [go_sem, k0, go_sem, hA, hQ, hN]; (repeat (refine ndI (by first | assumption | omega | rfl) ?_)); exact eff_nw _ _ _ _)))); (simp only [St.eff, setO, hputs, go_sem, k0])) | ((with_reducible refine evC_draw ?_ ?_ ?_ ?_); kernel_rfl; kernel_rfl; (first | kernel_rfl | simp [newNames, isNew, St.free, freeH, AV.refsL, AV.refs]); intro R hR))))
    all_goals (refine ⟨by simp, ⟨_, ?_, AV.le_refl _⟩, leH_get (by simp [leH, hget])⟩; simp only [Try.results14, resL, ldA, oneOf, go_sem])
    all_goals rfl
  have k0 : (a == 0) = false := by simpa using h0
  rw [if_neg h0]
  generalize rightW w = q at *
  cases q with
  | false =>
    simp only [Bool.false_eq_true, if_false]
    (refine fn_of Try.func14 rfl (by rfl) ?_; simp only [Try.ntmps14, List.length_cons, List.length_nil, Nat.reduceAdd, Nat.reduceSub, List.replicate, List.cons_append, List.nil_append])
    (repeat (any_goals (first | ((with_reducible refine evL_one ?_ ?_); rfl; intro K hK; simp only [go_sem, k0]; ((repeat (refine ndI (by first | assumption | omega | rfl) ?_)); refine hK _ ?_; clear hK K)) | (with_reducible first | (refine evL_nil ?_; refine hR _ ?_; clear hR R) | ((first | refine evC_seq ?_ | refine evC_block ?_); intro Ψ hΨ hΨ') | (refine evC_region ?_; intro R hR) | (refine hΨ _ ?_; clear hΨ hΨ' Ψ) | refine evC_skip ?_ | refine evC_ret ?_ | refine evC_exit ?_) | ((with_reducible refine hΨ' _ _ ?_ ?_); (focus (simp; done)); clear hΨ hΨ' Ψ) | ((with_reducible apply evL_unmet); rfl; rfl; rfl; (try simp only [go_sem, k0])) | ((with_reducible apply evL_grd); rfl; rfl; rfl; all_goals (intro hb; first | (cases hb; done) | ((try simp only [Bool.not_true, Bool.not_false] at hb); (first | ((with_reducible intro K hK); (first | ((apply opA_callv (f1); rfl; rfl; rfl; rfl; exact Try.func22); kernel_rfl; rfl; (focus ((simp only [AV.viewL, AV.view, viewRow, unC, Option.map_some, go_sem, k0]); (try rfl))); rfl) | skip); simp only [go_sem, k0]; ((repeat (refine ndI (by first | assumption | omega | rfl) ?_)); refine hK _ ?_; clear hK K)) | ((fail_if_success (with_reducible intro _)); simp only [go_sem, k0]))))) | ((with_reducible apply evC_cond); rfl; rfl; all_goals (intro hc; first | (cases hc; done) | (try simp only at hc))) | ((with_reducible refine evD_nil ?_ ?_); kernel_rfl; (with_reducible refine hR _ ?_); clear hR R) | ((first | ((with_reducible apply evD_any); rfl; rfl; (simp only [rdE, rdOf, go_sem, k0]; rfl); (intro τ hA hQ hN; ((try simp only [agree, Op.operands, Call.operands, go_sem, k0, go_sem, List.mem_cons, List.not_mem_nil, forall_eq_or_imp, forall_eq, List.append_toArray, Option.toArray] at hA); (try simp only [go_sem, k0, List.mem_cons, List.not_mem_nil, forall_eq_or_imp, forall_eq] at hQ hN); (first | (revert hA; intro hA) | have hA := trivial); (first | (revert hQ; intro hQ) | have hQ := trivial); (first | (revert hN; intro hN) | have hN := trivial); simp only [go_sem, k0, go_sem, hA, hQ, hN]; (repeat (refine ndI (by first | assumption | omega | rfl) ?_)); (first | apply eff_rd | apply eff_st | apply eff_nw)))) | ((first | ((with_reducible apply evD_new); rfl; rfl; rfl) | ((with_reducible apply evD_grd_new); rfl; rfl; rfl; rfl; rfl; rfl)); (intro τ hA hQ hN; ((try simp only [agree, Op.operands, Call.operands, go_sem, k0, go_sem, List.mem_cons, List.not_mem_nil, forall_eq_or_imp, forall_eq, List.append_toArray, Option.toArray] at hA); (try simp only [go_sem, k0, List.mem_cons, List.not_mem_nil, forall_eq_or_imp, forall_eq] at hQ); (first | (revert hA; intro hA) | have hA := trivial); (first | (revert hQ; intro hQ) | have hQ := trivial); simp only [go_sem, k0, go_sem, hA, hQ, hN]; (repeat (refine ndI (by first | assumption | omega | rfl) ?_)); exact eff_nw _ _ _ _)))); (simp only [St.eff, setO, hputs, go_sem, k0])) | ((with_reducible refine evC_draw ?_ ?_ ?_ ?_); kernel_rfl; kernel_rfl; (first | kernel_rfl | simp [newNames, isNew, St.free, freeH, AV.refsL, AV.refs]); intro R hR))))
    all_goals (refine ⟨by simp, ⟨_, ?_, AV.le_refl _⟩, leH_get (by simp [leH, hget])⟩; simp only [Try.results14, resL, ldA, oneOf, go_sem])
    all_goals rfl
  | true =>
    simp only [if_true]
    generalize [(OfS w.S a).b, (lg.findP w.L a).p, (lg.findP w.L a).s].sum % WW = m at sm ⊢
    generalize decide (WW ≤ [(OfS w.S a).b, (lg.findP w.L a).p, (lg.findP w.L a).s].sum) = qo at sm
    generalize (OfS w.S a).b = n1 at *
    generalize lg.findP w.L a = h at *
    obtain ⟨ha, hp, hs, hd, hf⟩ := h
    dsimp only at *
    unfold wsl wpv at sm
    simp only [List.flatMap_cons, List.flatMap_nil, List.cons_append, List.nil_append, List.length_cons, List.length_nil, Nat.reduceAdd] at sm
    (refine fn_of Try.func14 rfl (by rfl) ?_; simp only [Try.ntmps14, List.length_cons, List.length_nil, Nat.reduceAdd, Nat.reduceSub, List.replicate, List.cons_append, List.nil_append])
    (repeat (any_goals (first | ((with_reducible refine evL_call ?_ ?_ ?_); rfl; rfl; intro K hK; ((apply opA_callB (f3); rfl; rfl; rfl; rfl; exact Try.func49); kernel_rfl; rfl; (simp only [go_sem, k0]; rfl); (first | rfl | simp [AV.inNL, AV.inN])); (simp only [go_sem, k0]; refine hK _ ?_; clear hK K)) | ((with_reducible refine evL_one ?_ ?_); rfl; intro K hK; simp only [go_sem, k0]; ((repeat (refine ndI (by first | assumption | omega | rfl) ?_)); refine hK _ ?_; clear hK K)) | (with_reducible first | (refine evL_nil ?_; refine hR _ ?_; clear hR R) | ((first | refine evC_seq ?_ | refine evC_block ?_); intro Ψ hΨ hΨ') | (refine evC_region ?_; intro R hR) | (refine hΨ _ ?_; clear hΨ hΨ' Ψ) | refine evC_skip ?_ | refine evC_ret ?_ | refine evC_exit ?_) | ((with_reducible refine hΨ' _ _ ?_ ?_); (focus (simp; done)); clear hΨ hΨ' Ψ) | ((with_reducible apply evL_unmet); rfl; rfl; rfl; (try simp only [go_sem, k0])) | ((with_reducible apply evL_grd); rfl; rfl; rfl; all_goals (intro hb; first | (cases hb; done) | ((try simp only [Bool.not_true, Bool.not_false] at hb); (first | ((with_reducible intro K hK); (first | ((apply opA_callv (f1); rfl; rfl; rfl; rfl; exact Try.func22); kernel_rfl; rfl; (focus ((simp only [AV.viewL, AV.view, viewRow, unC, Option.map_some, go_sem, k0]); (try rfl))); rfl) | skip); simp only [go_sem, k0]; ((repeat (refine ndI (by first | assumption | omega | rfl) ?_)); refine hK _ ?_; clear hK K)) | ((fail_if_success (with_reducible intro _)); simp only [go_sem, k0]))))) | ((with_reducible apply evC_cond); rfl; rfl; all_goals (intro hc; first | (cases hc; done) | (try simp only at hc))) | ((with_reducible refine evD_nil ?_ ?_); kernel_rfl; (with_reducible refine hR _ ?_); clear hR R) | ((first | ((with_reducible apply evD_fcall); rfl; rfl; (first | ((apply opF_callB (f2); rfl; rfl; rfl; rfl; exact Try.func36); kernel_rfl; rfl; (simp only [go_sem, k0]; rfl); (first | rfl | simp [AV.inNL, AV.inN])) | ((apply opF_callv (sm); rfl; rfl; rfl; rfl; exact Try.func34); kernel_rfl; rfl; (focus ((simp only [AV.viewL, AV.view, viewRow, unC, Option.map_some, go_sem, k0]); (try rfl))); rfl; (simp only [AV.rowsL, AV.rows, go_sem, k0]; rfl)))) | ((with_reducible apply evD_any); rfl; rfl; (simp only [rdE, rdOf, go_sem, k0]; rfl); (intro τ hA hQ hN; ((try simp only [agree, Op.operands, Call.operands, go_sem, k0, go_sem, List.mem_cons, List.not_mem_nil, forall_eq_or_imp, forall_eq, List.append_toArray, Option.toArray] at hA); (try simp only [go_sem, k0, List.mem_cons, List.not_mem_nil, forall_eq_or_imp, forall_eq] at hQ hN); (first | (revert hA; intro hA) | have hA := trivial); (first | (revert hQ; intro hQ) | have hQ := trivial); (first | (revert hN; intro hN) | have hN := trivial); simp only [go_sem, k0, go_sem, hA, hQ, hN]; (repeat (refine ndI (by first | assumption | omega | rfl) ?_)); (first | apply eff_rd | apply eff_st | apply eff_nw)))) | ((first | ((with_reducible apply evD_new); rfl; rfl; rfl) | ((with_reducible apply evD_grd_new); rfl; rfl; rfl; rfl; rfl; rfl)); (intro τ hA hQ hN; ((try simp only [agree, Op.operands, Call.operands, go_sem, k0, go_sem, List.mem_cons, List.not_mem_nil, forall_eq_or_imp, forall_eq, List.append_toArray, Option.toArray] at hA); (try simp only [go_sem, k0, List.mem_cons, List.not_mem_nil, forall_eq_or_imp, forall_eq] at hQ); (first | (revert hA; intro hA) | have hA := trivial); (first | (revert hQ; intro hQ) | have hQ := trivial); simp only [go_sem, k0, go_sem, hA, hQ, hN]; (repeat (refine ndI (by first | assumption | omega | rfl) ?_)); exact eff_nw _ _ _ _)))); (simp only [St.eff, setO, hputs, go_sem, k0])) | ((with_reducible refine evC_draw ?_ ?_ ?_ ?_); kernel_rfl; kernel_rfl; (first | kernel_rfl | simp [newNames, isNew, St.free, freeH, AV.refsL, AV.refs]); intro R hR))))
    all_goals (refine ⟨by simp, ⟨_, ?_, AV.le_refl _⟩, leH_get (by simp [leH, hget])⟩; simp only [Try.results14, resL, ldA, oneOf, go_sem])
end Go.Proofs.Ytgdnmdnhkhpieaa
