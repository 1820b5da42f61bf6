/-
  What the document has of states: which may be, what is found, whether there is room, what a slot holds; reckoned.
-/
import Derived.Test.YtcbaaibkkfnfmaaVa
namespace Go.Proofs.Ytcbaaibkkfnfmaa
open Go.RowKit
open Nat (reduceBEq)
set_option linter.unusedVariables false
set_option linter.unusedSimpArgs false
set_option maxRecDepth 20000
set_option maxHeartbeats 2000000
theorem rfits_fn (ex : Bool) (L : List Ac) (hL : L.length ≤ 1000) (ok : ∀ x ∈ L, x.b < WW) : Fn Try.prog 26 [acS ex L] [] (vb (!decide (WW ≤ (L.map Ac.b).sum))) [] := by
  have tt := rtotal_fn ex L hL ok
  generalize (L.map Ac.b).sum % WW = n at tt
  generalize decide (WW ≤ (L.map Ac.b).sum) = q at tt ⊢
  (refine fn_of Try.func26 rfl (by rfl) ?_; simp only [Try.ntmps26, List.length_cons, List.length_nil, Nat.reduceAdd, Nat.reduceSub, List.replicate, List.cons_append, List.nil_append])
  (repeat (any_goals (first | ((with_reducible refine evL_call ?_ ?_ ?_); rfl; rfl; intro K hK; ((apply opA_callB (tt); rfl; rfl; rfl; rfl; exact Try.func10); kernel_rfl; rfl; (simp only [go_sem]; rfl); (simp only [AV.inNL, AV.inN, inNL_map, Bool.and_true])); (simp only [go_sem]; (with_reducible refine hK _ ?_); clear hK K)) | ((with_reducible refine evL_one ?_ ?_); rfl; intro K hK; simp only [go_sem]; ((repeat (refine And.intro (by first | assumption | omega | rfl) ?_)); (with_reducible refine hK _ ?_); clear hK K)) | ((with_reducible refine evL_nil ?_); (with_reducible refine hR _ ?_); clear hR R) | ((with_reducible first | refine evC_seq ?_ | refine evC_block ?_); intro Ψ hΨ hΨ') | ((with_reducible refine evC_region ?_); intro R hR) | ((with_reducible refine hΨ _ ?_); clear hΨ hΨ' Ψ) | ((with_reducible refine hΨ' _ _ ?_ ?_); (focus (first | ((intro hx; cases hx); done) | ((intro j hj; cases hj); done) | (intro j hj; cases hj; (decide); done))); clear hΨ hΨ' Ψ) | (with_reducible first | refine evC_skip ?_ | refine evC_ret ?_ | refine evC_exit ?_) | ((with_reducible apply evC_cond); rfl; rfl; all_goals (intro hc; first | (exact absurd hc (by decide)) | (try simp only at hc))))))
  all_goals (refine ⟨by simp, ⟨_, ?_, AV.le_refl _⟩, leH_get (by simp [leH, hget])⟩; simp only [Try.results26, resL, ldA, oneOf, go_sem])
theorem rempty_fn (x : Ac) (hb : x.b < WW) : Fn Try.prog 24 [acA x] [] (vb (emptyA x)) [] := by
  obtain ⟨a, b, n, code, store⟩ := x
  dsimp only at hb
  unfold emptyA
  dsimp only
  obtain ⟨q1, e1⟩ : ∃ p, decide (b = 0) = p := ⟨_, rfl⟩
  obtain ⟨q2, e2⟩ : ∃ p, decide (n = 0) = p := ⟨_, rfl⟩
  obtain ⟨q3, e3⟩ : ∃ p, decide (code.length = 0) = p := ⟨_, rfl⟩
  obtain ⟨q4, e4⟩ : ∃ p, decide (store.length = 0) = p := ⟨_, rfl⟩
  have f1 : (l0 b == 0 && (l1 b == 0 && (l2 b == 0 && l3 b == 0))) = q1 := by rw [← e1, wN_zero hb]
  have f2 : (n == 0) = q2 := by rw [← e2]; by_cases h : n = 0 <;> simp [h]
  have f3 : ((code.length : Int) == 0) = q3 := by rw [← e3]; by_cases h : code.length = 0 <;> simp [h]
  have f4 : ((store.length : Int) == 0) = q4 := by rw [← e4]; by_cases h : store.length = 0 <;> simp [h]
  have f5 : decide (code.length + store.length = 0) = (q3 && q4) := by
    rw [← e3, ← e4, Bool.eq_iff_iff]
    simp only [Bool.and_eq_true, decide_eq_true_eq]
    omega
  rw [e1, e2, f5]
  clear e1 e2 e3 e4 f5
  cases q1 <;> cases q2 <;> cases q3 <;> cases q4
  all_goals (refine fn_of Try.func24 rfl (by rfl) ?_; simp only [Try.ntmps24, List.length_cons, List.length_nil, Nat.reduceAdd, Nat.reduceSub, List.replicate, List.cons_append, List.nil_append])
  all_goals (repeat (any_goals (first | ((with_reducible refine evL_one ?_ ?_); rfl; intro K hK; simp only [go_sem, f1, f2, f3, f4, go_sem]; ((repeat (refine And.intro (by first | assumption | omega | rfl) ?_)); (with_reducible refine hK _ ?_); clear hK K)) | ((with_reducible refine evL_nil ?_); (with_reducible refine hR _ ?_); clear hR R) | ((with_reducible first | refine evC_seq ?_ | refine evC_block ?_); intro Ψ hΨ hΨ') | ((with_reducible refine evC_region ?_); intro R hR) | ((with_reducible refine hΨ _ ?_); clear hΨ hΨ' Ψ) | ((with_reducible refine hΨ' _ _ ?_ ?_); (focus (first | ((intro hx; cases hx); done) | ((intro j hj; cases hj); done) | (intro j hj; cases hj; (decide); done))); clear hΨ hΨ' Ψ) | (with_reducible first | refine evC_skip ?_ | refine evC_ret ?_ | refine evC_exit ?_) | ((with_reducible apply evL_unmet); rfl; rfl; rfl; (try simp only [go_sem, f1, f2, f3, f4, go_sem])) | ((with_reducible apply evL_grd); rfl; rfl; rfl; all_goals (intro hb; first | (exact absurd hb (by decide)) | ((try simp only [Bool.not_true, Bool.not_false] at hb); (first | ((with_reducible intro K hK); simp only [go_sem, f1, f2, f3, f4, go_sem]; ((repeat (refine And.intro (by first | assumption | omega | rfl) ?_)); (with_reducible refine hK _ ?_); clear hK K)) | ((fail_if_success (with_reducible intro _)); simp only [go_sem, f1, f2, f3, f4, go_sem]))))) | ((with_reducible apply evC_cond); rfl; rfl; all_goals (intro hc; first | (exact absurd hc (by decide)) | (try simp only at hc))))))
  all_goals (refine ⟨by simp, ⟨_, ?_, AV.le_refl _⟩, leH_get (by simp [leH, hget])⟩; simp only [Try.results24, resL, ldA, oneOf, go_sem])
  all_goals rfl
theorem okS_eq {q : Bool} {L : List Ac} : ∀ i, okS q L i = (q && okS true L i)
  | 0 => by simp [okS]
  | i + 1 => by
    unfold okS
    rw [okS_eq i, Bool.and_assoc]
theorem rright_fn (ex : Bool) (L : List Ac) (hL : Okl L) : Fn Try.prog 6 [stA ex L] [] (vb (okSt L)) [] := by
  have hl := hL.1
  have mn := rmany_fn ex L (by unfold maxLen; omega)
  have ft := rfits_fn ex L (by omega) (fun x hx => (hL.2 x hx).1.2.1)
  unfold okSt
  rw [okS_eq]
  obtain ⟨q1, e1⟩ : ∃ p, decide (WW ≤ (L.map Ac.b).sum) = p := ⟨_, rfl⟩
  obtain ⟨q2, e2⟩ : ∃ p, decide (manyL L ≤ 24) = p := ⟨_, rfl⟩
  have e3 : decide (((manyL L : Nat) : Int) ≤ 24) = q2 := by rw [← e2]; exact decide_eq_decide.2 (by omega)
  rw [e1] at ft
  rw [e1, e2]
  clear e1 e2
  obtain ⟨rr, hrr⟩ : ∃ r, okS true L L.length = r := ⟨_, rfl⟩
  rw [hrr]
  (refine fn_of Try.func6 rfl (by rfl) ?_; simp only [Try.ntmps6, List.length_cons, List.length_nil, Nat.reduceAdd, Nat.reduceSub, List.replicate, List.cons_append, List.nil_append])
  (repeat (any_goals (first | ((with_reducible refine evL_one ?_ ?_); rfl; intro K hK; simp only [go_sem]; ((repeat (refine And.intro (by first | assumption | omega | rfl) ?_)); (with_reducible refine hK _ ?_); clear hK K)) | ((with_reducible refine evL_nil ?_); (with_reducible refine hR _ ?_); clear hR R) | ((with_reducible first | refine evC_seq ?_ | refine evC_block ?_); intro Ψ hΨ hΨ') | ((with_reducible refine evC_region ?_); intro R hR) | ((with_reducible refine hΨ _ ?_); clear hΨ hΨ' Ψ) | ((with_reducible refine hΨ' _ _ ?_ ?_); (focus (first | ((intro hx; cases hx); done) | ((intro j hj; cases hj); done) | (intro j hj; cases hj; (decide); done))); clear hΨ hΨ' Ψ) | (with_reducible first | refine evC_skip ?_ | refine evC_ret ?_ | refine evC_exit ?_) | ((with_reducible apply evL_unmet); rfl; rfl; rfl; (try simp only [go_sem])) | ((with_reducible apply evL_grd); rfl; rfl; rfl; all_goals (intro hb; first | (exact absurd hb (by decide)) | ((try simp only [Bool.not_true, Bool.not_false] at hb); (first | ((with_reducible intro K hK); simp only [go_sem]; ((repeat (refine And.intro (by first | assumption | omega | rfl) ?_)); (with_reducible refine hK _ ?_); clear hK K)) | ((fail_if_success (with_reducible intro _)); simp only [go_sem]))))) | ((with_reducible apply evC_cond); rfl; rfl; all_goals (intro hc; first | (exact absurd hc (by decide)) | (try simp only at hc))) | ((with_reducible refine evD_nil ?_ ?_); kernel_rfl; (with_reducible refine hR _ ?_); clear hR R) | ((first | ((with_reducible apply evD_skip); rfl; rfl; rfl; rfl) | ((with_reducible apply evD_unmet); rfl; rfl; rfl) | ((first | ((with_reducible apply evD_any); rfl; rfl) | ((with_reducible apply evD_gany); rfl; rfl; rfl; rfl; rfl)); (simp only [rdE, rdOf, go_sem]; rfl); (intro τ hA hQ hN; ((try simp only [agree, Op.operands, Call.operands, go_sem, List.mem_cons, List.not_mem_nil, forall_eq_or_imp, forall_eq, List.append_toArray, Option.toArray] at hA); (try simp only [go_sem, List.mem_cons, List.not_mem_nil, forall_eq_or_imp, forall_eq] at hQ hN); (first | (revert hA; intro hA) | (have hA := True.intro)); (first | (revert hQ; intro hQ) | (have hQ := True.intro)); (first | (revert hN; intro hN) | (have hN := True.intro)); simp only [go_sem, hA, hQ, hN]; (repeat (refine And.intro (by first | assumption | omega | rfl) ?_)); (first | exact eff_rd _ _ _ | exact eff_st _ _ _ | exact eff_nw _ _ _ _))))); (simp only [St.eff, setO, hputs, go_sem])) | ((with_reducible apply evD_split); rfl; rfl; rfl; all_goals intro hb; all_goals (simp only [St.eff, setO, hputs, go_sem])) | ((with_reducible refine evC_draw ?_ ?_ ?_ ?_); kernel_rfl; kernel_rfl; (first | kernel_rfl | simp [newNames, isNew, St.free, freeH, AV.refsL, AV.refs]); intro R hR))))
  refine evC_loop (α := { i : Nat // i ≤ L.length ∧ okS true L i = true }) (fun x => ⟨[.any, .ptr 1 0, vb false, .any, .any, .any, acS ex L, vi .i64 L.length, vi .i64 (x.1 : Int), .any, .any, .any, .any, .any, .any, .any, .any, .any, .any, .any, .any, .any, .any, .any, .any, .any, .any, .any, .any, .any, .any, .any, .any, .any, .any, .any, .any, .any, .any, .any, .any, .any, .any, .any, .any, .any], [(1, [acS ex L])]⟩) (fun x => L.length - x.1) ⟨0, Nat.zero_le _, rfl⟩ (St.le_of (by simp [leT]) (by simp [leH, hget])) ?_
  rintro ⟨i, hi, hok⟩ Ψ hΨ hΨ'
  (try dsimp only at hΨ ⊢)
  have k7 : (i : Int) + 1 = ((i + 1 : Nat) : Int) := by omega
  rcases Nat.lt_or_ge i L.length with hlt | hge
  · obtain ⟨x, hx⟩ : ∃ x, L[i]? = some x := ⟨_, List.getElem?_eq_getElem hlt⟩
    have k1 : (decide ((i : Int) < (L.length : Int))) = true := decide_eq_true (by omega)
    have k2 := ac_at hx
    have xo := hL.2 x (List.mem_of_getElem? hx)
    have ra := right_fn x xo.1.2.2.2.2.2
    have em := rempty_fn x xo.1.2.1
    obtain ⟨q3, hq3⟩ : ∃ q, okAc x = q := ⟨_, rfl⟩
    obtain ⟨q4, hq4⟩ : ∃ q, emptyA x = q := ⟨_, rfl⟩
    rw [hq3] at ra
    rw [hq4] at em
    have hnx : okS true L (i + 1) = okS1 L i := by show (okS true L i && okS1 L i) = _; rw [hok, Bool.true_and]
    have hno : okS1 L i = false → rr = false := fun h => by
      rw [← hrr]
      exact okS_no (by rw [hnx]; exact h) L.length hlt
    have hΨ1 := fun (h : okS1 L i = true) σ' => hΨ σ' ⟨i + 1, hlt, by rw [hnx]; exact h⟩ (by dsimp only; omega)
    dsimp only at hΨ1
    rcases Nat.eq_zero_or_pos i with h0 | h0
    · have n3 : (decide ((i : Int) > 0)) = false := by simp; omega
      have hok' : okS1 L i = (q3 && !q4) := by
        rw [h0] at hx ⊢
        rw [okS1_zero hx, hq3, hq4]
      rw [hok'] at hno hΨ1
      cases q3 <;> cases q4
      all_goals first | (have hrf := hno rfl; clear hΨ1) | skip
      all_goals (repeat (any_goals (first | ((with_reducible refine evL_call ?_ ?_ ?_); rfl; rfl; intro K hK; ((first | (apply opA_callB (ra); rfl; rfl; rfl; rfl; exact Try.func23) | (apply opA_callB (em); rfl; rfl; rfl; rfl; exact Try.func24)); kernel_rfl; rfl; (simp (disch := omega) only [go_sem, k1, k2, k7, n3, wrI]; rfl); (simp (disch := omega) only [AV.inNL, AV.inN, inNL_map, Bool.and_true])); (simp (disch := omega) only [go_sem, k1, k2, k7, n3, wrI, go_sem]; (with_reducible refine hK _ ?_); clear hK K)) | ((with_reducible refine evL_one ?_ ?_); rfl; intro K hK; simp (disch := omega) only [go_sem, k1, k2, k7, n3, wrI, go_sem]; ((repeat (refine And.intro (by first | assumption | omega | rfl) ?_)); (with_reducible refine hK _ ?_); clear hK K)) | ((with_reducible refine evL_nil ?_); (with_reducible refine hR _ ?_); clear hR R) | ((with_reducible first | refine evC_seq ?_ | refine evC_block ?_); intro Ψ hΨ hΨ') | ((with_reducible refine evC_region ?_); intro R hR) | ((with_reducible refine hΨ _ ?_); clear hΨ hΨ' Ψ) | ((with_reducible refine hΨ' _ _ ?_ ?_); (focus (first | ((intro hx; cases hx); done) | ((intro j hj; cases hj); done) | (intro j hj; cases hj; (decide); done))); clear hΨ hΨ' Ψ) | (with_reducible first | refine evC_skip ?_ | refine evC_ret ?_ | refine evC_exit ?_) | ((with_reducible apply evL_unmet); rfl; rfl; rfl; (try simp (disch := omega) only [go_sem, k1, k2, k7, n3, wrI, go_sem])) | ((with_reducible apply evL_grd); rfl; rfl; rfl; all_goals (intro hb; first | (exact absurd hb (by decide)) | ((try simp (disch := omega) only [Bool.not_true, Bool.not_false] at hb); (first | ((with_reducible intro K hK); simp (disch := omega) only [go_sem, k1, k2, k7, n3, wrI, go_sem]; ((repeat (refine And.intro (by first | assumption | omega | rfl) ?_)); (with_reducible refine hK _ ?_); clear hK K)) | ((fail_if_success (with_reducible intro _)); simp (disch := omega) only [go_sem, k1, k2, k7, n3, wrI, go_sem]))))) | ((with_reducible apply evC_cond); rfl; rfl; all_goals (intro hc; first | (exact absurd hc (by decide)) | (try simp only at hc))) | ((with_reducible refine evD_nil ?_ ?_); kernel_rfl; (with_reducible refine hR _ ?_); clear hR R) | ((first | ((with_reducible apply evD_skip); rfl; rfl; rfl; rfl) | ((with_reducible apply evD_unmet); rfl; rfl; rfl) | ((first | ((with_reducible apply evD_fcall); rfl; rfl) | ((with_reducible apply evD_gcall); rfl; rfl; rfl; rfl; rfl)); ((first | (apply opF_callB (ra); rfl; rfl; rfl; rfl; exact Try.func23) | (apply opF_callB (em); rfl; rfl; rfl; rfl; exact Try.func24)); kernel_rfl; rfl; (simp (disch := omega) only [go_sem, k1, k2, k7, n3, wrI]; rfl); (simp (disch := omega) only [AV.inNL, AV.inN, inNL_map, Bool.and_true]))) | ((first | ((with_reducible apply evD_any); rfl; rfl) | ((with_reducible apply evD_gany); rfl; rfl; rfl; rfl; rfl)); (simp (disch := omega) only [rdE, rdOf, go_sem, k1, k2, k7, n3, wrI]; rfl); (intro τ hA hQ hN; ((try simp (disch := omega) only [agree, Op.operands, Call.operands, go_sem, k1, k2, k7, n3, wrI, go_sem, List.mem_cons, List.not_mem_nil, forall_eq_or_imp, forall_eq, List.append_toArray, Option.toArray] at hA); (try simp (disch := omega) only [go_sem, k1, k2, k7, n3, wrI, List.mem_cons, List.not_mem_nil, forall_eq_or_imp, forall_eq] at hQ hN); (first | (revert hA; intro hA) | (have hA := True.intro)); (first | (revert hQ; intro hQ) | (have hQ := True.intro)); (first | (revert hN; intro hN) | (have hN := True.intro)); simp (disch := omega) only [go_sem, k1, k2, k7, n3, wrI, go_sem, hA, hQ, hN]; (repeat (refine And.intro (by first | assumption | omega | rfl) ?_)); (first | exact eff_rd _ _ _ | exact eff_st _ _ _ | exact eff_nw _ _ _ _))))); (simp (disch := omega) only [St.eff, setO, hputs, go_sem, k1, k2, k7, n3, wrI])) | ((with_reducible apply evD_split); rfl; rfl; rfl; all_goals intro hb; all_goals (simp (disch := omega) only [St.eff, setO, hputs, go_sem, k1, k2, k7, n3, wrI])) | ((with_reducible refine evC_draw ?_ ?_ ?_ ?_); kernel_rfl; kernel_rfl; (first | kernel_rfl | simp [newNames, isNew, St.free, freeH, AV.refsL, AV.refs]); intro R hR))))
      all_goals first | exact hΨ1 rfl _ (St.le_of (by simp [leT]) (by simp [leH, hget])) | (rw [hrf]; (refine ⟨by simp, ⟨_, ?_, AV.le_refl _⟩, leH_get (by simp [leH, hget])⟩; simp only [Try.results6, resL, ldA, oneOf, go_sem]); simp)
    · obtain ⟨j, hj⟩ : ∃ j, i = j + 1 := ⟨i - 1, by omega⟩
      obtain ⟨q, hq⟩ : ∃ q, L[j]? = some q := ⟨_, List.getElem?_eq_getElem (by omega)⟩
      have n3 : (decide ((i : Int) > 0)) = true := by simp; omega
      have n4 := ac_at hq
      have n5 : (i : Int) - 1 = (j : Int) := by omega
      have hjl : j < L.length := by omega
      obtain ⟨q5, hq5⟩ : ∃ c, decide (q.a < x.a) = c := ⟨_, rfl⟩
      have hge : decide (q.a ≥ x.a) = !q5 := by
        rw [← hq5]
        by_cases h : q.a < x.a
        · rw [decide_eq_true h, decide_eq_false (by omega)]; rfl
        · rw [decide_eq_false h, decide_eq_true (by omega)]; rfl
      have hok' : okS1 L i = (q3 && !q4 && q5) := by
        rw [hj] at hx ⊢
        rw [okS1_succ hq hx, hq3, hq4, hq5]
      rw [hok'] at hno hΨ1
      cases q3 <;> cases q4 <;> cases q5
      all_goals simp only [Bool.not_true, Bool.not_false] at hge
      all_goals first | (have hrf := hno rfl; clear hΨ1) | skip
      all_goals (repeat (any_goals (first | ((with_reducible refine evL_call ?_ ?_ ?_); rfl; rfl; intro K hK; ((first | (apply opA_callB (ra); rfl; rfl; rfl; rfl; exact Try.func23) | (apply opA_callB (em); rfl; rfl; rfl; rfl; exact Try.func24)); kernel_rfl; rfl; (simp (disch := omega) only [go_sem, k1, k2, k7, n3, n4, n5, hge, wrI]; rfl); (simp (disch := omega) only [AV.inNL, AV.inN, inNL_map, Bool.and_true])); (simp (disch := omega) only [go_sem, k1, k2, k7, n3, n4, n5, hge, wrI, go_sem]; (with_reducible refine hK _ ?_); clear hK K)) | ((with_reducible refine evL_one ?_ ?_); rfl; intro K hK; simp (disch := omega) only [go_sem, k1, k2, k7, n3, n4, n5, hge, wrI, go_sem]; ((repeat (refine And.intro (by first | assumption | omega | rfl) ?_)); (with_reducible refine hK _ ?_); clear hK K)) | ((with_reducible refine evL_nil ?_); (with_reducible refine hR _ ?_); clear hR R) | ((with_reducible first | refine evC_seq ?_ | refine evC_block ?_); intro Ψ hΨ hΨ') | ((with_reducible refine evC_region ?_); intro R hR) | ((with_reducible refine hΨ _ ?_); clear hΨ hΨ' Ψ) | ((with_reducible refine hΨ' _ _ ?_ ?_); (focus (first | ((intro hx; cases hx); done) | ((intro j hj; cases hj); done) | (intro j hj; cases hj; (decide); done))); clear hΨ hΨ' Ψ) | (with_reducible first | refine evC_skip ?_ | refine evC_ret ?_ | refine evC_exit ?_) | ((with_reducible apply evL_unmet); rfl; rfl; rfl; (try simp (disch := omega) only [go_sem, k1, k2, k7, n3, n4, n5, hge, wrI, go_sem])) | ((with_reducible apply evL_grd); rfl; rfl; rfl; all_goals (intro hb; first | (exact absurd hb (by decide)) | ((try simp (disch := omega) only [Bool.not_true, Bool.not_false] at hb); (first | ((with_reducible intro K hK); simp (disch := omega) only [go_sem, k1, k2, k7, n3, n4, n5, hge, wrI, go_sem]; ((repeat (refine And.intro (by first | assumption | omega | rfl) ?_)); (with_reducible refine hK _ ?_); clear hK K)) | ((fail_if_success (with_reducible intro _)); simp (disch := omega) only [go_sem, k1, k2, k7, n3, n4, n5, hge, wrI, go_sem]))))) | ((with_reducible apply evC_cond); rfl; rfl; all_goals (intro hc; first | (exact absurd hc (by decide)) | (try simp only at hc))) | ((with_reducible refine evD_nil ?_ ?_); kernel_rfl; (with_reducible refine hR _ ?_); clear hR R) | ((first | ((with_reducible apply evD_skip); rfl; rfl; rfl; rfl) | ((with_reducible apply evD_unmet); rfl; rfl; rfl) | ((first | ((with_reducible apply evD_fcall); rfl; rfl) | ((with_reducible apply evD_gcall); rfl; rfl; rfl; rfl; rfl)); ((first | (apply opF_callB (ra); rfl; rfl; rfl; rfl; exact Try.func23) | (apply opF_callB (em); rfl; rfl; rfl; rfl; exact Try.func24)); kernel_rfl; rfl; (simp (disch := omega) only [go_sem, k1, k2, k7, n3, n4, n5, hge, wrI]; rfl); (simp (disch := omega) only [AV.inNL, AV.inN, inNL_map, Bool.and_true]))) | ((first | ((with_reducible apply evD_any); rfl; rfl) | ((with_reducible apply evD_gany); rfl; rfl; rfl; rfl; rfl)); (simp (disch := omega) only [rdE, rdOf, go_sem, k1, k2, k7, n3, n4, n5, hge, wrI]; rfl); (intro τ hA hQ hN; ((try simp (disch := omega) only [agree, Op.operands, Call.operands, go_sem, k1, k2, k7, n3, n4, n5, hge, wrI, go_sem, List.mem_cons, List.not_mem_nil, forall_eq_or_imp, forall_eq, List.append_toArray, Option.toArray] at hA); (try simp (disch := omega) only [go_sem, k1, k2, k7, n3, n4, n5, hge, wrI, List.mem_cons, List.not_mem_nil, forall_eq_or_imp, forall_eq] at hQ hN); (first | (revert hA; intro hA) | (have hA := True.intro)); (first | (revert hQ; intro hQ) | (have hQ := True.intro)); (first | (revert hN; intro hN) | (have hN := True.intro)); simp (disch := omega) only [go_sem, k1, k2, k7, n3, n4, n5, hge, wrI, go_sem, hA, hQ, hN]; (repeat (refine And.intro (by first | assumption | omega | rfl) ?_)); (first | exact eff_rd _ _ _ | exact eff_st _ _ _ | exact eff_nw _ _ _ _))))); (simp (disch := omega) only [St.eff, setO, hputs, go_sem, k1, k2, k7, n3, n4, n5, hge, wrI])) | ((with_reducible apply evD_split); rfl; rfl; rfl; all_goals intro hb; all_goals (simp (disch := omega) only [St.eff, setO, hputs, go_sem, k1, k2, k7, n3, n4, n5, hge, wrI])) | ((with_reducible refine evC_draw ?_ ?_ ?_ ?_); kernel_rfl; kernel_rfl; (first | kernel_rfl | simp [newNames, isNew, St.free, freeH, AV.refsL, AV.refs]); intro R hR))))
      all_goals first | exact hΨ1 rfl _ (St.le_of (by simp [leT]) (by simp [leH, hget])) | (rw [hrf]; (refine ⟨by simp, ⟨_, ?_, AV.le_refl _⟩, leH_get (by simp [leH, hget])⟩; simp only [Try.results6, resL, ldA, oneOf, go_sem]); simp)
  · have k1 : (decide ((i : Int) < (L.length : Int))) = false := decide_eq_false (by omega)
    have e : i = L.length := by omega
    have hrt : rr = true := by rw [← hrr, ← e]; exact hok
    (repeat (any_goals (first | ((with_reducible refine evL_call ?_ ?_ ?_); rfl; rfl; intro K hK; ((first | (apply opA_callB (mn); rfl; rfl; rfl; rfl; exact Try.func25) | (apply opA_callB (ft); rfl; rfl; rfl; rfl; exact Try.func26)); kernel_rfl; rfl; (simp only [go_sem, k1, e3]; rfl); (simp only [AV.inNL, AV.inN, inNL_map, Bool.and_true])); (simp only [go_sem, k1, e3, go_sem]; (with_reducible refine hK _ ?_); clear hK K)) | ((with_reducible refine evL_one ?_ ?_); rfl; intro K hK; simp only [go_sem, k1, e3, go_sem]; ((repeat (refine And.intro (by first | assumption | omega | rfl) ?_)); (with_reducible refine hK _ ?_); clear hK K)) | ((with_reducible refine evL_nil ?_); (with_reducible refine hR _ ?_); clear hR R) | ((with_reducible first | refine evC_seq ?_ | refine evC_block ?_); intro Ψ hΨ hΨ') | ((with_reducible refine evC_region ?_); intro R hR) | ((with_reducible refine hΨ _ ?_); clear hΨ hΨ' Ψ) | ((with_reducible refine hΨ' _ _ ?_ ?_); (focus (first | ((intro hx; cases hx); done) | ((intro j hj; cases hj); done) | (intro j hj; cases hj; (decide); done))); clear hΨ hΨ' Ψ) | (with_reducible first | refine evC_skip ?_ | refine evC_ret ?_ | refine evC_exit ?_) | ((with_reducible apply evL_unmet); rfl; rfl; rfl; (try simp only [go_sem, k1, e3, go_sem])) | ((with_reducible apply evL_grd); rfl; rfl; rfl; all_goals (intro hb; first | (exact absurd hb (by decide)) | ((try simp only [Bool.not_true, Bool.not_false] at hb); (first | ((with_reducible intro K hK); (first | ((apply opA_callB (ft); rfl; rfl; rfl; rfl; exact Try.func26); kernel_rfl; rfl; (simp only [go_sem, k1, e3]; rfl); (simp only [AV.inNL, AV.inN, inNL_map, Bool.and_true])) | skip); simp only [go_sem, k1, e3, go_sem]; ((repeat (refine And.intro (by first | assumption | omega | rfl) ?_)); (with_reducible refine hK _ ?_); clear hK K)) | ((fail_if_success (with_reducible intro _)); simp only [go_sem, k1, e3, go_sem]))))) | ((with_reducible apply evC_cond); rfl; rfl; all_goals (intro hc; first | (exact absurd hc (by decide)) | (try simp only at hc))) | ((with_reducible refine evD_nil ?_ ?_); kernel_rfl; (with_reducible refine hR _ ?_); clear hR R) | ((first | ((with_reducible apply evD_skip); rfl; rfl; rfl; rfl) | ((with_reducible apply evD_unmet); rfl; rfl; rfl) | ((first | ((with_reducible apply evD_fcall); rfl; rfl) | ((with_reducible apply evD_gcall); rfl; rfl; rfl; rfl; rfl)); ((first | (apply opF_callB (mn); rfl; rfl; rfl; rfl; exact Try.func25) | (apply opF_callB (ft); rfl; rfl; rfl; rfl; exact Try.func26)); kernel_rfl; rfl; (simp only [go_sem, k1, e3]; rfl); (simp only [AV.inNL, AV.inN, inNL_map, Bool.and_true]))) | ((first | ((with_reducible apply evD_any); rfl; rfl) | ((with_reducible apply evD_gany); rfl; rfl; rfl; rfl; rfl)); (simp only [rdE, rdOf, go_sem, k1, e3]; rfl); (intro τ hA hQ hN; ((try simp only [agree, Op.operands, Call.operands, go_sem, k1, e3, go_sem, List.mem_cons, List.not_mem_nil, forall_eq_or_imp, forall_eq, List.append_toArray, Option.toArray] at hA); (try simp only [go_sem, k1, e3, List.mem_cons, List.not_mem_nil, forall_eq_or_imp, forall_eq] at hQ hN); (first | (revert hA; intro hA) | (have hA := True.intro)); (first | (revert hQ; intro hQ) | (have hQ := True.intro)); (first | (revert hN; intro hN) | (have hN := True.intro)); simp only [go_sem, k1, e3, go_sem, hA, hQ, hN]; (repeat (refine And.intro (by first | assumption | omega | rfl) ?_)); (first | exact eff_rd _ _ _ | exact eff_st _ _ _ | exact eff_nw _ _ _ _))))); (simp only [St.eff, setO, hputs, go_sem, k1, e3])) | ((with_reducible apply evD_split); rfl; rfl; rfl; all_goals intro hb; all_goals (simp only [St.eff, setO, hputs, go_sem, k1, e3])) | ((with_reducible refine evC_draw ?_ ?_ ?_ ?_); kernel_rfl; kernel_rfl; (first | kernel_rfl | simp [newNames, isNew, St.free, freeH, AV.refsL, AV.refs]); intro R hR))))
    all_goals rw [hrt]
    all_goals (refine ⟨by simp, ⟨_, ?_, AV.le_refl _⟩, leH_get (by simp [leH, hget])⟩; simp only [Try.results6, resL, ldA, oneOf, go_sem])
    all_goals simp_all
def findS (L : List Ac) (a : Int) : Ac := (fnd Ac.a a L).getD ⟨a, 0, 0, [], []⟩
theorem fnd_drop {α : Type} {key : α → Int} {k : Int} {L : List α} {i : Nat} {x : α} (hx : L[i]? = some x) : fnd key k (L.drop i) = if key x = k then some x else fnd key k (L.drop (i + 1)) := by
  obtain ⟨h, rfl⟩ := List.getElem?_eq_some_iff.1 hx
  rw [List.drop_eq_getElem_cons h]; rfl
theorem rof_fn (ex : Bool) (L : List Ac) (hL : Okl L) (a : Int) : Fn Try.prog 12 [stA ex L, vi .u64 a] [] (acA (findS L a)) [] := by
  have hl := hL.1
  have z0 := AV.le_agg (a := [vi .u64 a, vi .u64 0, vi .u64 0, vi .u64 0, vi .u64 0, vi .u64 0, .c (.v (.slice none 0 0)), .c (.v (.slice none 0 0))]) (b := ac8 a 0 0 (bsV []) (psV [])) ⟨AV.le_refl _, AV.le_of (by rw [l0_zero]), AV.le_of (by rw [l1_zero]), AV.le_of (by rw [l2_zero]), AV.le_of (by rw [l3_zero]), AV.le_refl _, AV.le_nil _ _, AV.le_nil _ _, trivial⟩
  obtain ⟨r, hr⟩ : ∃ r, findS L a = r := ⟨_, rfl⟩
  rw [hr]
  (refine fn_of Try.func12 rfl (by rfl) ?_; simp only [Try.ntmps12, List.length_cons, List.length_nil, Nat.reduceAdd, Nat.reduceSub, List.replicate, List.cons_append, List.nil_append])
  (repeat (any_goals (first | ((with_reducible refine evL_one ?_ ?_); rfl; intro K hK; simp only [go_sem]; ((repeat (refine And.intro (by first | assumption | omega | rfl) ?_)); (with_reducible refine hK _ ?_); clear hK K)) | ((with_reducible refine evL_nil ?_); (with_reducible refine hR _ ?_); clear hR R) | ((with_reducible first | refine evC_seq ?_ | refine evC_block ?_); intro Ψ hΨ hΨ') | ((with_reducible refine evC_region ?_); intro R hR) | ((with_reducible refine hΨ _ ?_); clear hΨ hΨ' Ψ) | ((with_reducible refine hΨ' _ _ ?_ ?_); (focus (first | ((intro hx; cases hx); done) | ((intro j hj; cases hj); done) | (intro j hj; cases hj; (decide); done))); clear hΨ hΨ' Ψ) | (with_reducible first | refine evC_skip ?_ | refine evC_ret ?_ | refine evC_exit ?_) | ((with_reducible apply evC_cond); rfl; rfl; all_goals (intro hc; first | (exact absurd hc (by decide)) | (try simp only at hc))))))
  refine evC_loop (α := { i : Nat // i ≤ L.length ∧ findS (L.drop i) a = r }) (fun x => ⟨[.any, vi .u64 a, .ptr 2 0, .any, .ptr 4 0, .any, .any, .any, acS ex L, vi .i64 L.length, vi .i64 (x.1 : Int), .any, .any, .any, .any, .any, .any, .any, .any, .any, .any, .any], [(4, [vi .u64 0, vi .u64 0, vi .u64 0, vi .u64 0, vi .u64 0, vi .u64 0, .c (.v (.slice none 0 0)), .c (.v (.slice none 0 0))])]⟩) (fun x => L.length - x.1) ⟨0, Nat.zero_le _, hr⟩ (St.le_of (by simp [leT]) (by simp [leH, hget])) ?_
  rintro ⟨i, hi, hok⟩ Ψ hΨ hΨ'
  (try dsimp only at hΨ ⊢)
  have k7 : (i : Int) + 1 = ((i + 1 : Nat) : Int) := by omega
  rcases Nat.lt_or_ge i L.length with hlt | hge
  · obtain ⟨x, hx⟩ : ∃ x, L[i]? = some x := ⟨_, List.getElem?_eq_getElem hlt⟩
    have k1 : (decide ((i : Int) < (L.length : Int))) = true := decide_eq_true (by omega)
    have k2 := ac_at hx
    unfold findS at hok
    rw [fnd_drop hx] at hok
    by_cases he : x.a = a
    · rw [if_pos he] at hok
      have k3 : (x.a == a) = true := by simpa using he
      have e : r = x := hok.symm
      (repeat (any_goals (first | ((with_reducible refine evL_one ?_ ?_); rfl; intro K hK; simp only [go_sem, k1, k2, k3, go_sem]; ((repeat (refine And.intro (by first | assumption | omega | rfl) ?_)); (with_reducible refine hK _ ?_); clear hK K)) | ((with_reducible refine evL_nil ?_); (with_reducible refine hR _ ?_); clear hR R) | ((with_reducible first | refine evC_seq ?_ | refine evC_block ?_); intro Ψ hΨ hΨ') | ((with_reducible refine evC_region ?_); intro R hR) | ((with_reducible refine hΨ _ ?_); clear hΨ hΨ' Ψ) | ((with_reducible refine hΨ' _ _ ?_ ?_); (focus (first | ((intro hx; cases hx); done) | ((intro j hj; cases hj); done) | (intro j hj; cases hj; (decide); done))); clear hΨ hΨ' Ψ) | (with_reducible first | refine evC_skip ?_ | refine evC_ret ?_ | refine evC_exit ?_) | ((with_reducible apply evC_cond); rfl; rfl; all_goals (intro hc; first | (exact absurd hc (by decide)) | (try simp only at hc))))))
      all_goals rw [e]
      all_goals (refine ⟨by simp, ⟨_, ?_, AV.le_refl _⟩, leH_get (by simp [leH, hget])⟩; simp only [Try.results12, resL, ldA, oneOf, go_sem])
    · rw [if_neg he] at hok
      have k3 : (x.a == a) = false := by simpa using he
      (repeat (any_goals (first | ((with_reducible refine evL_one ?_ ?_); rfl; intro K hK; simp (disch := omega) only [go_sem, k1, k2, k3, k7, wrI, go_sem]; ((repeat (refine And.intro (by first | assumption | omega | rfl) ?_)); (with_reducible refine hK _ ?_); clear hK K)) | ((with_reducible refine evL_nil ?_); (with_reducible refine hR _ ?_); clear hR R) | ((with_reducible first | refine evC_seq ?_ | refine evC_block ?_); intro Ψ hΨ hΨ') | ((with_reducible refine evC_region ?_); intro R hR) | ((with_reducible refine hΨ _ ?_); clear hΨ hΨ' Ψ) | ((with_reducible refine hΨ' _ _ ?_ ?_); (focus (first | ((intro hx; cases hx); done) | ((intro j hj; cases hj); done) | (intro j hj; cases hj; (decide); done))); clear hΨ hΨ' Ψ) | (with_reducible first | refine evC_skip ?_ | refine evC_ret ?_ | refine evC_exit ?_) | ((with_reducible apply evC_cond); rfl; rfl; all_goals (intro hc; first | (exact absurd hc (by decide)) | (try simp only at hc))))))
      exact hΨ _ ⟨i + 1, hlt, hok⟩ (by dsimp only; omega) (St.le_of (by simp [leT]) (by simp [leH, hget]))
  · have k1 : (decide ((i : Int) < (L.length : Int))) = false := decide_eq_false (by omega)
    rw [List.drop_eq_nil_of_le hge] at hok
    have e : r = ⟨a, 0, 0, [], []⟩ := hok.symm
    (repeat (any_goals (first | ((with_reducible refine evL_one ?_ ?_); rfl; intro K hK; simp only [go_sem, k1, go_sem]; ((repeat (refine And.intro (by first | assumption | omega | rfl) ?_)); (with_reducible refine hK _ ?_); clear hK K)) | ((with_reducible refine evL_nil ?_); (with_reducible refine hR _ ?_); clear hR R) | ((with_reducible first | refine evC_seq ?_ | refine evC_block ?_); intro Ψ hΨ hΨ') | ((with_reducible refine evC_region ?_); intro R hR) | ((with_reducible refine hΨ _ ?_); clear hΨ hΨ' Ψ) | ((with_reducible refine hΨ' _ _ ?_ ?_); (focus (first | ((intro hx; cases hx); done) | ((intro j hj; cases hj); done) | (intro j hj; cases hj; (decide); done))); clear hΨ hΨ' Ψ) | (with_reducible first | refine evC_skip ?_ | refine evC_ret ?_ | refine evC_exit ?_) | ((with_reducible apply evC_cond); rfl; rfl; all_goals (intro hc; first | (exact absurd hc (by decide)) | (try simp only at hc))))))
    all_goals rw [e]
    all_goals (refine ⟨by simp, ⟨_, ?_, z0⟩, leH_get (by simp [leH, hget])⟩; simp only [Try.results12, resL, ldA, oneOf, go_sem])
theorem rroom_fn (ex : Bool) (L : List Ac) (hL : Okl L) (a : Int) (ha : U a) : Fn Try.prog 16 [stA ex L, vi .u64 a] [] (vb (decide (a ≠ 0) && (!emptyA (findS L a) || (decide (a < 16) || decide (manyL L < 24))))) [] := by
  have hl := hL.1
  have o := rof_fn ex L hL a
  have hb : (findS L a).b < WW := by
    unfold findS
    cases h : fnd Ac.a a L with
    | none => show 0 < WW; decide
    | some z => exact (hL.2 z (fnd_key h).2).1.2.1
  have em := rempty_fn (findS L a) hb
  have mn := rmany_fn ex L (by unfold maxLen; omega)
  generalize findS L a = x at o em ⊢
  obtain ⟨q1, e1⟩ : ∃ p, decide (a ≠ 0) = p := ⟨_, rfl⟩
  obtain ⟨q3, e3⟩ : ∃ p, decide (a < 16) = p := ⟨_, rfl⟩
  obtain ⟨q4, e4⟩ : ∃ p, decide (manyL L < 24) = p := ⟨_, rfl⟩
  have f1 : (a == 0) = !q1 := by rw [← e1]; by_cases h : a = 0 <;> simp [h]
  have f4 : decide (((manyL L : Nat) : Int) < 24) = q4 := by rw [← e4]; exact decide_eq_decide.2 (by omega)
  rw [e1, e3, e4]
  clear e1 e4
  generalize emptyA x = q2 at em ⊢
  cases q1 <;> cases q2 <;> cases q3 <;> cases q4
  all_goals simp only [Bool.not_true, Bool.not_false] at f1
  all_goals (refine fn_of Try.func16 rfl (by rfl) ?_; simp only [Try.ntmps16, List.length_cons, List.length_nil, Nat.reduceAdd, Nat.reduceSub, List.replicate, List.cons_append, List.nil_append])
  all_goals (repeat (any_goals (first | ((with_reducible refine evL_call ?_ ?_ ?_); rfl; rfl; intro K hK; ((first | (apply opA_callB (o); rfl; rfl; rfl; rfl; exact Try.func12) | (apply opA_callB (em); rfl; rfl; rfl; rfl; exact Try.func24) | (apply opA_callB (mn); rfl; rfl; rfl; rfl; exact Try.func25)); kernel_rfl; rfl; (simp only [go_sem, f1, e3, f4]; rfl); (simp only [AV.inNL, AV.inN, inNL_map, Bool.and_true])); (simp only [go_sem, f1, e3, f4, go_sem]; (with_reducible refine hK _ ?_); clear hK K)) | ((with_reducible refine evL_one ?_ ?_); rfl; intro K hK; simp only [go_sem, f1, e3, f4, go_sem]; ((repeat (refine And.intro (by first | assumption | omega | rfl) ?_)); (with_reducible refine hK _ ?_); clear hK K)) | ((with_reducible refine evL_nil ?_); (with_reducible refine hR _ ?_); clear hR R) | ((with_reducible first | refine evC_seq ?_ | refine evC_block ?_); intro Ψ hΨ hΨ') | ((with_reducible refine evC_region ?_); intro R hR) | ((with_reducible refine hΨ _ ?_); clear hΨ hΨ' Ψ) | ((with_reducible refine hΨ' _ _ ?_ ?_); (focus (first | ((intro hx; cases hx); done) | ((intro j hj; cases hj); done) | (intro j hj; cases hj; (decide); done))); clear hΨ hΨ' Ψ) | (with_reducible first | refine evC_skip ?_ | refine evC_ret ?_ | refine evC_exit ?_) | ((with_reducible apply evL_unmet); rfl; rfl; rfl; (try simp only [go_sem, f1, e3, f4, go_sem])) | ((with_reducible apply evL_grd); rfl; rfl; rfl; all_goals (intro hb; first | (exact absurd hb (by decide)) | ((try simp only [Bool.not_true, Bool.not_false] at hb); (first | ((with_reducible intro K hK); (first | ((apply opA_callB (mn); rfl; rfl; rfl; rfl; exact Try.func25); kernel_rfl; rfl; (simp only [go_sem, f1, e3, f4]; rfl); (simp only [AV.inNL, AV.inN, inNL_map, Bool.and_true])) | skip); simp only [go_sem, f1, e3, f4, go_sem]; ((repeat (refine And.intro (by first | assumption | omega | rfl) ?_)); (with_reducible refine hK _ ?_); clear hK K)) | ((fail_if_success (with_reducible intro _)); simp only [go_sem, f1, e3, f4, go_sem]))))) | ((with_reducible apply evC_cond); rfl; rfl; all_goals (intro hc; first | (exact absurd hc (by decide)) | (try simp only at hc))))))
  all_goals (refine ⟨by simp, ⟨_, ?_, AV.le_refl _⟩, leH_get (by simp [leH, hget])⟩; simp only [Try.results16, resL, ldA, oneOf, go_sem])
  all_goals rfl
def findP (l : List Pr) (k : Nat) : Nat := ((l.find? fun p => decide (p.k = k)).map Pr.v).getD 0
theorem rload_fn (x : Ac) (hs : x.store.length ≤ maxLen) (ho : ∀ p ∈ x.store, p.ok) (k : Nat) (hk : k < WW) : Fn Try.prog 18 [acA x, wN k] [] (wN (findP x.store k)) [] := by
  obtain ⟨a, b, n, code, l⟩ := x
  dsimp only at hs ho ⊢
  obtain ⟨r, hr⟩ : ∃ r, findP l k = r := ⟨_, rfl⟩
  rw [hr]
  have k8 : l.length < 9223372036854775808 := Nat.lt_succ_of_le hs
  (refine fn_of Try.func18 rfl (by rfl) ?_; simp only [Try.ntmps18, List.length_cons, List.length_nil, Nat.reduceAdd, Nat.reduceSub, List.replicate, List.cons_append, List.nil_append])
  (repeat (any_goals (first | ((with_reducible refine evL_one ?_ ?_); rfl; intro K hK; simp only [go_sem]; ((repeat (refine And.intro (by first | assumption | omega | rfl) ?_)); (with_reducible refine hK _ ?_); clear hK K)) | ((with_reducible refine evL_nil ?_); (with_reducible refine hR _ ?_); clear hR R) | ((with_reducible first | refine evC_seq ?_ | refine evC_block ?_); intro Ψ hΨ hΨ') | ((with_reducible refine evC_region ?_); intro R hR) | ((with_reducible refine hΨ _ ?_); clear hΨ hΨ' Ψ) | ((with_reducible refine hΨ' _ _ ?_ ?_); (focus (first | ((intro hx; cases hx); done) | ((intro j hj; cases hj); done) | (intro j hj; cases hj; (decide); done))); clear hΨ hΨ' Ψ) | (with_reducible first | refine evC_skip ?_ | refine evC_ret ?_ | refine evC_exit ?_) | ((with_reducible apply evC_cond); rfl; rfl; all_goals (intro hc; first | (exact absurd hc (by decide)) | (try simp only at hc))))))
  refine evC_loop (α := { i : Nat // i ≤ l.length ∧ findP (l.drop i) k = r }) (fun x => ⟨[.any, .any, .ptr 2 0, .ptr 3 0, .ptr 4 0, .any, .any, .any, .c (psV l), vi .i64 l.length, vi .i64 (x.1 : Int), .any, .any, .any, .any, .any, .any, .any, .any, .any, .any, .any], [(3, [vi .u64 (l0 k), vi .u64 (l1 k), vi .u64 (l2 k), vi .u64 (l3 k)]), (4, [vi .u64 0, vi .u64 0, vi .u64 0, vi .u64 0])]⟩) (fun x => l.length - x.1) ⟨0, Nat.zero_le _, hr⟩ (St.le_of (by simp [leT]) (by simp [leH, hget])) ?_
  rintro ⟨i, hi, hok⟩ Ψ hΨ hΨ'
  (try dsimp only at hΨ ⊢)
  have k7 : (i : Int) + 1 = ((i + 1 : Nat) : Int) := by omega
  rcases Nat.lt_or_ge i l.length with hlt | hge
  · obtain ⟨p, hp⟩ : ∃ p, l[i]? = some p := ⟨_, List.getElem?_eq_getElem hlt⟩
    have k1 : (decide ((i : Int) < (l.length : Int))) = true := decide_eq_true (by omega)
    have k2 := ps_at hp
    have pk := (ho p (List.mem_of_getElem? hp)).1
    have hd : findP (l.drop i) k = if p.k = k then p.v else findP (l.drop (i + 1)) k := by
      obtain ⟨h, rfl⟩ := List.getElem?_eq_some_iff.1 hp
      unfold findP
      rw [List.drop_eq_getElem_cons h, List.find?_cons]
      by_cases e : l[i].k = k <;> simp [e]
    rw [hd] at hok
    have k4 := wN_eq pk hk
    by_cases he : p.k = k
    · rw [if_pos he] at hok
      rw [decide_eq_true he] at k4
      (repeat (any_goals (first | ((with_reducible refine evL_one ?_ ?_); rfl; intro K hK; simp only [go_sem, k1, k2, k4, go_sem]; ((repeat (refine And.intro (by first | assumption | omega | rfl) ?_)); (with_reducible refine hK _ ?_); clear hK K)) | ((with_reducible refine evL_nil ?_); (with_reducible refine hR _ ?_); clear hR R) | ((with_reducible first | refine evC_seq ?_ | refine evC_block ?_); intro Ψ hΨ hΨ') | ((with_reducible refine evC_region ?_); intro R hR) | ((with_reducible refine hΨ _ ?_); clear hΨ hΨ' Ψ) | ((with_reducible refine hΨ' _ _ ?_ ?_); (focus (first | ((intro hx; cases hx); done) | ((intro j hj; cases hj); done) | (intro j hj; cases hj; (decide); done))); clear hΨ hΨ' Ψ) | (with_reducible first | refine evC_skip ?_ | refine evC_ret ?_ | refine evC_exit ?_) | ((with_reducible apply evC_cond); rfl; rfl; all_goals (intro hc; first | (exact absurd hc (by decide)) | (try simp only at hc))))))
      all_goals rw [← hok]
      all_goals (refine ⟨by simp, ⟨_, ?_, AV.le_refl _⟩, leH_get (by simp [leH, hget])⟩; simp only [Try.results18, resL, ldA, oneOf, go_sem])
    · rw [if_neg he] at hok
      rw [decide_eq_false he] at k4
      (repeat (any_goals (first | ((with_reducible refine evL_one ?_ ?_); rfl; intro K hK; simp (disch := omega) only [go_sem, k1, k2, k4, k7, wrI, go_sem]; ((repeat (refine And.intro (by first | assumption | omega | rfl) ?_)); (with_reducible refine hK _ ?_); clear hK K)) | ((with_reducible refine evL_nil ?_); (with_reducible refine hR _ ?_); clear hR R) | ((with_reducible first | refine evC_seq ?_ | refine evC_block ?_); intro Ψ hΨ hΨ') | ((with_reducible refine evC_region ?_); intro R hR) | ((with_reducible refine hΨ _ ?_); clear hΨ hΨ' Ψ) | ((with_reducible refine hΨ' _ _ ?_ ?_); (focus (first | ((intro hx; cases hx); done) | ((intro j hj; cases hj); done) | (intro j hj; cases hj; (decide); done))); clear hΨ hΨ' Ψ) | (with_reducible first | refine evC_skip ?_ | refine evC_ret ?_ | refine evC_exit ?_) | ((with_reducible apply evC_cond); rfl; rfl; all_goals (intro hc; first | (exact absurd hc (by decide)) | (try simp only at hc))))))
      exact hΨ _ ⟨i + 1, hlt, hok⟩ (by dsimp only; omega) (St.le_of (by simp [leT]) (by simp [leH, hget]))
  · have k1 : (decide ((i : Int) < (l.length : Int))) = false := decide_eq_false (by omega)
    rw [List.drop_eq_nil_of_le hge] at hok
    have e : r = 0 := hok.symm
    (repeat (any_goals (first | ((with_reducible refine evL_one ?_ ?_); rfl; intro K hK; simp only [go_sem, k1, go_sem]; ((repeat (refine And.intro (by first | assumption | omega | rfl) ?_)); (with_reducible refine hK _ ?_); clear hK K)) | ((with_reducible refine evL_nil ?_); (with_reducible refine hR _ ?_); clear hR R) | ((with_reducible first | refine evC_seq ?_ | refine evC_block ?_); intro Ψ hΨ hΨ') | ((with_reducible refine evC_region ?_); intro R hR) | ((with_reducible refine hΨ _ ?_); clear hΨ hΨ' Ψ) | ((with_reducible refine hΨ' _ _ ?_ ?_); (focus (first | ((intro hx; cases hx); done) | ((intro j hj; cases hj); done) | (intro j hj; cases hj; (decide); done))); clear hΨ hΨ' Ψ) | (with_reducible first | refine evC_skip ?_ | refine evC_ret ?_ | refine evC_exit ?_) | ((with_reducible apply evC_cond); rfl; rfl; all_goals (intro hc; first | (exact absurd hc (by decide)) | (try simp only at hc))))))
    all_goals rw [e]
    all_goals (refine ⟨by simp, ⟨_, ?_, AV.le_refl _⟩, leH_get (by simp [leH, hget])⟩; simp only [Try.results18, resL, ldA, oneOf, go_sem])
    all_goals simp only [wN, l0_zero, l1_zero, l2_zero, l3_zero]
end Go.Proofs.Ytcbaaibkkfnfmaa

