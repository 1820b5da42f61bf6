/-
  Rows of addrs cloned, inserted into; reckoned.
-/
import Derived.Test.YtcahibdaiokajaaGreatSe
import Derived.Test.YtcahibdaiokajaaGreatAvW
import Derived.Test.YtcahibdaiokajaaGreatAvTy
import Derived.Test.YtcahibdaiokajaaGreatAvI
set_option linter.unusedSimpArgs false
set_option linter.unusedVariables false
namespace Go.Proofs.YtcahibdaiokajaaGreat
open Go.RowKit
open Nat (reduceBEq)
set_option maxRecDepth 20000
set_option maxHeartbeats 2000000
def okS1 (L : List Ac) (j : Nat) : Bool := match L[j]? with
  | none => true
  | some x => okAc x && !emptyA x && (decide (j = 0) || match L[j - 1]? with
    | some q => decide (q.a < x.a)
    | none => true)
def okS (q : Bool) (L : List Ac) : Nat → Bool
  | 0 => q
  | i + 1 => okS q L i && okS1 L i
def manyL (L : List Ac) : Nat := (L.filter fun x => decide (16 ≤ x.a)).length
def okSt (L : List Ac) : Bool := okS (!decide (WW ≤ (L.map Ac.b).sum) && decide (manyL L ≤ 24)) L L.length
theorem okS1_zero {L : List Ac} {x : Ac} (h : L[0]? = some x) : okS1 L 0 = (okAc x && !emptyA x) := by
  unfold okS1; rw [h]; simp
theorem okS1_succ {L : List Ac} {j : Nat} {q x : Ac} (hq : L[j]? = some q) (hx : L[j + 1]? = some x) : okS1 L (j + 1) = (okAc x && !emptyA x && decide (q.a < x.a)) := by
  unfold okS1; rw [hx]; simp [hq]
theorem okS_no {q : Bool} {L : List Ac} {i : Nat} (h : okS q L i = false) : ∀ j, i ≤ j → okS q L j = false
  | 0, hj => by
    obtain rfl : i = 0 := by omega
    exact h
  | j + 1, hj => by
    by_cases e : i = j + 1
    · rw [← e]; exact h
    · unfold okS; rw [okS_no h j (by omega), Bool.false_and]
def Ac.fine (x : Ac) : Prop := x.ok ∧ x.code.length + x.store.length ≤ maxLen
theorem checkS_fn (ex : Bool) (L : List Ac) (hl : L.length ≤ 900) (ok : ∀ x ∈ L, x.fine) : Fn Tryz.prog 35 [stA ex L] [] (vi .i64 (if okSt L then 0 else 160)) [] := by
  have tn := total_nil ex L hl fun x hx => (ok x hx).1.2.1
  have mn := many_fn ex L (Nat.le_trans hl (by decide))
  obtain ⟨rr, hrr⟩ : ∃ r, okSt L = r := ⟨_, rfl⟩
  rw [hrr]
  unfold okSt at hrr
  obtain ⟨s1, hs1⟩ : ∃ q, decide (WW ≤ (L.map Ac.b).sum) = q := ⟨_, rfl⟩
  obtain ⟨s2, hs2⟩ : ∃ q, decide (manyL L ≤ 24) = q := ⟨_, rfl⟩
  obtain ⟨tt, htt⟩ : ∃ q, (L.map Ac.b).sum % WW = q := ⟨_, rfl⟩
  have f1 : decide ((((L.filter fun x => decide (16 ≤ x.a)).length : Nat) : Int) ≤ 24) = s2 := by
    rw [← hs2]; exact decide_eq_decide.2 (by unfold manyL; omega)
  rw [hs1, htt] at tn
  rw [hs1, hs2] at hrr
  clear hs1 hs2 htt
  have inv : (!s1 && s2) = true ∨ ((!s1 && s2) = false ∧ rr = false) := by
    cases h : (!s1 && s2) with
    | true => exact .inl rfl
    | false =>
      rw [h] at hrr
      exact .inr ⟨rfl, by rw [← hrr]; exact okS_no (i := 0) rfl _ (Nat.zero_le _)⟩
  rcases inv with hq | ⟨hq, rfl⟩
  · simp only [Bool.and_eq_true, Bool.not_eq_true'] at hq
    obtain ⟨rfl, rfl⟩ := hq
    rw [show (!false && true) = true from rfl] at hrr
    (refine fn_of Tryz.func35 rfl (by rfl) ?_; simp only [Tryz.ntmps35, List.length_cons, List.length_nil, Nat.reduceAdd, Nat.reduceSub, List.replicate, List.cons_append, List.nil_append])
    (repeat (any_goals (first | ((with_reducible refine evL_call ?_ ?_ ?_); rfl; rfl; intro K hK; ((apply opA_callB (tn); rfl; rfl; rfl; rfl; exact Tryz.func56); kernel_rfl; rfl; (simp only [go_sem, f1]; rfl); (first | rfl | simp [AV.inNL, AV.inN])); (simp only [go_sem, f1]; refine hK _ ?_; clear hK K)) | ((with_reducible refine evL_one ?_ ?_); rfl; intro K hK; simp only [go_sem, f1]; ((repeat (refine ndI (by first | assumption | omega | rfl) ?_)); refine hK _ ?_; clear hK K)) | (with_reducible first | (refine evL_nil ?_; refine hR _ ?_; clear hR R) | ((first | refine evC_seq ?_ | refine evC_block ?_ | refine evC_scope ?_); intro Ψ hΨ hΨ') | (refine evC_region ?_; intro R hR) | (refine hΨ _ ?_; clear hΨ hΨ' Ψ) | refine evC_skip ?_ | refine evC_ret ?_ | refine evC_exit ?_ | refine evC_label ?_) | ((with_reducible refine hΨ' _ _ ?_ ?_); (focus (simp; done)); clear hΨ hΨ' Ψ) | ((with_reducible apply evL_unmet); rfl; rfl; rfl; (try simp only [go_sem, f1])) | ((with_reducible apply evL_grd); rfl; rfl; rfl; all_goals (intro hb; first | (cases hb; done) | ((try simp only [Bool.not_true, Bool.not_false] at hb); (first | ((with_reducible intro K hK); (first | ((apply opA_callB (mn); rfl; rfl; rfl; rfl; exact Tryz.func57); kernel_rfl; rfl; (simp only [go_sem, f1]; rfl); (first | rfl | simp [AV.inNL, AV.inN])) | skip); simp only [go_sem, f1]; ((repeat (refine ndI (by first | assumption | omega | rfl) ?_)); refine hK _ ?_; clear hK K)) | ((fail_if_success (with_reducible intro _)); simp only [go_sem, f1]))))) | ((with_reducible apply evC_cond); rfl; rfl; all_goals (intro hc; first | (cases hc; done) | (try simp only at hc))) | ((with_reducible refine evD_nil ?_ ?_); kernel_rfl; (with_reducible refine hR _ ?_); clear hR R) | ((first | ((with_reducible apply evD_skip); rfl; rfl; rfl; rfl) | ((with_reducible apply evD_unmet); rfl; rfl; rfl) | ((first | ((with_reducible apply evD_any); rfl; rfl) | ((with_reducible apply evD_gany); rfl; rfl; rfl; rfl; rfl)); (simp only [rdE, rdOf, go_sem, f1]; rfl); (intro τ hA hQ hN; ((try simp only [agree, Op.operands, Call.operands, go_sem, f1, go_sem, List.mem_cons, List.not_mem_nil, forall_eq_or_imp, forall_eq, List.append_toArray, Option.toArray] at hA); (try simp only [go_sem, f1, List.mem_cons, List.not_mem_nil, forall_eq_or_imp, forall_eq] at hQ hN); (first | (revert hA; intro hA) | have hA := trivial); (first | (revert hQ; intro hQ) | have hQ := trivial); (first | (revert hN; intro hN) | have hN := trivial); simp only [go_sem, f1, go_sem, hA, hQ, hN]; (repeat (refine ndI (by first | assumption | omega | rfl) ?_)); (first | apply eff_rd | apply eff_st | apply eff_nw))))); (simp only [St.eff, setO, hputs, go_sem, f1])) | ((with_reducible apply evD_split); rfl; rfl; rfl; all_goals intro hb; all_goals (simp only [St.eff, setO, hputs, go_sem, f1])) | ((with_reducible refine evC_draw ?_ ?_ ?_ ?_); kernel_rfl; kernel_rfl; (first | kernel_rfl | simp [newNames, isNew, St.free, freeH, AV.refsL, AV.refs]); intro R hR))))
    refine evC_upto L.length (fun i => ⟨[.any, .ptr 1 0, vi .i64 0, .any, vb (okS true L i), .any, .any, .any, .any, .any, .any, .any, .any, .any, .any, .any, .any, .any, .any, acS ex L, vi .i64 L.length, vi .i64 (i : Int), .any, .any, .any, .any, .any, .any, .any, .any, .any, .any, .any, .any, .any, .any, .any, .any, .any, .any, .any, .any, .any, .any, .any, .any, .any, .any, .any, .any, .any, .any, .any, .any, .any, .any, .any, .any], [(1, [acS ex L])]⟩) (St.le_of (by simp [leT, okS]) (by simp [leH, hget])) ?_
    intro i hi Ψ hΨ hΨ'
    (try dsimp only at hΨ ⊢)
    have k7 : (i : Int) + 1 = ((i + 1 : Nat) : Int) := by omega
    rcases Nat.lt_or_ge i L.length with hlt | hge
    · obtain ⟨x, hx⟩ : ∃ x, L[i]? = some x := ⟨_, List.getElem?_eq_getElem hlt⟩
      have k1 : (decide ((i : Int) < (L.length : Int))) = true := decide_eq_true (by omega)
      have k2 := ac_at hx
      obtain ⟨⟨u1, u2, u3, ⟨u4, u5⟩, u6, u7⟩, u8⟩ := ok x (List.mem_of_getElem? hx)
      have hck := check_fn x u7 u6 u4
      have hem := empty_fn x u2 u6 u4 u8
      obtain ⟨q1, hq1⟩ : ∃ q, okAc x = q := ⟨_, rfl⟩
      obtain ⟨q2, hq2⟩ : ∃ q, emptyA x = q := ⟨_, rfl⟩
      rw [hq1] at hck
      rw [hq2] at hem
      have hnx : okS true L (i + 1) = (okS true L i && okS1 L i) := rfl
      have hno : okS true L (i + 1) = false → rr = false := fun h => by rw [← hrr]; exact okS_no h _ hlt
      have hno0 : okS true L i = false → rr = false := fun h => by rw [← hrr]; exact okS_no h _ hi
      rw [hnx] at hΨ hno
      generalize okS true L i = g at hΨ hno hno0 ⊢
      rcases Nat.eq_zero_or_pos i with h0 | h0
      · have n3 : ((i : Int) == 0) = true := by rw [h0]; rfl
        have hok : okS1 L i = (q1 && !q2) := by
          rw [h0] at hx ⊢
          rw [okS1_zero hx, hq1, hq2]
        rw [hok] at hΨ hno
        cases g <;> cases q1 <;> cases q2
        all_goals have hr := hno
        all_goals try replace hr := hr rfl
        all_goals simp only [Bool.false_eq_true, if_true, if_false] at hck
        all_goals (have W := ndI k1 (ndI k2 (ndI k7 (ndI n3 @wrI))); (repeat (any_goals (first | ((with_reducible refine evL_one ?_ ?_); rfl; intro K hK; simp (disch := omega) only [go_sem, W]; ((repeat (refine ndI (by first | assumption | omega | rfl) ?_)); refine hK _ ?_; clear hK K)) | (with_reducible first | (refine evL_nil ?_; refine hR _ ?_; clear hR R) | ((first | refine evC_seq ?_ | refine evC_block ?_ | refine evC_scope ?_); intro Ψ hΨ hΨ') | (refine evC_region ?_; intro R hR) | (refine hΨ _ ?_; clear hΨ hΨ' Ψ) | refine evC_skip ?_ | refine evC_ret ?_ | refine evC_exit ?_ | refine evC_label ?_) | ((with_reducible refine hΨ' _ _ ?_ ?_); (focus (simp; done)); clear hΨ hΨ' Ψ) | ((with_reducible apply evL_unmet); rfl; rfl; rfl; (try simp (disch := omega) only [go_sem, W])) | ((with_reducible apply evL_grd); rfl; rfl; rfl; all_goals (intro hb; first | (cases hb; done) | ((try simp only [Bool.not_true, Bool.not_false] at hb); (first | ((with_reducible intro K hK); simp (disch := omega) only [go_sem, W]; ((repeat (refine ndI (by first | assumption | omega | rfl) ?_)); refine hK _ ?_; clear hK K)) | ((fail_if_success (with_reducible intro _)); simp (disch := omega) only [go_sem, W]))))) | ((with_reducible apply evC_cond); rfl; rfl; all_goals (intro hc; first | (cases hc; done) | (try simp only at hc))) | ((with_reducible refine evD_nil ?_ ?_); kernel_rfl; (with_reducible refine hR _ ?_); clear hR R) | ((first | ((with_reducible apply evD_skip); rfl; rfl; rfl; rfl) | ((with_reducible apply evD_unmet); rfl; rfl; rfl) | ((first | ((with_reducible apply evD_fcall); rfl; rfl) | ((with_reducible apply evD_gcall); rfl; rfl; rfl; rfl; rfl)); ((first | (apply opF_callB (hck); rfl; rfl; rfl; rfl; exact Tryz.func58) | (apply opF_callB (hem); rfl; rfl; rfl; rfl; exact Tryz.func59)); kernel_rfl; rfl; (simp (disch := omega) only [go_sem, W]; rfl); (first | rfl | simp [AV.inNL, AV.inN]))) | ((first | ((with_reducible apply evD_any); rfl; rfl) | ((with_reducible apply evD_gany); rfl; rfl; rfl; rfl; rfl)); (simp (disch := omega) only [rdE, rdOf, go_sem, W]; rfl); (intro τ hA hQ hN; ((try simp only [agree, Op.operands, Call.operands, go_sem, W, go_sem, List.mem_cons, List.not_mem_nil, forall_eq_or_imp, forall_eq, List.append_toArray, Option.toArray] at hA); (try simp only [go_sem, W, List.mem_cons, List.not_mem_nil, forall_eq_or_imp, forall_eq] at hQ hN); (first | (revert hA; intro hA) | have hA := trivial); (first | (revert hQ; intro hQ) | have hQ := trivial); (first | (revert hN; intro hN) | have hN := trivial); simp (disch := omega) only [go_sem, W, go_sem, hA, hQ, hN]; (repeat (refine ndI (by first | assumption | omega | rfl) ?_)); (first | apply eff_rd | apply eff_st | apply eff_nw))))); (simp (disch := omega) only [St.eff, setO, hputs, go_sem, W])) | ((with_reducible apply evD_split); rfl; rfl; rfl; all_goals intro hb; all_goals (simp (disch := omega) only [St.eff, setO, hputs, go_sem, W])) | ((with_reducible refine evC_draw ?_ ?_ ?_ ?_); kernel_rfl; kernel_rfl; (first | kernel_rfl | simp [newNames, isNew, St.free, freeH, AV.refsL, AV.refs]); intro R hR)))))
        all_goals first
          | exact hΨ _ hlt (St.le_of (by simp [leT]) (by simp [leH, hget]))
          | (rw [hr]; (refine ⟨by simp, ⟨_, ?_, AV.le_refl _⟩, leH_get (by simp [leH, hget])⟩; simp only [Tryz.results35, resL, ldA, oneOf, go_sem]))
      · obtain ⟨j, hj⟩ : ∃ j, i = j + 1 := ⟨i - 1, by omega⟩
        obtain ⟨q, hq⟩ : ∃ q, L[j]? = some q := ⟨_, List.getElem?_eq_getElem (by omega)⟩
        have n3 : ((i : Int) == 0) = false := by rw [beq_eq_false_iff_ne]; omega
        have n4 := ac_at hq
        have n5 : (i : Int) - 1 = (j : Int) := by omega
        have hjl : j < L.length := by omega
        obtain ⟨q3, hq3⟩ : ∃ c, decide (q.a < x.a) = c := ⟨_, rfl⟩
        have hok : okS1 L i = (q1 && !q2 && q3) := by
          rw [hj] at hx ⊢
          rw [okS1_succ hq hx, hq1, hq2, hq3]
        rw [hok] at hΨ hno
        cases g <;> cases q1 <;> cases q2 <;> cases q3
        all_goals have hr := hno
        all_goals try replace hr := hr rfl
        all_goals simp only [Bool.false_eq_true, if_true, if_false] at hck
        all_goals (have W := ndI k1 (ndI k2 (ndI k7 (ndI n3 (ndI n4 (ndI n5 (ndI hq3 @wrI)))))); (repeat (any_goals (first | ((with_reducible refine evL_one ?_ ?_); rfl; intro K hK; simp (disch := omega) only [go_sem, W]; ((repeat (refine ndI (by first | assumption | omega | rfl) ?_)); refine hK _ ?_; clear hK K)) | (with_reducible first | (refine evL_nil ?_; refine hR _ ?_; clear hR R) | ((first | refine evC_seq ?_ | refine evC_block ?_ | refine evC_scope ?_); intro Ψ hΨ hΨ') | (refine evC_region ?_; intro R hR) | (refine hΨ _ ?_; clear hΨ hΨ' Ψ) | refine evC_skip ?_ | refine evC_ret ?_ | refine evC_exit ?_ | refine evC_label ?_) | ((with_reducible refine hΨ' _ _ ?_ ?_); (focus (simp; done)); clear hΨ hΨ' Ψ) | ((with_reducible apply evL_unmet); rfl; rfl; rfl; (try simp (disch := omega) only [go_sem, W])) | ((with_reducible apply evL_grd); rfl; rfl; rfl; all_goals (intro hb; first | (cases hb; done) | ((try simp only [Bool.not_true, Bool.not_false] at hb); (first | ((with_reducible intro K hK); simp (disch := omega) only [go_sem, W]; ((repeat (refine ndI (by first | assumption | omega | rfl) ?_)); refine hK _ ?_; clear hK K)) | ((fail_if_success (with_reducible intro _)); simp (disch := omega) only [go_sem, W]))))) | ((with_reducible apply evC_cond); rfl; rfl; all_goals (intro hc; first | (cases hc; done) | (try simp only at hc))) | ((with_reducible refine evD_nil ?_ ?_); kernel_rfl; (with_reducible refine hR _ ?_); clear hR R) | ((first | ((with_reducible apply evD_skip); rfl; rfl; rfl; rfl) | ((with_reducible apply evD_unmet); rfl; rfl; rfl) | ((first | ((with_reducible apply evD_fcall); rfl; rfl) | ((with_reducible apply evD_gcall); rfl; rfl; rfl; rfl; rfl)); ((first | (apply opF_callB (hck); rfl; rfl; rfl; rfl; exact Tryz.func58) | (apply opF_callB (hem); rfl; rfl; rfl; rfl; exact Tryz.func59)); kernel_rfl; rfl; (simp (disch := omega) only [go_sem, W]; rfl); (first | rfl | simp [AV.inNL, AV.inN]))) | ((first | ((with_reducible apply evD_any); rfl; rfl) | ((with_reducible apply evD_gany); rfl; rfl; rfl; rfl; rfl)); (simp (disch := omega) only [rdE, rdOf, go_sem, W]; rfl); (intro τ hA hQ hN; ((try simp only [agree, Op.operands, Call.operands, go_sem, W, go_sem, List.mem_cons, List.not_mem_nil, forall_eq_or_imp, forall_eq, List.append_toArray, Option.toArray] at hA); (try simp only [go_sem, W, List.mem_cons, List.not_mem_nil, forall_eq_or_imp, forall_eq] at hQ hN); (first | (revert hA; intro hA) | have hA := trivial); (first | (revert hQ; intro hQ) | have hQ := trivial); (first | (revert hN; intro hN) | have hN := trivial); simp (disch := omega) only [go_sem, W, go_sem, hA, hQ, hN]; (repeat (refine ndI (by first | assumption | omega | rfl) ?_)); (first | apply eff_rd | apply eff_st | apply eff_nw))))); (simp (disch := omega) only [St.eff, setO, hputs, go_sem, W])) | ((with_reducible apply evD_split); rfl; rfl; rfl; all_goals intro hb; all_goals (simp (disch := omega) only [St.eff, setO, hputs, go_sem, W])) | ((with_reducible refine evC_draw ?_ ?_ ?_ ?_); kernel_rfl; kernel_rfl; (first | kernel_rfl | simp [newNames, isNew, St.free, freeH, AV.refsL, AV.refs]); intro R hR)))))
        all_goals first
          | exact hΨ _ hlt (St.le_of (by simp [leT]) (by simp [leH, hget]))
          | (rw [hr]; (refine ⟨by simp, ⟨_, ?_, AV.le_refl _⟩, leH_get (by simp [leH, hget])⟩; simp only [Tryz.results35, resL, ldA, oneOf, go_sem]))
    · have k1 : (decide ((i : Int) < (L.length : Int))) = false := decide_eq_false (by omega)
      have e : i = L.length := by omega
      rw [e, hrr]
      rw [e] at k1
      (repeat (any_goals (first | ((with_reducible refine evL_one ?_ ?_); rfl; intro K hK; simp only [go_sem, k1]; ((repeat (refine ndI (by first | assumption | omega | rfl) ?_)); refine hK _ ?_; clear hK K)) | (with_reducible first | (refine evL_nil ?_; refine hR _ ?_; clear hR R) | ((first | refine evC_seq ?_ | refine evC_block ?_ | refine evC_scope ?_); intro Ψ hΨ hΨ') | (refine evC_region ?_; intro R hR) | (refine hΨ _ ?_; clear hΨ hΨ' Ψ) | refine evC_skip ?_ | refine evC_ret ?_ | refine evC_exit ?_ | refine evC_label ?_) | ((with_reducible refine hΨ' _ _ ?_ ?_); (focus (simp; done)); clear hΨ hΨ' Ψ) | ((with_reducible apply evL_unmet); rfl; rfl; rfl; (try simp only [go_sem, k1])) | ((with_reducible apply evL_grd); rfl; rfl; rfl; all_goals (intro hb; first | (cases hb; done) | ((try simp only [Bool.not_true, Bool.not_false] at hb); (first | ((with_reducible intro K hK); simp only [go_sem, k1]; ((repeat (refine ndI (by first | assumption | omega | rfl) ?_)); refine hK _ ?_; clear hK K)) | ((fail_if_success (with_reducible intro _)); simp only [go_sem, k1]))))) | ((with_reducible apply evC_cond); rfl; rfl; all_goals (intro hc; first | (cases hc; done) | (try simp only at hc))) | ((with_reducible refine evD_nil ?_ ?_); kernel_rfl; (with_reducible refine hR _ ?_); clear hR R) | ((first | ((with_reducible apply evD_skip); rfl; rfl; rfl; rfl) | ((with_reducible apply evD_unmet); rfl; rfl; rfl) | ((first | ((with_reducible apply evD_any); rfl; rfl) | ((with_reducible apply evD_gany); rfl; rfl; rfl; rfl; rfl)); (simp only [rdE, rdOf, go_sem, k1]; rfl); (intro τ hA hQ hN; ((try simp only [agree, Op.operands, Call.operands, go_sem, k1, go_sem, List.mem_cons, List.not_mem_nil, forall_eq_or_imp, forall_eq, List.append_toArray, Option.toArray] at hA); (try simp only [go_sem, k1, List.mem_cons, List.not_mem_nil, forall_eq_or_imp, forall_eq] at hQ hN); (first | (revert hA; intro hA) | have hA := trivial); (first | (revert hQ; intro hQ) | have hQ := trivial); (first | (revert hN; intro hN) | have hN := trivial); simp only [go_sem, k1, go_sem, hA, hQ, hN]; (repeat (refine ndI (by first | assumption | omega | rfl) ?_)); (first | apply eff_rd | apply eff_st | apply eff_nw))))); (simp only [St.eff, setO, hputs, go_sem, k1])) | ((with_reducible apply evD_split); rfl; rfl; rfl; all_goals intro hb; all_goals (simp only [St.eff, setO, hputs, go_sem, k1])) | ((with_reducible refine evC_draw ?_ ?_ ?_ ?_); kernel_rfl; kernel_rfl; (first | kernel_rfl | simp [newNames, isNew, St.free, freeH, AV.refsL, AV.refs]); intro R hR))))
      all_goals simp only [Bool.not_eq_true', Bool.not_eq_false'] at hc
      all_goals rw [hc]
      all_goals (refine ⟨by simp, ⟨_, ?_, AV.le_refl _⟩, leH_get (by simp [leH, hget])⟩; simp only [Tryz.results35, resL, ldA, oneOf, go_sem])
  · (refine fn_of Tryz.func35 rfl (by rfl) ?_; simp only [Tryz.ntmps35, List.length_cons, List.length_nil, Nat.reduceAdd, Nat.reduceSub, List.replicate, List.cons_append, List.nil_append])
    cases s1 <;> cases s2
    all_goals first | (exact absurd hq (by decide)) | skip
    all_goals (repeat (any_goals (first | ((with_reducible refine evL_call ?_ ?_ ?_); rfl; rfl; intro K hK; ((apply opA_callB (tn); rfl; rfl; rfl; rfl; exact Tryz.func56); kernel_rfl; rfl; (simp only [go_sem, f1]; rfl); (first | rfl | simp [AV.inNL, AV.inN])); (simp only [go_sem, f1]; refine hK _ ?_; clear hK K)) | ((with_reducible refine evL_one ?_ ?_); rfl; intro K hK; simp only [go_sem, f1]; ((repeat (refine ndI (by first | assumption | omega | rfl) ?_)); refine hK _ ?_; clear hK K)) | (with_reducible first | (refine evL_nil ?_; refine hR _ ?_; clear hR R) | ((first | refine evC_seq ?_ | refine evC_block ?_ | refine evC_scope ?_); intro Ψ hΨ hΨ') | (refine evC_region ?_; intro R hR) | (refine hΨ _ ?_; clear hΨ hΨ' Ψ) | refine evC_skip ?_ | refine evC_ret ?_ | refine evC_exit ?_ | refine evC_label ?_) | ((with_reducible refine hΨ' _ _ ?_ ?_); (focus (simp; done)); clear hΨ hΨ' Ψ) | ((with_reducible apply evL_unmet); rfl; rfl; rfl; (try simp only [go_sem, f1])) | ((with_reducible apply evL_grd); rfl; rfl; rfl; all_goals (intro hb; first | (cases hb; done) | ((try simp only [Bool.not_true, Bool.not_false] at hb); (first | ((with_reducible intro K hK); (first | ((apply opA_callB (mn); rfl; rfl; rfl; rfl; exact Tryz.func57); kernel_rfl; rfl; (simp only [go_sem, f1]; rfl); (first | rfl | simp [AV.inNL, AV.inN])) | skip); simp only [go_sem, f1]; ((repeat (refine ndI (by first | assumption | omega | rfl) ?_)); refine hK _ ?_; clear hK K)) | ((fail_if_success (with_reducible intro _)); simp only [go_sem, f1]))))) | ((with_reducible apply evC_cond); rfl; rfl; all_goals (intro hc; first | (cases hc; done) | (try simp only at hc))) | ((with_reducible refine evD_nil ?_ ?_); kernel_rfl; (with_reducible refine hR _ ?_); clear hR R) | ((first | ((with_reducible apply evD_skip); rfl; rfl; rfl; rfl) | ((with_reducible apply evD_unmet); rfl; rfl; rfl) | ((first | ((with_reducible apply evD_any); rfl; rfl) | ((with_reducible apply evD_gany); rfl; rfl; rfl; rfl; rfl)); (simp only [rdE, rdOf, go_sem, f1]; rfl); (intro τ hA hQ hN; ((try simp only [agree, Op.operands, Call.operands, go_sem, f1, go_sem, List.mem_cons, List.not_mem_nil, forall_eq_or_imp, forall_eq, List.append_toArray, Option.toArray] at hA); (try simp only [go_sem, f1, List.mem_cons, List.not_mem_nil, forall_eq_or_imp, forall_eq] at hQ hN); (first | (revert hA; intro hA) | have hA := trivial); (first | (revert hQ; intro hQ) | have hQ := trivial); (first | (revert hN; intro hN) | have hN := trivial); simp only [go_sem, f1, go_sem, hA, hQ, hN]; (repeat (refine ndI (by first | assumption | omega | rfl) ?_)); (first | apply eff_rd | apply eff_st | apply eff_nw))))); (simp only [St.eff, setO, hputs, go_sem, f1])) | ((with_reducible apply evD_split); rfl; rfl; rfl; all_goals intro hb; all_goals (simp only [St.eff, setO, hputs, go_sem, f1])) | ((with_reducible refine evC_draw ?_ ?_ ?_ ?_); kernel_rfl; kernel_rfl; (first | kernel_rfl | simp [newNames, isNew, St.free, freeH, AV.refsL, AV.refs]); intro R hR))))
    all_goals refine evC_upto L.length (fun i => ⟨[.any, .ptr 1 0, vi .i64 0, .any, vb false, .any, .any, .any, .any, .any, .any, .any, .any, .any, .any, .any, .any, .any, .any, acS ex L, vi .i64 L.length, vi .i64 (i : Int), .any, .any, .any, .any, .any, .any, .any, .any, .any, .any, .any, .any, .any, .any, .any, .any, .any, .any, .any, .any, .any, .any, .any, .any, .any, .any, .any, .any, .any, .any, .any, .any, .any, .any, .any, .any], [(1, [acS ex L])]⟩) (St.le_of (by simp [leT]) (by simp [leH, hget])) ?_
    all_goals intro i hi Ψ hΨ hΨ'
    all_goals (try dsimp only at hΨ ⊢)
    all_goals rcases Nat.lt_or_ge i L.length with hlt | hge
    all_goals first
      | (have k1 : (decide ((i : Int) < (L.length : Int))) = true := decide_eq_true (by omega)
         have hx := hlt
         obtain ⟨x, hx⟩ : ∃ x, L[i]? = some x := ⟨_, List.getElem?_eq_getElem hx⟩
         have k2 := ac_at hx)
      | (have k1 : (decide ((i : Int) < (L.length : Int))) = false := decide_eq_false (by omega)
         have k2 := True.intro)
    all_goals (repeat (any_goals (first | ((with_reducible refine evL_one ?_ ?_); rfl; intro K hK; simp (disch := omega) only [go_sem, k1, k2]; ((repeat (refine ndI (by first | assumption | omega | rfl) ?_)); refine hK _ ?_; clear hK K)) | (with_reducible first | (refine evL_nil ?_; refine hR _ ?_; clear hR R) | ((first | refine evC_seq ?_ | refine evC_block ?_ | refine evC_scope ?_); intro Ψ hΨ hΨ') | (refine evC_region ?_; intro R hR) | (refine hΨ _ ?_; clear hΨ hΨ' Ψ) | refine evC_skip ?_ | refine evC_ret ?_ | refine evC_exit ?_ | refine evC_label ?_) | ((with_reducible refine hΨ' _ _ ?_ ?_); (focus (simp; done)); clear hΨ hΨ' Ψ) | ((with_reducible apply evL_unmet); rfl; rfl; rfl; (try simp (disch := omega) only [go_sem, k1, k2])) | ((with_reducible apply evL_grd); rfl; rfl; rfl; all_goals (intro hb; first | (cases hb; done) | ((try simp only [Bool.not_true, Bool.not_false] at hb); (first | ((with_reducible intro K hK); simp (disch := omega) only [go_sem, k1, k2]; ((repeat (refine ndI (by first | assumption | omega | rfl) ?_)); refine hK _ ?_; clear hK K)) | ((fail_if_success (with_reducible intro _)); simp (disch := omega) only [go_sem, k1, k2]))))) | ((with_reducible apply evC_cond); rfl; rfl; all_goals (intro hc; first | (cases hc; done) | (try simp only at hc))) | ((with_reducible refine evD_nil ?_ ?_); kernel_rfl; (with_reducible refine hR _ ?_); clear hR R) | ((first | ((with_reducible apply evD_skip); rfl; rfl; rfl; rfl) | ((with_reducible apply evD_unmet); rfl; rfl; rfl) | ((first | ((with_reducible apply evD_any); rfl; rfl) | ((with_reducible apply evD_gany); rfl; rfl; rfl; rfl; rfl)); (simp (disch := omega) only [rdE, rdOf, go_sem, k1, k2]; rfl); (intro τ hA hQ hN; ((try simp only [agree, Op.operands, Call.operands, go_sem, k1, k2, go_sem, List.mem_cons, List.not_mem_nil, forall_eq_or_imp, forall_eq, List.append_toArray, Option.toArray] at hA); (try simp only [go_sem, k1, k2, List.mem_cons, List.not_mem_nil, forall_eq_or_imp, forall_eq] at hQ hN); (first | (revert hA; intro hA) | have hA := trivial); (first | (revert hQ; intro hQ) | have hQ := trivial); (first | (revert hN; intro hN) | have hN := trivial); simp (disch := omega) only [go_sem, k1, k2, go_sem, hA, hQ, hN]; (repeat (refine ndI (by first | assumption | omega | rfl) ?_)); (first | apply eff_rd | apply eff_st | apply eff_nw))))); (simp (disch := omega) only [St.eff, setO, hputs, go_sem, k1, k2])) | ((with_reducible apply evD_split); rfl; rfl; rfl; all_goals intro hb; all_goals (simp (disch := omega) only [St.eff, setO, hputs, go_sem, k1, k2])) | ((with_reducible refine evC_draw ?_ ?_ ?_ ?_); kernel_rfl; kernel_rfl; (first | kernel_rfl | simp [newNames, isNew, St.free, freeH, AV.refsL, AV.refs]); intro R hR))))
    all_goals (refine ⟨by simp, ⟨_, ?_, AV.le_refl _⟩, leH_get (by simp [leH, hget])⟩; simp only [Tryz.results35, resL, ldA, oneOf, go_sem])
end Go.Proofs.YtcahibdaiokajaaGreat
namespace Go.Proofs.YtcahibdaiokajaaGreat.lg
open Go.RowKit
set_option maxRecDepth 20000
set_option maxHeartbeats 2000000
structure Hd where
  a : Int
  p : Nat
  s : Nat
  d : Int
  f : Int
def Hd.pv (h : Hd) : List PV := [.v (.int .u64 h.a), .v (.int .u64 (l0 h.p)), .v (.int .u64 (l1 h.p)), .v (.int .u64 (l2 h.p)), .v (.int .u64 (l3 h.p)), .v (.int .u64 (l0 h.s)), .v (.int .u64 (l1 h.s)), .v (.int .u64 (l2 h.s)), .v (.int .u64 (l3 h.s)), .v (.int .u64 h.d), .v (.int .u64 h.f)]
def Hd.ok (h : Hd) : Prop := U h.a ∧ h.p < WW ∧ h.s < WW ∧ U h.d ∧ U h.f
theorem hd_len (h : Hd) : h.pv.length = 11 := rfl
abbrev c11 (a : Int) (p s : Nat) (d f : Int) : List AV := [vi .u64 a, vi .u64 (l0 p), vi .u64 (l1 p), vi .u64 (l2 p), vi .u64 (l3 p), vi .u64 (l0 s), vi .u64 (l1 s), vi .u64 (l2 s), vi .u64 (l3 s), vi .u64 d, vi .u64 f]
abbrev h11 (a : Int) (p s : Nat) (d f : Int) : AV := .agg (c11 a p s d f)
abbrev hsl (ex : Bool) (l : List Hd) : AV := .c (.sl ex 11 l.length (l.flatMap Hd.pv))
abbrev lg (ex : Bool) (l : List Hd) : AV := .agg [hsl ex l]
abbrev nilS : AV := .c (.v (.slice none 0 0))
theorem hsl_at {l : List Hd} {i : Nat} {y : Hd} (h : l[i]? = some y) : ((l.flatMap Hd.pv).drop (i * 11)).take 11 = [.v (.int .u64 y.a), .v (.int .u64 (l0 y.p)), .v (.int .u64 (l1 y.p)), .v (.int .u64 (l2 y.p)), .v (.int .u64 (l3 y.p)), .v (.int .u64 (l0 y.s)), .v (.int .u64 (l1 y.s)), .v (.int .u64 (l2 y.s)), .v (.int .u64 (l3 y.s)), .v (.int .u64 y.d), .v (.int .u64 y.f)] := flat_at (f := Hd.pv) hd_len h
end Go.Proofs.YtcahibdaiokajaaGreat.lg
namespace Go.Proofs.YtcahibdaiokajaaGreat.lg
open Go.RowKit
open Nat (reduceBEq)
set_option maxRecDepth 20000
set_option maxHeartbeats 1000000
abbrev rcH (l : List Hd) : List AV := (l.flatMap Hd.pv).map .c
theorem rcH_len (l : List Hd) : (rcH l).length = l.length * 11 := by rw [List.length_map, flat_length hd_len]
theorem cloneH_fn (ex : Bool) (l : List Hd) (hl : l.length ≤ 1000000) : Fn Tryz.prog 25 [hsl ex l] [] (.row 7 79 11 l.length) [(7, rcH l)] := by
  have e1 := rcH_len l
  (refine fn_of Tryz.func25 rfl (by rfl) ?_; simp only [Tryz.ntmps25, List.length_cons, List.length_nil, Nat.reduceAdd, Nat.reduceSub, List.replicate, List.cons_append, List.nil_append])
  (repeat (any_goals (first | ((have hz0 := hb0 hc); (with_reducible refine evL_op ?_ ?_); rfl; intro K hK; refine OpA.nilrow_after 2 7 79 11 (evO_sound ?_); (simp (disch := omega) only [go_sem, e1, refsL_map]); (repeat (refine And.intro (by first | assumption | omega | rfl | decide) ?_)); refine hK _ ?_; clear hK K; clear hb0) | ((with_reducible refine evL_one ?_ ?_); rfl; intro K hK; simp (disch := omega) only [go_sem, e1, refsL_map]; ((repeat (refine ndI (by first | assumption | omega | rfl) ?_)); refine hK _ ?_; clear hK K)) | ((with_reducible refine evL_one ?_ ?_); rfl; intro K hK; refine evO_isnil rfl rfl (by first | exact .inl rfl | exact .inr rfl) ?_ rfl ?_; (focus (simp (disch := omega) only [go_sem]; try rfl)); (intro b hb0; simp (disch := omega) only [eq_self, go_sem, e1, refsL_map]; (with_reducible refine hK _ ?_); clear hK K)) | ((with_reducible refine evL_one ?_ ?_); rfl; intro K hK; simp (disch := omega) only [go_sem, e1, refsL_map]; (repeat (refine And.intro rfl ?_)); (refine evO_nilnil rfl rfl (by first | exact .inl rfl | exact .inr rfl) ?_ rfl ?_); (focus (simp (disch := omega) only [go_sem]; try rfl)); (simp (disch := omega) only [eq_self, go_sem, e1, refsL_map]; (with_reducible refine hK _ ?_); clear hK K)) | (with_reducible first | (refine evL_nil ?_; refine hR _ ?_; clear hR R) | ((first | refine evC_seq ?_ | refine evC_block ?_); intro Ψ hΨ hΨ') | (refine evC_region ?_; intro R hR) | (refine hΨ _ ?_; clear hΨ hΨ' Ψ) | refine evC_skip ?_ | refine evC_ret ?_ | refine evC_exit ?_) | ((with_reducible refine hΨ' _ _ ?_ ?_); (focus (simp; done)); clear hΨ hΨ' Ψ) | ((with_reducible apply evC_cond); rfl; rfl; all_goals (intro hc; first | (cases hc; done) | (try simp only at hc))))))
  all_goals (try (obtain rfl := List.eq_nil_of_length_eq_zero hz0))
  all_goals exact ⟨by simp, ⟨_, rfl, AV.le_refl _⟩, leH_get (by simp [leH, hget])⟩
end Go.Proofs.YtcahibdaiokajaaGreat.lg
namespace Go.Proofs.YtcahibdaiokajaaGreat.lg
open Go.RowKit
open Nat (reduceBEq)
set_option maxRecDepth 20000
set_option maxHeartbeats 2000000
theorem none_fn (x : Nat) (hx : x < WW) : Fn Tryz.prog 85 [wN x] [] (vb (decide (x = 0))) [] := by
  have h := wN_zero hx
  obtain ⟨q, hq⟩ : ∃ q, decide (x = 0) = q := ⟨_, rfl⟩
  rw [hq] at h ⊢
  (refine fn_of Tryz.func85 rfl (by rfl) ?_; simp only [Tryz.ntmps85, List.length_cons, List.length_nil, Nat.reduceAdd, Nat.reduceSub, List.replicate, List.cons_append, List.nil_append])
  (repeat (any_goals (first | ((with_reducible refine evL_one ?_ ?_); rfl; intro K hK; simp only [go_sem, h]; ((repeat (refine ndI (by first | assumption | omega | rfl) ?_)); refine hK _ ?_; clear hK K)) | (with_reducible first | (refine evL_nil ?_; refine hR _ ?_; clear hR R) | ((first | refine evC_seq ?_ | refine evC_block ?_); intro Ψ hΨ hΨ') | (refine evC_region ?_; intro R hR) | (refine hΨ _ ?_; clear hΨ hΨ' Ψ) | refine evC_skip ?_ | refine evC_ret ?_ | refine evC_exit ?_) | ((with_reducible refine hΨ' _ _ ?_ ?_); (focus (simp; done)); clear hΨ hΨ' Ψ) | ((with_reducible apply evC_cond); rfl; rfl; all_goals (intro hc; first | (cases hc; done) | (try simp only at hc))))))
  all_goals (refine ⟨by simp, ⟨_, ?_, AV.le_refl _⟩, leH_get (by simp [leH, hget])⟩; simp only [Tryz.results85, resL, ldA, oneOf, go_sem])
theorem empty_fn (a : Int) (p s : Nat) (d f : Int) (hp : p < WW) (hs : s < WW) : Fn Tryz.prog 84 [h11 a p s d f] [] (vb (decide (p = 0) && decide (s = 0))) [] := by
  have h1 := none_fn p hp
  have h2 := none_fn s hs
  generalize decide (p = 0) = q1 at h1
  generalize decide (s = 0) = q2 at h2
  cases q1 with
  | true =>
    (refine fn_of Tryz.func84 rfl (by rfl) ?_; simp only [Tryz.ntmps84, List.length_cons, List.length_nil, Nat.reduceAdd, Nat.reduceSub, List.replicate, List.cons_append, List.nil_append])
    (repeat (any_goals (first | ((with_reducible refine evL_call ?_ ?_ ?_); rfl; rfl; intro K hK; (first | ((apply opA_callB (h1); rfl; rfl; rfl; rfl; exact Tryz.func85); kernel_rfl; rfl; (simp only [go_sem]; rfl); (first | rfl | simp [AV.inNL, AV.inN])) | ((apply opA_callB (h2); rfl; rfl; rfl; rfl; exact Tryz.func85); kernel_rfl; rfl; (simp only [go_sem]; rfl); (first | rfl | simp [AV.inNL, AV.inN]))); (simp only [go_sem]; refine hK _ ?_; clear hK K)) | ((with_reducible refine evL_one ?_ ?_); rfl; intro K hK; simp only [go_sem]; ((repeat (refine ndI (by first | assumption | omega | rfl) ?_)); refine hK _ ?_; clear hK K)) | (with_reducible first | (refine evL_nil ?_; refine hR _ ?_; clear hR R) | ((first | refine evC_seq ?_ | refine evC_block ?_); intro Ψ hΨ hΨ') | (refine evC_region ?_; intro R hR) | (refine hΨ _ ?_; clear hΨ hΨ' Ψ) | refine evC_skip ?_ | refine evC_ret ?_ | refine evC_exit ?_) | ((with_reducible refine hΨ' _ _ ?_ ?_); (focus (simp; done)); clear hΨ hΨ' Ψ) | ((with_reducible apply evL_unmet); rfl; rfl; rfl; (try simp only [go_sem])) | ((with_reducible apply evL_grd); rfl; rfl; rfl; all_goals (intro hb; first | (cases hb; done) | ((try simp only [Bool.not_true, Bool.not_false] at hb); (first | ((with_reducible intro K hK); (first | ((apply opA_callB (h2); rfl; rfl; rfl; rfl; exact Tryz.func85); kernel_rfl; rfl; (simp only [go_sem]; rfl); (first | rfl | simp [AV.inNL, AV.inN])) | skip); simp only [go_sem]; ((repeat (refine ndI (by first | assumption | omega | rfl) ?_)); refine hK _ ?_; clear hK K)) | ((fail_if_success (with_reducible intro _)); simp only [go_sem]))))) | ((with_reducible apply evC_cond); rfl; rfl; all_goals (intro hc; first | (cases hc; done) | (try simp only at hc))))))
    all_goals (refine ⟨by simp, ⟨_, ?_, AV.le_refl _⟩, leH_get (by simp [leH, hget])⟩; simp only [Tryz.results84, resL, ldA, oneOf, go_sem])
  | false =>
    (refine fn_of Tryz.func84 rfl (by rfl) ?_; simp only [Tryz.ntmps84, List.length_cons, List.length_nil, Nat.reduceAdd, Nat.reduceSub, List.replicate, List.cons_append, List.nil_append])
    (repeat (any_goals (first | ((with_reducible refine evL_call ?_ ?_ ?_); rfl; rfl; intro K hK; ((apply opA_callB (h1); rfl; rfl; rfl; rfl; exact Tryz.func85); kernel_rfl; rfl; (simp only [go_sem]; rfl); (first | rfl | simp [AV.inNL, AV.inN])); (simp only [go_sem]; refine hK _ ?_; clear hK K)) | ((with_reducible refine evL_one ?_ ?_); rfl; intro K hK; simp only [go_sem]; ((repeat (refine ndI (by first | assumption | omega | rfl) ?_)); refine hK _ ?_; clear hK K)) | (with_reducible first | (refine evL_nil ?_; refine hR _ ?_; clear hR R) | ((first | refine evC_seq ?_ | refine evC_block ?_); intro Ψ hΨ hΨ') | (refine evC_region ?_; intro R hR) | (refine hΨ _ ?_; clear hΨ hΨ' Ψ) | refine evC_skip ?_ | refine evC_ret ?_ | refine evC_exit ?_) | ((with_reducible refine hΨ' _ _ ?_ ?_); (focus (simp; done)); clear hΨ hΨ' Ψ) | ((with_reducible apply evL_unmet); rfl; rfl; rfl; (try simp only [go_sem])) | ((with_reducible apply evL_grd); rfl; rfl; rfl; all_goals (intro hb; first | (cases hb; done) | ((try simp only [Bool.not_true, Bool.not_false] at hb); (first | ((with_reducible intro K hK); simp only [go_sem]; ((repeat (refine ndI (by first | assumption | omega | rfl) ?_)); refine hK _ ?_; clear hK K)) | ((fail_if_success (with_reducible intro _)); simp only [go_sem]))))) | ((with_reducible apply evC_cond); rfl; rfl; all_goals (intro hc; first | (cases hc; done) | (try simp only at hc))))))
    all_goals (refine ⟨by simp, ⟨_, ?_, AV.le_refl _⟩, leH_get (by simp [leH, hget])⟩; simp only [Tryz.results84, resL, ldA, oneOf, go_sem])
    all_goals rw [Bool.false_and]
def rightH (h : Hd) : Bool := (h.a != 0) && (decide (h.d ≤ 1073741824) && (decide (h.f ≤ 1100585369600) && (!(decide (h.p = 0) && decide (h.s = 0)) && (((h.d == 0) == decide (h.s = 0)) && ((h.f == 0) || !decide (h.s = 0))))))
theorem right_fn (a : Int) (p s : Nat) (d f : Int) (hp : p < WW) (hs : s < WW) : Fn Tryz.prog 60 [h11 a p s d f] [] (vb (rightH ⟨a, p, s, d, f⟩)) [] := by
  have h1 := empty_fn a p s d f hp hs
  have h2 := none_fn s hs
  unfold rightH
  dsimp only
  generalize decide (p = 0) = q1 at h1
  generalize decide (s = 0) = q2 at h1 h2
  (refine fn_of Tryz.func60 rfl (by rfl) ?_; simp only [Tryz.ntmps60, List.length_cons, List.length_nil, Nat.reduceAdd, Nat.reduceSub, List.replicate, List.cons_append, List.nil_append])
  (repeat (any_goals (first | ((with_reducible refine evL_one ?_ ?_); rfl; intro K hK; simp only [go_sem]; ((repeat (refine ndI (by first | assumption | omega | rfl) ?_)); refine hK _ ?_; clear hK K)) | (with_reducible first | (refine evL_nil ?_; refine hR _ ?_; clear hR R) | ((first | refine evC_seq ?_ | refine evC_block ?_); intro Ψ hΨ hΨ') | (refine evC_region ?_; intro R hR) | (refine hΨ _ ?_; clear hΨ hΨ' Ψ) | refine evC_skip ?_ | refine evC_ret ?_ | refine evC_exit ?_) | ((with_reducible refine hΨ' _ _ ?_ ?_); (focus (simp; done)); clear hΨ hΨ' Ψ) | ((with_reducible apply evL_unmet); rfl; rfl; rfl; (try simp only [go_sem])) | ((with_reducible apply evL_grd); rfl; rfl; rfl; all_goals (intro hb; first | (cases hb; done) | ((try simp only [Bool.not_true, Bool.not_false] at hb); (first | ((with_reducible intro K hK); (first | ((apply opA_callB (h1); rfl; rfl; rfl; rfl; exact Tryz.func84); kernel_rfl; rfl; (simp only [go_sem]; rfl); (first | rfl | simp [AV.inNL, AV.inN])) | skip); simp only [go_sem]; ((repeat (refine ndI (by first | assumption | omega | rfl) ?_)); refine hK _ ?_; clear hK K)) | ((fail_if_success (with_reducible intro _)); simp only [go_sem]))))) | ((with_reducible apply evC_cond); rfl; rfl; all_goals (intro hc; first | (cases hc; done) | (try simp only at hc))) | ((with_reducible refine evD_nil ?_ ?_); kernel_rfl; (with_reducible refine hR _ ?_); clear hR R) | ((first | ((with_reducible apply evD_skip); rfl; rfl; rfl; rfl) | ((with_reducible apply evD_unmet); rfl; rfl; rfl) | ((first | ((with_reducible apply evD_fcall); rfl; rfl) | ((with_reducible apply evD_gcall); rfl; rfl; rfl; rfl; rfl)); ((apply opF_callB (h2); rfl; rfl; rfl; rfl; exact Tryz.func85); kernel_rfl; rfl; (simp only [go_sem]; rfl); (first | rfl | simp [AV.inNL, AV.inN]))) | ((first | ((with_reducible apply evD_any); rfl; rfl) | ((with_reducible apply evD_gany); rfl; rfl; rfl; rfl; rfl)); (simp only [rdE, rdOf, go_sem]; rfl); (intro τ hA hQ hN; ((try simp only [agree, Op.operands, Call.operands, go_sem, List.mem_cons, List.not_mem_nil, forall_eq_or_imp, forall_eq, List.append_toArray, Option.toArray] at hA); (try simp only [go_sem, List.mem_cons, List.not_mem_nil, forall_eq_or_imp, forall_eq] at hQ hN); (first | (revert hA; intro hA) | have hA := trivial); (first | (revert hQ; intro hQ) | have hQ := trivial); (first | (revert hN; intro hN) | have hN := trivial); simp only [go_sem, hA, hQ, hN]; (repeat (refine ndI (by first | assumption | omega | rfl) ?_)); (first | apply eff_rd | apply eff_st | apply eff_nw))))); (simp only [St.eff, setO, hputs, go_sem])) | ((with_reducible apply evD_split); rfl; rfl; rfl; all_goals intro hb; all_goals (simp only [St.eff, setO, hputs, go_sem])) | ((with_reducible refine evC_draw ?_ ?_ ?_ ?_); kernel_rfl; kernel_rfl; (first | kernel_rfl | simp [newNames, isNew, St.free, freeH, AV.refsL, AV.refs]); intro R hR))))
  all_goals (refine ⟨by simp, ⟨_, ?_, AV.le_refl _⟩, leH_get (by simp [leH, hget])⟩; simp only [Tryz.results60, resL, ldA, oneOf, go_sem])
  all_goals clear h1 h2
  all_goals (cases q1 <;> cases q2 <;> simp_all)
  all_goals omega
def tot (l : List Hd) : Nat := (l.map fun h => h.p + h.s).sum
def wds (l : List Hd) : List Nat := l.flatMap fun h => [h.p, h.s]
theorem wds_sum (l : List Hd) : (wds l).sum = tot l := by
  induction l with
  | nil => rfl
  | cons h l ih => simp only [wds, tot, List.flatMap_cons, List.map_cons, List.sum_cons, List.sum_append, List.sum_nil] at *; omega
theorem wds_len (l : List Hd) : (wds l).length = l.length * 2 := by
  induction l with
  | nil => rfl
  | cons h l ih => simp only [wds, List.flatMap_cons, List.length_append, List.length_cons, List.length_nil] at *; omega
theorem wds_lt {l : List Hd} (ok : ∀ h ∈ l, h.ok) : ∀ x ∈ wds l, x < WW := fun x hx => by
  unfold wds at hx
  rw [List.mem_flatMap] at hx
  obtain ⟨h, hh, hx⟩ := hx
  simp only [List.mem_cons, List.not_mem_nil, or_false] at hx
  rcases hx with rfl | rfl
  · exact (ok h hh).2.1
  · exact (ok h hh).2.2.1
theorem rcW_snoc2 (l : List Nat) (x y : Nat) : rcW (l ++ [x, y]) = rcW l ++ [vi .u64 (l0 x), vi .u64 (l1 x), vi .u64 (l2 x), vi .u64 (l3 x), vi .u64 (l0 y), vi .u64 (l1 y), vi .u64 (l2 y), vi .u64 (l3 y)] := by
  simp [rcW, wpv]
theorem wds_snoc {l : List Hd} {i : Nat} {y : Hd} (hy : l[i]? = some y) : wds (l.take (i + 1)) = wds (l.take i) ++ [y.p, y.s] := by
  unfold wds
  rw [List.take_add_one, hy]
  simp
abbrev stAl (ex : Bool) (l : List Hd) (r : Nat) (out : List Nat) (i : Nat) : St := ⟨[.any, .row r 65 4 out.length, .ptr 2 0, .any, .ptr 4 0, .any, .any, .any, .any, hsl ex l, vi .i64 l.length, vi .i64 i, .any, .any, .any, .any, .any, .any, .any, .any, .any, .any, .any, .any, .any, .any, .any], [(2, [hsl ex l]), (4, [vi .u64 0, vi .u64 0, vi .u64 0, vi .u64 0]), (r, rcW out)]⟩
theorem stAl_rn (ex : Bool) (l : List Hd) (out : List Nat) (i : Nat) : (stAl ex l 21 out i).to (stAl ex l 500 out i) := by
  have h := St.to.rn (σ := stAl ex l 21 out i) (fun r => if r = 21 then 500 else r) (fun r => if r = 500 then 21 else r) [2, 4, 21] (by simp [AV.inNL, AV.inN]) (by simp) (by simp [inH, AV.inNL, AV.inN, inNL_rcW]) (by simp) (by simp)
  simpa [AV.renL, AV.ren, renH, renL_rcW] using h
theorem all_nil (ex : Bool) (l : List Hd) (hl : l.length ≤ 400) (ok : ∀ h ∈ l, h.ok) : Fn Tryz.prog 61 [lg ex l, nilS] [] (.tup [wN (tot l % WW), vb (decide (WW ≤ tot l))]) [] := by
  have hsum := sum_fn false (wds l) (by rw [wds_len]; omega) (wds_lt ok)
  rw [wds_sum] at hsum
  obtain ⟨tn, htn⟩ : ∃ n, tot l % WW = n := ⟨_, rfl⟩
  obtain ⟨tq, htq⟩ : ∃ q, decide (WW ≤ tot l) = q := ⟨_, rfl⟩
  rw [htn, htq] at hsum ⊢
  (refine fn_of Tryz.func61 rfl (by rfl) ?_; simp only [Tryz.ntmps61, List.length_cons, List.length_nil, Nat.reduceAdd, Nat.reduceSub, List.replicate, List.cons_append, List.nil_append])
  (repeat (any_goals (first | ((with_reducible refine evL_one ?_ ?_); rfl; intro K hK; simp only [go_sem]; ((repeat (refine ndI (by first | assumption | omega | rfl) ?_)); refine hK _ ?_; clear hK K)) | (with_reducible first | (refine evL_nil ?_; refine hR _ ?_; clear hR R) | ((first | refine evC_seq ?_ | refine evC_block ?_); intro Ψ hΨ hΨ') | (refine evC_region ?_; intro R hR) | (refine hΨ _ ?_; clear hΨ hΨ' Ψ) | refine evC_skip ?_ | refine evC_ret ?_ | refine evC_exit ?_) | ((with_reducible refine hΨ' _ _ ?_ ?_); (focus (simp; done)); clear hΨ hΨ' Ψ) | ((with_reducible apply evC_cond); rfl; rfl; all_goals (intro hc; first | (cases hc; done) | (try simp only at hc))))))
  refine evC_uptoT l.length (fun i => stAl ex l 500 (wds (l.take i)) i) ?_ ?_
  · refine St.to.trans (St.to.of_le (τ := ⟨[.any, .c (.v (.slice none 0 0)), .ptr 2 0, .any, .ptr 4 0, .any, .any, .any, .any, hsl ex l, vi .i64 l.length, vi .i64 0, .any, .any, .any, .any, .any, .any, .any, .any, .any, .any, .any, .any, .any, .any, .any], [(2, [hsl ex l]), (4, [vi .u64 0, vi .u64 0, vi .u64 0, vi .u64 0])]⟩) (St.le_of (by simp [leT]) (by simp [leH, hget]))) ?_
    refine St.to.trans (St.to.nilrow 1 500 65 4 rfl (by simp) (by simp [St.free, freeH, AV.refsL, AV.refs]) (by decide)) (St.to.of_le (St.le_of (by simp [leT, wds]) (by simp [leH, hget, hput, rcW, wds])))
  intro i hi Ψ hΨ hΨ'
  dsimp only [stAl] at hΨ ⊢
  rcases Nat.lt_or_ge i l.length with hlt | hge
  · obtain ⟨y, hy⟩ : ∃ y, l[i]? = some y := ⟨l[i], List.getElem?_eq_getElem hlt⟩
    have k1 : (decide ((i : Int) < (l.length : Int))) = true := by simpa using hlt
    have k2 := hsl_at hy
    have k7 : (i : Int) + 1 = ((i + 1 : Nat) : Int) := by omega
    have k5 := wds_len (l.take i)
    have k6 : (l.take i).length ≤ 400 := by simp; omega
    have hs := wds_snoc hy
    rw [hs] at hΨ
    generalize wds (l.take i) = out at k5 hΨ ⊢
    have k4 := rcW_len out
    have k9 : ∀ r, AV.refsL r (rcW out) = false := fun r => refsL_map r _
    (have W := ndI k1 (ndI k2 (ndI k4 (ndI k7 (ndI k9 (ndI @wrI @refsL_map))))); (repeat (any_goals (first | ((with_reducible refine evL_one ?_ ?_); rfl; intro K hK; simp (disch := omega) only [go_sem, W, refsL_app, AV.refsL, AV.refs, List.length_append, List.length_cons, List.length_nil, Bool.or_false]; ((repeat (refine ndI (by first | assumption | omega | rfl) ?_)); refine hK _ ?_; clear hK K)) | (with_reducible first | (refine evL_nil ?_; refine hR _ ?_; clear hR R) | ((first | refine evC_seq ?_ | refine evC_block ?_); intro Ψ hΨ hΨ') | (refine evC_region ?_; intro R hR) | (refine hΨ _ ?_; clear hΨ hΨ' Ψ) | refine evC_skip ?_ | refine evC_ret ?_ | refine evC_exit ?_) | ((with_reducible refine hΨ' _ _ ?_ ?_); (focus (simp; done)); clear hΨ hΨ' Ψ) | ((with_reducible apply evC_cond); rfl; rfl; all_goals (intro hc; first | (cases hc; done) | (try simp only at hc)))))))
    exact hΨ _ hlt (St.to.trans (St.to.of_le (τ := stAl ex l 21 (out ++ [y.p, y.s]) (i + 1)) (St.le_of (by simp [leT]) (by simp [leH, hget, rcW_snoc2]))) (stAl_rn ex l _ _))
  · have k1 : (decide ((i : Int) < (l.length : Int))) = false := by simpa using hge
    have e : l.take i = l := List.take_of_length_le hge
    rw [e]
    have k4 := rcW_len (wds l)
    have k5 : unC (rcW (wds l)) = some ((wds l).flatMap wpv) := unC_map _
    (have W := ndI k1 (ndI k4 k5); (repeat (any_goals (first | ((with_reducible refine evL_call ?_ ?_ ?_); rfl; rfl; intro K hK; ((apply opA_callv (hsum); rfl; rfl; rfl; rfl; exact Tryz.func82); kernel_rfl; rfl; (focus ((simp (disch := omega) only [AV.viewL, AV.view, viewRow, unC, Option.map_some, go_sem, W, flat_length wpv_len]); (try rfl))); rfl); (simp (disch := omega) only [go_sem, W, flat_length wpv_len]; refine hK _ ?_; clear hK K)) | ((with_reducible refine evL_one ?_ ?_); rfl; intro K hK; simp (disch := omega) only [go_sem, W, flat_length wpv_len]; ((repeat (refine ndI (by first | assumption | omega | rfl) ?_)); refine hK _ ?_; clear hK K)) | (with_reducible first | (refine evL_nil ?_; refine hR _ ?_; clear hR R) | ((first | refine evC_seq ?_ | refine evC_block ?_); intro Ψ hΨ hΨ') | (refine evC_region ?_; intro R hR) | (refine hΨ _ ?_; clear hΨ hΨ' Ψ) | refine evC_skip ?_ | refine evC_ret ?_ | refine evC_exit ?_) | ((with_reducible refine hΨ' _ _ ?_ ?_); (focus (simp; done)); clear hΨ hΨ' Ψ) | ((with_reducible apply evC_cond); rfl; rfl; all_goals (intro hc; first | (cases hc; done) | (try simp only at hc)))))))
    all_goals (refine ⟨by simp, ⟨_, ?_, AV.le_refl _⟩, leH_get (by simp [leH, hget])⟩; simp only [Tryz.results61, resL, ldA, oneOf, go_sem])
end Go.Proofs.YtcahibdaiokajaaGreat.lg
namespace Go.Proofs.YtcahibdaiokajaaGreat.lg
open Go.RowKit
open Nat (reduceBEq)
set_option maxRecDepth 20000
set_option maxHeartbeats 2000000
def lastA (l : List Hd) : Nat → Int
  | 0 => 0
  | i + 1 => match l[i]? with | some y => y.a | none => 0
def okR (l : List Hd) (i : Nat) : Bool := match l[i]? with | some y => rightH y && decide (lastA l i < y.a) | none => false
def okU (l : List Hd) : Nat → Bool
  | 0 => true
  | i + 1 => okU l i && okR l i
def okL (l : List Hd) : Bool := decide (l.length ≤ 24) && (okU l l.length && decide (tot l < WW))
theorem okU_false {l : List Hd} {i n : Nat} (h : okR l i = false) (hi : i < n) : okU l n = false := by
  induction n with
  | zero => omega
  | succ n ih =>
    unfold okU
    rcases Nat.lt_or_ge i n with h1 | h1
    · rw [ih h1]; rfl
    · obtain rfl : i = n := by omega
      rw [h, Bool.and_false]
theorem check_fn (ex : Bool) (l : List Hd) (hl : l.length ≤ maxLen) (ok : ∀ h ∈ l, h.ok) : Fn Tryz.prog 36 [lg ex l] [] (vi .i64 (if okL l then 0 else 170)) [] := by
  unfold maxLen at hl
  by_cases h24 : l.length ≤ 24
  · have e0 : (decide ((l.length : Int) > 24)) = false := by simp; omega
    have al := all_nil ex l (by omega) ok
    have hq : (decide (WW ≤ tot l)) = !decide (tot l < WW) := by
      rw [Bool.eq_iff_iff]; simp
    rw [hq] at al
    have hres : okL l = (okU l l.length && decide (tot l < WW)) := by unfold okL; rw [decide_eq_true h24, Bool.true_and]
    rw [hres]
    obtain ⟨tn, htn⟩ : ∃ n, tot l % WW = n := ⟨_, rfl⟩
    obtain ⟨tq, htq⟩ : ∃ q, decide (tot l < WW) = q := ⟨_, rfl⟩
    obtain ⟨tu, htu⟩ : ∃ q, okU l l.length = q := ⟨_, rfl⟩
    rw [htn, htq] at al
    rw [htq, htu]
    (refine fn_of Tryz.func36 rfl (by rfl) ?_; simp only [Tryz.ntmps36, List.length_cons, List.length_nil, Nat.reduceAdd, Nat.reduceSub, List.replicate, List.cons_append, List.nil_append])
    (repeat (any_goals (first | ((with_reducible refine evL_one ?_ ?_); rfl; intro K hK; simp only [go_sem, e0]; ((repeat (refine ndI (by first | assumption | omega | rfl) ?_)); refine hK _ ?_; clear hK K)) | (with_reducible first | (refine evL_nil ?_; refine hR _ ?_; clear hR R) | ((first | refine evC_seq ?_ | refine evC_block ?_); intro Ψ hΨ hΨ') | (refine evC_region ?_; intro R hR) | (refine hΨ _ ?_; clear hΨ hΨ' Ψ) | refine evC_skip ?_ | refine evC_ret ?_ | refine evC_exit ?_) | ((with_reducible refine hΨ' _ _ ?_ ?_); (focus (simp; done)); clear hΨ hΨ' Ψ) | ((with_reducible apply evL_unmet); rfl; rfl; rfl; (try simp only [go_sem, e0])) | ((with_reducible apply evL_grd); rfl; rfl; rfl; all_goals (intro hb; first | (cases hb; done) | ((try simp only [Bool.not_true, Bool.not_false] at hb); (first | ((with_reducible intro K hK); simp only [go_sem, e0]; ((repeat (refine ndI (by first | assumption | omega | rfl) ?_)); refine hK _ ?_; clear hK K)) | ((fail_if_success (with_reducible intro _)); simp only [go_sem, e0]))))) | ((with_reducible apply evC_cond); rfl; rfl; all_goals (intro hc; first | (cases hc; done) | (try simp only at hc))))))
    refine evC_loop (α := { i : Nat // i ≤ l.length ∧ okU l i = true }) (fun p => ⟨[.any, .ptr 1 0, .any, vi .u64 (lastA l p.1), .any, .any, .any, .any, .any, .any, .any, .any, .any, hsl ex l, vi .i64 l.length, vi .i64 p.1, .any, .any, .any, .any, .any, .any, .any, .any, .any, .any, .any, .any, .any, .any, .any, .any, .any, .any, .any, .any, .any], [(1, [hsl ex l])]⟩) (fun p => l.length - p.1) ⟨0, Nat.zero_le _, rfl⟩ (St.le_of (by simp [leT, lastA]) (by simp [leH, hget])) ?_
    rintro ⟨i, hi, hu⟩ Ψ hΨ hΨ'
    dsimp only at hi hu hΨ ⊢
    rcases Nat.lt_or_ge i l.length with hlt | hge
    · obtain ⟨y, hy⟩ : ∃ y, l[i]? = some y := ⟨l[i], List.getElem?_eq_getElem hlt⟩
      have k1 : (decide ((i : Int) < (l.length : Int))) = true := by simpa using hlt
      have k2 := hsl_at hy
      have k7 : (i : Int) + 1 = ((i + 1 : Nat) : Int) := by omega
      obtain ⟨_, op, os, _, _⟩ := ok y (List.mem_of_getElem? hy)
      have rf := right_fn y.a y.p y.s y.d y.f op os
      have hR : okR l i = (rightH y && decide (lastA l i < y.a)) := by unfold okR; rw [hy]
      have hnx : lastA l (i + 1) = y.a := by simp only [lastA, hy]
      have hnu : okR l i = true → okU l (i + 1) = true := fun h => by unfold okU; rw [hu, h]; rfl
      have hno : okR l i = false → tu = false := fun h => by rw [← htu]; exact okU_false h hlt
      rw [show (⟨y.a, y.p, y.s, y.d, y.f⟩ : Hd) = y from rfl] at rf
      rw [hR] at hnu hno
      generalize rightH y = rq at rf hnu hno
      have hle : (decide (lastA l i < y.a)) = !decide (y.a ≤ lastA l i) := by
        rw [Bool.eq_iff_iff]; simp
      rw [hle] at hnu hno
      obtain ⟨lq, hlb⟩ : ∃ lq, decide (y.a ≤ lastA l i) = lq := ⟨_, rfl⟩
      rw [hlb] at hnu hno
      clear hR hle
      cases rq with
      | false =>
        (have W := ndI k1 (ndI k2 (ndI k7 @wrI)); (repeat (any_goals (first | ((with_reducible refine evL_call ?_ ?_ ?_); rfl; rfl; intro K hK; ((apply opA_callB (rf); rfl; rfl; rfl; rfl; exact Tryz.func60); kernel_rfl; rfl; (simp (disch := omega) only [go_sem, W, hlb]; rfl); (first | rfl | simp [AV.inNL, AV.inN])); (simp (disch := omega) only [go_sem, W, hlb]; refine hK _ ?_; clear hK K)) | ((with_reducible refine evL_one ?_ ?_); rfl; intro K hK; simp (disch := omega) only [go_sem, W, hlb]; ((repeat (refine ndI (by first | assumption | omega | rfl) ?_)); refine hK _ ?_; clear hK K)) | (with_reducible first | (refine evL_nil ?_; refine hR _ ?_; clear hR R) | ((first | refine evC_seq ?_ | refine evC_block ?_); intro Ψ hΨ hΨ') | (refine evC_region ?_; intro R hR) | (refine hΨ _ ?_; clear hΨ hΨ' Ψ) | refine evC_skip ?_ | refine evC_ret ?_ | refine evC_exit ?_) | ((with_reducible refine hΨ' _ _ ?_ ?_); (focus (simp; done)); clear hΨ hΨ' Ψ) | ((with_reducible apply evL_unmet); rfl; rfl; rfl; (try simp (disch := omega) only [go_sem, W, hlb])) | ((with_reducible apply evL_grd); rfl; rfl; rfl; all_goals (intro hb; first | (cases hb; done) | ((try simp only [Bool.not_true, Bool.not_false] at hb); (first | ((with_reducible intro K hK); simp (disch := omega) only [go_sem, W, hlb]; ((repeat (refine ndI (by first | assumption | omega | rfl) ?_)); refine hK _ ?_; clear hK K)) | ((fail_if_success (with_reducible intro _)); simp (disch := omega) only [go_sem, W, hlb]))))) | ((with_reducible apply evC_cond); rfl; rfl; all_goals (intro hc; first | (cases hc; done) | (try simp only at hc)))))))
        all_goals (refine ⟨by simp, ⟨_, ?_, AV.le_refl _⟩, leH_get (by simp [leH, hget])⟩; simp only [Tryz.results36, resL, ldA, oneOf, go_sem])
        all_goals rw [hno rfl]
        all_goals rfl
      | true =>
        cases lq with
        | true =>
          (have W := ndI k1 (ndI k2 (ndI k7 @wrI)); (repeat (any_goals (first | ((with_reducible refine evL_call ?_ ?_ ?_); rfl; rfl; intro K hK; ((apply opA_callB (rf); rfl; rfl; rfl; rfl; exact Tryz.func60); kernel_rfl; rfl; (simp (disch := omega) only [go_sem, W, hlb]; rfl); (first | rfl | simp [AV.inNL, AV.inN])); (simp (disch := omega) only [go_sem, W, hlb]; refine hK _ ?_; clear hK K)) | ((with_reducible refine evL_one ?_ ?_); rfl; intro K hK; simp (disch := omega) only [go_sem, W, hlb]; ((repeat (refine ndI (by first | assumption | omega | rfl) ?_)); refine hK _ ?_; clear hK K)) | (with_reducible first | (refine evL_nil ?_; refine hR _ ?_; clear hR R) | ((first | refine evC_seq ?_ | refine evC_block ?_); intro Ψ hΨ hΨ') | (refine evC_region ?_; intro R hR) | (refine hΨ _ ?_; clear hΨ hΨ' Ψ) | refine evC_skip ?_ | refine evC_ret ?_ | refine evC_exit ?_) | ((with_reducible refine hΨ' _ _ ?_ ?_); (focus (simp; done)); clear hΨ hΨ' Ψ) | ((with_reducible apply evL_unmet); rfl; rfl; rfl; (try simp (disch := omega) only [go_sem, W, hlb])) | ((with_reducible apply evL_grd); rfl; rfl; rfl; all_goals (intro hb; first | (cases hb; done) | ((try simp only [Bool.not_true, Bool.not_false] at hb); (first | ((with_reducible intro K hK); simp (disch := omega) only [go_sem, W, hlb]; ((repeat (refine ndI (by first | assumption | omega | rfl) ?_)); refine hK _ ?_; clear hK K)) | ((fail_if_success (with_reducible intro _)); simp (disch := omega) only [go_sem, W, hlb]))))) | ((with_reducible apply evC_cond); rfl; rfl; all_goals (intro hc; first | (cases hc; done) | (try simp only at hc)))))))
          all_goals (refine ⟨by simp, ⟨_, ?_, AV.le_refl _⟩, leH_get (by simp [leH, hget])⟩; simp only [Tryz.results36, resL, ldA, oneOf, go_sem])
          all_goals rw [hno rfl]
          all_goals rfl
        | false =>
          (have W := ndI k1 (ndI k2 (ndI k7 @wrI)); (repeat (any_goals (first | ((with_reducible refine evL_call ?_ ?_ ?_); rfl; rfl; intro K hK; ((apply opA_callB (rf); rfl; rfl; rfl; rfl; exact Tryz.func60); kernel_rfl; rfl; (simp (disch := omega) only [go_sem, W, hlb]; rfl); (first | rfl | simp [AV.inNL, AV.inN])); (simp (disch := omega) only [go_sem, W, hlb]; refine hK _ ?_; clear hK K)) | ((with_reducible refine evL_one ?_ ?_); rfl; intro K hK; simp (disch := omega) only [go_sem, W, hlb]; ((repeat (refine ndI (by first | assumption | omega | rfl) ?_)); refine hK _ ?_; clear hK K)) | (with_reducible first | (refine evL_nil ?_; refine hR _ ?_; clear hR R) | ((first | refine evC_seq ?_ | refine evC_block ?_); intro Ψ hΨ hΨ') | (refine evC_region ?_; intro R hR) | (refine hΨ _ ?_; clear hΨ hΨ' Ψ) | refine evC_skip ?_ | refine evC_ret ?_ | refine evC_exit ?_) | ((with_reducible refine hΨ' _ _ ?_ ?_); (focus (simp; done)); clear hΨ hΨ' Ψ) | ((with_reducible apply evL_unmet); rfl; rfl; rfl; (try simp (disch := omega) only [go_sem, W, hlb])) | ((with_reducible apply evL_grd); rfl; rfl; rfl; all_goals (intro hb; first | (cases hb; done) | ((try simp only [Bool.not_true, Bool.not_false] at hb); (first | ((with_reducible intro K hK); simp (disch := omega) only [go_sem, W, hlb]; ((repeat (refine ndI (by first | assumption | omega | rfl) ?_)); refine hK _ ?_; clear hK K)) | ((fail_if_success (with_reducible intro _)); simp (disch := omega) only [go_sem, W, hlb]))))) | ((with_reducible apply evC_cond); rfl; rfl; all_goals (intro hc; first | (cases hc; done) | (try simp only at hc)))))))
          exact hΨ _ ⟨i + 1, hlt, hnu rfl⟩ (by simp only; omega) (St.le_of (by simp [leT, hnx]) (by simp [leH, hget]))
    · have k1 : (decide ((i : Int) < (l.length : Int))) = false := by simpa using hge
      have htu' : tu = true := by rw [← htu, ← hu]; congr 1; omega
      (repeat (any_goals (first | ((with_reducible refine evL_call ?_ ?_ ?_); rfl; rfl; intro K hK; ((apply opA_callB (al); rfl; rfl; rfl; rfl; exact Tryz.func61); kernel_rfl; rfl; (simp only [go_sem, k1]; rfl); (first | rfl | simp [AV.inNL, AV.inN])); (simp only [go_sem, k1]; refine hK _ ?_; clear hK K)) | ((with_reducible refine evL_one ?_ ?_); rfl; intro K hK; simp only [go_sem, k1]; ((repeat (refine ndI (by first | assumption | omega | rfl) ?_)); refine hK _ ?_; clear hK K)) | (with_reducible first | (refine evL_nil ?_; refine hR _ ?_; clear hR R) | ((first | refine evC_seq ?_ | refine evC_block ?_); intro Ψ hΨ hΨ') | (refine evC_region ?_; intro R hR) | (refine hΨ _ ?_; clear hΨ hΨ' Ψ) | refine evC_skip ?_ | refine evC_ret ?_ | refine evC_exit ?_) | ((with_reducible refine hΨ' _ _ ?_ ?_); (focus (simp; done)); clear hΨ hΨ' Ψ) | ((with_reducible apply evL_unmet); rfl; rfl; rfl; (try simp only [go_sem, k1])) | ((with_reducible apply evL_grd); rfl; rfl; rfl; all_goals (intro hb; first | (cases hb; done) | ((try simp only [Bool.not_true, Bool.not_false] at hb); (first | ((with_reducible intro K hK); simp only [go_sem, k1]; ((repeat (refine ndI (by first | assumption | omega | rfl) ?_)); refine hK _ ?_; clear hK K)) | ((fail_if_success (with_reducible intro _)); simp only [go_sem, k1]))))) | ((with_reducible apply evC_cond); rfl; rfl; all_goals (intro hc; first | (cases hc; done) | (try simp only at hc))))))
      all_goals (refine ⟨by simp, ⟨_, ?_, AV.le_refl _⟩, leH_get (by simp [leH, hget])⟩; simp only [Tryz.results36, resL, ldA, oneOf, go_sem])
      all_goals rw [htu']
      all_goals simp_all
  · have e0 : (decide ((l.length : Int) > 24)) = true := by simp; omega
    have hres : okL l = false := by unfold okL; rw [decide_eq_false h24]; rfl
    rw [hres]
    (refine fn_of Tryz.func36 rfl (by rfl) ?_; simp only [Tryz.ntmps36, List.length_cons, List.length_nil, Nat.reduceAdd, Nat.reduceSub, List.replicate, List.cons_append, List.nil_append])
    (repeat (any_goals (first | ((with_reducible refine evL_one ?_ ?_); rfl; intro K hK; simp only [go_sem, e0]; ((repeat (refine ndI (by first | assumption | omega | rfl) ?_)); refine hK _ ?_; clear hK K)) | (with_reducible first | (refine evL_nil ?_; refine hR _ ?_; clear hR R) | ((first | refine evC_seq ?_ | refine evC_block ?_); intro Ψ hΨ hΨ') | (refine evC_region ?_; intro R hR) | (refine hΨ _ ?_; clear hΨ hΨ' Ψ) | refine evC_skip ?_ | refine evC_ret ?_ | refine evC_exit ?_) | ((with_reducible refine hΨ' _ _ ?_ ?_); (focus (simp; done)); clear hΨ hΨ' Ψ) | ((with_reducible apply evL_unmet); rfl; rfl; rfl; (try simp only [go_sem, e0])) | ((with_reducible apply evL_grd); rfl; rfl; rfl; all_goals (intro hb; first | (cases hb; done) | ((try simp only [Bool.not_true, Bool.not_false] at hb); (first | ((with_reducible intro K hK); simp only [go_sem, e0]; ((repeat (refine ndI (by first | assumption | omega | rfl) ?_)); refine hK _ ?_; clear hK K)) | ((fail_if_success (with_reducible intro _)); simp only [go_sem, e0]))))) | ((with_reducible apply evC_cond); rfl; rfl; all_goals (intro hc; first | (cases hc; done) | (try simp only at hc))))))
    all_goals (refine ⟨by simp, ⟨_, ?_, AV.le_refl _⟩, leH_get (by simp [leH, hget])⟩; simp only [Tryz.results36, resL, ldA, oneOf, go_sem])
    all_goals rfl
end Go.Proofs.YtcahibdaiokajaaGreat.lg
namespace Go.Proofs.YtcahibdaiokajaaGreat.nz
open Go.RowKit
open Nat (reduceBEq)
abbrev vi (k : IntKind) (n : Int) : AV := .c (.v (.int k n))
abbrev vb (b : Bool) : AV := .c (.v (.bool b))
abbrev w4 (a b c d : Int) : AV := .agg [vi .u64 a, vi .u64 b, vi .u64 c, vi .u64 d]
set_option maxRecDepth 20000
theorem right_fn (a b c d e : Int) : Fn Tryz.prog 62 [.agg [vi .u64 a, vi .u64 b, vi .u64 c, vi .u64 d, vi .u64 e]] [] (vb ((a != 0) && (e == 0))) [] := by
  (refine fn_of Tryz.func62 rfl (by rfl) ?_; simp only [Tryz.ntmps62, List.length_cons, List.length_nil, Nat.reduceAdd, Nat.reduceSub, List.replicate, List.cons_append, List.nil_append])
  (repeat (any_goals (first | ((with_reducible refine evL_one ?_ ?_); rfl; intro K hK; simp only [go_sem]; ((repeat (refine ndI (by first | assumption | omega | rfl) ?_)); refine hK _ ?_; clear hK K)) | (with_reducible first | (refine evL_nil ?_; refine hR _ ?_; clear hR R) | ((first | refine evC_seq ?_ | refine evC_block ?_); intro Ψ hΨ hΨ') | (refine evC_region ?_; intro R hR) | (refine hΨ _ ?_; clear hΨ hΨ' Ψ) | refine evC_skip ?_ | refine evC_ret ?_ | refine evC_exit ?_) | ((with_reducible refine hΨ' _ _ ?_ ?_); (focus (simp; done)); clear hΨ hΨ' Ψ) | ((with_reducible apply evL_unmet); rfl; rfl; rfl; (try simp only [go_sem])) | ((with_reducible apply evL_grd); rfl; rfl; rfl; all_goals (intro hb; first | (cases hb; done) | ((try simp only [Bool.not_true, Bool.not_false] at hb); (first | ((with_reducible intro K hK); simp only [go_sem]; ((repeat (refine ndI (by first | assumption | omega | rfl) ?_)); refine hK _ ?_; clear hK K)) | ((fail_if_success (with_reducible intro _)); simp only [go_sem]))))) | ((with_reducible apply evC_cond); rfl; rfl; all_goals (intro hc; first | (cases hc; done) | (try simp only at hc))))))
  all_goals (refine ⟨by simp, ⟨_, ?_, AV.le_refl _⟩, leH_get (by simp [leH, hget])⟩; simp only [Tryz.results62, resL, ldA, oneOf, go_sem])
  all_goals simp [*]
theorem isNaN_fn (a : Int) : Fn Tryz.prog 94 [vi .u64 a] [] (vb false) [] := by
  (refine fn_of Tryz.func94 rfl (by rfl) ?_; simp only [Tryz.ntmps94, List.length_cons, List.length_nil, Nat.reduceAdd, Nat.reduceSub, List.replicate, List.cons_append, List.nil_append])
  (repeat (any_goals (first | ((with_reducible refine evL_one ?_ ?_); rfl; intro K hK; simp only [go_sem]; ((repeat (refine ndI (by first | assumption | omega | rfl) ?_)); refine hK _ ?_; clear hK K)) | (with_reducible first | (refine evL_nil ?_; refine hR _ ?_; clear hR R) | ((first | refine evC_seq ?_ | refine evC_block ?_); intro Ψ hΨ hΨ') | (refine evC_region ?_; intro R hR) | (refine hΨ _ ?_; clear hΨ hΨ' Ψ) | refine evC_skip ?_ | refine evC_ret ?_ | refine evC_exit ?_) | ((with_reducible refine hΨ' _ _ ?_ ?_); (focus (simp; done)); clear hΨ hΨ' Ψ) | ((with_reducible apply evC_cond); rfl; rfl; all_goals (intro hc; first | (cases hc; done) | (try simp only at hc))))))
  all_goals (refine ⟨by simp, ⟨_, ?_, AV.le_refl _⟩, leH_get (by simp [leH, hget])⟩; simp only [Tryz.results94, resL, ldA, oneOf, go_sem])
  all_goals simp
def cmpI (a b : Int) : Int := if a < b then -1 else if b < a then 1 else 0
theorem compare_fn (a b : Int) : Fn Tryz.prog 76 [vi .u64 a, vi .u64 b] [] (vi .i64 (cmpI a b)) [] := by
  (refine fn_of Tryz.func76 rfl (by rfl) ?_; simp only [Tryz.ntmps76, List.length_cons, List.length_nil, Nat.reduceAdd, Nat.reduceSub, List.replicate, List.cons_append, List.nil_append])
  (repeat (any_goals (first | ((with_reducible refine evL_call ?_ ?_ ?_); rfl; rfl; intro K hK; ((apply opA_callB (isNaN_fn _); rfl; rfl; rfl; rfl; exact Tryz.func94); kernel_rfl; rfl; (simp only [go_sem]; rfl); (first | rfl | simp [AV.inNL, AV.inN])); (simp only [go_sem]; refine hK _ ?_; clear hK K)) | ((with_reducible refine evL_one ?_ ?_); rfl; intro K hK; simp only [go_sem]; ((repeat (refine ndI (by first | assumption | omega | rfl) ?_)); refine hK _ ?_; clear hK K)) | (with_reducible first | (refine evL_nil ?_; refine hR _ ?_; clear hR R) | ((first | refine evC_seq ?_ | refine evC_block ?_); intro Ψ hΨ hΨ') | (refine evC_region ?_; intro R hR) | (refine hΨ _ ?_; clear hΨ hΨ' Ψ) | refine evC_skip ?_ | refine evC_ret ?_ | refine evC_exit ?_) | ((with_reducible refine hΨ' _ _ ?_ ?_); (focus (simp; done)); clear hΨ hΨ' Ψ) | ((with_reducible apply evC_cond); rfl; rfl; all_goals (intro hc; first | (cases hc; done) | (try simp only at hc))))))
  all_goals (refine ⟨by simp, ⟨_, ?_, AV.le_refl _⟩, leH_get (by simp [leH, hget])⟩; simp only [Tryz.results76, resL, ldA, oneOf, go_sem])
  all_goals simp_all [cmpI]
  all_goals omega
end Go.Proofs.YtcahibdaiokajaaGreat.nz
namespace Go.Proofs.YtcahibdaiokajaaGreat.nz
open Go.RowKit
set_option maxRecDepth 20000
theorem wrI {x : Int} (h1 : -9223372036854775808 ≤ x) (h2 : x ≤ 9223372036854775807) : IntKind.i64.wrap x = x := by
  unfold IntKind.wrap; simp [IntKind.bits, IntKind.signed]; omega
theorem wrU {x : Int} (h1 : 0 ≤ x) (h2 : x ≤ 18446744073709551615) : IntKind.u64.wrap x = x := by
  unfold IntKind.wrap; simp [IntKind.bits, IntKind.signed]; omega
end Go.Proofs.YtcahibdaiokajaaGreat.nz
namespace Go.Proofs.YtcahibdaiokajaaGreat.nz
open Go.RowKit
set_option maxRecDepth 20000
set_option maxHeartbeats 1000000
abbrev U (a : Int) : Prop := 0 ≤ a ∧ a ≤ 18446744073709551615
end Go.Proofs.YtcahibdaiokajaaGreat.nz
namespace Go.Proofs.YtcahibdaiokajaaGreat.nz
open Go.RowKit
set_option maxRecDepth 20000
set_option maxHeartbeats 1000000
def VW (a b c d : Int) : Nat := a.toNat + 18446744073709551616 * (b.toNat + 18446744073709551616 * (c.toNat + 18446744073709551616 * d.toNat))
end Go.Proofs.YtcahibdaiokajaaGreat.nz
namespace Go.Proofs.YtcahibdaiokajaaGreat.nz
open Go.RowKit
open Nat (reduceBEq)
set_option maxRecDepth 20000
set_option maxHeartbeats 1000000
theorem wcmp_fn (a b c d e f g h : Int) : Fn Tryz.prog 83 [w4 a b c d, w4 e f g h] [] (vi .i64 (if d < h then -1 else if h < d then 1 else if c < g then -1 else if g < c then 1 else if b < f then -1 else if f < b then 1 else if a < e then -1 else if e < a then 1 else 0)) [] := by
  (refine fn_of Tryz.func83 rfl (by rfl) ?_; simp only [Tryz.ntmps83, List.length_cons, List.length_nil, Nat.reduceAdd, Nat.reduceSub, List.replicate, List.cons_append, List.nil_append])
  (repeat (any_goals (first | ((with_reducible refine evL_one ?_ ?_); rfl; intro K hK; simp (disch := omega) only [go_sem, wrI, Int.reduceSub, Int.reduceNeg, Int.reduceGE, decide_true, decide_false, ge_iff_le, gt_iff_lt]; ((repeat (refine ndI (by first | assumption | omega | rfl) ?_)); refine hK _ ?_; clear hK K)) | (with_reducible first | (refine evL_nil ?_; refine hR _ ?_; clear hR R) | ((first | refine evC_seq ?_ | refine evC_block ?_); intro Ψ hΨ hΨ') | (refine evC_region ?_; intro R hR) | (refine hΨ _ ?_; clear hΨ hΨ' Ψ) | refine evC_skip ?_ | refine evC_ret ?_ | refine evC_exit ?_) | ((with_reducible refine hΨ' _ _ ?_ ?_); (focus (simp; done)); clear hΨ hΨ' Ψ) | ((with_reducible apply evC_cond); rfl; rfl; all_goals (intro hc; first | (cases hc; done) | (try simp only at hc))) | (with_reducible refine evC_rounds 5 ?_) | ((with_reducible refine evR_succ ?_); intro Ψ hΨ hΨ') | ((with_reducible refine evD_nil ?_ ?_); kernel_rfl; (with_reducible refine hR _ ?_); clear hR R) | (((with_reducible apply evD_any); rfl; rfl; (simp (disch := omega) only [rdE, rdOf, go_sem, wrI, Int.reduceSub, Int.reduceNeg, Int.reduceGE, decide_true, decide_false, ge_iff_le, gt_iff_lt]; rfl); (intro τ hA hQ hN; ((try simp only [agree, Op.operands, Call.operands, go_sem, wrI, Int.reduceSub, Int.reduceNeg, Int.reduceGE, decide_true, decide_false, ge_iff_le, gt_iff_lt, go_sem, List.mem_cons, List.not_mem_nil, forall_eq_or_imp, forall_eq, List.append_toArray, Option.toArray] at hA); (try simp only [go_sem, wrI, Int.reduceSub, Int.reduceNeg, Int.reduceGE, decide_true, decide_false, ge_iff_le, gt_iff_lt, List.mem_cons, List.not_mem_nil, forall_eq_or_imp, forall_eq] at hQ hN); (first | (revert hA; intro hA) | have hA := trivial); (first | (revert hQ; intro hQ) | have hQ := trivial); (first | (revert hN; intro hN) | have hN := trivial); simp (disch := omega) only [go_sem, wrI, Int.reduceSub, Int.reduceNeg, Int.reduceGE, decide_true, decide_false, ge_iff_le, gt_iff_lt, go_sem, hA, hQ, hN]; (repeat (refine ndI (by first | assumption | omega | rfl) ?_)); (first | apply eff_rd | apply eff_st | apply eff_nw)))); (simp (disch := omega) only [St.eff, setO, hputs, go_sem, wrI, Int.reduceSub, Int.reduceNeg, Int.reduceGE, decide_true, decide_false, ge_iff_le, gt_iff_lt])) | ((with_reducible refine evC_draw ?_ ?_ ?_ ?_); kernel_rfl; kernel_rfl; (first | kernel_rfl | simp [newNames, isNew, St.free, freeH, AV.refsL, AV.refs]); intro R hR))))
  all_goals (refine ⟨by simp, ⟨_, ?_, AV.le_refl _⟩, leH_get (by simp [leH, hget])⟩; simp only [Tryz.results83, resL, ldA, oneOf, go_sem])
  all_goals simp_all
  all_goals (repeat' split) <;> first | rfl | omega
end Go.Proofs.YtcahibdaiokajaaGreat.nz
namespace Go.Proofs.YtcahibdaiokajaaGreat.nz
open Go.RowKit
open Nat (reduceBEq)
set_option maxRecDepth 20000
set_option maxHeartbeats 1000000
theorem cmpor_fn (x y : Int) : Fn Tryz.prog 86 [.c (.sl false 1 2 [.v (.int .i64 x), .v (.int .i64 y)])] [] (vi .i64 (if x = 0 then y else x)) [] := by
  (refine fn_of Tryz.func86 rfl (by rfl) ?_; simp only [Tryz.ntmps86, List.length_cons, List.length_nil, Nat.reduceAdd, Nat.reduceSub, List.replicate, List.cons_append, List.nil_append])
  (repeat (any_goals (first | ((with_reducible refine evL_one ?_ ?_); rfl; intro K hK; simp (disch := omega) only [go_sem, wrI, Int.reduceAdd]; ((repeat (refine ndI (by first | assumption | omega | rfl) ?_)); refine hK _ ?_; clear hK K)) | (with_reducible first | (refine evL_nil ?_; refine hR _ ?_; clear hR R) | ((first | refine evC_seq ?_ | refine evC_block ?_); intro Ψ hΨ hΨ') | (refine evC_region ?_; intro R hR) | (refine hΨ _ ?_; clear hΨ hΨ' Ψ) | refine evC_skip ?_ | refine evC_ret ?_ | refine evC_exit ?_) | ((with_reducible refine hΨ' _ _ ?_ ?_); (focus (simp; done)); clear hΨ hΨ' Ψ) | ((with_reducible apply evC_cond); rfl; rfl; all_goals (intro hc; first | (cases hc; done) | (try simp only at hc))) | (with_reducible refine evC_rounds 3 ?_) | ((with_reducible refine evR_succ ?_); intro Ψ hΨ hΨ'))))
  all_goals (refine ⟨by simp, ⟨_, ?_, AV.le_refl _⟩, leH_get (by simp [leH, hget])⟩; simp only [Tryz.results86, resL, ldA, oneOf, go_sem])
  all_goals simp_all
def cmpW (a b c d e f g h : Int) : Int := if d < h then -1 else if h < d then 1 else if c < g then -1 else if g < c then 1 else if b < f then -1 else if f < b then 1 else if a < e then -1 else if e < a then 1 else 0
abbrev n6 (a b c d e x : Int) : AV := .agg [vi .u64 a, vi .u64 b, vi .u64 c, vi .u64 d, vi .u64 e, vi .u64 x]
abbrev k5 (a b c d e : Int) : AV := .agg [vi .u64 a, vi .u64 b, vi .u64 c, vi .u64 d, vi .u64 e]
theorem ncompare_fn (a b c d e x a' b' c' d' e' : Int) : Fn Tryz.prog 63 [n6 a b c d e x, k5 a' b' c' d' e'] [] (vi .i64 (if cmpI a a' = 0 then cmpW b c d e b' c' d' e' else cmpI a a')) [] := by
  (refine fn_of Tryz.func63 rfl (by rfl) ?_; simp only [Tryz.ntmps63, List.length_cons, List.length_nil, Nat.reduceAdd, Nat.reduceSub, List.replicate, List.cons_append, List.nil_append])
  (repeat (any_goals (first | ((with_reducible refine evL_one ?_ ?_); rfl; intro K hK; simp only [go_sem]; ((repeat (refine ndI (by first | assumption | omega | rfl) ?_)); refine hK _ ?_; clear hK K)) | (with_reducible first | (refine evL_nil ?_; refine hR _ ?_; clear hR R) | ((first | refine evC_seq ?_ | refine evC_block ?_); intro Ψ hΨ hΨ') | (refine evC_region ?_; intro R hR) | (refine hΨ _ ?_; clear hΨ hΨ' Ψ) | refine evC_skip ?_ | refine evC_ret ?_ | refine evC_exit ?_) | ((with_reducible refine hΨ' _ _ ?_ ?_); (focus (simp; done)); clear hΨ hΨ' Ψ) | ((with_reducible apply evC_cond); rfl; rfl; all_goals (intro hc; first | (cases hc; done) | (try simp only at hc))) | ((with_reducible refine evD_nil ?_ ?_); kernel_rfl; (with_reducible refine hR _ ?_); clear hR R) | ((first | ((with_reducible apply evD_fcall); rfl; rfl; (first | ((first | (apply opF_callB (compare_fn _ _); rfl; rfl; rfl; rfl; exact Tryz.func76) | (apply opF_callB (wcmp_fn _ _ _ _ _ _ _ _); rfl; rfl; rfl; rfl; exact Tryz.func83)); kernel_rfl; rfl; (simp only [go_sem]; rfl); (first | rfl | simp [AV.inNL, AV.inN])) | ((apply opF_callv (cmpor_fn _ _); rfl; rfl; rfl; rfl; exact Tryz.func86); kernel_rfl; rfl; (focus ((simp only [AV.viewL, AV.view, viewRow, unC, Option.map_some, go_sem]); (try rfl))); rfl; (simp only [AV.rowsL, AV.rows, go_sem]; rfl)))) | ((with_reducible apply evD_any); rfl; rfl; (simp only [rdE, rdOf, go_sem]; rfl); (intro τ hA hQ hN; ((try simp only [agree, Op.operands, Call.operands, go_sem, List.mem_cons, List.not_mem_nil, forall_eq_or_imp, forall_eq, List.append_toArray, Option.toArray] at hA); (try simp only [go_sem, List.mem_cons, List.not_mem_nil, forall_eq_or_imp, forall_eq] at hQ hN); (first | (revert hA; intro hA) | have hA := trivial); (first | (revert hQ; intro hQ) | have hQ := trivial); (first | (revert hN; intro hN) | have hN := trivial); simp only [go_sem, hA, hQ, hN]; (repeat (refine ndI (by first | assumption | omega | rfl) ?_)); (first | apply eff_rd | apply eff_st | apply eff_nw)))) | ((first | ((with_reducible apply evD_new); rfl; rfl; rfl) | ((with_reducible apply evD_grd_new); rfl; rfl; rfl; rfl; rfl; rfl)); (intro τ hA hQ hN; ((try simp only [agree, Op.operands, Call.operands, go_sem, List.mem_cons, List.not_mem_nil, forall_eq_or_imp, forall_eq, List.append_toArray, Option.toArray] at hA); (try simp only [go_sem, List.mem_cons, List.not_mem_nil, forall_eq_or_imp, forall_eq] at hQ); (first | (revert hA; intro hA) | have hA := trivial); (first | (revert hQ; intro hQ) | have hQ := trivial); simp only [go_sem, hA, hQ, hN]; (repeat (refine ndI (by first | assumption | omega | rfl) ?_)); exact eff_nw _ _ _ _)))); (simp only [St.eff, setO, hputs, go_sem])) | ((with_reducible refine evC_draw ?_ ?_ ?_ ?_); kernel_rfl; kernel_rfl; (first | kernel_rfl | simp [newNames, isNew, St.free, freeH, AV.refsL, AV.refs]); intro R hR))))
  all_goals (refine ⟨by simp, ⟨_, ?_, AV.le_refl _⟩, leH_get (by simp [leH, hget])⟩; simp only [Tryz.results63, resL, ldA, oneOf, go_sem])
  all_goals simp_all [cmpW]
end Go.Proofs.YtcahibdaiokajaaGreat.nz
namespace Go.Proofs.YtcahibdaiokajaaGreat.nz
open Go.RowKit
open Nat (reduceBEq)
set_option maxRecDepth 20000
set_option maxHeartbeats 1000000
structure N6 where
  a : Int
  b : Int
  c : Int
  d : Int
  e : Int
  x : Int
def N6.pv (n : N6) : List PV := [.v (.int .u64 n.a), .v (.int .u64 n.b), .v (.int .u64 n.c), .v (.int .u64 n.d), .v (.int .u64 n.e), .v (.int .u64 n.x)]
theorem pv_len (n : N6) : n.pv.length = 6 := rfl
abbrev nsl (ex : Bool) (l : List N6) : AV := .c (.sl ex 6 l.length (l.flatMap N6.pv))
theorem nsl_at {l : List N6} {i : Nat} {y : N6} (h : l[i]? = some y) : ((l.flatMap N6.pv).drop (i * 6)).take 6 = [.v (.int .u64 y.a), .v (.int .u64 y.b), .v (.int .u64 y.c), .v (.int .u64 y.d), .v (.int .u64 y.e), .v (.int .u64 y.x)] := flat_at pv_len h
def cN (z y : N6) : Int := if cmpI z.a y.a = 0 then cmpW z.b z.c z.d z.e y.b y.c y.d y.e else cmpI z.a y.a
def okS (l : List N6) (i : Nat) : Bool := match l[i]? with
  | some y => (y.a != 0) && (y.e == 0) && decide (y.x > 0) && (i == 0 || match l[i - 1]? with | some z => decide (cN z y < 0) | none => false)
  | none => false
def okTo (l : List N6) : Nat → Bool
  | 0 => decide ((l.length : Int) ≤ 48)
  | i + 1 => okTo l i && okS l i
theorem check_fn (ex : Bool) (l : List N6) (hl : l.length ≤ 4611686018427387904) : Fn Tryz.prog 37 [nsl ex l] [] (vi .i64 (if okTo l l.length then 0 else 180)) [] := by
  (refine fn_of Tryz.func37 rfl (by rfl) ?_; simp only [Tryz.ntmps37, List.length_cons, List.length_nil, Nat.reduceAdd, Nat.reduceSub, List.replicate, List.cons_append, List.nil_append])
  (repeat (any_goals (first | ((with_reducible refine evL_one ?_ ?_); rfl; intro K hK; simp only [go_sem]; ((repeat (refine ndI (by first | assumption | omega | rfl) ?_)); refine hK _ ?_; clear hK K)) | (with_reducible first | (refine evL_nil ?_; refine hR _ ?_; clear hR R) | ((first | refine evC_seq ?_ | refine evC_block ?_); intro Ψ hΨ hΨ') | (refine evC_region ?_; intro R hR) | (refine hΨ _ ?_; clear hΨ hΨ' Ψ) | refine evC_skip ?_ | refine evC_ret ?_ | refine evC_exit ?_) | ((with_reducible refine hΨ' _ _ ?_ ?_); (focus (simp; done)); clear hΨ hΨ' Ψ) | ((with_reducible apply evC_cond); rfl; rfl; all_goals (intro hc; first | (cases hc; done) | (try simp only at hc))) | ((with_reducible refine evD_nil ?_ ?_); kernel_rfl; (with_reducible refine hR _ ?_); clear hR R) | ((first | ((with_reducible apply evD_skip); rfl; rfl; rfl; rfl) | ((with_reducible apply evD_unmet); rfl; rfl; rfl) | ((first | ((with_reducible apply evD_any); rfl; rfl) | ((with_reducible apply evD_gany); rfl; rfl; rfl; rfl; rfl)); (simp only [rdE, rdOf, go_sem]; rfl); (intro τ hA hQ hN; ((try simp only [agree, Op.operands, Call.operands, go_sem, List.mem_cons, List.not_mem_nil, forall_eq_or_imp, forall_eq, List.append_toArray, Option.toArray] at hA); (try simp only [go_sem, List.mem_cons, List.not_mem_nil, forall_eq_or_imp, forall_eq] at hQ hN); (first | (revert hA; intro hA) | have hA := trivial); (first | (revert hQ; intro hQ) | have hQ := trivial); (first | (revert hN; intro hN) | have hN := trivial); simp only [go_sem, hA, hQ, hN]; (repeat (refine ndI (by first | assumption | omega | rfl) ?_)); (first | apply eff_rd | apply eff_st | apply eff_nw))))); (simp only [St.eff, setO, hputs, go_sem])) | ((with_reducible apply evD_split); rfl; rfl; rfl; all_goals intro hb; all_goals (simp only [St.eff, setO, hputs, go_sem])) | ((with_reducible refine evC_draw ?_ ?_ ?_ ?_); kernel_rfl; kernel_rfl; (first | kernel_rfl | simp [newNames, isNew, St.free, freeH, AV.refsL, AV.refs]); intro R hR))))
  refine evC_upto l.length (fun i => ⟨[nsl ex l, .any, .any, vb (okTo l i), .any, .any, .any, .any, .any, .any, nsl ex l, vi .i64 l.length, vi .i64 i, .any, .any, .any, .any, .any, .any, .any, .any, .any, .any, .any, .any, .any, .any, .any, .any, .any, .any, .any, .any, .any, .any, .any, .any, .any, .any, .any, .any, .any, .any, .any, .any, .any, .any, .any, .any], []⟩) (St.le_of (by simp [leT, okTo]) (by simp [leH])) ?_
  intro i hi Ψ hΨ hΨ'
  rcases Nat.lt_or_ge i l.length with hlt | hge
  · obtain ⟨y, hy⟩ : ∃ y, l[i]? = some y := ⟨l[i], List.getElem?_eq_getElem hlt⟩
    have e1 : (decide ((i : Int) < (l.length : Int))) = true := by simpa using hlt
    have e2 := nsl_at hy
    dsimp only at hΨ ⊢
    rw [show okTo l (i + 1) = (okTo l i && okS l i) from rfl] at hΨ
    generalize okTo l i = b at hΨ ⊢
    rcases i with _ | j
    · simp only [Nat.zero_mul, List.drop_zero] at e2
      rw [show okS l 0 = ((y.a != 0) && (y.e == 0) && decide (y.x > 0)) by simp [okS, hy]] at hΨ
      (repeat (any_goals (first | ((with_reducible refine evL_one ?_ ?_); rfl; intro K hK; simp (disch := omega) only [go_sem, e1, e2]; ((repeat (refine ndI (by first | assumption | omega | rfl) ?_)); refine hK _ ?_; clear hK K)) | (with_reducible first | (refine evL_nil ?_; refine hR _ ?_; clear hR R) | ((first | refine evC_seq ?_ | refine evC_block ?_); intro Ψ hΨ hΨ') | (refine evC_region ?_; intro R hR) | (refine hΨ _ ?_; clear hΨ hΨ' Ψ) | refine evC_skip ?_ | refine evC_ret ?_ | refine evC_exit ?_) | ((with_reducible refine hΨ' _ _ ?_ ?_); (focus (simp; done)); clear hΨ hΨ' Ψ) | ((with_reducible apply evC_cond); rfl; rfl; all_goals (intro hc; first | (cases hc; done) | (try simp only at hc))) | ((with_reducible refine evD_nil ?_ ?_); kernel_rfl; (with_reducible refine hR _ ?_); clear hR R) | ((first | ((with_reducible apply evD_skip); rfl; rfl; rfl; rfl) | ((with_reducible apply evD_unmet); rfl; rfl; rfl) | ((first | ((with_reducible apply evD_fcall); rfl; rfl) | ((with_reducible apply evD_gcall); rfl; rfl; rfl; rfl; rfl)); ((apply opF_callB (right_fn _ _ _ _ _); rfl; rfl; rfl; rfl; exact Tryz.func62); kernel_rfl; rfl; (simp (disch := omega) only [go_sem, e1, e2]; rfl); (first | rfl | simp [AV.inNL, AV.inN]))) | ((first | ((with_reducible apply evD_any); rfl; rfl) | ((with_reducible apply evD_gany); rfl; rfl; rfl; rfl; rfl)); (simp (disch := omega) only [rdE, rdOf, go_sem, e1, e2]; rfl); (intro τ hA hQ hN; ((try simp only [agree, Op.operands, Call.operands, go_sem, e1, e2, go_sem, List.mem_cons, List.not_mem_nil, forall_eq_or_imp, forall_eq, List.append_toArray, Option.toArray] at hA); (try simp only [go_sem, e1, e2, List.mem_cons, List.not_mem_nil, forall_eq_or_imp, forall_eq] at hQ hN); (first | (revert hA; intro hA) | have hA := trivial); (first | (revert hQ; intro hQ) | have hQ := trivial); (first | (revert hN; intro hN) | have hN := trivial); simp (disch := omega) only [go_sem, e1, e2, go_sem, hA, hQ, hN]; (repeat (refine ndI (by first | assumption | omega | rfl) ?_)); (first | apply eff_rd | apply eff_st | apply eff_nw))))); (simp (disch := omega) only [St.eff, setO, hputs, go_sem, e1, e2])) | ((with_reducible apply evD_split); rfl; rfl; rfl; all_goals intro hb; all_goals (simp (disch := omega) only [St.eff, setO, hputs, go_sem, e1, e2])) | ((with_reducible refine evC_draw ?_ ?_ ?_ ?_); kernel_rfl; kernel_rfl; (first | kernel_rfl | simp [newNames, isNew, St.free, freeH, AV.refsL, AV.refs]); intro R hR))))
      all_goals refine hΨ _ (by omega) (St.le_of ?_ (by simp [leH]))
      all_goals simp only [leT, pickAV]
      all_goals simp_all [wrI]
    · obtain ⟨z, hz⟩ : ∃ z, l[j]? = some z := ⟨l[j], List.getElem?_eq_getElem (by omega)⟩
      have e3 := nsl_at hz
      have e4 : (((j + 1 : Nat) : Int) == 0) = false := by simp; omega
      have e5 : IntKind.i64.wrap (((j + 1 : Nat) : Int) - 1) = (j : Int) := by rw [wrI (by omega) (by omega)]; omega
      have e7 : IntKind.i64.wrap (((j + 1 : Nat) : Int) + 1) = ((j + 1 + 1 : Nat) : Int) := by rw [wrI (by omega) (by omega)]; omega
      rw [show okS l (j + 1) = ((y.a != 0) && (y.e == 0) && decide (y.x > 0) && decide (cN z y < 0)) by simp [okS, hy, hz]] at hΨ
      (have W := ndI e1 (ndI e2 (ndI e3 (ndI e4 (ndI e5 e7)))); (repeat (any_goals (first | ((with_reducible refine evL_one ?_ ?_); rfl; intro K hK; simp (disch := omega) only [go_sem, W]; ((repeat (refine ndI (by first | assumption | omega | rfl) ?_)); refine hK _ ?_; clear hK K)) | (with_reducible first | (refine evL_nil ?_; refine hR _ ?_; clear hR R) | ((first | refine evC_seq ?_ | refine evC_block ?_); intro Ψ hΨ hΨ') | (refine evC_region ?_; intro R hR) | (refine hΨ _ ?_; clear hΨ hΨ' Ψ) | refine evC_skip ?_ | refine evC_ret ?_ | refine evC_exit ?_) | ((with_reducible refine hΨ' _ _ ?_ ?_); (focus (simp; done)); clear hΨ hΨ' Ψ) | ((with_reducible apply evC_cond); rfl; rfl; all_goals (intro hc; first | (cases hc; done) | (try simp only at hc))) | ((with_reducible refine evD_nil ?_ ?_); kernel_rfl; (with_reducible refine hR _ ?_); clear hR R) | ((first | ((with_reducible apply evD_skip); rfl; rfl; rfl; rfl) | ((with_reducible apply evD_unmet); rfl; rfl; rfl) | ((first | ((with_reducible apply evD_fcall); rfl; rfl) | ((with_reducible apply evD_gcall); rfl; rfl; rfl; rfl; rfl)); ((first | (apply opF_callB (right_fn _ _ _ _ _); rfl; rfl; rfl; rfl; exact Tryz.func62) | (apply opF_callB (ncompare_fn _ _ _ _ _ _ _ _ _ _ _); rfl; rfl; rfl; rfl; exact Tryz.func63)); kernel_rfl; rfl; (simp (disch := omega) only [go_sem, W]; rfl); (first | rfl | simp [AV.inNL, AV.inN]))) | ((first | ((with_reducible apply evD_any); rfl; rfl) | ((with_reducible apply evD_gany); rfl; rfl; rfl; rfl; rfl)); (simp (disch := omega) only [rdE, rdOf, go_sem, W]; rfl); (intro τ hA hQ hN; ((try simp only [agree, Op.operands, Call.operands, go_sem, W, go_sem, List.mem_cons, List.not_mem_nil, forall_eq_or_imp, forall_eq, List.append_toArray, Option.toArray] at hA); (try simp only [go_sem, W, List.mem_cons, List.not_mem_nil, forall_eq_or_imp, forall_eq] at hQ hN); (first | (revert hA; intro hA) | have hA := trivial); (first | (revert hQ; intro hQ) | have hQ := trivial); (first | (revert hN; intro hN) | have hN := trivial); simp (disch := omega) only [go_sem, W, go_sem, hA, hQ, hN]; (repeat (refine ndI (by first | assumption | omega | rfl) ?_)); (first | apply eff_rd | apply eff_st | apply eff_nw))))); (simp (disch := omega) only [St.eff, setO, hputs, go_sem, W])) | ((with_reducible apply evD_split); rfl; rfl; rfl; all_goals intro hb; all_goals (simp (disch := omega) only [St.eff, setO, hputs, go_sem, W])) | ((with_reducible refine evC_draw ?_ ?_ ?_ ?_); kernel_rfl; kernel_rfl; (first | kernel_rfl | simp [newNames, isNew, St.free, freeH, AV.refsL, AV.refs]); intro R hR)))))
      all_goals refine hΨ _ (by omega) (St.le_of ?_ (by simp [leH]))
      all_goals simp only [leT, pickAV]
      all_goals simp_all [cN]
      all_goals (intro h; omega)
  · have e1 : (decide ((i : Int) < (l.length : Int))) = false := by simpa using hge
    obtain rfl : i = l.length := by omega
    (repeat (any_goals (first | ((with_reducible refine evL_one ?_ ?_); rfl; intro K hK; simp only [go_sem, e1]; ((repeat (refine ndI (by first | assumption | omega | rfl) ?_)); refine hK _ ?_; clear hK K)) | (with_reducible first | (refine evL_nil ?_; refine hR _ ?_; clear hR R) | ((first | refine evC_seq ?_ | refine evC_block ?_); intro Ψ hΨ hΨ') | (refine evC_region ?_; intro R hR) | (refine hΨ _ ?_; clear hΨ hΨ' Ψ) | refine evC_skip ?_ | refine evC_ret ?_ | refine evC_exit ?_) | ((with_reducible refine hΨ' _ _ ?_ ?_); (focus (simp; done)); clear hΨ hΨ' Ψ) | ((with_reducible apply evC_cond); rfl; rfl; all_goals (intro hc; first | (cases hc; done) | (try simp only at hc))) | ((with_reducible refine evD_nil ?_ ?_); kernel_rfl; (with_reducible refine hR _ ?_); clear hR R) | ((first | ((with_reducible apply evD_skip); rfl; rfl; rfl; rfl) | ((with_reducible apply evD_unmet); rfl; rfl; rfl) | ((first | ((with_reducible apply evD_any); rfl; rfl) | ((with_reducible apply evD_gany); rfl; rfl; rfl; rfl; rfl)); (simp only [rdE, rdOf, go_sem, e1]; rfl); (intro τ hA hQ hN; ((try simp only [agree, Op.operands, Call.operands, go_sem, e1, go_sem, List.mem_cons, List.not_mem_nil, forall_eq_or_imp, forall_eq, List.append_toArray, Option.toArray] at hA); (try simp only [go_sem, e1, List.mem_cons, List.not_mem_nil, forall_eq_or_imp, forall_eq] at hQ hN); (first | (revert hA; intro hA) | have hA := trivial); (first | (revert hQ; intro hQ) | have hQ := trivial); (first | (revert hN; intro hN) | have hN := trivial); simp only [go_sem, e1, go_sem, hA, hQ, hN]; (repeat (refine ndI (by first | assumption | omega | rfl) ?_)); (first | apply eff_rd | apply eff_st | apply eff_nw))))); (simp only [St.eff, setO, hputs, go_sem, e1])) | ((with_reducible apply evD_split); rfl; rfl; rfl; all_goals intro hb; all_goals (simp only [St.eff, setO, hputs, go_sem, e1])) | ((with_reducible refine evC_draw ?_ ?_ ?_ ?_); kernel_rfl; kernel_rfl; (first | kernel_rfl | simp [newNames, isNew, St.free, freeH, AV.refsL, AV.refs]); intro R hR))))
    all_goals (refine ⟨by simp, ⟨_, ?_, AV.le_refl _⟩, leH_get (by simp [leH, hget])⟩; simp only [Tryz.results37, resL, ldA, oneOf, go_sem])
    all_goals simp_all
end Go.Proofs.YtcahibdaiokajaaGreat.nz
namespace Go.Proofs.YtcahibdaiokajaaGreat.nz
open Go.RowKit
set_option maxRecDepth 20000
set_option maxHeartbeats 1000000
def bsr (lt : Nat → Bool) : Nat → Nat → Nat → Nat
  | 0, i, _ => i
  | f + 1, i, j => if i < j then (if lt ((i + j) / 2) then bsr lt f ((i + j) / 2 + 1) j else bsr lt f i ((i + j) / 2)) else i
end Go.Proofs.YtcahibdaiokajaaGreat.nz
namespace Go.Proofs.YtcahibdaiokajaaGreat.nz
open Go.RowKit
set_option maxRecDepth 20000
set_option maxHeartbeats 1000000
abbrev c4 (a b c d : Int) : List AV := [vi .u64 a, vi .u64 b, vi .u64 c, vi .u64 d]
end Go.Proofs.YtcahibdaiokajaaGreat.nz
namespace Go.Proofs.YtcahibdaiokajaaGreat.nz
open Go.RowKit
set_option maxRecDepth 20000
set_option maxHeartbeats 1000000
abbrev nilS : AV := .c (.v (.slice none 0 0))
end Go.Proofs.YtcahibdaiokajaaGreat.nz
namespace Go.Proofs.YtcahibdaiokajaaGreat.nz
open Go.RowKit
set_option maxRecDepth 20000
set_option maxHeartbeats 1000000
def N6.ok (n : N6) : Prop := U n.a ∧ U n.b ∧ U n.c ∧ U n.d ∧ U n.e ∧ U n.x
def rk (a b c d e : Int) : Nat := a.toNat * 2 ^ 256 + VW b c d e
def N6.rk (n : N6) : Nat := Go.Proofs.YtcahibdaiokajaaGreat.nz.rk n.a n.b n.c n.d n.e
end Go.Proofs.YtcahibdaiokajaaGreat.nz
namespace Go.Proofs.YtcahibdaiokajaaGreat
open Go.RowKit
open Nat (reduceBEq)
set_option maxRecDepth 20000
set_option maxHeartbeats 2000000
structure Wl where
  S : List Ac
  L : List lg.Hd
  N : List nz.N6
abbrev acV (l : List Ac) : PV := .sl false 8 l.length (l.flatMap Ac.pv)
abbrev hdV (l : List lg.Hd) : PV := .sl false 11 l.length (l.flatMap lg.Hd.pv)
abbrev noV (l : List nz.N6) : PV := .sl false 6 l.length (l.flatMap nz.N6.pv)
def Wl.pv (w : Wl) : List PV := [acV w.S, hdV w.L, noV w.N]
abbrev wlA (w : Wl) : AV := .agg [.c (acV w.S), .c (hdV w.L), .c (noV w.N)]
structure Wl.ok (w : Wl) : Prop where
  s : w.S.length ≤ 45 ∧ ∀ x ∈ w.S, x.ok ∧ x.code.length ≤ 300 ∧ x.store.length ≤ 40
  l : w.L.length ≤ 40 ∧ ∀ h ∈ w.L, h.ok
  n : w.N.length ≤ 70 ∧ ∀ x ∈ w.N, x.ok
def rightW (w : Wl) : Bool := okSt w.S && lg.okL w.L && nz.okTo w.N w.N.length
theorem checkW_fn (w : Wl) (hw : w.ok) : Fn Tryz.prog 11 [wlA w] [] (vi .i64 (if rightW w then 0 else 200)) [] := by
  obtain ⟨S, L, N⟩ := w
  obtain ⟨⟨hs, os⟩, ⟨hl, ol⟩, ⟨hn, on'⟩⟩ := hw
  dsimp only at hs os hl ol hn on'
  have h6 : (600:Nat) ≤ maxLen := by decide
  have f1 := checkS_fn false S (by omega) fun x hx => ⟨(os x hx).1, by have := (os x hx).2; omega⟩
  have f2 := lg.check_fn false L (Nat.le_trans hl (by decide)) ol
  have f3 := nz.check_fn false N (Nat.le_trans hn (by decide))
  unfold rightW
  dsimp only
  cases e1 : okSt S <;> cases e2 : lg.okL L <;> cases e3 : nz.okTo N N.length <;> simp only [e1, e2, e3, if_true, if_false, Bool.false_eq_true] at f1 f2 f3 ⊢
  all_goals (refine fn_of Tryz.func11 rfl (by rfl) ?_; simp only [Tryz.ntmps11, List.length_cons, List.length_nil, Nat.reduceAdd, Nat.reduceSub, List.replicate, List.cons_append, List.nil_append])
  all_goals (repeat (any_goals (first | ((with_reducible refine evL_call ?_ ?_ ?_); rfl; rfl; intro K hK; ((apply opA_callB (f1); rfl; rfl; rfl; rfl; exact Tryz.func35); kernel_rfl; rfl; (simp only [go_sem]; rfl); (first | rfl | simp [AV.inNL, AV.inN])); (simp only [go_sem]; refine hK _ ?_; clear hK K)) | ((with_reducible refine evL_one ?_ ?_); rfl; intro K hK; simp only [go_sem]; ((repeat (refine ndI (by first | assumption | omega | rfl) ?_)); refine hK _ ?_; clear hK K)) | (with_reducible first | (refine evL_nil ?_; refine hR _ ?_; clear hR R) | ((first | refine evC_seq ?_ | refine evC_block ?_); intro Ψ hΨ hΨ') | (refine evC_region ?_; intro R hR) | (refine hΨ _ ?_; clear hΨ hΨ' Ψ) | refine evC_skip ?_ | refine evC_ret ?_ | refine evC_exit ?_) | ((with_reducible refine hΨ' _ _ ?_ ?_); (focus (simp; done)); clear hΨ hΨ' Ψ) | ((with_reducible apply evL_unmet); rfl; rfl; rfl; (try simp only [go_sem])) | ((with_reducible apply evL_grd); rfl; rfl; rfl; all_goals (intro hb; first | (cases hb; done) | ((try simp only [Bool.not_true, Bool.not_false] at hb); (first | ((with_reducible intro K hK); (first | ((first | (apply opA_callB (f2); rfl; rfl; rfl; rfl; exact Tryz.func36) | (apply opA_callB (f3); rfl; rfl; rfl; rfl; exact Tryz.func37)); kernel_rfl; rfl; (simp only [go_sem]; rfl); (first | rfl | simp [AV.inNL, AV.inN])) | skip); simp only [go_sem]; ((repeat (refine ndI (by first | assumption | omega | rfl) ?_)); refine hK _ ?_; clear hK K)) | ((fail_if_success (with_reducible intro _)); simp only [go_sem]))))) | ((with_reducible apply evC_cond); rfl; rfl; all_goals (intro hc; first | (cases hc; done) | (try simp only at hc))))))
  all_goals (refine ⟨by simp, ⟨_, ?_, AV.le_refl _⟩, leH_get (by simp [leH, hget])⟩; simp only [Tryz.results11, resL, ldA, oneOf, go_sem])
  all_goals rfl
end Go.Proofs.YtcahibdaiokajaaGreat
namespace Go.Proofs.YtcahibdaiokajaaGreat.ax
open Go.RowKit
open Nat (reduceBEq)
set_option maxRecDepth 20000
set_option maxHeartbeats 2000000
def apv (a : Int) : List PV := [.v (.int .u64 a)]
theorem apv_len (a : Int) : (apv a).length = 1 := rfl
abbrev asl (ex : Bool) (l : List Int) : AV := .c (.sl ex 1 l.length (l.flatMap apv))
def rcA (l : List Int) : List AV := (l.flatMap apv).map .c
theorem rcA_len (l : List Int) : (rcA l).length = l.length * 1 := by unfold rcA; rw [List.length_map, flat_length apv_len]
theorem cloneA_fn (ex : Bool) (l : List Int) (hl : l.length ≤ 1000000) : Fn Tryz.prog 27 [asl ex l] [] (.row 7 63 1 l.length) [(7, rcA l)] := by
  have e1 := rcA_len l
  unfold rcA at e1 ⊢
  (refine fn_of Tryz.func27 rfl (by rfl) ?_; simp only [Tryz.ntmps27, List.length_cons, List.length_nil, Nat.reduceAdd, Nat.reduceSub, List.replicate, List.cons_append, List.nil_append])
  (repeat (any_goals (first | ((have hz0 := hb0 hc); (with_reducible refine evL_op ?_ ?_); rfl; intro K hK; refine OpA.nilrow_after 2 7 63 1 (evO_sound ?_); (simp (disch := omega) only [go_sem, e1, refsL_map]); (repeat (refine And.intro (by first | assumption | omega | rfl | decide) ?_)); refine hK _ ?_; clear hK K; clear hb0) | ((with_reducible refine evL_one ?_ ?_); rfl; intro K hK; simp (disch := omega) only [go_sem, e1, refsL_map]; ((repeat (refine ndI (by first | assumption | omega | rfl) ?_)); refine hK _ ?_; clear hK K)) | ((with_reducible refine evL_one ?_ ?_); rfl; intro K hK; refine evO_isnil rfl rfl (by first | exact .inl rfl | exact .inr rfl) ?_ rfl ?_; (focus (simp (disch := omega) only [go_sem]; try rfl)); (intro b hb0; simp (disch := omega) only [eq_self, go_sem, e1, refsL_map]; (with_reducible refine hK _ ?_); clear hK K)) | ((with_reducible refine evL_one ?_ ?_); rfl; intro K hK; simp (disch := omega) only [go_sem, e1, refsL_map]; (repeat (refine And.intro rfl ?_)); (refine evO_nilnil rfl rfl (by first | exact .inl rfl | exact .inr rfl) ?_ rfl ?_); (focus (simp (disch := omega) only [go_sem]; try rfl)); (simp (disch := omega) only [eq_self, go_sem, e1, refsL_map]; (with_reducible refine hK _ ?_); clear hK K)) | (with_reducible first | (refine evL_nil ?_; refine hR _ ?_; clear hR R) | ((first | refine evC_seq ?_ | refine evC_block ?_); intro Ψ hΨ hΨ') | (refine evC_region ?_; intro R hR) | (refine hΨ _ ?_; clear hΨ hΨ' Ψ) | refine evC_skip ?_ | refine evC_ret ?_ | refine evC_exit ?_) | ((with_reducible refine hΨ' _ _ ?_ ?_); (focus (simp; done)); clear hΨ hΨ' Ψ) | ((with_reducible apply evC_cond); rfl; rfl; all_goals (intro hc; first | (cases hc; done) | (try simp only at hc))))))
  all_goals (try (obtain rfl := List.eq_nil_of_length_eq_zero hz0))
  all_goals exact ⟨by simp, ⟨_, rfl, AV.le_refl _⟩, leH_get (by simp [leH, hget])⟩
theorem asl_at {l : List Int} {i : Nat} {y : Int} (h : l[i]? = some y) : ((l.flatMap apv).drop i).take 1 = [.v (.int .u64 y)] := by
  have h2 := flat_at (f := apv) apv_len h
  rw [Nat.mul_one] at h2
  exact h2
end Go.Proofs.YtcahibdaiokajaaGreat.ax
namespace Go.Proofs.YtcahibdaiokajaaGreat
open Go.RowKit
def bsr (lt : Nat → Bool) : Nat → Nat → Nat → Nat
  | 0, i, _ => i
  | f + 1, i, j => if i < j then (if lt ((i + j) / 2) then bsr lt f ((i + j) / 2 + 1) j else bsr lt f i ((i + j) / 2)) else i
section
variable {α : Type} (key : α → Int)
def Rises (L : List α) : Prop := L.Pairwise fun x y => key x < key y
def fnd (k : Int) : List α → Option α
  | [] => none
  | y :: L => if key y = k then some y else fnd k L
def lay (k : Int) (o : Option α) : List α → List α
  | [] => o.toList
  | y :: L => if key y < k then y :: lay k o L else if key y = k then o.toList ++ L else o.toList ++ y :: L
variable {key}
theorem fnd_key {k : Int} : ∀ {L : List α} {x : α}, fnd key k L = some x → key x = k ∧ x ∈ L
  | y :: L, x, h => by
    unfold fnd at h
    split at h
    · rename_i e; cases h; exact ⟨e, by simp⟩
    · have := fnd_key h; exact ⟨this.1, by simp [this.2]⟩
theorem fnd_mem {L : List α} (hr : Rises key L) {x : α} (hx : x ∈ L) : fnd key (key x) L = some x := by
  induction L with
  | nil => cases hx
  | cons y L ih =>
    obtain ⟨l1, l2⟩ := List.pairwise_cons.1 hr
    unfold fnd
    rcases List.mem_cons.1 hx with rfl | hx
    · rw [if_pos rfl]
    · rw [if_neg (by have := l1 x hx; omega)]; exact ih l2 hx
theorem mem_iff {L : List α} (hr : Rises key L) {x : α} : x ∈ L ↔ fnd key (key x) L = some x := ⟨fnd_mem hr, fun h => (fnd_key h).2⟩
structure Parts (key : α → Int) (L : List α) (k : Int) (p : Nat) : Prop where
  le : p ≤ L.length
  lo : ∀ (i : Nat) (h : i < L.length), i < p → key L[i] < k
  hi : ∀ (i : Nat) (h : i < L.length), p ≤ i → k ≤ key L[i]
theorem Parts.tail {y : α} {L : List α} {k : Int} {p : Nat} (h : Parts key (y :: L) k (p + 1)) : Parts key L k p :=
  ⟨by have := h.le; simpa using this, fun i hi hp => by have := h.lo (i + 1) (by simpa using hi) (by omega); simpa using this, fun i hi hp => by have := h.hi (i + 1) (by simpa using hi) (by omega); simpa using this⟩
end
end Go.Proofs.YtcahibdaiokajaaGreat
namespace Go.Proofs.YtcahibdaiokajaaGreat.ax
open Go.RowKit
open Nat (reduceBEq)
set_option maxRecDepth 20000
set_option maxHeartbeats 2000000
theorem isNaN_fn (a : Int) : Fn Tryz.prog 94 [vi .u64 a] [] (vb false) [] := by
  (refine fn_of Tryz.func94 rfl (by rfl) ?_; simp only [Tryz.ntmps94, List.length_cons, List.length_nil, Nat.reduceAdd, Nat.reduceSub, List.replicate, List.cons_append, List.nil_append])
  (repeat (any_goals (first | ((with_reducible refine evL_one ?_ ?_); rfl; intro K hK; simp only [go_sem]; ((repeat (refine ndI (by first | assumption | omega | rfl) ?_)); refine hK _ ?_; clear hK K)) | (with_reducible first | (refine evL_nil ?_; refine hR _ ?_; clear hR R) | ((first | refine evC_seq ?_ | refine evC_block ?_); intro Ψ hΨ hΨ') | (refine evC_region ?_; intro R hR) | (refine hΨ _ ?_; clear hΨ hΨ' Ψ) | refine evC_skip ?_ | refine evC_ret ?_ | refine evC_exit ?_) | ((with_reducible refine hΨ' _ _ ?_ ?_); (focus (simp; done)); clear hΨ hΨ' Ψ) | ((with_reducible apply evC_cond); rfl; rfl; all_goals (intro hc; first | (cases hc; done) | (try simp only at hc))))))
  all_goals (refine ⟨by simp, ⟨_, ?_, AV.le_refl _⟩, leH_get (by simp [leH, hget])⟩; simp only [Tryz.results94, resL, ldA, oneOf, go_sem])
  all_goals simp
def cmpI (a b : Int) : Int := if a < b then -1 else if b < a then 1 else 0
theorem compare_fn (a b : Int) : Fn Tryz.prog 76 [vi .u64 a, vi .u64 b] [] (vi .i64 (cmpI a b)) [] := by
  (refine fn_of Tryz.func76 rfl (by rfl) ?_; simp only [Tryz.ntmps76, List.length_cons, List.length_nil, Nat.reduceAdd, Nat.reduceSub, List.replicate, List.cons_append, List.nil_append])
  (repeat (any_goals (first | ((with_reducible refine evL_call ?_ ?_ ?_); rfl; rfl; intro K hK; ((apply opA_callB (isNaN_fn _); rfl; rfl; rfl; rfl; exact Tryz.func94); kernel_rfl; rfl; (simp only [go_sem]; rfl); (first | rfl | simp [AV.inNL, AV.inN])); (simp only [go_sem]; refine hK _ ?_; clear hK K)) | ((with_reducible refine evL_one ?_ ?_); rfl; intro K hK; simp only [go_sem]; ((repeat (refine ndI (by first | assumption | omega | rfl) ?_)); refine hK _ ?_; clear hK K)) | (with_reducible first | (refine evL_nil ?_; refine hR _ ?_; clear hR R) | ((first | refine evC_seq ?_ | refine evC_block ?_); intro Ψ hΨ hΨ') | (refine evC_region ?_; intro R hR) | (refine hΨ _ ?_; clear hΨ hΨ' Ψ) | refine evC_skip ?_ | refine evC_ret ?_ | refine evC_exit ?_) | ((with_reducible refine hΨ' _ _ ?_ ?_); (focus (simp; done)); clear hΨ hΨ' Ψ) | ((with_reducible apply evC_cond); rfl; rfl; all_goals (intro hc; first | (cases hc; done) | (try simp only at hc))))))
  all_goals (refine ⟨by simp, ⟨_, ?_, AV.le_refl _⟩, leH_get (by simp [leH, hget])⟩; simp only [Tryz.results76, resL, ldA, oneOf, go_sem])
  all_goals simp_all [cmpI]
  all_goals omega
abbrev aKey (a : Int) : Int := a
structure Sp where
  a : Int
  k : Nat
structure Pg where
  s : Sp
  v : Nat
def Sp.pv (s : Sp) : List PV := [.v (.int .u64 s.a), .v (.int .u64 (l0 s.k)), .v (.int .u64 (l1 s.k)), .v (.int .u64 (l2 s.k)), .v (.int .u64 (l3 s.k))]
def Pg.pv (p : Pg) : List PV := [.v (.int .u64 p.s.a), .v (.int .u64 (l0 p.s.k)), .v (.int .u64 (l1 p.s.k)), .v (.int .u64 (l2 p.s.k)), .v (.int .u64 (l3 p.s.k)), .v (.int .u64 (l0 p.v)), .v (.int .u64 (l1 p.v)), .v (.int .u64 (l2 p.v)), .v (.int .u64 (l3 p.v))]
theorem sp_len (s : Sp) : s.pv.length = 5 := rfl
theorem pg_len (p : Pg) : p.pv.length = 9 := rfl
abbrev spA (s : Sp) : AV := .agg [vi .u64 s.a, vi .u64 (l0 s.k), vi .u64 (l1 s.k), vi .u64 (l2 s.k), vi .u64 (l3 s.k)]
abbrev pgA (p : Pg) : AV := .agg [vi .u64 p.s.a, vi .u64 (l0 p.s.k), vi .u64 (l1 p.s.k), vi .u64 (l2 p.s.k), vi .u64 (l3 p.s.k), vi .u64 (l0 p.v), vi .u64 (l1 p.v), vi .u64 (l2 p.v), vi .u64 (l3 p.v)]
abbrev spl5 (ex : Bool) (l : List Sp) : AV := .c (.sl ex 5 l.length (l.flatMap Sp.pv))
abbrev pgl9 (ex : Bool) (l : List Pg) : AV := .c (.sl ex 9 l.length (l.flatMap Pg.pv))
theorem spl5_at {l : List Sp} {i : Nat} {y : Sp} (h : l[i]? = some y) : ((l.flatMap Sp.pv).drop (i * 5)).take 5 = [.v (.int .u64 y.a), .v (.int .u64 (l0 y.k)), .v (.int .u64 (l1 y.k)), .v (.int .u64 (l2 y.k)), .v (.int .u64 (l3 y.k))] := flat_at (f := Sp.pv) sp_len h
theorem pgl9_at {l : List Pg} {i : Nat} {y : Pg} (h : l[i]? = some y) : ((l.flatMap Pg.pv).drop (i * 9)).take 9 = [.v (.int .u64 y.s.a), .v (.int .u64 (l0 y.s.k)), .v (.int .u64 (l1 y.s.k)), .v (.int .u64 (l2 y.s.k)), .v (.int .u64 (l3 y.s.k)), .v (.int .u64 (l0 y.v)), .v (.int .u64 (l1 y.v)), .v (.int .u64 (l2 y.v)), .v (.int .u64 (l3 y.v))] := flat_at (f := Pg.pv) pg_len h
def Sp.ok (s : Sp) : Prop := U s.a ∧ s.k < WW
def Pg.ok (p : Pg) : Prop := p.s.ok ∧ p.v < WW
def Sp.key (s : Sp) : Int := s.a * (WW : Int) + (s.k : Int)
abbrev Pg.key (p : Pg) : Int := p.s.key
theorem key_lt {W a b : Int} {x y : Int} (hx : 0 ≤ x ∧ x < W) (hy : 0 ≤ y ∧ y < W) : a * W + x < b * W + y ↔ a < b ∨ (a = b ∧ x < y) := by
  rcases Int.lt_trichotomy a b with h | h | h
  · have e : (a + 1) * W ≤ b * W := Int.mul_le_mul_of_nonneg_right (by omega) (by omega)
    rw [Int.add_mul] at e
    omega
  · subst h; omega
  · have e : (b + 1) * W ≤ a * W := Int.mul_le_mul_of_nonneg_right (by omega) (by omega)
    rw [Int.add_mul] at e
    omega
theorem Sp.key_lt {s t : Sp} (hs : s.ok) (ht : t.ok) : s.key < t.key ↔ s.a < t.a ∨ (s.a = t.a ∧ s.k < t.k) := by
  have h := @Go.Proofs.YtcahibdaiokajaaGreat.ax.key_lt (WW : Int) s.a t.a s.k t.k ⟨by omega, by have := hs.2; exact_mod_cast this⟩ ⟨by omega, by have := ht.2; exact_mod_cast this⟩
  unfold Sp.key
  rw [h]
  omega
theorem cmp_key {s t : Sp} (hs : s.ok) (ht : t.ok) : (if cmpI s.a t.a = 0 then (if s.k < t.k then -1 else if t.k < s.k then 1 else 0) else cmpI s.a t.a) = cmpI s.key t.key := by
  have h1 := Sp.key_lt hs ht
  have h2 := Sp.key_lt ht hs
  generalize s.key = x at *
  generalize t.key = y at *
  unfold cmpI
  rcases Int.lt_trichotomy s.a t.a with h | h | h
  · have hx : x < y := by omega
    simp [h, hx]
  · rcases Nat.lt_trichotomy s.k t.k with g | g | g
    · have hx : x < y := by omega
      simp [h, g, hx]
    · have hx : ¬ x < y := by omega
      have hy : ¬ y < x := by omega
      simp [h, g, hx, hy]
    · have hx : ¬ x < y := by omega
      have hy : y < x := by omega
      have g2 : ¬ s.k < t.k := by omega
      simp [h, g, hx, hy, g2]
  · have hx : ¬ x < y := by omega
    have hy : y < x := by omega
    have g2 : ¬ s.a < t.a := by omega
    simp [h, hx, hy, g2]
theorem cmpor_fn (ex : Bool) (x y : Int) : Fn Tryz.prog 86 [.c (.sl ex 1 2 [.v (.int .i64 x), .v (.int .i64 y)])] [] (vi .i64 (if x = 0 then y else x)) [] := by
  (refine fn_of Tryz.func86 rfl (by rfl) ?_; simp only [Tryz.ntmps86, List.length_cons, List.length_nil, Nat.reduceAdd, Nat.reduceSub, List.replicate, List.cons_append, List.nil_append])
  (repeat (any_goals (first | ((with_reducible refine evL_one ?_ ?_); rfl; intro K hK; simp (disch := omega) only [go_sem, wrI, Int.reduceAdd]; ((repeat (refine ndI (by first | assumption | omega | rfl) ?_)); refine hK _ ?_; clear hK K)) | (with_reducible first | (refine evL_nil ?_; refine hR _ ?_; clear hR R) | ((first | refine evC_seq ?_ | refine evC_block ?_); intro Ψ hΨ hΨ') | (refine evC_region ?_; intro R hR) | (refine hΨ _ ?_; clear hΨ hΨ' Ψ) | refine evC_skip ?_ | refine evC_ret ?_ | refine evC_exit ?_) | ((with_reducible refine hΨ' _ _ ?_ ?_); (focus (simp; done)); clear hΨ hΨ' Ψ) | ((with_reducible apply evC_cond); rfl; rfl; all_goals (intro hc; first | (cases hc; done) | (try simp only at hc))) | (with_reducible refine evC_rounds 3 ?_) | ((with_reducible refine evR_succ ?_); intro Ψ hΨ hΨ'))))
  all_goals (refine ⟨by simp, ⟨_, ?_, AV.le_refl _⟩, leH_get (by simp [leH, hget])⟩; simp only [Tryz.results86, resL, ldA, oneOf, go_sem])
  all_goals simp_all
theorem compareS_fn (s t : Sp) (hs : s.ok) (ht : t.ok) : Fn Tryz.prog 78 [spA s, spA t] [] (vi .i64 (cmpI s.key t.key)) [] := by
  have c1 := compare_fn s.a t.a
  have c2 := cmp_fn s.k t.k hs.2 ht.2
  rw [← cmp_key hs ht]
  generalize cmpI s.a t.a = x at c1 ⊢
  generalize (if s.k < t.k then -1 else if t.k < s.k then 1 else 0 : Int) = y at c2 ⊢
  (refine fn_of Tryz.func78 rfl (by rfl) ?_; simp only [Tryz.ntmps78, List.length_cons, List.length_nil, Nat.reduceAdd, Nat.reduceSub, List.replicate, List.cons_append, List.nil_append])
  (repeat (any_goals (first | ((with_reducible refine evL_one ?_ ?_); rfl; intro K hK; simp only [go_sem]; ((repeat (refine ndI (by first | assumption | omega | rfl) ?_)); refine hK _ ?_; clear hK K)) | (with_reducible first | (refine evL_nil ?_; refine hR _ ?_; clear hR R) | ((first | refine evC_seq ?_ | refine evC_block ?_); intro Ψ hΨ hΨ') | (refine evC_region ?_; intro R hR) | (refine hΨ _ ?_; clear hΨ hΨ' Ψ) | refine evC_skip ?_ | refine evC_ret ?_ | refine evC_exit ?_) | ((with_reducible refine hΨ' _ _ ?_ ?_); (focus (simp; done)); clear hΨ hΨ' Ψ) | ((with_reducible apply evC_cond); rfl; rfl; all_goals (intro hc; first | (cases hc; done) | (try simp only at hc))) | ((with_reducible refine evD_nil ?_ ?_); kernel_rfl; (with_reducible refine hR _ ?_); clear hR R) | ((first | ((with_reducible apply evD_fcall); rfl; rfl; ((first | (apply opF_callB (c1); rfl; rfl; rfl; rfl; exact Tryz.func76) | (apply opF_callB (c2); rfl; rfl; rfl; rfl; exact Tryz.func83) | (apply opF_callB (cmpor_fn _ _ _); rfl; rfl; rfl; rfl; exact Tryz.func86)); kernel_rfl; rfl; (simp only [go_sem]; rfl); (first | rfl | simp [AV.inNL, AV.inN]))) | ((with_reducible apply evD_any); rfl; rfl; (simp only [rdE, rdOf, go_sem]; rfl); (intro τ hA hQ hN; ((try simp only [agree, Op.operands, Call.operands, go_sem, List.mem_cons, List.not_mem_nil, forall_eq_or_imp, forall_eq, List.append_toArray, Option.toArray] at hA); (try simp only [go_sem, List.mem_cons, List.not_mem_nil, forall_eq_or_imp, forall_eq] at hQ hN); (first | (revert hA; intro hA) | have hA := trivial); (first | (revert hQ; intro hQ) | have hQ := trivial); (first | (revert hN; intro hN) | have hN := trivial); simp only [go_sem, hA, hQ, hN]; (repeat (refine ndI (by first | assumption | omega | rfl) ?_)); (first | apply eff_rd | apply eff_st | apply eff_nw)))) | ((first | ((with_reducible apply evD_one); rfl) | ((with_reducible apply evD_grd); rfl; rfl; rfl; rfl)); apply opF_buildSlice_flat; rfl; rfl; (focus (simp only [go_sem]; try rfl)); (focus (simp only [go_sem]; try rfl)); rfl; (first | omega | (dsimp only; omega) | (simp only [Option.isSome_some, Option.isSome_none]; omega) | (simp; omega) | (focus (simp; done))); (first | omega | (dsimp only; omega) | (simp only [Option.isSome_some, Option.isSome_none]; omega) | (simp; omega) | (focus (simp; done))); (first | omega | (dsimp only; omega) | (simp only [Option.isSome_some, Option.isSome_none]; omega) | (simp; omega) | (focus (simp; done))); (simp only [go_sem]; rfl); rfl; (focus ((simp only [unC, Option.map_some]); (try rfl))))); (simp only [St.eff, setO, hputs, go_sem])) | ((with_reducible refine evC_draw ?_ ?_ ?_ ?_); kernel_rfl; kernel_rfl; (first | kernel_rfl | simp [newNames, isNew, St.free, freeH, AV.refsL, AV.refs]); intro R hR))))
  all_goals (refine ⟨by simp, ⟨_, ?_, AV.le_refl _⟩, leH_get (by simp [leH, hget])⟩; simp only [Tryz.results78, resL, ldA, oneOf, go_sem])
theorem kept_fn (s t : Pg) (hs : s.ok) (ht : t.ok) : Fn Tryz.prog 80 [pgA s, pgA t] [] (vi .i64 (cmpI s.key t.key)) [] := by
  have c1 := compare_fn s.s.a t.s.a
  have c2 := cmp_fn s.s.k t.s.k hs.1.2 ht.1.2
  rw [← cmp_key hs.1 ht.1]
  generalize cmpI s.s.a t.s.a = x at c1 ⊢
  generalize (if s.s.k < t.s.k then -1 else if t.s.k < s.s.k then 1 else 0 : Int) = y at c2 ⊢
  (refine fn_of Tryz.func80 rfl (by rfl) ?_; simp only [Tryz.ntmps80, List.length_cons, List.length_nil, Nat.reduceAdd, Nat.reduceSub, List.replicate, List.cons_append, List.nil_append])
  (repeat (any_goals (first | ((with_reducible refine evL_one ?_ ?_); rfl; intro K hK; simp only [go_sem]; ((repeat (refine ndI (by first | assumption | omega | rfl) ?_)); refine hK _ ?_; clear hK K)) | (with_reducible first | (refine evL_nil ?_; refine hR _ ?_; clear hR R) | ((first | refine evC_seq ?_ | refine evC_block ?_); intro Ψ hΨ hΨ') | (refine evC_region ?_; intro R hR) | (refine hΨ _ ?_; clear hΨ hΨ' Ψ) | refine evC_skip ?_ | refine evC_ret ?_ | refine evC_exit ?_) | ((with_reducible refine hΨ' _ _ ?_ ?_); (focus (simp; done)); clear hΨ hΨ' Ψ) | ((with_reducible apply evC_cond); rfl; rfl; all_goals (intro hc; first | (cases hc; done) | (try simp only at hc))) | ((with_reducible refine evD_nil ?_ ?_); kernel_rfl; (with_reducible refine hR _ ?_); clear hR R) | ((first | ((with_reducible apply evD_fcall); rfl; rfl; ((first | (apply opF_callB (c1); rfl; rfl; rfl; rfl; exact Tryz.func76) | (apply opF_callB (c2); rfl; rfl; rfl; rfl; exact Tryz.func83) | (apply opF_callB (cmpor_fn _ _ _); rfl; rfl; rfl; rfl; exact Tryz.func86)); kernel_rfl; rfl; (simp only [go_sem]; rfl); (first | rfl | simp [AV.inNL, AV.inN]))) | ((with_reducible apply evD_any); rfl; rfl; (simp only [rdE, rdOf, go_sem]; rfl); (intro τ hA hQ hN; ((try simp only [agree, Op.operands, Call.operands, go_sem, List.mem_cons, List.not_mem_nil, forall_eq_or_imp, forall_eq, List.append_toArray, Option.toArray] at hA); (try simp only [go_sem, List.mem_cons, List.not_mem_nil, forall_eq_or_imp, forall_eq] at hQ hN); (first | (revert hA; intro hA) | have hA := trivial); (first | (revert hQ; intro hQ) | have hQ := trivial); (first | (revert hN; intro hN) | have hN := trivial); simp only [go_sem, hA, hQ, hN]; (repeat (refine ndI (by first | assumption | omega | rfl) ?_)); (first | apply eff_rd | apply eff_st | apply eff_nw)))) | ((first | ((with_reducible apply evD_one); rfl) | ((with_reducible apply evD_grd); rfl; rfl; rfl; rfl)); apply opF_buildSlice_flat; rfl; rfl; (focus (simp only [go_sem]; try rfl)); (focus (simp only [go_sem]; try rfl)); rfl; (first | omega | (dsimp only; omega) | (simp only [Option.isSome_some, Option.isSome_none]; omega) | (simp; omega) | (focus (simp; done))); (first | omega | (dsimp only; omega) | (simp only [Option.isSome_some, Option.isSome_none]; omega) | (simp; omega) | (focus (simp; done))); (first | omega | (dsimp only; omega) | (simp only [Option.isSome_some, Option.isSome_none]; omega) | (simp; omega) | (focus (simp; done))); (simp only [go_sem]; rfl); rfl; (focus ((simp only [unC, Option.map_some]); (try rfl))))); (simp only [St.eff, setO, hputs, go_sem])) | ((with_reducible refine evC_draw ?_ ?_ ?_ ?_); kernel_rfl; kernel_rfl; (first | kernel_rfl | simp [newNames, isNew, St.free, freeH, AV.refsL, AV.refs]); intro R hR))))
  all_goals (refine ⟨by simp, ⟨_, ?_, AV.le_refl _⟩, leH_get (by simp [leH, hget])⟩; simp only [Tryz.results80, resL, ldA, oneOf, go_sem])
end Go.Proofs.YtcahibdaiokajaaGreat.ax
namespace Go.Proofs.YtcahibdaiokajaaGreat.ax
open Go.RowKit
open Nat (reduceBEq)
set_option maxRecDepth 20000
set_option maxHeartbeats 2000000
section
variable {α : Type} (key : α → Int)
def bad (l : List α) (j : Nat) : Bool := match l[j]?, l[j + 1]? with | some x, some y => !decide (key x < key y) | _, _ => false
def risB (l : List α) : Bool := (List.range l.length).all fun j => !bad key l j
variable {key}
theorem bad_false {l : List α} (h : risB key l = true) (j : Nat) : bad key l j = false := by
  unfold risB at h
  rw [List.all_eq_true] at h
  rcases Nat.lt_or_ge j l.length with h1 | h1
  · have := h j (List.mem_range.2 h1)
    simpa using this
  · unfold bad; rw [List.getElem?_eq_none h1]
theorem bad_ex {l : List α} (h : risB key l = false) : ∃ j, j < l.length ∧ bad key l j = true := by
  refine Classical.byContradiction fun hn => ?_
  have : risB key l = true := by
    unfold risB
    rw [List.all_eq_true]
    intro j hj
    cases hb : bad key l j with
    | false => rfl
    | true => exact absurd ⟨j, List.mem_range.1 hj, hb⟩ hn
  rw [this] at h; cases h
def okR (key : α → Int) (l : List α) : Bool := risB key l && decide (l.length ≤ 400)
end
theorem cmpI_ge (x y : Int) : decide (cmpI x y ≥ 0) = !decide (x < y) := by
  unfold cmpI
  by_cases h : x < y
  · simp [h]
  · by_cases h2 : y < x <;> simp [h, h2]
theorem risesA_fn (ex : Bool) (l : List Int) (hl : l.length ≤ 1000000) : Fn Tryz.prog 75 [asl ex l, .fn 76 []] [] (vb (okR aKey l)) [] := by
  unfold okR
  have kn : decide ((l.length : Int) ≤ 400) = decide (l.length ≤ 400) := decide_eq_decide.2 (by omega)
  obtain ⟨m, hm, h1, h2⟩ : ∃ m, m ≤ l.length ∧ (∀ j, j < m → bad aKey l j = false) ∧ (risB aKey l = false → bad aKey l m = true) ∧ (risB aKey l = true → m = l.length) := by
    cases hb : risB aKey l with
    | true => exact ⟨l.length, Nat.le_refl _, fun j _ => bad_false hb j, nofun, fun _ => rfl⟩
    | false =>
      obtain ⟨j, h1, h2⟩ := bad_ex hb
      obtain ⟨i, h3, h4, h5⟩ := first_out (L := fun j => !bad aKey l j) (n := l.length) ⟨j, h1, by simp [h2]⟩
      exact ⟨i, by omega, fun j hj => by have := h5 j hj; simpa using this, fun _ => by simpa using h4, nofun⟩
  obtain ⟨h2, h3⟩ := h2
  generalize risB aKey l = q at h2 h3 ⊢
  (refine fn_of Tryz.func75 rfl (by rfl) ?_; simp only [Tryz.ntmps75, List.length_cons, List.length_nil, Nat.reduceAdd, Nat.reduceSub, List.replicate, List.cons_append, List.nil_append])
  (repeat (any_goals (first | ((with_reducible refine evL_one ?_ ?_); rfl; intro K hK; simp only [go_sem]; ((repeat (refine ndI (by first | assumption | omega | rfl) ?_)); refine hK _ ?_; clear hK K)) | (with_reducible first | (refine evL_nil ?_; refine hR _ ?_; clear hR R) | ((first | refine evC_seq ?_ | refine evC_block ?_); intro Ψ hΨ hΨ') | (refine evC_region ?_; intro R hR) | (refine hΨ _ ?_; clear hΨ hΨ' Ψ) | refine evC_skip ?_ | refine evC_ret ?_ | refine evC_exit ?_) | ((with_reducible refine hΨ' _ _ ?_ ?_); (focus (simp; done)); clear hΨ hΨ' Ψ) | ((with_reducible apply evC_cond); rfl; rfl; all_goals (intro hc; first | (cases hc; done) | (try simp only at hc))) | ((with_reducible refine evD_nil ?_ ?_); kernel_rfl; (with_reducible refine hR _ ?_); clear hR R) | ((first | ((with_reducible apply evD_skip); rfl; rfl; rfl; rfl) | ((with_reducible apply evD_unmet); rfl; rfl; rfl) | ((first | ((with_reducible apply evD_any); rfl; rfl) | ((with_reducible apply evD_gany); rfl; rfl; rfl; rfl; rfl)); (simp only [rdE, rdOf, go_sem]; rfl); (intro τ hA hQ hN; ((try simp only [agree, Op.operands, Call.operands, go_sem, List.mem_cons, List.not_mem_nil, forall_eq_or_imp, forall_eq, List.append_toArray, Option.toArray] at hA); (try simp only [go_sem, List.mem_cons, List.not_mem_nil, forall_eq_or_imp, forall_eq] at hQ hN); (first | (revert hA; intro hA) | have hA := trivial); (first | (revert hQ; intro hQ) | have hQ := trivial); (first | (revert hN; intro hN) | have hN := trivial); simp only [go_sem, hA, hQ, hN]; (repeat (refine ndI (by first | assumption | omega | rfl) ?_)); (first | apply eff_rd | apply eff_st | apply eff_nw))))); (simp only [St.eff, setO, hputs, go_sem])) | ((with_reducible apply evD_split); rfl; rfl; rfl; all_goals intro hb; all_goals (simp only [St.eff, setO, hputs, go_sem])) | ((with_reducible refine evC_draw ?_ ?_ ?_ ?_); kernel_rfl; kernel_rfl; (first | kernel_rfl | simp [newNames, isNew, St.free, freeH, AV.refsL, AV.refs]); intro R hR))))
  refine evC_loop (α := { i : Nat // i ≤ l.length ∧ (q = false → i ≤ m + 1) }) (fun i => ⟨[asl ex l, .fn 76 [], .any, .any, .any, .any, .any, vi .i64 l.length, vi .i64 (i.1 : Int), .any, .any, .any, .any, .any, .any, .any, .any, .any, .any, .any, .any, .any, .any, .any, .any, .any, .any, .any, .any, .any, .any], []⟩) (fun i => l.length - i.1) ⟨0, Nat.zero_le _, fun _ => Nat.zero_le _⟩ (St.le_of (by simp [leT]) (by simp [leH])) ?_
  rintro ⟨i, hi, hq⟩ Ψ hΨ hΨ'
  (try dsimp only at hi hq hΨ ⊢)
  rcases Nat.lt_or_ge i l.length with hlt | hge
  · obtain ⟨y, hy⟩ : ∃ y, l[i]? = some y := ⟨_, List.getElem?_eq_getElem hlt⟩
    have k1 : (decide ((i : Int) < (l.length : Int))) = true := decide_eq_true (by omega)
    have k2 := asl_at hy
    have k7 : (i : Int) + 1 = ((i + 1 : Nat) : Int) := by omega
    rcases Nat.eq_zero_or_pos i with h0 | h0
    · have k4 : (decide ((i : Int) > 0)) = false := decide_eq_false (by omega)
      (have W := ndI k1 (ndI k4 (ndI k7 @wrI)); (repeat (any_goals (first | ((with_reducible refine evL_one ?_ ?_); rfl; intro K hK; simp (disch := omega) only [go_sem, W, Nat.mul_one]; ((repeat (refine ndI (by first | assumption | omega | rfl) ?_)); refine hK _ ?_; clear hK K)) | (with_reducible first | (refine evL_nil ?_; refine hR _ ?_; clear hR R) | ((first | refine evC_seq ?_ | refine evC_block ?_); intro Ψ hΨ hΨ') | (refine evC_region ?_; intro R hR) | (refine hΨ _ ?_; clear hΨ hΨ' Ψ) | refine evC_skip ?_ | refine evC_ret ?_ | refine evC_exit ?_) | ((with_reducible refine hΨ' _ _ ?_ ?_); (focus (simp; done)); clear hΨ hΨ' Ψ) | ((with_reducible apply evC_cond); rfl; rfl; all_goals (intro hc; first | (cases hc; done) | (try simp only at hc))) | ((with_reducible refine evD_nil ?_ ?_); kernel_rfl; (with_reducible refine hR _ ?_); clear hR R) | ((first | ((with_reducible apply evD_skip); rfl; rfl; rfl; rfl) | ((with_reducible apply evD_unmet); rfl; rfl; rfl) | ((first | ((with_reducible apply evD_any); rfl; rfl) | ((with_reducible apply evD_gany); rfl; rfl; rfl; rfl; rfl)); (simp (disch := omega) only [rdE, rdOf, go_sem, W, Nat.mul_one]; rfl); (intro τ hA hQ hN; ((try simp only [agree, Op.operands, Call.operands, go_sem, W, Nat.mul_one, go_sem, List.mem_cons, List.not_mem_nil, forall_eq_or_imp, forall_eq, List.append_toArray, Option.toArray] at hA); (try simp only [go_sem, W, Nat.mul_one, List.mem_cons, List.not_mem_nil, forall_eq_or_imp, forall_eq] at hQ hN); (first | (revert hA; intro hA) | have hA := trivial); (first | (revert hQ; intro hQ) | have hQ := trivial); (first | (revert hN; intro hN) | have hN := trivial); simp (disch := omega) only [go_sem, W, Nat.mul_one, go_sem, hA, hQ, hN]; (repeat (refine ndI (by first | assumption | omega | rfl) ?_)); (first | apply eff_rd | apply eff_st | apply eff_nw))))); (simp (disch := omega) only [St.eff, setO, hputs, go_sem, W, Nat.mul_one])) | ((with_reducible apply evD_split); rfl; rfl; rfl; all_goals intro hb; all_goals (simp (disch := omega) only [St.eff, setO, hputs, go_sem, W, Nat.mul_one])) | ((with_reducible refine evC_draw ?_ ?_ ?_ ?_); kernel_rfl; kernel_rfl; (first | kernel_rfl | simp [newNames, isNew, St.free, freeH, AV.refsL, AV.refs]); intro R hR)))))
      all_goals exact hΨ _ ⟨i + 1, hlt, fun hf => by omega⟩ (by dsimp only; omega) (St.le_of (by simp [leT]) (by simp [leH]))
    · obtain ⟨x, hx⟩ : ∃ x, l[i - 1]? = some x := ⟨_, List.getElem?_eq_getElem (by omega)⟩
      have k3 := asl_at hx
      have k4 : (decide ((i : Int) > 0)) = true := decide_eq_true (by omega)
      have k5 : (i : Int) - 1 = ((i - 1 : Nat) : Int) := by omega
      have k6 := cmpI_ge (aKey x) (aKey y)
      have cm := compare_fn x y
      have hb : bad aKey l (i - 1) = !decide (aKey x < aKey y) := by
        unfold bad; rw [hx, show i - 1 + 1 = i by omega, hy]
      rw [← hb] at k6
      clear hb
      generalize cmpI (aKey x) (aKey y) = c at k6 cm
      by_cases hc : i - 1 < m
      · rw [h1 _ hc] at k6
        (have W := ndI k1 (ndI k2 (ndI k3 (ndI k4 (ndI k5 (ndI k6 (ndI k7 @wrI)))))); (repeat (any_goals (first | ((with_reducible refine evL_one ?_ ?_); rfl; intro K hK; simp (disch := omega) only [go_sem, W, Nat.mul_one]; ((repeat (refine ndI (by first | assumption | omega | rfl) ?_)); refine hK _ ?_; clear hK K)) | (with_reducible first | (refine evL_nil ?_; refine hR _ ?_; clear hR R) | ((first | refine evC_seq ?_ | refine evC_block ?_); intro Ψ hΨ hΨ') | (refine evC_region ?_; intro R hR) | (refine hΨ _ ?_; clear hΨ hΨ' Ψ) | refine evC_skip ?_ | refine evC_ret ?_ | refine evC_exit ?_) | ((with_reducible refine hΨ' _ _ ?_ ?_); (focus (simp; done)); clear hΨ hΨ' Ψ) | ((with_reducible apply evC_cond); rfl; rfl; all_goals (intro hc; first | (cases hc; done) | (try simp only at hc))) | ((with_reducible refine evD_nil ?_ ?_); kernel_rfl; (with_reducible refine hR _ ?_); clear hR R) | ((first | ((with_reducible apply evD_skip); rfl; rfl; rfl; rfl) | ((with_reducible apply evD_unmet); rfl; rfl; rfl) | ((first | ((with_reducible apply evD_fcall); rfl; rfl) | ((with_reducible apply evD_gcall); rfl; rfl; rfl; rfl; rfl)); ((apply opF_callB (cm); rfl; rfl; rfl; rfl; exact Tryz.func76); kernel_rfl; rfl; (simp (disch := omega) only [go_sem, W, Nat.mul_one]; rfl); (first | rfl | simp [AV.inNL, AV.inN]))) | ((first | ((with_reducible apply evD_any); rfl; rfl) | ((with_reducible apply evD_gany); rfl; rfl; rfl; rfl; rfl)); (simp (disch := omega) only [rdE, rdOf, go_sem, W, Nat.mul_one]; rfl); (intro τ hA hQ hN; ((try simp only [agree, Op.operands, Call.operands, go_sem, W, Nat.mul_one, go_sem, List.mem_cons, List.not_mem_nil, forall_eq_or_imp, forall_eq, List.append_toArray, Option.toArray] at hA); (try simp only [go_sem, W, Nat.mul_one, List.mem_cons, List.not_mem_nil, forall_eq_or_imp, forall_eq] at hQ hN); (first | (revert hA; intro hA) | have hA := trivial); (first | (revert hQ; intro hQ) | have hQ := trivial); (first | (revert hN; intro hN) | have hN := trivial); simp (disch := omega) only [go_sem, W, Nat.mul_one, go_sem, hA, hQ, hN]; (repeat (refine ndI (by first | assumption | omega | rfl) ?_)); (first | apply eff_rd | apply eff_st | apply eff_nw))))); (simp (disch := omega) only [St.eff, setO, hputs, go_sem, W, Nat.mul_one])) | ((with_reducible apply evD_split); rfl; rfl; rfl; all_goals intro hb; all_goals (simp (disch := omega) only [St.eff, setO, hputs, go_sem, W, Nat.mul_one])) | ((with_reducible refine evC_draw ?_ ?_ ?_ ?_); kernel_rfl; kernel_rfl; (first | kernel_rfl | simp [newNames, isNew, St.free, freeH, AV.refsL, AV.refs]); intro R hR)))))
        all_goals exact hΨ _ ⟨i + 1, hlt, fun hf => by omega⟩ (by dsimp only; omega) (St.le_of (by simp [leT]) (by simp [leH]))
      · have hqf : q = false := by
          cases hq2 : q with
          | false => rfl
          | true => have := h3 hq2; omega
        have e : i - 1 = m := by have := hq hqf; omega
        rw [e, h2 hqf] at k6
        (have W := ndI k1 (ndI k2 (ndI k3 (ndI k4 (ndI k5 (ndI k6 (ndI k7 @wrI)))))); (repeat (any_goals (first | ((with_reducible refine evL_one ?_ ?_); rfl; intro K hK; simp (disch := omega) only [go_sem, W, Nat.mul_one]; ((repeat (refine ndI (by first | assumption | omega | rfl) ?_)); refine hK _ ?_; clear hK K)) | (with_reducible first | (refine evL_nil ?_; refine hR _ ?_; clear hR R) | ((first | refine evC_seq ?_ | refine evC_block ?_); intro Ψ hΨ hΨ') | (refine evC_region ?_; intro R hR) | (refine hΨ _ ?_; clear hΨ hΨ' Ψ) | refine evC_skip ?_ | refine evC_ret ?_ | refine evC_exit ?_) | ((with_reducible refine hΨ' _ _ ?_ ?_); (focus (simp; done)); clear hΨ hΨ' Ψ) | ((with_reducible apply evC_cond); rfl; rfl; all_goals (intro hc; first | (cases hc; done) | (try simp only at hc))) | ((with_reducible refine evD_nil ?_ ?_); kernel_rfl; (with_reducible refine hR _ ?_); clear hR R) | ((first | ((with_reducible apply evD_skip); rfl; rfl; rfl; rfl) | ((with_reducible apply evD_unmet); rfl; rfl; rfl) | ((first | ((with_reducible apply evD_fcall); rfl; rfl) | ((with_reducible apply evD_gcall); rfl; rfl; rfl; rfl; rfl)); ((apply opF_callB (cm); rfl; rfl; rfl; rfl; exact Tryz.func76); kernel_rfl; rfl; (simp (disch := omega) only [go_sem, W, Nat.mul_one]; rfl); (first | rfl | simp [AV.inNL, AV.inN]))) | ((first | ((with_reducible apply evD_any); rfl; rfl) | ((with_reducible apply evD_gany); rfl; rfl; rfl; rfl; rfl)); (simp (disch := omega) only [rdE, rdOf, go_sem, W, Nat.mul_one]; rfl); (intro τ hA hQ hN; ((try simp only [agree, Op.operands, Call.operands, go_sem, W, Nat.mul_one, go_sem, List.mem_cons, List.not_mem_nil, forall_eq_or_imp, forall_eq, List.append_toArray, Option.toArray] at hA); (try simp only [go_sem, W, Nat.mul_one, List.mem_cons, List.not_mem_nil, forall_eq_or_imp, forall_eq] at hQ hN); (first | (revert hA; intro hA) | have hA := trivial); (first | (revert hQ; intro hQ) | have hQ := trivial); (first | (revert hN; intro hN) | have hN := trivial); simp (disch := omega) only [go_sem, W, Nat.mul_one, go_sem, hA, hQ, hN]; (repeat (refine ndI (by first | assumption | omega | rfl) ?_)); (first | apply eff_rd | apply eff_st | apply eff_nw))))); (simp (disch := omega) only [St.eff, setO, hputs, go_sem, W, Nat.mul_one])) | ((with_reducible apply evD_split); rfl; rfl; rfl; all_goals intro hb; all_goals (simp (disch := omega) only [St.eff, setO, hputs, go_sem, W, Nat.mul_one])) | ((with_reducible refine evC_draw ?_ ?_ ?_ ?_); kernel_rfl; kernel_rfl; (first | kernel_rfl | simp [newNames, isNew, St.free, freeH, AV.refsL, AV.refs]); intro R hR)))))
        all_goals rw [hqf]
        all_goals (refine ⟨by simp, ⟨_, ?_, AV.le_refl _⟩, leH_get (by simp [leH, hget])⟩; simp only [Tryz.results75, resL, ldA, oneOf, go_sem])
        all_goals rfl
  · have k1 : (decide ((i : Int) < (l.length : Int))) = false := decide_eq_false (by omega)
    have hqt : q = true := by
      cases hq2 : q with
      | true => rfl
      | false =>
        have := hq hq2
        have hbm := h2 hq2
        unfold bad at hbm
        rw [List.getElem?_eq_none (show l.length ≤ m + 1 by omega)] at hbm
        split at hbm <;> simp_all
    (repeat (any_goals (first | ((with_reducible refine evL_one ?_ ?_); rfl; intro K hK; simp only [go_sem, k1, kn]; ((repeat (refine ndI (by first | assumption | omega | rfl) ?_)); refine hK _ ?_; clear hK K)) | (with_reducible first | (refine evL_nil ?_; refine hR _ ?_; clear hR R) | ((first | refine evC_seq ?_ | refine evC_block ?_); intro Ψ hΨ hΨ') | (refine evC_region ?_; intro R hR) | (refine hΨ _ ?_; clear hΨ hΨ' Ψ) | refine evC_skip ?_ | refine evC_ret ?_ | refine evC_exit ?_) | ((with_reducible refine hΨ' _ _ ?_ ?_); (focus (simp; done)); clear hΨ hΨ' Ψ) | ((with_reducible apply evC_cond); rfl; rfl; all_goals (intro hc; first | (cases hc; done) | (try simp only at hc))) | ((with_reducible refine evD_nil ?_ ?_); kernel_rfl; (with_reducible refine hR _ ?_); clear hR R) | ((first | ((with_reducible apply evD_skip); rfl; rfl; rfl; rfl) | ((with_reducible apply evD_unmet); rfl; rfl; rfl) | ((first | ((with_reducible apply evD_any); rfl; rfl) | ((with_reducible apply evD_gany); rfl; rfl; rfl; rfl; rfl)); (simp only [rdE, rdOf, go_sem, k1, kn]; rfl); (intro τ hA hQ hN; ((try simp only [agree, Op.operands, Call.operands, go_sem, k1, kn, go_sem, List.mem_cons, List.not_mem_nil, forall_eq_or_imp, forall_eq, List.append_toArray, Option.toArray] at hA); (try simp only [go_sem, k1, kn, List.mem_cons, List.not_mem_nil, forall_eq_or_imp, forall_eq] at hQ hN); (first | (revert hA; intro hA) | have hA := trivial); (first | (revert hQ; intro hQ) | have hQ := trivial); (first | (revert hN; intro hN) | have hN := trivial); simp only [go_sem, k1, kn, go_sem, hA, hQ, hN]; (repeat (refine ndI (by first | assumption | omega | rfl) ?_)); (first | apply eff_rd | apply eff_st | apply eff_nw))))); (simp only [St.eff, setO, hputs, go_sem, k1, kn])) | ((with_reducible apply evD_split); rfl; rfl; rfl; all_goals intro hb; all_goals (simp only [St.eff, setO, hputs, go_sem, k1, kn])) | ((with_reducible refine evC_draw ?_ ?_ ?_ ?_); kernel_rfl; kernel_rfl; (first | kernel_rfl | simp [newNames, isNew, St.free, freeH, AV.refsL, AV.refs]); intro R hR))))
    all_goals rw [hqt]
    all_goals (refine ⟨by simp, ⟨_, ?_, AV.le_refl _⟩, leH_get (by simp [leH, hget])⟩; simp only [Tryz.results75, resL, ldA, oneOf, go_sem])
    all_goals simp
theorem risesS_fn (ex : Bool) (l : List Sp) (hl : l.length ≤ 1000000) (ok : ∀ x ∈ l, Sp.ok x) : Fn Tryz.prog 77 [spl5 ex l, .fn 78 []] [] (vb (okR Sp.key l)) [] := by
  unfold okR
  have kn : decide ((l.length : Int) ≤ 400) = decide (l.length ≤ 400) := decide_eq_decide.2 (by omega)
  obtain ⟨m, hm, h1, h2⟩ : ∃ m, m ≤ l.length ∧ (∀ j, j < m → bad Sp.key l j = false) ∧ (risB Sp.key l = false → bad Sp.key l m = true) ∧ (risB Sp.key l = true → m = l.length) := by
    cases hb : risB Sp.key l with
    | true => exact ⟨l.length, Nat.le_refl _, fun j _ => bad_false hb j, nofun, fun _ => rfl⟩
    | false =>
      obtain ⟨j, h1, h2⟩ := bad_ex hb
      obtain ⟨i, h3, h4, h5⟩ := first_out (L := fun j => !bad Sp.key l j) (n := l.length) ⟨j, h1, by simp [h2]⟩
      exact ⟨i, by omega, fun j hj => by have := h5 j hj; simpa using this, fun _ => by simpa using h4, nofun⟩
  obtain ⟨h2, h3⟩ := h2
  generalize risB Sp.key l = q at h2 h3 ⊢
  (refine fn_of Tryz.func77 rfl (by rfl) ?_; simp only [Tryz.ntmps77, List.length_cons, List.length_nil, Nat.reduceAdd, Nat.reduceSub, List.replicate, List.cons_append, List.nil_append])
  (repeat (any_goals (first | ((with_reducible refine evL_one ?_ ?_); rfl; intro K hK; simp only [go_sem]; ((repeat (refine ndI (by first | assumption | omega | rfl) ?_)); refine hK _ ?_; clear hK K)) | (with_reducible first | (refine evL_nil ?_; refine hR _ ?_; clear hR R) | ((first | refine evC_seq ?_ | refine evC_block ?_); intro Ψ hΨ hΨ') | (refine evC_region ?_; intro R hR) | (refine hΨ _ ?_; clear hΨ hΨ' Ψ) | refine evC_skip ?_ | refine evC_ret ?_ | refine evC_exit ?_) | ((with_reducible refine hΨ' _ _ ?_ ?_); (focus (simp; done)); clear hΨ hΨ' Ψ) | ((with_reducible apply evC_cond); rfl; rfl; all_goals (intro hc; first | (cases hc; done) | (try simp only at hc))) | ((with_reducible refine evD_nil ?_ ?_); kernel_rfl; (with_reducible refine hR _ ?_); clear hR R) | ((first | ((with_reducible apply evD_skip); rfl; rfl; rfl; rfl) | ((with_reducible apply evD_unmet); rfl; rfl; rfl) | ((first | ((with_reducible apply evD_any); rfl; rfl) | ((with_reducible apply evD_gany); rfl; rfl; rfl; rfl; rfl)); (simp only [rdE, rdOf, go_sem]; rfl); (intro τ hA hQ hN; ((try simp only [agree, Op.operands, Call.operands, go_sem, List.mem_cons, List.not_mem_nil, forall_eq_or_imp, forall_eq, List.append_toArray, Option.toArray] at hA); (try simp only [go_sem, List.mem_cons, List.not_mem_nil, forall_eq_or_imp, forall_eq] at hQ hN); (first | (revert hA; intro hA) | have hA := trivial); (first | (revert hQ; intro hQ) | have hQ := trivial); (first | (revert hN; intro hN) | have hN := trivial); simp only [go_sem, hA, hQ, hN]; (repeat (refine ndI (by first | assumption | omega | rfl) ?_)); (first | apply eff_rd | apply eff_st | apply eff_nw))))); (simp only [St.eff, setO, hputs, go_sem])) | ((with_reducible apply evD_split); rfl; rfl; rfl; all_goals intro hb; all_goals (simp only [St.eff, setO, hputs, go_sem])) | ((with_reducible refine evC_draw ?_ ?_ ?_ ?_); kernel_rfl; kernel_rfl; (first | kernel_rfl | simp [newNames, isNew, St.free, freeH, AV.refsL, AV.refs]); intro R hR))))
  refine evC_loop (α := { i : Nat // i ≤ l.length ∧ (q = false → i ≤ m + 1) }) (fun i => ⟨[spl5 ex l, .fn 78 [], .any, .any, .any, .any, .any, vi .i64 l.length, vi .i64 (i.1 : Int), .any, .any, .any, .any, .any, .any, .any, .any, .any, .any, .any, .any, .any, .any, .any, .any, .any, .any, .any, .any, .any, .any], []⟩) (fun i => l.length - i.1) ⟨0, Nat.zero_le _, fun _ => Nat.zero_le _⟩ (St.le_of (by simp [leT]) (by simp [leH])) ?_
  rintro ⟨i, hi, hq⟩ Ψ hΨ hΨ'
  (try dsimp only at hi hq hΨ ⊢)
  rcases Nat.lt_or_ge i l.length with hlt | hge
  · obtain ⟨y, hy⟩ : ∃ y, l[i]? = some y := ⟨_, List.getElem?_eq_getElem hlt⟩
    have k1 : (decide ((i : Int) < (l.length : Int))) = true := decide_eq_true (by omega)
    have k2 := spl5_at hy
    have k7 : (i : Int) + 1 = ((i + 1 : Nat) : Int) := by omega
    rcases Nat.eq_zero_or_pos i with h0 | h0
    · have k4 : (decide ((i : Int) > 0)) = false := decide_eq_false (by omega)
      (have W := ndI k1 (ndI k4 (ndI k7 @wrI)); (repeat (any_goals (first | ((with_reducible refine evL_one ?_ ?_); rfl; intro K hK; simp (disch := omega) only [go_sem, W, Nat.mul_one]; ((repeat (refine ndI (by first | assumption | omega | rfl) ?_)); refine hK _ ?_; clear hK K)) | (with_reducible first | (refine evL_nil ?_; refine hR _ ?_; clear hR R) | ((first | refine evC_seq ?_ | refine evC_block ?_); intro Ψ hΨ hΨ') | (refine evC_region ?_; intro R hR) | (refine hΨ _ ?_; clear hΨ hΨ' Ψ) | refine evC_skip ?_ | refine evC_ret ?_ | refine evC_exit ?_) | ((with_reducible refine hΨ' _ _ ?_ ?_); (focus (simp; done)); clear hΨ hΨ' Ψ) | ((with_reducible apply evC_cond); rfl; rfl; all_goals (intro hc; first | (cases hc; done) | (try simp only at hc))) | ((with_reducible refine evD_nil ?_ ?_); kernel_rfl; (with_reducible refine hR _ ?_); clear hR R) | ((first | ((with_reducible apply evD_skip); rfl; rfl; rfl; rfl) | ((with_reducible apply evD_unmet); rfl; rfl; rfl) | ((first | ((with_reducible apply evD_any); rfl; rfl) | ((with_reducible apply evD_gany); rfl; rfl; rfl; rfl; rfl)); (simp (disch := omega) only [rdE, rdOf, go_sem, W, Nat.mul_one]; rfl); (intro τ hA hQ hN; ((try simp only [agree, Op.operands, Call.operands, go_sem, W, Nat.mul_one, go_sem, List.mem_cons, List.not_mem_nil, forall_eq_or_imp, forall_eq, List.append_toArray, Option.toArray] at hA); (try simp only [go_sem, W, Nat.mul_one, List.mem_cons, List.not_mem_nil, forall_eq_or_imp, forall_eq] at hQ hN); (first | (revert hA; intro hA) | have hA := trivial); (first | (revert hQ; intro hQ) | have hQ := trivial); (first | (revert hN; intro hN) | have hN := trivial); simp (disch := omega) only [go_sem, W, Nat.mul_one, go_sem, hA, hQ, hN]; (repeat (refine ndI (by first | assumption | omega | rfl) ?_)); (first | apply eff_rd | apply eff_st | apply eff_nw))))); (simp (disch := omega) only [St.eff, setO, hputs, go_sem, W, Nat.mul_one])) | ((with_reducible apply evD_split); rfl; rfl; rfl; all_goals intro hb; all_goals (simp (disch := omega) only [St.eff, setO, hputs, go_sem, W, Nat.mul_one])) | ((with_reducible refine evC_draw ?_ ?_ ?_ ?_); kernel_rfl; kernel_rfl; (first | kernel_rfl | simp [newNames, isNew, St.free, freeH, AV.refsL, AV.refs]); intro R hR)))))
      all_goals exact hΨ _ ⟨i + 1, hlt, fun hf => by omega⟩ (by dsimp only; omega) (St.le_of (by simp [leT]) (by simp [leH]))
    · obtain ⟨x, hx⟩ : ∃ x, l[i - 1]? = some x := ⟨_, List.getElem?_eq_getElem (by omega)⟩
      have k3 := spl5_at hx
      have ox := ok x (List.mem_of_getElem? hx)
      have oy := ok y (List.mem_of_getElem? hy)
      have k4 : (decide ((i : Int) > 0)) = true := decide_eq_true (by omega)
      have k5 : (i : Int) - 1 = ((i - 1 : Nat) : Int) := by omega
      have k6 := cmpI_ge (Sp.key x) (Sp.key y)
      have cm := compareS_fn x y ox oy
      have hb : bad Sp.key l (i - 1) = !decide (Sp.key x < Sp.key y) := by
        unfold bad; rw [hx, show i - 1 + 1 = i by omega, hy]
      rw [← hb] at k6
      clear hb
      generalize cmpI (Sp.key x) (Sp.key y) = c at k6 cm
      by_cases hc : i - 1 < m
      · rw [h1 _ hc] at k6
        (have W := ndI k1 (ndI k2 (ndI k3 (ndI k4 (ndI k5 (ndI k6 (ndI k7 @wrI)))))); (repeat (any_goals (first | ((with_reducible refine evL_one ?_ ?_); rfl; intro K hK; simp (disch := omega) only [go_sem, W, Nat.mul_one]; ((repeat (refine ndI (by first | assumption | omega | rfl) ?_)); refine hK _ ?_; clear hK K)) | (with_reducible first | (refine evL_nil ?_; refine hR _ ?_; clear hR R) | ((first | refine evC_seq ?_ | refine evC_block ?_); intro Ψ hΨ hΨ') | (refine evC_region ?_; intro R hR) | (refine hΨ _ ?_; clear hΨ hΨ' Ψ) | refine evC_skip ?_ | refine evC_ret ?_ | refine evC_exit ?_) | ((with_reducible refine hΨ' _ _ ?_ ?_); (focus (simp; done)); clear hΨ hΨ' Ψ) | ((with_reducible apply evC_cond); rfl; rfl; all_goals (intro hc; first | (cases hc; done) | (try simp only at hc))) | ((with_reducible refine evD_nil ?_ ?_); kernel_rfl; (with_reducible refine hR _ ?_); clear hR R) | ((first | ((with_reducible apply evD_skip); rfl; rfl; rfl; rfl) | ((with_reducible apply evD_unmet); rfl; rfl; rfl) | ((first | ((with_reducible apply evD_fcall); rfl; rfl) | ((with_reducible apply evD_gcall); rfl; rfl; rfl; rfl; rfl)); ((apply opF_callB (cm); rfl; rfl; rfl; rfl; exact Tryz.func78); kernel_rfl; rfl; (simp (disch := omega) only [go_sem, W, Nat.mul_one]; rfl); (first | rfl | simp [AV.inNL, AV.inN]))) | ((first | ((with_reducible apply evD_any); rfl; rfl) | ((with_reducible apply evD_gany); rfl; rfl; rfl; rfl; rfl)); (simp (disch := omega) only [rdE, rdOf, go_sem, W, Nat.mul_one]; rfl); (intro τ hA hQ hN; ((try simp only [agree, Op.operands, Call.operands, go_sem, W, Nat.mul_one, go_sem, List.mem_cons, List.not_mem_nil, forall_eq_or_imp, forall_eq, List.append_toArray, Option.toArray] at hA); (try simp only [go_sem, W, Nat.mul_one, List.mem_cons, List.not_mem_nil, forall_eq_or_imp, forall_eq] at hQ hN); (first | (revert hA; intro hA) | have hA := trivial); (first | (revert hQ; intro hQ) | have hQ := trivial); (first | (revert hN; intro hN) | have hN := trivial); simp (disch := omega) only [go_sem, W, Nat.mul_one, go_sem, hA, hQ, hN]; (repeat (refine ndI (by first | assumption | omega | rfl) ?_)); (first | apply eff_rd | apply eff_st | apply eff_nw))))); (simp (disch := omega) only [St.eff, setO, hputs, go_sem, W, Nat.mul_one])) | ((with_reducible apply evD_split); rfl; rfl; rfl; all_goals intro hb; all_goals (simp (disch := omega) only [St.eff, setO, hputs, go_sem, W, Nat.mul_one])) | ((with_reducible refine evC_draw ?_ ?_ ?_ ?_); kernel_rfl; kernel_rfl; (first | kernel_rfl | simp [newNames, isNew, St.free, freeH, AV.refsL, AV.refs]); intro R hR)))))
        all_goals exact hΨ _ ⟨i + 1, hlt, fun hf => by omega⟩ (by dsimp only; omega) (St.le_of (by simp [leT]) (by simp [leH]))
      · have hqf : q = false := by
          cases hq2 : q with
          | false => rfl
          | true => have := h3 hq2; omega
        have e : i - 1 = m := by have := hq hqf; omega
        rw [e, h2 hqf] at k6
        (have W := ndI k1 (ndI k2 (ndI k3 (ndI k4 (ndI k5 (ndI k6 (ndI k7 @wrI)))))); (repeat (any_goals (first | ((with_reducible refine evL_one ?_ ?_); rfl; intro K hK; simp (disch := omega) only [go_sem, W, Nat.mul_one]; ((repeat (refine ndI (by first | assumption | omega | rfl) ?_)); refine hK _ ?_; clear hK K)) | (with_reducible first | (refine evL_nil ?_; refine hR _ ?_; clear hR R) | ((first | refine evC_seq ?_ | refine evC_block ?_); intro Ψ hΨ hΨ') | (refine evC_region ?_; intro R hR) | (refine hΨ _ ?_; clear hΨ hΨ' Ψ) | refine evC_skip ?_ | refine evC_ret ?_ | refine evC_exit ?_) | ((with_reducible refine hΨ' _ _ ?_ ?_); (focus (simp; done)); clear hΨ hΨ' Ψ) | ((with_reducible apply evC_cond); rfl; rfl; all_goals (intro hc; first | (cases hc; done) | (try simp only at hc))) | ((with_reducible refine evD_nil ?_ ?_); kernel_rfl; (with_reducible refine hR _ ?_); clear hR R) | ((first | ((with_reducible apply evD_skip); rfl; rfl; rfl; rfl) | ((with_reducible apply evD_unmet); rfl; rfl; rfl) | ((first | ((with_reducible apply evD_fcall); rfl; rfl) | ((with_reducible apply evD_gcall); rfl; rfl; rfl; rfl; rfl)); ((apply opF_callB (cm); rfl; rfl; rfl; rfl; exact Tryz.func78); kernel_rfl; rfl; (simp (disch := omega) only [go_sem, W, Nat.mul_one]; rfl); (first | rfl | simp [AV.inNL, AV.inN]))) | ((first | ((with_reducible apply evD_any); rfl; rfl) | ((with_reducible apply evD_gany); rfl; rfl; rfl; rfl; rfl)); (simp (disch := omega) only [rdE, rdOf, go_sem, W, Nat.mul_one]; rfl); (intro τ hA hQ hN; ((try simp only [agree, Op.operands, Call.operands, go_sem, W, Nat.mul_one, go_sem, List.mem_cons, List.not_mem_nil, forall_eq_or_imp, forall_eq, List.append_toArray, Option.toArray] at hA); (try simp only [go_sem, W, Nat.mul_one, List.mem_cons, List.not_mem_nil, forall_eq_or_imp, forall_eq] at hQ hN); (first | (revert hA; intro hA) | have hA := trivial); (first | (revert hQ; intro hQ) | have hQ := trivial); (first | (revert hN; intro hN) | have hN := trivial); simp (disch := omega) only [go_sem, W, Nat.mul_one, go_sem, hA, hQ, hN]; (repeat (refine ndI (by first | assumption | omega | rfl) ?_)); (first | apply eff_rd | apply eff_st | apply eff_nw))))); (simp (disch := omega) only [St.eff, setO, hputs, go_sem, W, Nat.mul_one])) | ((with_reducible apply evD_split); rfl; rfl; rfl; all_goals intro hb; all_goals (simp (disch := omega) only [St.eff, setO, hputs, go_sem, W, Nat.mul_one])) | ((with_reducible refine evC_draw ?_ ?_ ?_ ?_); kernel_rfl; kernel_rfl; (first | kernel_rfl | simp [newNames, isNew, St.free, freeH, AV.refsL, AV.refs]); intro R hR)))))
        all_goals rw [hqf]
        all_goals (refine ⟨by simp, ⟨_, ?_, AV.le_refl _⟩, leH_get (by simp [leH, hget])⟩; simp only [Tryz.results77, resL, ldA, oneOf, go_sem])
        all_goals rfl
  · have k1 : (decide ((i : Int) < (l.length : Int))) = false := decide_eq_false (by omega)
    have hqt : q = true := by
      cases hq2 : q with
      | true => rfl
      | false =>
        have := hq hq2
        have hbm := h2 hq2
        unfold bad at hbm
        rw [List.getElem?_eq_none (show l.length ≤ m + 1 by omega)] at hbm
        split at hbm <;> simp_all
    (repeat (any_goals (first | ((with_reducible refine evL_one ?_ ?_); rfl; intro K hK; simp only [go_sem, k1, kn]; ((repeat (refine ndI (by first | assumption | omega | rfl) ?_)); refine hK _ ?_; clear hK K)) | (with_reducible first | (refine evL_nil ?_; refine hR _ ?_; clear hR R) | ((first | refine evC_seq ?_ | refine evC_block ?_); intro Ψ hΨ hΨ') | (refine evC_region ?_; intro R hR) | (refine hΨ _ ?_; clear hΨ hΨ' Ψ) | refine evC_skip ?_ | refine evC_ret ?_ | refine evC_exit ?_) | ((with_reducible refine hΨ' _ _ ?_ ?_); (focus (simp; done)); clear hΨ hΨ' Ψ) | ((with_reducible apply evC_cond); rfl; rfl; all_goals (intro hc; first | (cases hc; done) | (try simp only at hc))) | ((with_reducible refine evD_nil ?_ ?_); kernel_rfl; (with_reducible refine hR _ ?_); clear hR R) | ((first | ((with_reducible apply evD_skip); rfl; rfl; rfl; rfl) | ((with_reducible apply evD_unmet); rfl; rfl; rfl) | ((first | ((with_reducible apply evD_any); rfl; rfl) | ((with_reducible apply evD_gany); rfl; rfl; rfl; rfl; rfl)); (simp only [rdE, rdOf, go_sem, k1, kn]; rfl); (intro τ hA hQ hN; ((try simp only [agree, Op.operands, Call.operands, go_sem, k1, kn, go_sem, List.mem_cons, List.not_mem_nil, forall_eq_or_imp, forall_eq, List.append_toArray, Option.toArray] at hA); (try simp only [go_sem, k1, kn, List.mem_cons, List.not_mem_nil, forall_eq_or_imp, forall_eq] at hQ hN); (first | (revert hA; intro hA) | have hA := trivial); (first | (revert hQ; intro hQ) | have hQ := trivial); (first | (revert hN; intro hN) | have hN := trivial); simp only [go_sem, k1, kn, go_sem, hA, hQ, hN]; (repeat (refine ndI (by first | assumption | omega | rfl) ?_)); (first | apply eff_rd | apply eff_st | apply eff_nw))))); (simp only [St.eff, setO, hputs, go_sem, k1, kn])) | ((with_reducible apply evD_split); rfl; rfl; rfl; all_goals intro hb; all_goals (simp only [St.eff, setO, hputs, go_sem, k1, kn])) | ((with_reducible refine evC_draw ?_ ?_ ?_ ?_); kernel_rfl; kernel_rfl; (first | kernel_rfl | simp [newNames, isNew, St.free, freeH, AV.refsL, AV.refs]); intro R hR))))
    all_goals rw [hqt]
    all_goals (refine ⟨by simp, ⟨_, ?_, AV.le_refl _⟩, leH_get (by simp [leH, hget])⟩; simp only [Tryz.results77, resL, ldA, oneOf, go_sem])
    all_goals simp
theorem risesP_fn (ex : Bool) (l : List Pg) (hl : l.length ≤ 1000000) (ok : ∀ x ∈ l, Pg.ok x) : Fn Tryz.prog 79 [pgl9 ex l, .fn 80 []] [] (vb (okR Pg.key l)) [] := by
  unfold okR
  have kn : decide ((l.length : Int) ≤ 400) = decide (l.length ≤ 400) := decide_eq_decide.2 (by omega)
  obtain ⟨m, hm, h1, h2⟩ : ∃ m, m ≤ l.length ∧ (∀ j, j < m → bad Pg.key l j = false) ∧ (risB Pg.key l = false → bad Pg.key l m = true) ∧ (risB Pg.key l = true → m = l.length) := by
    cases hb : risB Pg.key l with
    | true => exact ⟨l.length, Nat.le_refl _, fun j _ => bad_false hb j, nofun, fun _ => rfl⟩
    | false =>
      obtain ⟨j, h1, h2⟩ := bad_ex hb
      obtain ⟨i, h3, h4, h5⟩ := first_out (L := fun j => !bad Pg.key l j) (n := l.length) ⟨j, h1, by simp [h2]⟩
      exact ⟨i, by omega, fun j hj => by have := h5 j hj; simpa using this, fun _ => by simpa using h4, nofun⟩
  obtain ⟨h2, h3⟩ := h2
  generalize risB Pg.key l = q at h2 h3 ⊢
  (refine fn_of Tryz.func79 rfl (by rfl) ?_; simp only [Tryz.ntmps79, List.length_cons, List.length_nil, Nat.reduceAdd, Nat.reduceSub, List.replicate, List.cons_append, List.nil_append])
  (repeat (any_goals (first | ((with_reducible refine evL_one ?_ ?_); rfl; intro K hK; simp only [go_sem]; ((repeat (refine ndI (by first | assumption | omega | rfl) ?_)); refine hK _ ?_; clear hK K)) | (with_reducible first | (refine evL_nil ?_; refine hR _ ?_; clear hR R) | ((first | refine evC_seq ?_ | refine evC_block ?_); intro Ψ hΨ hΨ') | (refine evC_region ?_; intro R hR) | (refine hΨ _ ?_; clear hΨ hΨ' Ψ) | refine evC_skip ?_ | refine evC_ret ?_ | refine evC_exit ?_) | ((with_reducible refine hΨ' _ _ ?_ ?_); (focus (simp; done)); clear hΨ hΨ' Ψ) | ((with_reducible apply evC_cond); rfl; rfl; all_goals (intro hc; first | (cases hc; done) | (try simp only at hc))) | ((with_reducible refine evD_nil ?_ ?_); kernel_rfl; (with_reducible refine hR _ ?_); clear hR R) | ((first | ((with_reducible apply evD_skip); rfl; rfl; rfl; rfl) | ((with_reducible apply evD_unmet); rfl; rfl; rfl) | ((first | ((with_reducible apply evD_any); rfl; rfl) | ((with_reducible apply evD_gany); rfl; rfl; rfl; rfl; rfl)); (simp only [rdE, rdOf, go_sem]; rfl); (intro τ hA hQ hN; ((try simp only [agree, Op.operands, Call.operands, go_sem, List.mem_cons, List.not_mem_nil, forall_eq_or_imp, forall_eq, List.append_toArray, Option.toArray] at hA); (try simp only [go_sem, List.mem_cons, List.not_mem_nil, forall_eq_or_imp, forall_eq] at hQ hN); (first | (revert hA; intro hA) | have hA := trivial); (first | (revert hQ; intro hQ) | have hQ := trivial); (first | (revert hN; intro hN) | have hN := trivial); simp only [go_sem, hA, hQ, hN]; (repeat (refine ndI (by first | assumption | omega | rfl) ?_)); (first | apply eff_rd | apply eff_st | apply eff_nw))))); (simp only [St.eff, setO, hputs, go_sem])) | ((with_reducible apply evD_split); rfl; rfl; rfl; all_goals intro hb; all_goals (simp only [St.eff, setO, hputs, go_sem])) | ((with_reducible refine evC_draw ?_ ?_ ?_ ?_); kernel_rfl; kernel_rfl; (first | kernel_rfl | simp [newNames, isNew, St.free, freeH, AV.refsL, AV.refs]); intro R hR))))
  refine evC_loop (α := { i : Nat // i ≤ l.length ∧ (q = false → i ≤ m + 1) }) (fun i => ⟨[pgl9 ex l, .fn 80 [], .any, .any, .any, .any, .any, vi .i64 l.length, vi .i64 (i.1 : Int), .any, .any, .any, .any, .any, .any, .any, .any, .any, .any, .any, .any, .any, .any, .any, .any, .any, .any, .any, .any, .any, .any], []⟩) (fun i => l.length - i.1) ⟨0, Nat.zero_le _, fun _ => Nat.zero_le _⟩ (St.le_of (by simp [leT]) (by simp [leH])) ?_
  rintro ⟨i, hi, hq⟩ Ψ hΨ hΨ'
  (try dsimp only at hi hq hΨ ⊢)
  rcases Nat.lt_or_ge i l.length with hlt | hge
  · obtain ⟨y, hy⟩ : ∃ y, l[i]? = some y := ⟨_, List.getElem?_eq_getElem hlt⟩
    have k1 : (decide ((i : Int) < (l.length : Int))) = true := decide_eq_true (by omega)
    have k2 := pgl9_at hy
    have k7 : (i : Int) + 1 = ((i + 1 : Nat) : Int) := by omega
    rcases Nat.eq_zero_or_pos i with h0 | h0
    · have k4 : (decide ((i : Int) > 0)) = false := decide_eq_false (by omega)
      (have W := ndI k1 (ndI k4 (ndI k7 @wrI)); (repeat (any_goals (first | ((with_reducible refine evL_one ?_ ?_); rfl; intro K hK; simp (disch := omega) only [go_sem, W, Nat.mul_one]; ((repeat (refine ndI (by first | assumption | omega | rfl) ?_)); refine hK _ ?_; clear hK K)) | (with_reducible first | (refine evL_nil ?_; refine hR _ ?_; clear hR R) | ((first | refine evC_seq ?_ | refine evC_block ?_); intro Ψ hΨ hΨ') | (refine evC_region ?_; intro R hR) | (refine hΨ _ ?_; clear hΨ hΨ' Ψ) | refine evC_skip ?_ | refine evC_ret ?_ | refine evC_exit ?_) | ((with_reducible refine hΨ' _ _ ?_ ?_); (focus (simp; done)); clear hΨ hΨ' Ψ) | ((with_reducible apply evC_cond); rfl; rfl; all_goals (intro hc; first | (cases hc; done) | (try simp only at hc))) | ((with_reducible refine evD_nil ?_ ?_); kernel_rfl; (with_reducible refine hR _ ?_); clear hR R) | ((first | ((with_reducible apply evD_skip); rfl; rfl; rfl; rfl) | ((with_reducible apply evD_unmet); rfl; rfl; rfl) | ((first | ((with_reducible apply evD_any); rfl; rfl) | ((with_reducible apply evD_gany); rfl; rfl; rfl; rfl; rfl)); (simp (disch := omega) only [rdE, rdOf, go_sem, W, Nat.mul_one]; rfl); (intro τ hA hQ hN; ((try simp only [agree, Op.operands, Call.operands, go_sem, W, Nat.mul_one, go_sem, List.mem_cons, List.not_mem_nil, forall_eq_or_imp, forall_eq, List.append_toArray, Option.toArray] at hA); (try simp only [go_sem, W, Nat.mul_one, List.mem_cons, List.not_mem_nil, forall_eq_or_imp, forall_eq] at hQ hN); (first | (revert hA; intro hA) | have hA := trivial); (first | (revert hQ; intro hQ) | have hQ := trivial); (first | (revert hN; intro hN) | have hN := trivial); simp (disch := omega) only [go_sem, W, Nat.mul_one, go_sem, hA, hQ, hN]; (repeat (refine ndI (by first | assumption | omega | rfl) ?_)); (first | apply eff_rd | apply eff_st | apply eff_nw))))); (simp (disch := omega) only [St.eff, setO, hputs, go_sem, W, Nat.mul_one])) | ((with_reducible apply evD_split); rfl; rfl; rfl; all_goals intro hb; all_goals (simp (disch := omega) only [St.eff, setO, hputs, go_sem, W, Nat.mul_one])) | ((with_reducible refine evC_draw ?_ ?_ ?_ ?_); kernel_rfl; kernel_rfl; (first | kernel_rfl | simp [newNames, isNew, St.free, freeH, AV.refsL, AV.refs]); intro R hR)))))
      all_goals exact hΨ _ ⟨i + 1, hlt, fun hf => by omega⟩ (by dsimp only; omega) (St.le_of (by simp [leT]) (by simp [leH]))
    · obtain ⟨x, hx⟩ : ∃ x, l[i - 1]? = some x := ⟨_, List.getElem?_eq_getElem (by omega)⟩
      have k3 := pgl9_at hx
      have ox := ok x (List.mem_of_getElem? hx)
      have oy := ok y (List.mem_of_getElem? hy)
      have k4 : (decide ((i : Int) > 0)) = true := decide_eq_true (by omega)
      have k5 : (i : Int) - 1 = ((i - 1 : Nat) : Int) := by omega
      have k6 := cmpI_ge (Pg.key x) (Pg.key y)
      have cm := kept_fn x y ox oy
      have hb : bad Pg.key l (i - 1) = !decide (Pg.key x < Pg.key y) := by
        unfold bad; rw [hx, show i - 1 + 1 = i by omega, hy]
      rw [← hb] at k6
      clear hb
      generalize cmpI (Pg.key x) (Pg.key y) = c at k6 cm
      by_cases hc : i - 1 < m
      · rw [h1 _ hc] at k6
        (have W := ndI k1 (ndI k2 (ndI k3 (ndI k4 (ndI k5 (ndI k6 (ndI k7 @wrI)))))); (repeat (any_goals (first | ((with_reducible refine evL_one ?_ ?_); rfl; intro K hK; simp (disch := omega) only [go_sem, W, Nat.mul_one]; ((repeat (refine ndI (by first | assumption | omega | rfl) ?_)); refine hK _ ?_; clear hK K)) | (with_reducible first | (refine evL_nil ?_; refine hR _ ?_; clear hR R) | ((first | refine evC_seq ?_ | refine evC_block ?_); intro Ψ hΨ hΨ') | (refine evC_region ?_; intro R hR) | (refine hΨ _ ?_; clear hΨ hΨ' Ψ) | refine evC_skip ?_ | refine evC_ret ?_ | refine evC_exit ?_) | ((with_reducible refine hΨ' _ _ ?_ ?_); (focus (simp; done)); clear hΨ hΨ' Ψ) | ((with_reducible apply evC_cond); rfl; rfl; all_goals (intro hc; first | (cases hc; done) | (try simp only at hc))) | ((with_reducible refine evD_nil ?_ ?_); kernel_rfl; (with_reducible refine hR _ ?_); clear hR R) | ((first | ((with_reducible apply evD_skip); rfl; rfl; rfl; rfl) | ((with_reducible apply evD_unmet); rfl; rfl; rfl) | ((first | ((with_reducible apply evD_fcall); rfl; rfl) | ((with_reducible apply evD_gcall); rfl; rfl; rfl; rfl; rfl)); ((apply opF_callB (cm); rfl; rfl; rfl; rfl; exact Tryz.func80); kernel_rfl; rfl; (simp (disch := omega) only [go_sem, W, Nat.mul_one]; rfl); (first | rfl | simp [AV.inNL, AV.inN]))) | ((first | ((with_reducible apply evD_any); rfl; rfl) | ((with_reducible apply evD_gany); rfl; rfl; rfl; rfl; rfl)); (simp (disch := omega) only [rdE, rdOf, go_sem, W, Nat.mul_one]; rfl); (intro τ hA hQ hN; ((try simp only [agree, Op.operands, Call.operands, go_sem, W, Nat.mul_one, go_sem, List.mem_cons, List.not_mem_nil, forall_eq_or_imp, forall_eq, List.append_toArray, Option.toArray] at hA); (try simp only [go_sem, W, Nat.mul_one, List.mem_cons, List.not_mem_nil, forall_eq_or_imp, forall_eq] at hQ hN); (first | (revert hA; intro hA) | have hA := trivial); (first | (revert hQ; intro hQ) | have hQ := trivial); (first | (revert hN; intro hN) | have hN := trivial); simp (disch := omega) only [go_sem, W, Nat.mul_one, go_sem, hA, hQ, hN]; (repeat (refine ndI (by first | assumption | omega | rfl) ?_)); (first | apply eff_rd | apply eff_st | apply eff_nw))))); (simp (disch := omega) only [St.eff, setO, hputs, go_sem, W, Nat.mul_one])) | ((with_reducible apply evD_split); rfl; rfl; rfl; all_goals intro hb; all_goals (simp (disch := omega) only [St.eff, setO, hputs, go_sem, W, Nat.mul_one])) | ((with_reducible refine evC_draw ?_ ?_ ?_ ?_); kernel_rfl; kernel_rfl; (first | kernel_rfl | simp [newNames, isNew, St.free, freeH, AV.refsL, AV.refs]); intro R hR)))))
        all_goals exact hΨ _ ⟨i + 1, hlt, fun hf => by omega⟩ (by dsimp only; omega) (St.le_of (by simp [leT]) (by simp [leH]))
      · have hqf : q = false := by
          cases hq2 : q with
          | false => rfl
          | true => have := h3 hq2; omega
        have e : i - 1 = m := by have := hq hqf; omega
        rw [e, h2 hqf] at k6
        (have W := ndI k1 (ndI k2 (ndI k3 (ndI k4 (ndI k5 (ndI k6 (ndI k7 @wrI)))))); (repeat (any_goals (first | ((with_reducible refine evL_one ?_ ?_); rfl; intro K hK; simp (disch := omega) only [go_sem, W, Nat.mul_one]; ((repeat (refine ndI (by first | assumption | omega | rfl) ?_)); refine hK _ ?_; clear hK K)) | (with_reducible first | (refine evL_nil ?_; refine hR _ ?_; clear hR R) | ((first | refine evC_seq ?_ | refine evC_block ?_); intro Ψ hΨ hΨ') | (refine evC_region ?_; intro R hR) | (refine hΨ _ ?_; clear hΨ hΨ' Ψ) | refine evC_skip ?_ | refine evC_ret ?_ | refine evC_exit ?_) | ((with_reducible refine hΨ' _ _ ?_ ?_); (focus (simp; done)); clear hΨ hΨ' Ψ) | ((with_reducible apply evC_cond); rfl; rfl; all_goals (intro hc; first | (cases hc; done) | (try simp only at hc))) | ((with_reducible refine evD_nil ?_ ?_); kernel_rfl; (with_reducible refine hR _ ?_); clear hR R) | ((first | ((with_reducible apply evD_skip); rfl; rfl; rfl; rfl) | ((with_reducible apply evD_unmet); rfl; rfl; rfl) | ((first | ((with_reducible apply evD_fcall); rfl; rfl) | ((with_reducible apply evD_gcall); rfl; rfl; rfl; rfl; rfl)); ((apply opF_callB (cm); rfl; rfl; rfl; rfl; exact Tryz.func80); kernel_rfl; rfl; (simp (disch := omega) only [go_sem, W, Nat.mul_one]; rfl); (first | rfl | simp [AV.inNL, AV.inN]))) | ((first | ((with_reducible apply evD_any); rfl; rfl) | ((with_reducible apply evD_gany); rfl; rfl; rfl; rfl; rfl)); (simp (disch := omega) only [rdE, rdOf, go_sem, W, Nat.mul_one]; rfl); (intro τ hA hQ hN; ((try simp only [agree, Op.operands, Call.operands, go_sem, W, Nat.mul_one, go_sem, List.mem_cons, List.not_mem_nil, forall_eq_or_imp, forall_eq, List.append_toArray, Option.toArray] at hA); (try simp only [go_sem, W, Nat.mul_one, List.mem_cons, List.not_mem_nil, forall_eq_or_imp, forall_eq] at hQ hN); (first | (revert hA; intro hA) | have hA := trivial); (first | (revert hQ; intro hQ) | have hQ := trivial); (first | (revert hN; intro hN) | have hN := trivial); simp (disch := omega) only [go_sem, W, Nat.mul_one, go_sem, hA, hQ, hN]; (repeat (refine ndI (by first | assumption | omega | rfl) ?_)); (first | apply eff_rd | apply eff_st | apply eff_nw))))); (simp (disch := omega) only [St.eff, setO, hputs, go_sem, W, Nat.mul_one])) | ((with_reducible apply evD_split); rfl; rfl; rfl; all_goals intro hb; all_goals (simp (disch := omega) only [St.eff, setO, hputs, go_sem, W, Nat.mul_one])) | ((with_reducible refine evC_draw ?_ ?_ ?_ ?_); kernel_rfl; kernel_rfl; (first | kernel_rfl | simp [newNames, isNew, St.free, freeH, AV.refsL, AV.refs]); intro R hR)))))
        all_goals rw [hqf]
        all_goals (refine ⟨by simp, ⟨_, ?_, AV.le_refl _⟩, leH_get (by simp [leH, hget])⟩; simp only [Tryz.results79, resL, ldA, oneOf, go_sem])
        all_goals rfl
  · have k1 : (decide ((i : Int) < (l.length : Int))) = false := decide_eq_false (by omega)
    have hqt : q = true := by
      cases hq2 : q with
      | true => rfl
      | false =>
        have := hq hq2
        have hbm := h2 hq2
        unfold bad at hbm
        rw [List.getElem?_eq_none (show l.length ≤ m + 1 by omega)] at hbm
        split at hbm <;> simp_all
    (repeat (any_goals (first | ((with_reducible refine evL_one ?_ ?_); rfl; intro K hK; simp only [go_sem, k1, kn]; ((repeat (refine ndI (by first | assumption | omega | rfl) ?_)); refine hK _ ?_; clear hK K)) | (with_reducible first | (refine evL_nil ?_; refine hR _ ?_; clear hR R) | ((first | refine evC_seq ?_ | refine evC_block ?_); intro Ψ hΨ hΨ') | (refine evC_region ?_; intro R hR) | (refine hΨ _ ?_; clear hΨ hΨ' Ψ) | refine evC_skip ?_ | refine evC_ret ?_ | refine evC_exit ?_) | ((with_reducible refine hΨ' _ _ ?_ ?_); (focus (simp; done)); clear hΨ hΨ' Ψ) | ((with_reducible apply evC_cond); rfl; rfl; all_goals (intro hc; first | (cases hc; done) | (try simp only at hc))) | ((with_reducible refine evD_nil ?_ ?_); kernel_rfl; (with_reducible refine hR _ ?_); clear hR R) | ((first | ((with_reducible apply evD_skip); rfl; rfl; rfl; rfl) | ((with_reducible apply evD_unmet); rfl; rfl; rfl) | ((first | ((with_reducible apply evD_any); rfl; rfl) | ((with_reducible apply evD_gany); rfl; rfl; rfl; rfl; rfl)); (simp only [rdE, rdOf, go_sem, k1, kn]; rfl); (intro τ hA hQ hN; ((try simp only [agree, Op.operands, Call.operands, go_sem, k1, kn, go_sem, List.mem_cons, List.not_mem_nil, forall_eq_or_imp, forall_eq, List.append_toArray, Option.toArray] at hA); (try simp only [go_sem, k1, kn, List.mem_cons, List.not_mem_nil, forall_eq_or_imp, forall_eq] at hQ hN); (first | (revert hA; intro hA) | have hA := trivial); (first | (revert hQ; intro hQ) | have hQ := trivial); (first | (revert hN; intro hN) | have hN := trivial); simp only [go_sem, k1, kn, go_sem, hA, hQ, hN]; (repeat (refine ndI (by first | assumption | omega | rfl) ?_)); (first | apply eff_rd | apply eff_st | apply eff_nw))))); (simp only [St.eff, setO, hputs, go_sem, k1, kn])) | ((with_reducible apply evD_split); rfl; rfl; rfl; all_goals intro hb; all_goals (simp only [St.eff, setO, hputs, go_sem, k1, kn])) | ((with_reducible refine evC_draw ?_ ?_ ?_ ?_); kernel_rfl; kernel_rfl; (first | kernel_rfl | simp [newNames, isNew, St.free, freeH, AV.refsL, AV.refs]); intro R hR))))
    all_goals rw [hqt]
    all_goals (refine ⟨by simp, ⟨_, ?_, AV.le_refl _⟩, leH_get (by simp [leH, hget])⟩; simp only [Tryz.results79, resL, ldA, oneOf, go_sem])
    all_goals simp
end Go.Proofs.YtcahibdaiokajaaGreat.ax
namespace Go.Proofs.YtcahibdaiokajaaGreat.ax
open Go.RowKit
open Nat (reduceBEq)
set_option maxRecDepth 20000
set_option maxHeartbeats 2000000
abbrev raS (l : List Sp) : List AV := (l.flatMap Sp.pv).map .c
theorem raS_len (l : List Sp) : (raS l).length = l.length * 5 := by rw [List.length_map, flat_length sp_len]
theorem cloneS_fn (ex : Bool) (l : List Sp) (hl : l.length ≤ 1000000) : Fn Tryz.prog 28 [.c (.sl ex 5 l.length (l.flatMap Sp.pv))] [] (.row 7 86 5 l.length) [(7, raS l)] := by
  have e1 := raS_len l
  show Fn _ _ _ _ _ [(7, (l.flatMap Sp.pv).map .c)]
  (refine fn_of Tryz.func28 rfl (by rfl) ?_; simp only [Tryz.ntmps28, List.length_cons, List.length_nil, Nat.reduceAdd, Nat.reduceSub, List.replicate, List.cons_append, List.nil_append])
  (repeat (any_goals (first | ((have hz0 := hb0 hc); (with_reducible refine evL_op ?_ ?_); rfl; intro K hK; refine OpA.nilrow_after 2 7 86 5 (evO_sound ?_); (simp (disch := omega) only [go_sem, e1, refsL_map]); (repeat (refine And.intro (by first | assumption | omega | rfl | decide) ?_)); refine hK _ ?_; clear hK K; clear hb0) | ((with_reducible refine evL_one ?_ ?_); rfl; intro K hK; simp (disch := omega) only [go_sem, e1, refsL_map]; ((repeat (refine ndI (by first | assumption | omega | rfl) ?_)); refine hK _ ?_; clear hK K)) | ((with_reducible refine evL_one ?_ ?_); rfl; intro K hK; refine evO_isnil rfl rfl (by first | exact .inl rfl | exact .inr rfl) ?_ rfl ?_; (focus (simp (disch := omega) only [go_sem]; try rfl)); (intro b hb0; simp (disch := omega) only [eq_self, go_sem, e1, refsL_map]; (with_reducible refine hK _ ?_); clear hK K)) | ((with_reducible refine evL_one ?_ ?_); rfl; intro K hK; simp (disch := omega) only [go_sem, e1, refsL_map]; (repeat (refine And.intro rfl ?_)); (refine evO_nilnil rfl rfl (by first | exact .inl rfl | exact .inr rfl) ?_ rfl ?_); (focus (simp (disch := omega) only [go_sem]; try rfl)); (simp (disch := omega) only [eq_self, go_sem, e1, refsL_map]; (with_reducible refine hK _ ?_); clear hK K)) | (with_reducible first | (refine evL_nil ?_; refine hR _ ?_; clear hR R) | ((first | refine evC_seq ?_ | refine evC_block ?_); intro Ψ hΨ hΨ') | (refine evC_region ?_; intro R hR) | (refine hΨ _ ?_; clear hΨ hΨ' Ψ) | refine evC_skip ?_ | refine evC_ret ?_ | refine evC_exit ?_) | ((with_reducible refine hΨ' _ _ ?_ ?_); (focus (simp; done)); clear hΨ hΨ' Ψ) | ((with_reducible apply evC_cond); rfl; rfl; all_goals (intro hc; first | (cases hc; done) | (try simp only at hc))))))
  all_goals (try (obtain rfl := List.eq_nil_of_length_eq_zero hz0))
  all_goals exact ⟨by simp, ⟨_, rfl, AV.le_refl _⟩, leH_get (by simp [leH, hget])⟩
end Go.Proofs.YtcahibdaiokajaaGreat.ax
namespace Go.Proofs.YtcahibdaiokajaaGreat.ax
open Go.RowKit
open Nat (reduceBEq)
set_option maxRecDepth 20000
set_option maxHeartbeats 2000000
abbrev raP (l : List Pg) : List AV := (l.flatMap Pg.pv).map .c
theorem raP_len (l : List Pg) : (raP l).length = l.length * 9 := by rw [List.length_map, flat_length pg_len]
theorem cloneP_fn (ex : Bool) (l : List Pg) (hl : l.length ≤ 1000000) : Fn Tryz.prog 29 [.c (.sl ex 9 l.length (l.flatMap Pg.pv))] [] (.row 7 89 9 l.length) [(7, raP l)] := by
  have e1 := raP_len l
  show Fn _ _ _ _ _ [(7, (l.flatMap Pg.pv).map .c)]
  (refine fn_of Tryz.func29 rfl (by rfl) ?_; simp only [Tryz.ntmps29, List.length_cons, List.length_nil, Nat.reduceAdd, Nat.reduceSub, List.replicate, List.cons_append, List.nil_append])
  (repeat (any_goals (first | ((have hz0 := hb0 hc); (with_reducible refine evL_op ?_ ?_); rfl; intro K hK; refine OpA.nilrow_after 2 7 89 9 (evO_sound ?_); (simp (disch := omega) only [go_sem, e1, refsL_map]); (repeat (refine And.intro (by first | assumption | omega | rfl | decide) ?_)); refine hK _ ?_; clear hK K; clear hb0) | ((with_reducible refine evL_one ?_ ?_); rfl; intro K hK; simp (disch := omega) only [go_sem, e1, refsL_map]; ((repeat (refine ndI (by first | assumption | omega | rfl) ?_)); refine hK _ ?_; clear hK K)) | ((with_reducible refine evL_one ?_ ?_); rfl; intro K hK; refine evO_isnil rfl rfl (by first | exact .inl rfl | exact .inr rfl) ?_ rfl ?_; (focus (simp (disch := omega) only [go_sem]; try rfl)); (intro b hb0; simp (disch := omega) only [eq_self, go_sem, e1, refsL_map]; (with_reducible refine hK _ ?_); clear hK K)) | ((with_reducible refine evL_one ?_ ?_); rfl; intro K hK; simp (disch := omega) only [go_sem, e1, refsL_map]; (repeat (refine And.intro rfl ?_)); (refine evO_nilnil rfl rfl (by first | exact .inl rfl | exact .inr rfl) ?_ rfl ?_); (focus (simp (disch := omega) only [go_sem]; try rfl)); (simp (disch := omega) only [eq_self, go_sem, e1, refsL_map]; (with_reducible refine hK _ ?_); clear hK K)) | (with_reducible first | (refine evL_nil ?_; refine hR _ ?_; clear hR R) | ((first | refine evC_seq ?_ | refine evC_block ?_); intro Ψ hΨ hΨ') | (refine evC_region ?_; intro R hR) | (refine hΨ _ ?_; clear hΨ hΨ' Ψ) | refine evC_skip ?_ | refine evC_ret ?_ | refine evC_exit ?_) | ((with_reducible refine hΨ' _ _ ?_ ?_); (focus (simp; done)); clear hΨ hΨ' Ψ) | ((with_reducible apply evC_cond); rfl; rfl; all_goals (intro hc; first | (cases hc; done) | (try simp only at hc))))))
  all_goals (try (obtain rfl := List.eq_nil_of_length_eq_zero hz0))
  all_goals exact ⟨by simp, ⟨_, rfl, AV.le_refl _⟩, leH_get (by simp [leH, hget])⟩
end Go.Proofs.YtcahibdaiokajaaGreat.ax
namespace Go.Proofs.YtcahibdaiokajaaGreat.ax
open Go.RowKit
set_option maxRecDepth 20000
set_option maxHeartbeats 2000000
abbrev raA (l : List Int) : List AV := (l.flatMap apv).map .c
end Go.Proofs.YtcahibdaiokajaaGreat.ax
