/-
  Which nonces may be by the document, what is next, the same nonces, few of them: reckoned.
-/
import Derived.Test.YtlkogofgemclfaaNw
namespace Go.Proofs.Ytlkogofgemclfaa
open Go.RowKit
open Nat (reduceBEq)
set_option linter.unusedVariables false
set_option linter.unusedSimpArgs false
set_option maxRecDepth 20000
set_option maxHeartbeats 1000000
theorem okTo_iff (l : List N6) : ∀ n, okTo l n = true ↔ (l.length : Int) ≤ 48 ∧ ∀ j, j < n → okS l j = true
  | 0 => by simp [okTo]
  | n + 1 => by
    simp only [okTo, Bool.and_eq_true, okTo_iff l n]
    constructor
    · rintro ⟨⟨h1, h2⟩, h3⟩
      refine ⟨h1, fun j hj => ?_⟩
      rcases Nat.lt_or_ge j n with h | h
      · exact h2 j h
      · obtain rfl : j = n := by omega
        exact h3
    · rintro ⟨h1, h2⟩
      exact ⟨⟨h1, fun j hj => h2 j (by omega)⟩, h2 n (by omega)⟩
theorem okS_no {l : List N6} {i : Nat} (hi : i < l.length) (h : okS l i = false) : okTo l l.length = false := by
  cases hh : okTo l l.length with
  | false => rfl
  | true => have := ((okTo_iff l _).1 hh).2 i hi; rw [h] at this; cases this
theorem refright_fn (ex : Bool) (l : List N6) (hl : l.length ≤ 4611686018427387904) (ok : ∀ n ∈ l, n.ok) : Fn Try.prog 13 [nsl ex l] [] (vb (okTo l l.length)) [] := by
  (refine fn_of Try.func13 rfl (by rfl) ?_; simp only [Try.ntmps13, List.length_cons, List.length_nil, Nat.reduceAdd, Nat.reduceSub, List.replicate, List.cons_append, List.nil_append])
  (repeat (any_goals (first | ((with_reducible refine evL_one ?_ ?_); rfl; intro K hK; simp only [go_sem]; ((repeat (refine ndI (by first | assumption | omega | rfl) ?_)); refine hK _ ?_; clear hK K)) | (with_reducible first | (refine evL_nil ?_; refine hR _ ?_; clear hR R) | ((first | refine evC_seq ?_ | refine evC_block ?_); intro Ψ hΨ hΨ') | (refine evC_region ?_; intro R hR) | (refine hΨ _ ?_; clear hΨ hΨ' Ψ) | refine evC_skip ?_ | refine evC_ret ?_ | refine evC_exit ?_) | ((with_reducible refine hΨ' _ _ ?_ ?_); (focus (simp; done)); clear hΨ hΨ' Ψ) | ((with_reducible apply evC_cond); rfl; rfl; all_goals (intro hc; first | (cases hc; done) | (try simp only at hc))) | ((with_reducible refine evD_nil ?_ ?_); kernel_rfl; (with_reducible refine hR _ ?_); clear hR R) | ((first | ((with_reducible apply evD_skip); rfl; rfl; rfl; rfl) | ((with_reducible apply evD_unmet); rfl; rfl; rfl) | ((first | ((with_reducible apply evD_any); rfl; rfl) | ((with_reducible apply evD_gany); rfl; rfl; rfl; rfl; rfl)); (simp only [rdE, rdOf, go_sem]; rfl); (intro τ hA hQ hN; ((try simp only [agree, Op.operands, Call.operands, go_sem, List.mem_cons, List.not_mem_nil, forall_eq_or_imp, forall_eq, List.append_toArray, Option.toArray] at hA); (try simp only [go_sem, List.mem_cons, List.not_mem_nil, forall_eq_or_imp, forall_eq] at hQ hN); (first | (revert hA; intro hA) | have hA := trivial); (first | (revert hQ; intro hQ) | have hQ := trivial); (first | (revert hN; intro hN) | have hN := trivial); simp only [go_sem, hA, hQ, hN]; (repeat (refine ndI (by first | assumption | omega | rfl) ?_)); (first | apply eff_rd | apply eff_st | apply eff_nw))))); (simp only [St.eff, setO, hputs, go_sem])) | ((with_reducible apply evD_split); rfl; rfl; rfl; all_goals intro hb; all_goals (simp only [St.eff, setO, hputs, go_sem])) | ((with_reducible refine evC_draw ?_ ?_ ?_ ?_); kernel_rfl; kernel_rfl; (first | kernel_rfl | simp [newNames, isNew, St.free, freeH, AV.refsL, AV.refs]); intro R hR))))
  refine evC_loop (α := { i : Nat // i ≤ l.length ∧ ∀ j, j < i → okS l j = true }) (fun p => ⟨[nsl ex l, .any, .any, .any, .any, nsl ex l, vi .i64 l.length, vi .i64 p.1, .any, .any, .any, .any, .any, .any, .any, .any, .any, .any, .any, .any, .any, .any, .any, .any, .any, .any, .any, .any, .any, .any, .any, .any, .any, .any, .any, .any, .any, .any, .any, .any, .any, .any, .any, .any], []⟩) (fun p => l.length - p.1) ⟨0, Nat.zero_le _, fun j hj => by omega⟩ (St.le_of (by simp [leT]) (by simp [leH])) ?_
  rintro ⟨i, hi, hok⟩ Ψ hΨ hΨ'
  dsimp only at hΨ ⊢
  rcases Nat.lt_or_ge i l.length with hlt | hge
  · obtain ⟨y, hy⟩ : ∃ y, l[i]? = some y := ⟨l[i], List.getElem?_eq_getElem hlt⟩
    have e1 : (decide ((i : Int) < (l.length : Int))) = true := by simpa using hlt
    have e2 := nsl_at hy
    have oy := ok y (List.mem_of_getElem? hy)
    have hnx : okS l i = true → ∀ j, j < i + 1 → okS l j = true := fun h j hj => by
      rcases Nat.lt_or_ge j i with h' | h'
      · exact hok j h'
      · obtain rfl : j = i := by omega
        exact h
    have hx : U y.x := oy.2.2.2.2.2
    have hx2 : decide (y.x > 0) = !(y.x == 0) := by
      have := hx.1
      by_cases h0 : y.x = 0
      · simp [h0]
      · have : y.x > 0 := by omega
        simp [h0, this]
    rcases i with _ | j
    · simp only [Nat.zero_mul, List.drop_zero] at e2
      have hk : okS l 0 = ((y.a != 0) && (y.e == 0) && !(y.x == 0)) := by simp [okS, hy, hx2]
      have e4 : (decide (((0 : Nat) : Int) > 0)) = false := by decide
      have e7 : ((0 : Nat) : Int) + 1 = ((0 + 1 : Nat) : Int) := by omega
      (have W := ndI e1 (ndI e2 (ndI e4 (ndI e7 @wrI))); (repeat (any_goals (first | ((with_reducible refine evL_one ?_ ?_); rfl; intro K hK; simp (disch := omega) only [go_sem, W]; ((repeat (refine ndI (by first | assumption | omega | rfl) ?_)); refine hK _ ?_; clear hK K)) | (with_reducible first | (refine evL_nil ?_; refine hR _ ?_; clear hR R) | ((first | refine evC_seq ?_ | refine evC_block ?_); intro Ψ hΨ hΨ') | (refine evC_region ?_; intro R hR) | (refine hΨ _ ?_; clear hΨ hΨ' Ψ) | refine evC_skip ?_ | refine evC_ret ?_ | refine evC_exit ?_) | ((with_reducible refine hΨ' _ _ ?_ ?_); (focus (simp; done)); clear hΨ hΨ' Ψ) | ((with_reducible apply evC_cond); rfl; rfl; all_goals (intro hc; first | (cases hc; done) | (try simp only at hc))) | ((with_reducible refine evD_nil ?_ ?_); kernel_rfl; (with_reducible refine hR _ ?_); clear hR R) | ((first | ((with_reducible apply evD_skip); rfl; rfl; rfl; rfl) | ((with_reducible apply evD_unmet); rfl; rfl; rfl) | ((first | ((with_reducible apply evD_fcall); rfl; rfl) | ((with_reducible apply evD_gcall); rfl; rfl; rfl; rfl; rfl)); ((apply opF_callB (refkey_fn _ _ _ _); rfl; rfl; rfl; rfl; exact Try.func19); kernel_rfl; rfl; (simp (disch := omega) only [go_sem, W]; rfl); (first | rfl | simp [AV.inNL, AV.inN]))) | ((first | ((with_reducible apply evD_any); rfl; rfl) | ((with_reducible apply evD_gany); rfl; rfl; rfl; rfl; rfl)); (simp (disch := omega) only [rdE, rdOf, go_sem, W]; rfl); (intro τ hA hQ hN; ((try simp only [agree, Op.operands, Call.operands, go_sem, W, go_sem, List.mem_cons, List.not_mem_nil, forall_eq_or_imp, forall_eq, List.append_toArray, Option.toArray] at hA); (try simp only [go_sem, W, List.mem_cons, List.not_mem_nil, forall_eq_or_imp, forall_eq] at hQ hN); (first | (revert hA; intro hA) | have hA := trivial); (first | (revert hQ; intro hQ) | have hQ := trivial); (first | (revert hN; intro hN) | have hN := trivial); simp (disch := omega) only [go_sem, W, go_sem, hA, hQ, hN]; (repeat (refine ndI (by first | assumption | omega | rfl) ?_)); (first | apply eff_rd | apply eff_st | apply eff_nw))))); (simp (disch := omega) only [St.eff, setO, hputs, go_sem, W])) | ((with_reducible apply evD_split); rfl; rfl; rfl; all_goals intro hb; all_goals (simp (disch := omega) only [St.eff, setO, hputs, go_sem, W])) | ((with_reducible refine evC_draw ?_ ?_ ?_ ?_); kernel_rfl; kernel_rfl; (first | kernel_rfl | simp [newNames, isNew, St.free, freeH, AV.refsL, AV.refs]); intro R hR)))))
      rotate_left 3
      · refine hΨ _ ⟨_, hlt, hnx ?_⟩ (by simp only; omega) (St.le_of ?_ ?_)
        · rw [hk]; clear hΨ hk hx2 e2 hy ok oy hx hnx hok; simp_all
        · simp [leT]
        · simp [leH]
      all_goals have hno : okTo l l.length = false := (by
        refine okS_no hlt ?_
        rw [hk]
        clear hk hx2 e2 hy ok oy hx hnx hok
        simp_all)
      all_goals (refine ⟨by simp, ⟨_, ?_, AV.le_refl _⟩, leH_get (by simp [leH, hget])⟩; simp only [Try.results13, resL, ldA, oneOf, go_sem])
      all_goals rw [hno]
    · obtain ⟨z, hz⟩ : ∃ z, l[j]? = some z := ⟨l[j], List.getElem?_eq_getElem (by omega)⟩
      have oz := ok z (List.mem_of_getElem? hz)
      have e3 := nsl_at hz
      have e4 : (decide (((j + 1 : Nat) : Int) > 0)) = true := by simp
      have e5 : ((j + 1 : Nat) : Int) - 1 = (j : Int) := by omega
      have e7 : ((j + 1 : Nat) : Int) + 1 = ((j + 1 + 1 : Nat) : Int) := by omega
      have hbf := before_fn z.a z.b z.c z.d z.e z.x y.a y.b y.c y.d y.e y.x oz oy
      obtain ⟨q, hq⟩ : ∃ q, decide (rk z.a z.b z.c z.d z.e < rk y.a y.b y.c y.d y.e) = q := ⟨_, rfl⟩
      rw [hq] at hbf
      have hk : okS l (j + 1) = ((y.a != 0) && (y.e == 0) && !(y.x == 0) && decide (z.rk < y.rk)) := by
        simp only [okS, hy, Nat.add_sub_cancel, hz, hx2, cN_rk oz oy, cmpN_neg]; simp
      rw [show decide (z.rk < y.rk) = q from hq] at hk
      clear hq
      (have W := ndI e1 (ndI e2 (ndI e3 (ndI e4 (ndI e5 (ndI e7 @wrI))))); (repeat (any_goals (first | ((with_reducible refine evL_one ?_ ?_); rfl; intro K hK; simp (disch := omega) only [go_sem, W]; ((repeat (refine ndI (by first | assumption | omega | rfl) ?_)); refine hK _ ?_; clear hK K)) | (with_reducible first | (refine evL_nil ?_; refine hR _ ?_; clear hR R) | ((first | refine evC_seq ?_ | refine evC_block ?_); intro Ψ hΨ hΨ') | (refine evC_region ?_; intro R hR) | (refine hΨ _ ?_; clear hΨ hΨ' Ψ) | refine evC_skip ?_ | refine evC_ret ?_ | refine evC_exit ?_) | ((with_reducible refine hΨ' _ _ ?_ ?_); (focus (simp; done)); clear hΨ hΨ' Ψ) | ((with_reducible apply evC_cond); rfl; rfl; all_goals (intro hc; first | (cases hc; done) | (try simp only at hc))) | ((with_reducible refine evD_nil ?_ ?_); kernel_rfl; (with_reducible refine hR _ ?_); clear hR R) | ((first | ((with_reducible apply evD_skip); rfl; rfl; rfl; rfl) | ((with_reducible apply evD_unmet); rfl; rfl; rfl) | ((first | ((with_reducible apply evD_fcall); rfl; rfl) | ((with_reducible apply evD_gcall); rfl; rfl; rfl; rfl; rfl)); ((first | (apply opF_callB (refkey_fn _ _ _ _); rfl; rfl; rfl; rfl; exact Try.func19) | (apply opF_callB (hbf); rfl; rfl; rfl; rfl; exact Try.func36)); kernel_rfl; rfl; (simp (disch := omega) only [go_sem, W]; rfl); (first | rfl | simp [AV.inNL, AV.inN]))) | ((first | ((with_reducible apply evD_any); rfl; rfl) | ((with_reducible apply evD_gany); rfl; rfl; rfl; rfl; rfl)); (simp (disch := omega) only [rdE, rdOf, go_sem, W]; rfl); (intro τ hA hQ hN; ((try simp only [agree, Op.operands, Call.operands, go_sem, W, go_sem, List.mem_cons, List.not_mem_nil, forall_eq_or_imp, forall_eq, List.append_toArray, Option.toArray] at hA); (try simp only [go_sem, W, List.mem_cons, List.not_mem_nil, forall_eq_or_imp, forall_eq] at hQ hN); (first | (revert hA; intro hA) | have hA := trivial); (first | (revert hQ; intro hQ) | have hQ := trivial); (first | (revert hN; intro hN) | have hN := trivial); simp (disch := omega) only [go_sem, W, go_sem, hA, hQ, hN]; (repeat (refine ndI (by first | assumption | omega | rfl) ?_)); (first | apply eff_rd | apply eff_st | apply eff_nw))))); (simp (disch := omega) only [St.eff, setO, hputs, go_sem, W])) | ((with_reducible apply evD_split); rfl; rfl; rfl; all_goals intro hb; all_goals (simp (disch := omega) only [St.eff, setO, hputs, go_sem, W])) | ((with_reducible refine evC_draw ?_ ?_ ?_ ?_); kernel_rfl; kernel_rfl; (first | kernel_rfl | simp [newNames, isNew, St.free, freeH, AV.refsL, AV.refs]); intro R hR)))))
      rotate_left 4
      · refine hΨ _ ⟨_, hlt, hnx ?_⟩ (by simp only; omega) (St.le_of ?_ ?_)
        · rw [hk]; clear hΨ hk hx2 e2 hy ok oy hx hnx hok; simp_all
        · simp [leT]
        · simp [leH]
      all_goals have hno : okTo l l.length = false := (by
        refine okS_no hlt ?_
        rw [hk]
        clear hk hx2 e2 hy ok oy hx hnx hok
        simp_all)
      all_goals (refine ⟨by simp, ⟨_, ?_, AV.le_refl _⟩, leH_get (by simp [leH, hget])⟩; simp only [Try.results13, resL, ldA, oneOf, go_sem])
      all_goals rw [hno]
  · have e1 : (decide ((i : Int) < (l.length : Int))) = false := by simpa using hge
    obtain rfl : i = l.length := by omega
    have e8 : decide ((l.length : Int) ≤ 48) = okTo l l.length := by
      rw [Bool.eq_iff_iff, okTo_iff]; simp; exact fun _ => hok
    (repeat (any_goals (first | ((with_reducible refine evL_one ?_ ?_); rfl; intro K hK; simp only [go_sem, e1, e8]; ((repeat (refine ndI (by first | assumption | omega | rfl) ?_)); refine hK _ ?_; clear hK K)) | (with_reducible first | (refine evL_nil ?_; refine hR _ ?_; clear hR R) | ((first | refine evC_seq ?_ | refine evC_block ?_); intro Ψ hΨ hΨ') | (refine evC_region ?_; intro R hR) | (refine hΨ _ ?_; clear hΨ hΨ' Ψ) | refine evC_skip ?_ | refine evC_ret ?_ | refine evC_exit ?_) | ((with_reducible refine hΨ' _ _ ?_ ?_); (focus (simp; done)); clear hΨ hΨ' Ψ) | ((with_reducible apply evC_cond); rfl; rfl; all_goals (intro hc; first | (cases hc; done) | (try simp only at hc))) | ((with_reducible refine evD_nil ?_ ?_); kernel_rfl; (with_reducible refine hR _ ?_); clear hR R) | ((first | ((with_reducible apply evD_skip); rfl; rfl; rfl; rfl) | ((with_reducible apply evD_unmet); rfl; rfl; rfl) | ((first | ((with_reducible apply evD_any); rfl; rfl) | ((with_reducible apply evD_gany); rfl; rfl; rfl; rfl; rfl)); (simp only [rdE, rdOf, go_sem, e1, e8]; rfl); (intro τ hA hQ hN; ((try simp only [agree, Op.operands, Call.operands, go_sem, e1, e8, go_sem, List.mem_cons, List.not_mem_nil, forall_eq_or_imp, forall_eq, List.append_toArray, Option.toArray] at hA); (try simp only [go_sem, e1, e8, List.mem_cons, List.not_mem_nil, forall_eq_or_imp, forall_eq] at hQ hN); (first | (revert hA; intro hA) | have hA := trivial); (first | (revert hQ; intro hQ) | have hQ := trivial); (first | (revert hN; intro hN) | have hN := trivial); simp only [go_sem, e1, e8, go_sem, hA, hQ, hN]; (repeat (refine ndI (by first | assumption | omega | rfl) ?_)); (first | apply eff_rd | apply eff_st | apply eff_nw))))); (simp only [St.eff, setO, hputs, go_sem, e1, e8])) | ((with_reducible apply evD_split); rfl; rfl; rfl; all_goals intro hb; all_goals (simp only [St.eff, setO, hputs, go_sem, e1, e8])) | ((with_reducible refine evC_draw ?_ ?_ ?_ ?_); kernel_rfl; kernel_rfl; (first | kernel_rfl | simp [newNames, isNew, St.free, freeH, AV.refsL, AV.refs]); intro R hR))))
    all_goals (refine ⟨by simp, ⟨_, ?_, AV.le_refl _⟩, leH_get (by simp [leH, hget])⟩; simp only [Try.results13, resL, ldA, oneOf, go_sem])
end Go.Proofs.Ytlkogofgemclfaa
