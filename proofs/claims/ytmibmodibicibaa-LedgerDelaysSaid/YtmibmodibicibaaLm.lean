/-
  What a ledger tells: Find, Sum, Staked; the same ledgers.
-/
import Derived.Test.YtmibmodibicibaaLk
namespace Go.Proofs.Ytmibmodibicibaa
open Go.RowKit
open Nat (reduceBEq)
set_option linter.unusedVariables false
set_option linter.unusedSimpArgs false
set_option maxRecDepth 20000
set_option maxHeartbeats 2000000
def findP (l : List Hd) (a : Int) : Hd := if a = 0 then ⟨0, 0, 0, 0, 0⟩ else if okL l = true then findH l a else ⟨0, 0, 0, 0, 0⟩
theorem findF_fn (ex : Bool) (l : List Hd) (hl : l.length ≤ maxLen) (ok : ∀ h ∈ l, h.ok) (a : Int) : Fn Try.prog 13 [lg ex l, vi .u64 a] [] (hA (findP l a)) [] := by
  by_cases ha : a = 0
  · subst ha
    rw [show findP l 0 = ⟨0, 0, 0, 0, 0⟩ from if_pos rfl]
    simp only [hA, h11, c11, l0_zero, l1_zero, l2_zero, l3_zero]
    (refine fn_of Try.func13 rfl (by rfl) ?_; simp only [Try.ntmps13, List.length_cons, List.length_nil, Nat.reduceAdd, Nat.reduceSub, List.replicate, List.cons_append, List.nil_append])
    (repeat (any_goals (first | ((with_reducible refine evL_one ?_ ?_); rfl; intro K hK; simp only [go_sem]; ((repeat (refine ndI (by first | assumption | omega | rfl) ?_)); refine hK _ ?_; clear hK K)) | (with_reducible first | (refine evL_nil ?_; refine hR _ ?_; clear hR R) | ((first | refine evC_seq ?_ | refine evC_block ?_); intro Ψ hΨ hΨ') | (refine evC_region ?_; intro R hR) | (refine hΨ _ ?_; clear hΨ hΨ' Ψ) | refine evC_skip ?_ | refine evC_ret ?_ | refine evC_exit ?_) | ((with_reducible refine hΨ' _ _ ?_ ?_); (focus (simp; done)); clear hΨ hΨ' Ψ) | ((with_reducible apply evL_unmet); rfl; rfl; rfl; (try simp only [go_sem])) | ((with_reducible apply evL_grd); rfl; rfl; rfl; all_goals (intro hb; first | (cases hb; done) | ((try simp only [Bool.not_true, Bool.not_false] at hb); (first | ((with_reducible intro K hK); simp only [go_sem]; ((repeat (refine ndI (by first | assumption | omega | rfl) ?_)); refine hK _ ?_; clear hK K)) | ((fail_if_success (with_reducible intro _)); simp only [go_sem]))))) | ((with_reducible apply evC_cond); rfl; rfl; all_goals (intro hc; first | (cases hc; done) | (try simp only at hc))))))
    all_goals (refine ⟨by simp, ⟨_, ?_, AV.le_refl _⟩, leH_get (by simp [leH, hget])⟩; simp only [Try.results13, resL, ldA, oneOf, go_sem])
  · have ck := check_fn ex l hl ok
    have ea : (a == 0) = false := by simp [ha]
    cases hk : okL l with
    | false =>
      rw [hk, if_neg (by decide)] at ck
      rw [show findP l a = ⟨0, 0, 0, 0, 0⟩ by unfold findP; rw [if_neg ha, hk, if_neg (by decide)]]
      simp only [hA, h11, c11, l0_zero, l1_zero, l2_zero, l3_zero]
      (refine fn_of Try.func13 rfl (by rfl) ?_; simp only [Try.ntmps13, List.length_cons, List.length_nil, Nat.reduceAdd, Nat.reduceSub, List.replicate, List.cons_append, List.nil_append])
      (repeat (any_goals (first | ((with_reducible refine evL_one ?_ ?_); rfl; intro K hK; simp only [go_sem, ea]; ((repeat (refine ndI (by first | assumption | omega | rfl) ?_)); refine hK _ ?_; clear hK K)) | (with_reducible first | (refine evL_nil ?_; refine hR _ ?_; clear hR R) | ((first | refine evC_seq ?_ | refine evC_block ?_); intro Ψ hΨ hΨ') | (refine evC_region ?_; intro R hR) | (refine hΨ _ ?_; clear hΨ hΨ' Ψ) | refine evC_skip ?_ | refine evC_ret ?_ | refine evC_exit ?_) | ((with_reducible refine hΨ' _ _ ?_ ?_); (focus (simp; done)); clear hΨ hΨ' Ψ) | ((with_reducible apply evL_unmet); rfl; rfl; rfl; (try simp only [go_sem, ea])) | ((with_reducible apply evL_grd); rfl; rfl; rfl; all_goals (intro hb; first | (cases hb; done) | ((try simp only [Bool.not_true, Bool.not_false] at hb); (first | ((with_reducible intro K hK); (first | ((apply opA_callB (ck); rfl; rfl; rfl; rfl; exact Try.func12); kernel_rfl; rfl; (simp only [go_sem, ea]; rfl); (first | rfl | simp [AV.inNL, AV.inN])) | skip); simp only [go_sem, ea]; ((repeat (refine ndI (by first | assumption | omega | rfl) ?_)); refine hK _ ?_; clear hK K)) | ((fail_if_success (with_reducible intro _)); simp only [go_sem, ea]))))) | ((with_reducible apply evC_cond); rfl; rfl; all_goals (intro hc; first | (cases hc; done) | (try simp only at hc))))))
      all_goals (refine ⟨by simp, ⟨_, ?_, AV.le_refl _⟩, leH_get (by simp [leH, hget])⟩; simp only [Try.results13, resL, ldA, oneOf, go_sem])
    | true =>
      have hl4 := okL_len hk
      have fi := find_fn ex l (by omega) a
      rw [hk, if_pos rfl] at ck
      rw [show findP l a = findH l a by unfold findP; rw [if_neg ha, hk, if_pos rfl]]
      generalize findH l a = h0 at fi ⊢
      obtain ⟨x, p, s, d, f⟩ := h0
      dsimp only [hA] at fi ⊢
      (refine fn_of Try.func13 rfl (by rfl) ?_; simp only [Try.ntmps13, List.length_cons, List.length_nil, Nat.reduceAdd, Nat.reduceSub, List.replicate, List.cons_append, List.nil_append])
      (repeat (any_goals (first | ((with_reducible refine evL_call ?_ ?_ ?_); rfl; rfl; intro K hK; ((apply opA_callB (fi); rfl; rfl; rfl; rfl; exact Try.func32); kernel_rfl; rfl; (simp only [go_sem, ea]; rfl); (first | rfl | simp [AV.inNL, AV.inN])); (simp only [go_sem, ea]; refine hK _ ?_; clear hK K)) | ((with_reducible refine evL_one ?_ ?_); rfl; intro K hK; simp only [go_sem, ea]; ((repeat (refine ndI (by first | assumption | omega | rfl) ?_)); refine hK _ ?_; clear hK K)) | (with_reducible first | (refine evL_nil ?_; refine hR _ ?_; clear hR R) | ((first | refine evC_seq ?_ | refine evC_block ?_); intro Ψ hΨ hΨ') | (refine evC_region ?_; intro R hR) | (refine hΨ _ ?_; clear hΨ hΨ' Ψ) | refine evC_skip ?_ | refine evC_ret ?_ | refine evC_exit ?_) | ((with_reducible refine hΨ' _ _ ?_ ?_); (focus (simp; done)); clear hΨ hΨ' Ψ) | ((with_reducible apply evL_unmet); rfl; rfl; rfl; (try simp only [go_sem, ea])) | ((with_reducible apply evL_grd); rfl; rfl; rfl; all_goals (intro hb; first | (cases hb; done) | ((try simp only [Bool.not_true, Bool.not_false] at hb); (first | ((with_reducible intro K hK); (first | ((apply opA_callB (ck); rfl; rfl; rfl; rfl; exact Try.func12); kernel_rfl; rfl; (simp only [go_sem, ea]; rfl); (first | rfl | simp [AV.inNL, AV.inN])) | skip); simp only [go_sem, ea]; ((repeat (refine ndI (by first | assumption | omega | rfl) ?_)); refine hK _ ?_; clear hK K)) | ((fail_if_success (with_reducible intro _)); simp only [go_sem, ea]))))) | ((with_reducible apply evC_cond); rfl; rfl; all_goals (intro hc; first | (cases hc; done) | (try simp only at hc))))))
      all_goals (refine ⟨by simp, ⟨_, ?_, AV.le_refl _⟩, leH_get (by simp [leH, hget])⟩; simp only [Try.results13, resL, ldA, oneOf, go_sem])
theorem okL_tot {l : List Hd} (h : okL l = true) : tot l < WW := by
  unfold okL at h
  rw [Bool.and_eq_true, Bool.and_eq_true] at h
  exact of_decide_eq_true h.2.2
def sumP (l : List Hd) : Nat := if okL l = true then tot l else 0
theorem sumP_lt (l : List Hd) : sumP l < WW := by
  unfold sumP
  split
  · exact okL_tot (by assumption)
  · decide
theorem sumF_fn (ex : Bool) (l : List Hd) (hl : l.length ≤ maxLen) (ok : ∀ h ∈ l, h.ok) : Fn Try.prog 14 [lg ex l] [] (wN (sumP l)) [] := by
  have ck := check_fn ex l hl ok
  cases hk : okL l with
  | false =>
    rw [hk, if_neg (by decide)] at ck
    rw [show sumP l = 0 by unfold sumP; rw [hk, if_neg (by decide)]]
    simp only [wN, w4, l0_zero, l1_zero, l2_zero, l3_zero]
    (refine fn_of Try.func14 rfl (by rfl) ?_; simp only [Try.ntmps14, List.length_cons, List.length_nil, Nat.reduceAdd, Nat.reduceSub, List.replicate, List.cons_append, List.nil_append])
    (repeat (any_goals (first | ((with_reducible refine evL_call ?_ ?_ ?_); rfl; rfl; intro K hK; ((apply opA_callB (ck); rfl; rfl; rfl; rfl; exact Try.func12); kernel_rfl; rfl; (simp only [go_sem]; rfl); (first | rfl | simp [AV.inNL, AV.inN])); (simp only [go_sem]; refine hK _ ?_; clear hK K)) | ((with_reducible refine evL_one ?_ ?_); rfl; intro K hK; simp only [go_sem]; ((repeat (refine ndI (by first | assumption | omega | rfl) ?_)); refine hK _ ?_; clear hK K)) | (with_reducible first | (refine evL_nil ?_; refine hR _ ?_; clear hR R) | ((first | refine evC_seq ?_ | refine evC_block ?_); intro Ψ hΨ hΨ') | (refine evC_region ?_; intro R hR) | (refine hΨ _ ?_; clear hΨ hΨ' Ψ) | refine evC_skip ?_ | refine evC_ret ?_ | refine evC_exit ?_) | ((with_reducible refine hΨ' _ _ ?_ ?_); (focus (simp; done)); clear hΨ hΨ' Ψ) | ((with_reducible apply evC_cond); rfl; rfl; all_goals (intro hc; first | (cases hc; done) | (try simp only at hc))))))
    all_goals (refine ⟨by simp, ⟨_, ?_, AV.le_refl _⟩, leH_get (by simp [leH, hget])⟩; simp only [Try.results14, resL, ldA, oneOf, go_sem])
  | true =>
    have hl4 := okL_len hk
    have al := all_nil ex l (by omega) ok
    rw [hk, if_pos rfl] at ck
    rw [Nat.mod_eq_of_lt (okL_tot hk), decide_eq_false (by have := okL_tot hk; omega)] at al
    rw [show sumP l = tot l by unfold sumP; rw [hk, if_pos rfl]]
    generalize tot l = n at al ⊢
    (refine fn_of Try.func14 rfl (by rfl) ?_; simp only [Try.ntmps14, List.length_cons, List.length_nil, Nat.reduceAdd, Nat.reduceSub, List.replicate, List.cons_append, List.nil_append])
    (repeat (any_goals (first | ((with_reducible refine evL_call ?_ ?_ ?_); rfl; rfl; intro K hK; ((first | (apply opA_callB (ck); rfl; rfl; rfl; rfl; exact Try.func12) | (apply opA_callB (al); rfl; rfl; rfl; rfl; exact Try.func31)); kernel_rfl; rfl; (simp only [go_sem]; rfl); (first | rfl | simp [AV.inNL, AV.inN])); (simp only [go_sem]; refine hK _ ?_; clear hK K)) | ((with_reducible refine evL_one ?_ ?_); rfl; intro K hK; simp only [go_sem]; ((repeat (refine ndI (by first | assumption | omega | rfl) ?_)); refine hK _ ?_; clear hK K)) | (with_reducible first | (refine evL_nil ?_; refine hR _ ?_; clear hR R) | ((first | refine evC_seq ?_ | refine evC_block ?_); intro Ψ hΨ hΨ') | (refine evC_region ?_; intro R hR) | (refine hΨ _ ?_; clear hΨ hΨ' Ψ) | refine evC_skip ?_ | refine evC_ret ?_ | refine evC_exit ?_) | ((with_reducible refine hΨ' _ _ ?_ ?_); (focus (simp; done)); clear hΨ hΨ' Ψ) | ((with_reducible apply evC_cond); rfl; rfl; all_goals (intro hc; first | (cases hc; done) | (try simp only at hc))))))
    all_goals (refine ⟨by simp, ⟨_, ?_, AV.le_refl _⟩, leH_get (by simp [leH, hget])⟩; simp only [Try.results14, resL, ldA, oneOf, go_sem])
theorem findP_ok {l : List Hd} (ok : ∀ h ∈ l, h.ok) {a : Int} (ha : U a) : (findP l a).ok := by
  unfold findP
  split
  · exact okZ ⟨Int.le_refl 0, by decide⟩
  · split
    · exact findH_ok ok ha
    · exact okZ ⟨Int.le_refl 0, by decide⟩
def stakedP (h : Hd) (n : Nat) (delay : Int) : Bool := (!decide (h.s = 0) && (h.f == 0)) && (decide (n ≤ h.s) && decide (delay ≤ h.d))
theorem staked_fn (ex : Bool) (l : List Hd) (hl : l.length ≤ maxLen) (ok : ∀ h ∈ l, h.ok) (a : Int) (ua : U a) (n : Nat) (hn : n < WW) (delay : Int) : Fn Try.prog 17 [lg ex l, vi .u64 a, wN n, vi .u64 delay] [] (vb (stakedP (findP l a) n delay)) [] := by
  have fi := findF_fn ex l hl ok a
  have fo := findP_ok ok ua
  generalize findP l a = h0 at fi fo ⊢
  obtain ⟨x, p, s, d, f⟩ := h0
  have lk := locked_fn x p s d f fo.2.2.1
  have cm := cmp_fn s n fo.2.2.1 hn
  unfold stakedP
  dsimp only [hA] at fi ⊢
  cases h1 : (!decide (s = 0) && (f == 0)) with
  | false =>
    rw [h1] at lk
    simp only [Bool.false_and]
    (refine fn_of Try.func17 rfl (by rfl) ?_; simp only [Try.ntmps17, List.length_cons, List.length_nil, Nat.reduceAdd, Nat.reduceSub, List.replicate, List.cons_append, List.nil_append])
    (repeat (any_goals (first | ((with_reducible refine evL_call ?_ ?_ ?_); rfl; rfl; intro K hK; ((first | (apply opA_callB (fi); rfl; rfl; rfl; rfl; exact Try.func13) | (apply opA_callB (lk); rfl; rfl; rfl; rfl; exact Try.func36)); kernel_rfl; rfl; (simp only [go_sem]; rfl); (first | rfl | simp [AV.inNL, AV.inN])); (simp only [go_sem]; refine hK _ ?_; clear hK K)) | ((with_reducible refine evL_one ?_ ?_); rfl; intro K hK; simp only [go_sem]; ((repeat (refine ndI (by first | assumption | omega | rfl) ?_)); refine hK _ ?_; clear hK K)) | (with_reducible first | (refine evL_nil ?_; refine hR _ ?_; clear hR R) | ((first | refine evC_seq ?_ | refine evC_block ?_); intro Ψ hΨ hΨ') | (refine evC_region ?_; intro R hR) | (refine hΨ _ ?_; clear hΨ hΨ' Ψ) | refine evC_skip ?_ | refine evC_ret ?_ | refine evC_exit ?_) | ((with_reducible refine hΨ' _ _ ?_ ?_); (focus (simp; done)); clear hΨ hΨ' Ψ) | ((with_reducible apply evL_unmet); rfl; rfl; rfl; (try simp only [go_sem])) | ((with_reducible apply evL_grd); rfl; rfl; rfl; all_goals (intro hb; first | (cases hb; done) | ((try simp only [Bool.not_true, Bool.not_false] at hb); (first | ((with_reducible intro K hK); simp only [go_sem]; ((repeat (refine ndI (by first | assumption | omega | rfl) ?_)); refine hK _ ?_; clear hK K)) | ((fail_if_success (with_reducible intro _)); simp only [go_sem]))))) | ((with_reducible apply evC_cond); rfl; rfl; all_goals (intro hc; first | (cases hc; done) | (try simp only at hc))))))
    all_goals (refine ⟨by simp, ⟨_, ?_, AV.le_refl _⟩, leH_get (by simp [leH, hget])⟩; simp only [Try.results17, resL, ldA, oneOf, go_sem])
  | true =>
    rw [h1] at lk
    simp only [Bool.true_and]
    by_cases h2 : n ≤ s
    · have e2 : decide ((if s < n then -1 else if n < s then 1 else 0 : Int) ≥ 0) = true := by
        rw [if_neg (by omega)]; split <;> rfl
      generalize (if s < n then -1 else if n < s then 1 else 0 : Int) = q at e2 cm
      rw [decide_eq_true h2, Bool.true_and]
      (refine fn_of Try.func17 rfl (by rfl) ?_; simp only [Try.ntmps17, List.length_cons, List.length_nil, Nat.reduceAdd, Nat.reduceSub, List.replicate, List.cons_append, List.nil_append])
      (repeat (any_goals (first | ((with_reducible refine evL_call ?_ ?_ ?_); rfl; rfl; intro K hK; ((first | (apply opA_callB (fi); rfl; rfl; rfl; rfl; exact Try.func13) | (apply opA_callB (lk); rfl; rfl; rfl; rfl; exact Try.func36)); kernel_rfl; rfl; (simp only [go_sem, e2]; rfl); (first | rfl | simp [AV.inNL, AV.inN])); (simp only [go_sem, e2]; refine hK _ ?_; clear hK K)) | ((with_reducible refine evL_one ?_ ?_); rfl; intro K hK; simp only [go_sem, e2]; ((repeat (refine ndI (by first | assumption | omega | rfl) ?_)); refine hK _ ?_; clear hK K)) | (with_reducible first | (refine evL_nil ?_; refine hR _ ?_; clear hR R) | ((first | refine evC_seq ?_ | refine evC_block ?_); intro Ψ hΨ hΨ') | (refine evC_region ?_; intro R hR) | (refine hΨ _ ?_; clear hΨ hΨ' Ψ) | refine evC_skip ?_ | refine evC_ret ?_ | refine evC_exit ?_) | ((with_reducible refine hΨ' _ _ ?_ ?_); (focus (simp; done)); clear hΨ hΨ' Ψ) | ((with_reducible apply evL_unmet); rfl; rfl; rfl; (try simp only [go_sem, e2])) | ((with_reducible apply evL_grd); rfl; rfl; rfl; all_goals (intro hb; first | (cases hb; done) | ((try simp only [Bool.not_true, Bool.not_false] at hb); (first | ((with_reducible intro K hK); (first | ((apply opA_callB (cm); rfl; rfl; rfl; rfl; exact Try.func37); kernel_rfl; rfl; (simp only [go_sem, e2]; rfl); (first | rfl | simp [AV.inNL, AV.inN])) | skip); simp only [go_sem, e2]; ((repeat (refine ndI (by first | assumption | omega | rfl) ?_)); refine hK _ ?_; clear hK K)) | ((fail_if_success (with_reducible intro _)); simp only [go_sem, e2]))))) | ((with_reducible apply evC_cond); rfl; rfl; all_goals (intro hc; first | (cases hc; done) | (try simp only at hc))))))
      all_goals (refine ⟨by simp, ⟨_, ?_, AV.le_refl _⟩, leH_get (by simp [leH, hget])⟩; simp only [Try.results17, resL, ldA, oneOf, go_sem])
    · have e2 : decide ((if s < n then -1 else if n < s then 1 else 0 : Int) ≥ 0) = false := by
        rw [if_pos (by omega)]; rfl
      generalize (if s < n then -1 else if n < s then 1 else 0 : Int) = q at e2 cm
      rw [decide_eq_false h2, Bool.false_and]
      (refine fn_of Try.func17 rfl (by rfl) ?_; simp only [Try.ntmps17, List.length_cons, List.length_nil, Nat.reduceAdd, Nat.reduceSub, List.replicate, List.cons_append, List.nil_append])
      (repeat (any_goals (first | ((with_reducible refine evL_call ?_ ?_ ?_); rfl; rfl; intro K hK; ((first | (apply opA_callB (fi); rfl; rfl; rfl; rfl; exact Try.func13) | (apply opA_callB (lk); rfl; rfl; rfl; rfl; exact Try.func36)); kernel_rfl; rfl; (simp only [go_sem, e2]; rfl); (first | rfl | simp [AV.inNL, AV.inN])); (simp only [go_sem, e2]; refine hK _ ?_; clear hK K)) | ((with_reducible refine evL_one ?_ ?_); rfl; intro K hK; simp only [go_sem, e2]; ((repeat (refine ndI (by first | assumption | omega | rfl) ?_)); refine hK _ ?_; clear hK K)) | (with_reducible first | (refine evL_nil ?_; refine hR _ ?_; clear hR R) | ((first | refine evC_seq ?_ | refine evC_block ?_); intro Ψ hΨ hΨ') | (refine evC_region ?_; intro R hR) | (refine hΨ _ ?_; clear hΨ hΨ' Ψ) | refine evC_skip ?_ | refine evC_ret ?_ | refine evC_exit ?_) | ((with_reducible refine hΨ' _ _ ?_ ?_); (focus (simp; done)); clear hΨ hΨ' Ψ) | ((with_reducible apply evL_unmet); rfl; rfl; rfl; (try simp only [go_sem, e2])) | ((with_reducible apply evL_grd); rfl; rfl; rfl; all_goals (intro hb; first | (cases hb; done) | ((try simp only [Bool.not_true, Bool.not_false] at hb); (first | ((with_reducible intro K hK); (first | ((apply opA_callB (cm); rfl; rfl; rfl; rfl; exact Try.func37); kernel_rfl; rfl; (simp only [go_sem, e2]; rfl); (first | rfl | simp [AV.inNL, AV.inN])) | skip); simp only [go_sem, e2]; ((repeat (refine ndI (by first | assumption | omega | rfl) ?_)); refine hK _ ?_; clear hK K)) | ((fail_if_success (with_reducible intro _)); simp only [go_sem, e2]))))) | ((with_reducible apply evC_cond); rfl; rfl; all_goals (intro hc; first | (cases hc; done) | (try simp only at hc))))))
      all_goals (refine ⟨by simp, ⟨_, ?_, AV.le_refl _⟩, leH_get (by simp [leH, hget])⟩; simp only [Try.results17, resL, ldA, oneOf, go_sem])
theorem over_fn (ex : Bool) (l : List Hd) : Fn Try.prog 8 [lg ex l] [] (vb (decide ((l.length : Int) > 40))) [] := by
  (refine fn_of Try.func8 rfl (by rfl) ?_; simp only [Try.ntmps8, List.length_cons, List.length_nil, Nat.reduceAdd, Nat.reduceSub, List.replicate, List.cons_append, List.nil_append])
  (repeat (any_goals (first | ((with_reducible refine evL_one ?_ ?_); rfl; intro K hK; simp only [go_sem]; ((repeat (refine ndI (by first | assumption | omega | rfl) ?_)); refine hK _ ?_; clear hK K)) | (with_reducible first | (refine evL_nil ?_; refine hR _ ?_; clear hR R) | ((first | refine evC_seq ?_ | refine evC_block ?_); intro Ψ hΨ hΨ') | (refine evC_region ?_; intro R hR) | (refine hΨ _ ?_; clear hΨ hΨ' Ψ) | refine evC_skip ?_ | refine evC_ret ?_ | refine evC_exit ?_) | ((with_reducible refine hΨ' _ _ ?_ ?_); (focus (simp; done)); clear hΨ hΨ' Ψ) | ((with_reducible apply evC_cond); rfl; rfl; all_goals (intro hc; first | (cases hc; done) | (try simp only at hc))))))
  all_goals (refine ⟨by simp, ⟨_, ?_, AV.le_refl _⟩, leH_get (by simp [leH, hget])⟩; simp only [Try.results8, resL, ldA, oneOf, go_sem])
end Go.Proofs.Ytmibmodibicibaa
