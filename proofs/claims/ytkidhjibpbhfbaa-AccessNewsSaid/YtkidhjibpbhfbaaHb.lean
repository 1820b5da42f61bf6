/-
  The law AccessNews, walked.
-/
import Derived.Test.YtkidhjibpbhfbaaHa
import Derived.Test.YtkidhjibpbhfbaaGn
namespace Go.Proofs.Ytkidhjibpbhfbaa
open Go.RowKit
open Nat (reduceBEq)
set_option linter.unusedVariables false
set_option linter.unusedSimpArgs false
set_option maxRecDepth 20000
set_option maxHeartbeats 2000000
theorem cmp_cases (a b : Sp) (oa : a.ok) (ob : b.ok) : (decide (a = b) = true ∧ cmpI a.key b.key = 0) ∨ (decide (a = b) = false ∧ decide (a.key < b.key) = true ∧ cmpI a.key b.key = -1) ∨ (decide (a = b) = false ∧ decide (a.key < b.key) = false ∧ cmpI a.key b.key = 1) := by
  unfold cmpI
  by_cases h : a = b
  · refine .inl ⟨decide_eq_true h, ?_⟩
    rw [h]; simp
  · have hk : a.key ≠ b.key := fun e => h (Sp.key_inj oa ob e)
    by_cases h1 : a.key < b.key
    · exact .inr (.inl ⟨decide_eq_false h, decide_eq_true h1, by simp [h1]⟩)
    · have h2 : b.key < a.key := by omega
      exact .inr (.inr ⟨decide_eq_false h, decide_eq_false h1, by simp [h1, h2]⟩)
theorem anews_fn (e : Bool) (l : List Int) (hl : l.length ≤ maxLen) (hu : ∀ a ∈ l, U a) (a b : Sp) (oa : a.ok) (ob : b.ok) : Fn Try.prog 3 [asl e l, spA a, spA b] [] (vb true) [] := by
  have wk := wakes_fn
  have b0 : ∀ w : Int, (w == w) = true := fun w => by simp
  by_cases hbig : 600 < l.length
  · have k0 : decide ((l.length : Int) > 600) = true := decide_eq_true (by omega)
    (refine fn_of Try.func3 rfl (by rfl) ?_; simp only [Try.ntmps3, List.length_cons, List.length_nil, Nat.reduceAdd, Nat.reduceSub, List.replicate, List.cons_append, List.nil_append])
    (repeat (any_goals (first | ((with_reducible refine evL_call ?_ ?_ ?_); rfl; rfl; intro K hK; ((apply opA_callB (wk); rfl; rfl; rfl; rfl; exact Try.func6); kernel_rfl; rfl; (simp only [go_sem, k0]; rfl); (simp only [AV.inNL, AV.inN, inNL_map, Bool.and_true])); (simp only [go_sem, k0, go_sem]; (with_reducible refine hK _ ?_); clear hK K)) | ((with_reducible refine evL_one ?_ ?_); rfl; intro K hK; simp only [go_sem, k0, go_sem]; ((repeat (refine And.intro (by first | assumption | omega | rfl) ?_)); (with_reducible refine hK _ ?_); clear hK K)) | ((with_reducible refine evL_nil ?_); (with_reducible refine hR _ ?_); clear hR R) | ((with_reducible first | refine evC_seq ?_ | refine evC_block ?_); intro Ψ hΨ hΨ') | ((with_reducible refine evC_region ?_); intro R hR) | ((with_reducible refine hΨ _ ?_); clear hΨ hΨ' Ψ) | ((with_reducible refine hΨ' _ _ ?_ ?_); (focus (first | ((intro hx; cases hx); done) | ((intro j hj; cases hj); done) | (intro j hj; cases hj; (decide); done))); clear hΨ hΨ' Ψ) | (with_reducible first | refine evC_skip ?_ | refine evC_ret ?_ | refine evC_exit ?_) | ((with_reducible apply evL_unmet); rfl; rfl; rfl; (try simp only [go_sem, k0, go_sem])) | ((with_reducible apply evL_grd); rfl; rfl; rfl; all_goals (intro hb; first | (exact absurd hb (by decide)) | ((try simp only [Bool.not_true, Bool.not_false] at hb); (first | ((with_reducible intro K hK); simp only [go_sem, k0, go_sem]; ((repeat (refine And.intro (by first | assumption | omega | rfl) ?_)); (with_reducible refine hK _ ?_); clear hK K)) | ((fail_if_success (with_reducible intro _)); simp only [go_sem, k0, go_sem]))))) | ((with_reducible apply evC_cond); rfl; rfl; all_goals (intro hc; first | (exact absurd hc (by decide)) | (try simp only at hc))))))
    all_goals (refine ⟨by simp, ⟨_, ?_, AV.le_refl _⟩, leH_get (by simp [leH, hget])⟩; simp only [Try.results3, resL, ldA, oneOf, go_sem])
  have k0 : decide ((l.length : Int) > 600) = false := decide_eq_false (by omega)
  obtain ⟨r, h1, h2, h3, so⟩ := new_fn e l (by omega) hu
  have rn := rnew_fn e l (by omega)
  rw [res_uniq h1 h2] at rn
  have ur : ∀ a ∈ r, U a := fun a ha => hu a ((h2 a).1 ha)
  have cs := compareS_fn a b oa ob
  have bf := before_fn a b oa ob
  have ks := sp_eq oa ob
  have hc := cmp_cases a b oa ob
  generalize decide (a = b) = q1 at ks hc
  generalize decide (a.key < b.key) = q2 at bf hc
  generalize cmpI a.key b.key = c at cs hc
  by_cases h4 : r.length ≤ 400
  · rw [if_pos h4] at so
    rw [decide_eq_true h4] at rn
    have sm := rsame_fn ⟨r, [], []⟩ ⟨r, [], []⟩ (ok_ad ur) ⟨(by dsimp only; omega), Nat.zero_le _, Nat.zero_le _⟩ (ok_ad ur) ⟨(by dsimp only; omega), Nat.zero_le _, Nat.zero_le _⟩
    rw [decide_eq_true rfl] at sm
    rcases hc with ⟨rfl, rfl⟩ | ⟨rfl, rfl, rfl⟩ | ⟨rfl, rfl, rfl⟩
    all_goals (refine fn_of Try.func3 rfl (by rfl) ?_; simp only [Try.ntmps3, List.length_cons, List.length_nil, Nat.reduceAdd, Nat.reduceSub, List.replicate, List.cons_append, List.nil_append])
    all_goals (repeat (any_goals (first | ((with_reducible refine evL_call ?_ ?_ ?_); rfl; rfl; intro K hK; ((first | (apply opA_callB (wk); rfl; rfl; rfl; rfl; exact Try.func6) | (apply opA_callB (so); rfl; rfl; rfl; rfl; exact Try.func7) | (apply opA_callB (rn); rfl; rfl; rfl; rfl; exact Try.func8) | (apply opA_callB (sm); rfl; rfl; rfl; rfl; exact Try.func9) | (apply opA_callB (bf); rfl; rfl; rfl; rfl; exact Try.func10) | (apply opA_callB (cs); rfl; rfl; rfl; rfl; exact Try.func11)); kernel_rfl; rfl; (simp only [go_sem, k0, ks, b0]; rfl); (simp only [AV.inNL, AV.inN, inNL_map, Bool.and_true])); (simp only [go_sem, k0, ks, b0, go_sem]; (with_reducible refine hK _ ?_); clear hK K)) | ((with_reducible refine evL_one ?_ ?_); rfl; intro K hK; simp only [go_sem, k0, ks, b0, go_sem]; ((repeat (refine And.intro (by first | assumption | omega | rfl) ?_)); (with_reducible refine hK _ ?_); clear hK K)) | ((with_reducible refine evL_nil ?_); (with_reducible refine hR _ ?_); clear hR R) | ((with_reducible first | refine evC_seq ?_ | refine evC_block ?_); intro Ψ hΨ hΨ') | ((with_reducible refine evC_region ?_); intro R hR) | ((with_reducible refine hΨ _ ?_); clear hΨ hΨ' Ψ) | ((with_reducible refine hΨ' _ _ ?_ ?_); (focus (first | ((intro hx; cases hx); done) | ((intro j hj; cases hj); done) | (intro j hj; cases hj; (decide); done))); clear hΨ hΨ' Ψ) | (with_reducible first | refine evC_skip ?_ | refine evC_ret ?_ | refine evC_exit ?_) | ((with_reducible apply evL_unmet); rfl; rfl; rfl; (try simp only [go_sem, k0, ks, b0, go_sem])) | ((with_reducible apply evL_grd); rfl; rfl; rfl; all_goals (intro hb; first | (exact absurd hb (by decide)) | ((try simp only [Bool.not_true, Bool.not_false] at hb); (first | ((with_reducible intro K hK); (first | ((apply opA_callB (sm); rfl; rfl; rfl; rfl; exact Try.func9); kernel_rfl; rfl; (simp only [go_sem, k0, ks, b0]; rfl); (simp only [AV.inNL, AV.inN, inNL_map, Bool.and_true])) | skip); simp only [go_sem, k0, ks, b0, go_sem]; ((repeat (refine And.intro (by first | assumption | omega | rfl) ?_)); (with_reducible refine hK _ ?_); clear hK K)) | ((fail_if_success (with_reducible intro _)); simp only [go_sem, k0, ks, b0, go_sem]))))) | ((with_reducible apply evC_cond); rfl; rfl; all_goals (intro hc; first | (exact absurd hc (by decide)) | (try simp only at hc))))))
    all_goals (refine ⟨by simp, ⟨_, ?_, AV.le_refl _⟩, leH_get (by simp [leH, hget])⟩; simp only [Try.results3, resL, ldA, oneOf, go_sem])
  · rw [if_neg h4] at so
    rw [decide_eq_false h4] at rn
    have o0 : Xs.ok ⟨[], [], []⟩ := ok_ad fun a ha => by cases ha
    have f0 : Xs.few ⟨[], [], []⟩ := ⟨Nat.zero_le _, Nat.zero_le _, Nat.zero_le _⟩
    have sm0 := rsame_fn ⟨[], [], []⟩ ⟨[], [], []⟩ o0 f0 o0 f0
    rw [decide_eq_true rfl] at sm0
    have sm : Fn Try.prog 9 [xsA ⟨[], [], []⟩, nilX] [] (vb true) [] := sm0.args ⟨AV.le_refl _, nilX_le, trivial⟩
    rcases hc with ⟨rfl, rfl⟩ | ⟨rfl, rfl, rfl⟩ | ⟨rfl, rfl, rfl⟩
    all_goals (refine fn_of Try.func3 rfl (by rfl) ?_; simp only [Try.ntmps3, List.length_cons, List.length_nil, Nat.reduceAdd, Nat.reduceSub, List.replicate, List.cons_append, List.nil_append])
    all_goals (repeat (any_goals (first | ((with_reducible refine evL_call ?_ ?_ ?_); rfl; rfl; intro K hK; ((first | (apply opA_callB (wk); rfl; rfl; rfl; rfl; exact Try.func6) | (apply opA_callB (so); rfl; rfl; rfl; rfl; exact Try.func7) | (apply opA_callB (rn); rfl; rfl; rfl; rfl; exact Try.func8) | (apply opA_callB (sm); rfl; rfl; rfl; rfl; exact Try.func9) | (apply opA_callB (bf); rfl; rfl; rfl; rfl; exact Try.func10) | (apply opA_callB (cs); rfl; rfl; rfl; rfl; exact Try.func11)); kernel_rfl; rfl; (simp only [go_sem, k0, ks, b0]; rfl); (simp only [AV.inNL, AV.inN, inNL_map, Bool.and_true])); (simp only [go_sem, k0, ks, b0, go_sem]; (with_reducible refine hK _ ?_); clear hK K)) | ((with_reducible refine evL_one ?_ ?_); rfl; intro K hK; simp only [go_sem, k0, ks, b0, go_sem]; ((repeat (refine And.intro (by first | assumption | omega | rfl) ?_)); (with_reducible refine hK _ ?_); clear hK K)) | ((with_reducible refine evL_nil ?_); (with_reducible refine hR _ ?_); clear hR R) | ((with_reducible first | refine evC_seq ?_ | refine evC_block ?_); intro Ψ hΨ hΨ') | ((with_reducible refine evC_region ?_); intro R hR) | ((with_reducible refine hΨ _ ?_); clear hΨ hΨ' Ψ) | ((with_reducible refine hΨ' _ _ ?_ ?_); (focus (first | ((intro hx; cases hx); done) | ((intro j hj; cases hj); done) | (intro j hj; cases hj; (decide); done))); clear hΨ hΨ' Ψ) | (with_reducible first | refine evC_skip ?_ | refine evC_ret ?_ | refine evC_exit ?_) | ((with_reducible apply evL_unmet); rfl; rfl; rfl; (try simp only [go_sem, k0, ks, b0, go_sem])) | ((with_reducible apply evL_grd); rfl; rfl; rfl; all_goals (intro hb; first | (exact absurd hb (by decide)) | ((try simp only [Bool.not_true, Bool.not_false] at hb); (first | ((with_reducible intro K hK); (first | ((apply opA_callB (sm); rfl; rfl; rfl; rfl; exact Try.func9); kernel_rfl; rfl; (simp only [go_sem, k0, ks, b0]; rfl); (simp only [AV.inNL, AV.inN, inNL_map, Bool.and_true])) | skip); simp only [go_sem, k0, ks, b0, go_sem]; ((repeat (refine And.intro (by first | assumption | omega | rfl) ?_)); (with_reducible refine hK _ ?_); clear hK K)) | ((fail_if_success (with_reducible intro _)); simp only [go_sem, k0, ks, b0, go_sem]))))) | ((with_reducible apply evC_cond); rfl; rfl; all_goals (intro hc; first | (exact absurd hc (by decide)) | (try simp only at hc))))))
    all_goals (refine ⟨by simp, ⟨_, ?_, AV.le_refl _⟩, leH_get (by simp [leH, hget])⟩; simp only [Try.results3, resL, ldA, oneOf, go_sem])
end Go.Proofs.Ytkidhjibpbhfbaa
