/-
  Which nonces may be, and what is next, by the document; the same nonces: reckoned.
-/
import Derived.Test.YtlkogofgemclfaaNv
import Derived.Test.YtlkogofgemclfaaNm
namespace Go.Proofs.Ytlkogofgemclfaa
open Go.RowKit
open Nat (reduceBEq)
set_option linter.unusedVariables false
set_option linter.unusedSimpArgs false
set_option maxRecDepth 20000
set_option maxHeartbeats 1000000
def N6.ok (n : N6) : Prop := U n.a ∧ U n.b ∧ U n.c ∧ U n.d ∧ U n.e ∧ U n.x
theorem cmpW_val {a b c d e f g h : Int} (u1 : U a) (u2 : U b) (u3 : U c) (u4 : U d) (u5 : U e) (u6 : U f) (u7 : U g) (u8 : U h) : cmpW a b c d e f g h = cmpN (VW a b c d) (VW e f g h) := by
  obtain ⟨a1, a2⟩ := u1; obtain ⟨b1, b2⟩ := u2; obtain ⟨c1, c2⟩ := u3; obtain ⟨d1, d2⟩ := u4
  obtain ⟨e1, e2⟩ := u5; obtain ⟨f1, f2⟩ := u6; obtain ⟨g1, g2⟩ := u7; obtain ⟨h1, h2⟩ := u8
  obtain ⟨a, rfl⟩ := Int.eq_ofNat_of_zero_le a1; obtain ⟨b, rfl⟩ := Int.eq_ofNat_of_zero_le b1; obtain ⟨c, rfl⟩ := Int.eq_ofNat_of_zero_le c1; obtain ⟨d, rfl⟩ := Int.eq_ofNat_of_zero_le d1
  obtain ⟨e, rfl⟩ := Int.eq_ofNat_of_zero_le e1; obtain ⟨f, rfl⟩ := Int.eq_ofNat_of_zero_le f1; obtain ⟨g, rfl⟩ := Int.eq_ofNat_of_zero_le g1; obtain ⟨h, rfl⟩ := Int.eq_ofNat_of_zero_le h1
  unfold cmpW cmpN VW
  simp only [Int.toNat_natCast]
  repeat' split
  all_goals first | rfl | omega
/-- a place among nonces, as one number -/
def rk (a b c d e : Int) : Nat := a.toNat * 2 ^ 256 + VW b c d e
def N6.rk (n : N6) : Nat := Go.Proofs.Ytlkogofgemclfaa.rk n.a n.b n.c n.d n.e
theorem cK_rk {z : N6} {a b c d e : Int} (hz : z.ok) (u0 : U a) (u1 : U b) (u2 : U c) (u3 : U d) (u4 : U e) : cK z a b c d e = cmpN z.rk (rk a b c d e) := by
  obtain ⟨z0, z1, z2, z3, z4, z5⟩ := hz
  unfold cK N6.rk
  rw [cmpW_val z1 z2 z3 z4 u1 u2 u3 u4]
  have l1 := VW_lt z1 z2 z3 z4
  have l2 := VW_lt u1 u2 u3 u4
  obtain ⟨p1, p2⟩ := z0; obtain ⟨q1, q2⟩ := u0
  obtain ⟨A, hA⟩ := Int.eq_ofNat_of_zero_le p1; obtain ⟨B, rfl⟩ := Int.eq_ofNat_of_zero_le q1
  rw [hA]
  unfold rk cmpI cmpN
  simp only [Int.toNat_natCast]
  generalize VW z.b z.c z.d z.e = v at *
  generalize VW b c d e = u at *
  simp only [show (2 : Nat) ^ 256 = 115792089237316195423570985008687907853269984665640564039457584007913129639936 by decide] at *
  repeat' split
  all_goals first | rfl | omega
theorem cN_rk {z y : N6} (hz : z.ok) (hy : y.ok) : cN z y = cmpN z.rk y.rk := cK_rk hz hy.1 hy.2.1 hy.2.2.1 hy.2.2.2.1 hy.2.2.2.2.1
theorem cmpN_neg {x y : Nat} : cmpN x y < 0 ↔ x < y := by unfold cmpN; repeat' split <;> omega
theorem cmpN_zero {x y : Nat} : cmpN x y = 0 ↔ x = y := by unfold cmpN; repeat' split <;> omega
theorem before_fn (a b c d e x a' b' c' d' e' x' : Int) (h : N6.ok ⟨a, b, c, d, e, x⟩) (h' : N6.ok ⟨a', b', c', d', e', x'⟩) : Fn Try.prog 36 [n6 a b c d e x, n6 a' b' c' d' e' x'] [] (vb (decide (rk a b c d e < rk a' b' c' d' e'))) [] := by
  obtain ⟨z0, z1, z2, z3, z4, z5⟩ := h
  obtain ⟨y0, y1, y2, y3, y4, y5⟩ := h'
  dsimp only at z0 z1 z2 z3 z4 z5 y0 y1 y2 y3 y4 y5
  have hk := cK_rk (z := ⟨a, b, c, d, e, x⟩) ⟨z0, z1, z2, z3, z4, z5⟩ y0 y1 y2 y3 y4
  unfold cK at hk
  dsimp only at hk
  rw [cmpW_val z1 z2 z3 z4 y1 y2 y3 y4] at hk
  have hlt : (rk a b c d e < rk a' b' c' d' e') ↔ (a < a' ∨ a = a' ∧ cmpN (VW b c d e) (VW b' c' d' e') < 0) := by
    rw [← cmpN_neg, show cmpN (rk a b c d e) (rk a' b' c' d' e') = _ from hk.symm]
    unfold cmpI
    rcases Int.lt_trichotomy a a' with h | h | h
    · simp [h]
    · subst h; simp
    · simp [h, show ¬ a < a' by omega, show a ≠ a' by omega]
  (refine fn_of Try.func36 rfl (by rfl) ?_; simp only [Try.ntmps36, List.length_cons, List.length_nil, Nat.reduceAdd, Nat.reduceSub, List.replicate, List.cons_append, List.nil_append])
  (repeat (any_goals (first | ((with_reducible refine evL_one ?_ ?_); rfl; intro K hK; simp only [go_sem]; ((repeat (refine ndI (by first | assumption | omega | rfl) ?_)); refine hK _ ?_; clear hK K)) | (with_reducible first | (refine evL_nil ?_; refine hR _ ?_; clear hR R) | ((first | refine evC_seq ?_ | refine evC_block ?_); intro Ψ hΨ hΨ') | (refine evC_region ?_; intro R hR) | (refine hΨ _ ?_; clear hΨ hΨ' Ψ) | refine evC_skip ?_ | refine evC_ret ?_ | refine evC_exit ?_) | ((with_reducible refine hΨ' _ _ ?_ ?_); (focus (simp; done)); clear hΨ hΨ' Ψ) | ((with_reducible apply evL_unmet); rfl; rfl; rfl; (try simp only [go_sem])) | ((with_reducible apply evL_grd); rfl; rfl; rfl; all_goals (intro hb; first | (cases hb; done) | ((try simp only [Bool.not_true, Bool.not_false] at hb); (first | ((with_reducible intro K hK); (first | ((apply opA_callB (refcmp_fn b c d e b' c' d' e' z1 z2 z3 z4 y1 y2 y3 y4); rfl; rfl; rfl; rfl; exact Try.func50); kernel_rfl; rfl; (simp only [go_sem]; rfl); (first | rfl | simp [AV.inNL, AV.inN])) | skip); simp only [go_sem]; ((repeat (refine ndI (by first | assumption | omega | rfl) ?_)); refine hK _ ?_; clear hK K)) | ((fail_if_success (with_reducible intro _)); simp only [go_sem]))))) | ((with_reducible apply evC_cond); rfl; rfl; all_goals (intro hc; first | (cases hc; done) | (try simp only at hc))))))
  all_goals (refine ⟨by simp, ⟨_, ?_, AV.le_refl _⟩, leH_get (by simp [leH, hget])⟩; simp only [Try.results36, resL, ldA, oneOf, go_sem])
  all_goals clear hk
  all_goals simp_all
end Go.Proofs.Ytlkogofgemclfaa
