/-
  Slots that are near; reckoned.
-/
import Derived.Test.YtgdjkkapgghdbaaDoorWs
import Derived.Test.YtgdjkkapgghdbaaDoorWn
namespace Go.Proofs.YtgdjkkapgghdbaaDoor
open Go.RowKit
open Nat (reduceBEq)
attribute [-go_sem] IntKind.bits
set_option linter.unusedVariables false
set_option linter.unusedSimpArgs false
set_option maxRecDepth 20000
set_option maxHeartbeats 2000000
theorem or_nat {a b : Nat} (ha : a < 18446744073709551616) (hb : b < 18446744073709551616) : IntKind.u64.wrap (BitVec.ofInt IntKind.u64.bits (a : Int) ||| BitVec.ofInt IntKind.u64.bits (b : Int)).toNat = ((a ||| b : Nat) : Int) := by
  have e : (BitVec.ofInt IntKind.u64.bits (a : Int) ||| BitVec.ofInt IntKind.u64.bits (b : Int)).toNat = a ||| b := by
    show (BitVec.ofInt 64 (a : Int) ||| BitVec.ofInt 64 (b : Int)).toNat = _
    rw [BitVec.toNat_or, BitVec.ofInt_natCast, BitVec.ofInt_natCast, BitVec.toNat_ofNat, BitVec.toNat_ofNat, Nat.mod_eq_of_lt ha, Nat.mod_eq_of_lt hb]
  rw [e]
  have h : a ||| b < 2 ^ 64 := Nat.or_lt_two_pow ha hb
  exact wrU (by omega) (by omega)
theorem small_fn (x : Nat) (hx : x < WW) : Fn Tryd.prog 32 [wN x] [] (.tup [vi .u64 (if x < 18446744073709551616 then l0 x else 0), vb (decide (x < 18446744073709551616))]) [] := by
  obtain ⟨a, b, c, d, ex, ha, hb, hc, hd, e0, e1, e2, e3⟩ := split_w hx
  rw [wN, e0, e1, e2, e3]
  have k1 := or_nat hb hc
  have k2 := or_nat (Nat.or_lt_two_pow (n := 64) hb hc) hd
  by_cases h : b = 0 ∧ c = 0 ∧ d = 0
  · have hs : x < 18446744073709551616 := by omega
    rw [if_pos hs, decide_eq_true hs]
    have k3 : (((b ||| c ||| d : Nat) : Int) != 0) = false := by
      obtain ⟨rfl, rfl, rfl⟩ := h
      rfl
    generalize b ||| c ||| d = y at k2 k3
    generalize b ||| c = z at k1 k2
    generalize (a : Int) = a, (b : Int) = b, (c : Int) = c, (d : Int) = d at *
    (refine fn_of Tryd.func32 rfl (by rfl) ?_; simp only [Tryd.ntmps32, List.length_cons, List.length_nil, Nat.reduceAdd, Nat.reduceSub, List.replicate, List.cons_append, List.nil_append])
    (have W := ndI k1 (ndI k2 k3); (repeat (any_goals (first | ((with_reducible refine evL_one ?_ ?_); rfl; intro K hK; simp only [go_sem, W]; ((repeat (refine ndI (by first | assumption | omega | rfl) ?_)); refine hK _ ?_; clear hK K)) | (with_reducible first | (refine evL_nil ?_; refine hR _ ?_; clear hR R) | ((first | refine evC_seq ?_ | refine evC_block ?_); intro Ψ hΨ hΨ') | (refine evC_region ?_; intro R hR) | (refine hΨ _ ?_; clear hΨ hΨ' Ψ) | refine evC_skip ?_ | refine evC_ret ?_ | refine evC_exit ?_) | ((with_reducible refine hΨ' _ _ ?_ ?_); (focus (simp; done)); clear hΨ hΨ' Ψ) | ((with_reducible apply evC_cond); rfl; rfl; all_goals (intro hc; first | (cases hc; done) | (try simp only at hc)))))))
    all_goals (refine ⟨by simp, ⟨_, ?_, AV.le_refl _⟩, leH_get (by simp [leH, hget])⟩; simp only [Tryd.results32, resL, ldA, oneOf, go_sem])
  · have hs : ¬ x < 18446744073709551616 := by omega
    rw [if_neg hs, decide_eq_false hs]
    have k3 : (((b ||| c ||| d : Nat) : Int) != 0) = true := by
      rw [bne_iff_ne, ne_eq]
      intro e
      have e' : b ||| c ||| d = 0 := by omega
      rw [Nat.or_eq_zero_iff, Nat.or_eq_zero_iff] at e'
      exact h ⟨e'.1.1, e'.1.2, e'.2⟩
    generalize b ||| c ||| d = y at k2 k3
    generalize b ||| c = z at k1 k2
    generalize (a : Int) = a, (b : Int) = b, (c : Int) = c, (d : Int) = d at *
    (refine fn_of Tryd.func32 rfl (by rfl) ?_; simp only [Tryd.ntmps32, List.length_cons, List.length_nil, Nat.reduceAdd, Nat.reduceSub, List.replicate, List.cons_append, List.nil_append])
    (have W := ndI k1 (ndI k2 k3); (repeat (any_goals (first | ((with_reducible refine evL_one ?_ ?_); rfl; intro K hK; simp only [go_sem, W]; ((repeat (refine ndI (by first | assumption | omega | rfl) ?_)); refine hK _ ?_; clear hK K)) | (with_reducible first | (refine evL_nil ?_; refine hR _ ?_; clear hR R) | ((first | refine evC_seq ?_ | refine evC_block ?_); intro Ψ hΨ hΨ') | (refine evC_region ?_; intro R hR) | (refine hΨ _ ?_; clear hΨ hΨ' Ψ) | refine evC_skip ?_ | refine evC_ret ?_ | refine evC_exit ?_) | ((with_reducible refine hΨ' _ _ ?_ ?_); (focus (simp; done)); clear hΨ hΨ' Ψ) | ((with_reducible apply evC_cond); rfl; rfl; all_goals (intro hc; first | (cases hc; done) | (try simp only at hc)))))))
    all_goals (refine ⟨by simp, ⟨_, ?_, AV.le_refl _⟩, leH_get (by simp [leH, hget])⟩; simp only [Tryd.results32, resL, ldA, oneOf, go_sem])
theorem of_fn (a : Int) : Fn Tryd.prog 40 [vi .u64 a] [] (w4 a 0 0 0) [] := by
  (refine fn_of Tryd.func40 rfl (by rfl) ?_; simp only [Tryd.ntmps40, List.length_cons, List.length_nil, Nat.reduceAdd, Nat.reduceSub, List.replicate, List.cons_append, List.nil_append])
  (repeat (any_goals (first | ((with_reducible refine evL_one ?_ ?_); rfl; intro K hK; simp only [go_sem]; ((repeat (refine ndI (by first | assumption | omega | rfl) ?_)); refine hK _ ?_; clear hK K)) | (with_reducible first | (refine evL_nil ?_; refine hR _ ?_; clear hR R) | ((first | refine evC_seq ?_ | refine evC_block ?_); intro Ψ hΨ hΨ') | (refine evC_region ?_; intro R hR) | (refine hΨ _ ?_; clear hΨ hΨ' Ψ) | refine evC_skip ?_ | refine evC_ret ?_ | refine evC_exit ?_) | ((with_reducible refine hΨ' _ _ ?_ ?_); (focus (simp; done)); clear hΨ hΨ' Ψ) | ((with_reducible apply evC_cond); rfl; rfl; all_goals (intro hc; first | (cases hc; done) | (try simp only at hc))))))
  all_goals (refine ⟨by simp, ⟨_, ?_, AV.le_refl _⟩, leH_get (by simp [leH, hget])⟩; simp only [Tryd.results40, resL, ldA, oneOf, go_sem])
def nearB (s t : Nat) : Bool := decide (t ≤ s) && decide (s - t < 128)
theorem near_fn (s t : Nat) (hs : s < WW) (ht : t < WW) : Fn Tryd.prog 15 [wN s, wN t] [] (vb (nearB s t)) [] := by
  have sb := sub_fn s t hs ht
  have hx : (s + WW - t) % WW < WW := Nat.mod_lt _ (by decide)
  have sm := small_fn _ hx
  have key : nearB s t = (!decide (s < t) && decide ((s + WW - t) % WW < 18446744073709551616) && decide ((if (s + WW - t) % WW < 18446744073709551616 then l0 ((s + WW - t) % WW) else 0) < 128)) := by
    unfold nearB
    by_cases h : s < t
    · rw [decide_eq_true h, decide_eq_false (by omega), Bool.not_true, Bool.false_and, Bool.false_and, Bool.false_and]
    · have e : (s + WW - t) % WW = s - t := by rw [show s + WW - t = s - t + WW by omega, Nat.add_mod_right, Nat.mod_eq_of_lt (by omega)]
      rw [e, decide_eq_false h, decide_eq_true (by omega : t ≤ s)]
      by_cases h2 : s - t < 18446744073709551616
      · rw [if_pos h2, decide_eq_true h2]
        have : l0 (s - t) = ((s - t : Nat) : Int) := by unfold l0; rw [Nat.mod_eq_of_lt h2]
        rw [this]
        simp
        omega
      · rw [decide_eq_false h2, decide_eq_false (by omega : ¬ s - t < 128), Bool.and_false, Bool.and_false, Bool.false_and]
  rw [key]
  generalize decide (s < t) = q1 at sb
  generalize decide ((s + WW - t) % WW < 18446744073709551616) = q2 at sm
  generalize (if (s + WW - t) % WW < 18446744073709551616 then l0 ((s + WW - t) % WW) else 0) = n at sm
  generalize (s + WW - t) % WW = x at sb sm
  cases q1 <;> cases q2
  all_goals (refine fn_of Tryd.func15 rfl (by rfl) ?_; simp only [Tryd.ntmps15, List.length_cons, List.length_nil, Nat.reduceAdd, Nat.reduceSub, List.replicate, List.cons_append, List.nil_append])
  all_goals (repeat (any_goals (first | ((with_reducible refine evL_call ?_ ?_ ?_); rfl; rfl; intro K hK; ((first | (apply opA_callB (sb); rfl; rfl; rfl; rfl; exact Tryd.func31) | (apply opA_callB (sm); rfl; rfl; rfl; rfl; exact Tryd.func32)); kernel_rfl; rfl; (focus ((simp only [go_sem]); (try rfl); done)); (first | rfl | simp [AV.inNL, AV.inN])); (simp only [go_sem]; refine hK _ ?_; clear hK K)) | ((with_reducible refine evL_one ?_ ?_); rfl; intro K hK; simp only [go_sem]; ((repeat (refine ndI (by first | assumption | omega | rfl) ?_)); refine hK _ ?_; clear hK K)) | (with_reducible first | (refine evL_nil ?_; refine hR _ ?_; clear hR R) | ((first | refine evC_seq ?_ | refine evC_block ?_); intro Ψ hΨ hΨ') | (refine evC_region ?_; intro R hR) | (refine hΨ _ ?_; clear hΨ hΨ' Ψ) | refine evC_skip ?_ | refine evC_ret ?_ | refine evC_exit ?_) | ((with_reducible refine hΨ' _ _ ?_ ?_); (focus (simp; done)); clear hΨ hΨ' Ψ) | ((with_reducible apply evL_unmet); rfl; rfl; rfl; (try simp only [go_sem])) | ((with_reducible apply evL_grd); rfl; rfl; rfl; all_goals (intro hb; first | (cases hb; done) | ((try simp only [Bool.not_true, Bool.not_false] at hb); (first | ((with_reducible intro K hK); simp only [go_sem]; ((repeat (refine ndI (by first | assumption | omega | rfl) ?_)); refine hK _ ?_; clear hK K)) | ((fail_if_success (with_reducible intro _)); simp only [go_sem]))))) | ((with_reducible apply evC_cond); rfl; rfl; all_goals (intro hc; first | (cases hc; done) | (try simp only at hc))))))
  all_goals (refine ⟨by simp, ⟨_, ?_, AV.le_refl _⟩, leH_get (by simp [leH, hget])⟩; simp only [Tryd.results15, resL, ldA, oneOf, go_sem])
  all_goals simp only [Bool.not_true, Bool.not_false, Bool.true_and, Bool.false_and]
end Go.Proofs.YtgdjkkapgghdbaaDoor

