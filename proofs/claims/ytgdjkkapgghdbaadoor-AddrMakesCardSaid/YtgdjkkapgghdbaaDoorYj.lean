/-
  Pad of the document. Reckoned. (begun)
-/
import Derived.Test.YtgdjkkapgghdbaaDoorAvO
import Derived.Test.YtgdjkkapgghdbaaDoorYi
namespace Go.Proofs.YtgdjkkapgghdbaaDoor
open Go.RowKit
open Nat (reduceBEq)
set_option linter.unusedVariables false
set_option linter.unusedSimpArgs false
set_option maxRecDepth 20000
set_option maxHeartbeats 2000000
abbrev stP (ex : Bool) (l : List Nat) (r : Nat) (out : List Nat) : St := ⟨[bsl ex l, .any, .any, .row r 5 1 out.length, .any, .any, .any, .any, .any, .any, .any, .any, .any, .any, .any, .any, .any, .any, .any, .any, .any, .any, .any, .any, .any, .any], [(r, rcB out)]⟩
theorem stP_rn (ex : Bool) (l out : List Nat) : (stP ex l 16 out).to (stP ex l 9 out) := by
  have h := St.to.rn (σ := stP ex l 16 out) (fun r => if r = 16 then 9 else r) (fun r => if r = 9 then 16 else r) [16] (by simp [AV.inNL, AV.inN]) (by simp) (by simp [inH, AV.inNL, AV.inN, rcB]) (by simp) (by simp)
  simpa [AV.renL, AV.ren, renH, rcB, stP] using h
def outP (l : List Nat) (i : Nat) : List Nat := l ++ 1 :: List.replicate i 0
theorem outP_len (l : List Nat) (i : Nat) : (outP l i).length = l.length + 1 + i := by unfold outP; simp; omega
theorem outP_s (l : List Nat) (i : Nat) : outP l (i + 1) = outP l i ++ [0] := by
  unfold outP; rw [List.replicate_succ', List.append_assoc]; rfl
theorem outP_set (l : List Nat) (k : Nat) : ∃ x, (outP l k)[l.length + k]? = some x ∧ x < 2 ∧ (outP l k).set (l.length + k) (x + 128) = l ++ padT k := by
  unfold outP
  have e4 : ∀ y : Nat, (l ++ 1 :: List.replicate k 0).set (l.length + k) y = l ++ (1 :: List.replicate k 0).set k y := fun y => by
    rw [List.set_append_right _ _ (by omega), Nat.add_sub_cancel_left]
  simp only [e4]
  rw [List.getElem?_append_right (by omega), Nat.add_sub_cancel_left]
  unfold padT
  cases k with
  | zero => exact ⟨1, rfl, by omega, by rw [if_pos rfl]; rfl⟩
  | succ k =>
    refine ⟨0, ?_, by omega, ?_⟩
    · rw [List.getElem?_cons_succ, List.getElem?_replicate, if_pos (by omega)]
    · rw [if_neg (by omega), List.set_cons_succ, Nat.zero_add, Nat.add_sub_cancel]
      congr 2
      rw [List.replicate_succ', List.set_append_right _ _ (by rw [List.length_replicate]; omega), List.length_replicate, Nat.sub_self]
      rfl
theorem rpad_row (ex : Bool) (l : List Nat) (hl : l.length ≤ 1000) : Fn Tryd.prog 38 [bsl ex l] [] (.row 9 5 1 (padL l).length) [(9, rcB (padL l))] := by
  have b1 := rcB_len1 l
  have b2 : (List.flatMap bpv l).length = l.length := by rw [flat_length bpv_len, Nat.mul_one]
  (refine fn_of Tryd.func38 rfl (by rfl) ?_; simp only [Tryd.ntmps38, List.length_cons, List.length_nil, Nat.reduceAdd, Nat.reduceSub, List.replicate, List.cons_append, List.nil_append])
  (have W := ndI b1 (ndI b2 @refsL_map); (repeat (any_goals (first | ((with_reducible refine evL_one ?_ ?_); rfl; intro K hK; simp (disch := omega) only [go_sem, W, List.length_map, Nat.mul_one, Nat.zero_add, List.nil_append, refsL_rcB, refsL_app, AV.refsL, AV.refs, List.length_append, List.length_cons, List.length_nil, Bool.or_false]; ((repeat (refine ndI (by first | assumption | omega | rfl) ?_)); refine hK _ ?_; clear hK K)) | (with_reducible first | (refine evL_nil ?_; refine hR _ ?_; clear hR R) | ((first | refine evC_seq ?_ | refine evC_block ?_); intro Ψ hΨ hΨ') | (refine evC_region ?_; intro R hR) | (refine hΨ _ ?_; clear hΨ hΨ' Ψ) | refine evC_skip ?_ | refine evC_ret ?_ | refine evC_exit ?_) | ((with_reducible refine hΨ' _ _ ?_ ?_); (focus (simp; done)); clear hΨ hΨ' Ψ) | ((with_reducible apply evC_cond); rfl; rfl; all_goals (intro hc; first | (cases hc; done) | (try simp only at hc)))))))
  obtain ⟨k, hk⟩ : ∃ k, 135 - l.length % 136 = k := ⟨_, rfl⟩
  refine evC_uptoT k (fun i => stP ex l 9 (outP l i)) ?_ ?_
  · refine St.to.of_le (St.le_of ?_ ?_)
    · simp [leT, outP_len]
    · simp [leH, hget, rcB, outP, bpv]
  intro i hi Ψ hΨ hΨ'
  dsimp only [stP] at hΨ ⊢
  rcases Nat.lt_or_ge i k with hlt | hge
  · have ol := outP_len l i
    rw [outP_s] at hΨ
    generalize outP l i = out at *
    have k2 := rcB_len1 out
    have j1 : Int.tmod (out.length : Int) 136 = ((out.length % 136 : Nat) : Int) := by rw [Int.tmod_eq_emod_of_nonneg (by omega)]; omega
    have k1 : (((out.length % 136 : Nat) : Int) != 0) = true := by rw [bne_iff_ne, ne_eq]; omega
    (have W := ndI j1 (ndI k1 (ndI k2 (ndI @wrI @refsL_map))); (repeat (any_goals (first | ((with_reducible refine evL_one ?_ ?_); rfl; intro K hK; simp (disch := omega) only [go_sem, W, refsL_rcB, refsL_app, AV.refsL, AV.refs, List.length_append, List.length_cons, List.length_nil, Bool.or_false, Nat.mul_one]; ((repeat (refine ndI (by first | assumption | omega | rfl) ?_)); refine hK _ ?_; clear hK K)) | (with_reducible first | (refine evL_nil ?_; refine hR _ ?_; clear hR R) | ((first | refine evC_seq ?_ | refine evC_block ?_); intro Ψ hΨ hΨ') | (refine evC_region ?_; intro R hR) | (refine hΨ _ ?_; clear hΨ hΨ' Ψ) | refine evC_skip ?_ | refine evC_ret ?_ | refine evC_exit ?_) | ((with_reducible refine hΨ' _ _ ?_ ?_); (focus (simp; done)); clear hΨ hΨ' Ψ) | ((with_reducible apply evC_cond); rfl; rfl; all_goals (intro hc; first | (cases hc; done) | (try simp only at hc)))))))
    all_goals exact hΨ _ hlt (St.to.trans (St.to.of_le (τ := stP ex l 16 (out ++ [0])) (St.le_of (by simp [leT]) (by simp [leH, hget, rcB, bpv]))) (stP_rn ex l _))
  · obtain rfl : i = k := by omega
    obtain ⟨x, px, hx, ps⟩ := outP_set l i
    have ol := outP_len l i
    have pe : padL l = l ++ padT i := by unfold padL; rw [hk]
    have k3 := rcB_set (outP l i) (l.length + i) (x + 128) (by omega)
    rw [ps, ← pe] at k3
    have k4 := rcB_at px
    have k5 : (padL l).length = (outP l i).length := by rw [padL_len, ol]; unfold padN; omega
    clear ps px pe
    rw [← k5]
    rw [← k5] at ol
    have k2 := rcB_len1 (outP l i)
    rw [← k5] at k2
    clear k5
    generalize outP l i = out at *
    have j1 : Int.tmod ((padL l).length : Int) 136 = (((padL l).length % 136 : Nat) : Int) := by rw [Int.tmod_eq_emod_of_nonneg (by omega)]; omega
    have k1 : ((((padL l).length % 136 : Nat) : Int) != 0) = false := by rw [bne_eq_false_iff_eq]; omega
    have j2 : ((padL l).length : Int) - 1 = ((l.length + i : Nat) : Int) := by omega
    have u1 : IntKind.u8.wrap ((x : Int) + 128) = ((x + 128 : Nat) : Int) := by rw [IntKind.wrap_u8]; omega
    (have W := ndI j1 (ndI j2 (ndI k1 (ndI k2 (ndI k3 (ndI k4 (ndI u1 @wrI)))))); (repeat (any_goals (first | ((with_reducible refine evL_one ?_ ?_); rfl; intro K hK; simp (disch := omega) only [go_sem, W, Nat.mul_one, Nat.zero_add, Int.toNat_natCast]; ((repeat (refine ndI (by first | assumption | omega | rfl) ?_)); refine hK _ ?_; clear hK K)) | (with_reducible first | (refine evL_nil ?_; refine hR _ ?_; clear hR R) | ((first | refine evC_seq ?_ | refine evC_block ?_); intro Ψ hΨ hΨ') | (refine evC_region ?_; intro R hR) | (refine hΨ _ ?_; clear hΨ hΨ' Ψ) | refine evC_skip ?_ | refine evC_ret ?_ | refine evC_exit ?_) | ((with_reducible refine hΨ' _ _ ?_ ?_); (focus (simp; done)); clear hΨ hΨ' Ψ) | ((with_reducible apply evC_cond); rfl; rfl; all_goals (intro hc; first | (cases hc; done) | (try simp only at hc)))))))
    all_goals (refine ⟨by simp, ⟨_, ?_, AV.le_refl _⟩, leH_get (by simp [leH, hget])⟩; simp only [Tryd.results38, resL, ldA, oneOf, go_sem])
theorem rpad_fn (ex : Bool) (l : List Nat) (hl : l.length ≤ 1000) : Fn Tryd.prog 38 [bsl ex l] [] (bsl false (padL l)) [] := by
  have h2 := Fn.frzG (d := 9) (pcs := (padL l).flatMap bpv) (rpad_row ex l hl)
  simp only [AV.frz, beq_self_eq_true, if_true] at h2
  rw [if_pos (by rw [flat_length bpv_len])] at h2
  exact h2
end Go.Proofs.YtgdjkkapgghdbaaDoor

