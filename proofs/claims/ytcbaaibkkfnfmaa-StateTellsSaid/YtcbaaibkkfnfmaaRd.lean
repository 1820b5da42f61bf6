/-
  Sums and differences of words as the document has them; reckoned.
-/
import Derived.Test.YtcbaaibkkfnfmaaRc
namespace Go.Proofs.Ytcbaaibkkfnfmaa
open Go.RowKit
open Nat (reduceBEq)
set_option linter.unusedVariables false
set_option linter.unusedSimpArgs false
set_option maxRecDepth 20000
set_option maxHeartbeats 2000000
theorem over_bit {x y : Nat} (hx : x < WW) (hy : y < WW) : (((bitN (x + y) 256 : Nat) : Int) == 1) = decide (WW ≤ x + y) := by
  have hx' : x < 2 ^ 256 := hx
  have hy' : y < 2 ^ 256 := hy
  have hW : WW = 2 ^ 256 := rfl
  rw [hW]
  unfold bitN
  generalize (2 : Nat) ^ 256 = M at hx' hy' ⊢
  rw [Bool.eq_iff_iff]
  simp only [beq_iff_eq, decide_eq_true_eq]
  have h1 : (x + y) / M < 2 := Nat.div_lt_of_lt_mul (by omega)
  rcases Nat.lt_or_ge (x + y) M with h | h
  · rw [Nat.div_eq_of_lt h]; simp; omega
  · have : 1 ≤ (x + y) / M := (Nat.le_div_iff_mul_le (by omega)).2 (by omega)
    have e : (x + y) / M = 1 := by omega
    rw [e]; simp; omega
theorem refadd_fn (x y : Nat) (hx : x < WW) (hy : y < WW) : Fn Try.prog 53 [wN x, wN y] [] (.tup [wN ((x + y) % WW), vb (decide (WW ≤ x + y))]) [] := by
  have b1 := bits_fn x hx
  have b2 := bits_fn y hy
  have ad := addb_fn false false x y hx hy
  have of := ofb_fn false (x + y) 257 (by decide) (by decide)
  have ob := over_bit hx hy
  have hl := bitsL_len (x + y) 257
  have hbit := isl_at (bitsL_at (z := x + y) (show 256 < 257 by decide))
  generalize decide (WW ≤ x + y) = q at ob ⊢
  generalize (x + y) % WW = r at of ⊢
  generalize bitN (x + y) 256 = s at ob hbit
  generalize bitsL (x + y) 257 = l at ad of hl hbit
  generalize bitsL x 256 = lx at b1 ad
  generalize bitsL y 256 = ly at b2 ad
  have hl2 : 256 < l.length := by omega
  (refine fn_of Try.func53 rfl (by rfl) ?_; simp only [Try.ntmps53, List.length_cons, List.length_nil, Nat.reduceAdd, Nat.reduceSub, List.replicate, List.cons_append, List.nil_append])
  (repeat (any_goals (first | ((with_reducible refine evL_call ?_ ?_ ?_); rfl; rfl; intro K hK; (first | ((first | (apply opA_callB (ad); rfl; rfl; rfl; rfl; exact Try.func68) | (apply opA_callB (of); rfl; rfl; rfl; rfl; exact Try.func70)); kernel_rfl; rfl; (simp (disch := omega) only [go_sem, ob, hbit, hl, Nat.mul_one, Nat.reduceMul]; rfl); (simp (disch := omega) only [AV.inNL, AV.inN, inNL_map, Bool.and_true])) | ((apply opA_callB (b1); rfl; rfl; rfl; rfl; exact Try.func69); kernel_rfl; rfl; (simp (disch := omega) only [go_sem, ob, hbit, hl, Nat.mul_one, Nat.reduceMul]; rfl); (simp (disch := omega) only [AV.inNL, AV.inN, inNL_map, Bool.and_true])) | ((apply opA_callB (b2); rfl; rfl; rfl; rfl; exact Try.func69); kernel_rfl; rfl; (simp (disch := omega) only [go_sem, ob, hbit, hl, Nat.mul_one, Nat.reduceMul]; rfl); (simp (disch := omega) only [AV.inNL, AV.inN, inNL_map, Bool.and_true]))); (simp (disch := omega) only [go_sem, ob, hbit, hl, Nat.mul_one, Nat.reduceMul, go_sem]; (with_reducible refine hK _ ?_); clear hK K)) | ((with_reducible refine evL_one ?_ ?_); rfl; intro K hK; simp (disch := omega) only [go_sem, ob, hbit, hl, Nat.mul_one, Nat.reduceMul, go_sem]; ((repeat (refine And.intro (by first | assumption | omega | rfl) ?_)); (with_reducible refine hK _ ?_); clear hK K)) | ((with_reducible refine evL_nil ?_); (with_reducible refine hR _ ?_); clear hR R) | ((with_reducible first | refine evC_seq ?_ | refine evC_block ?_); intro Ψ hΨ hΨ') | ((with_reducible refine evC_region ?_); intro R hR) | ((with_reducible refine hΨ _ ?_); clear hΨ hΨ' Ψ) | ((with_reducible refine hΨ' _ _ ?_ ?_); (focus (first | ((intro hx; cases hx); done) | ((intro j hj; cases hj); done) | (intro j hj; cases hj; (decide); done))); clear hΨ hΨ' Ψ) | (with_reducible first | refine evC_skip ?_ | refine evC_ret ?_ | refine evC_exit ?_) | ((with_reducible apply evC_cond); rfl; rfl; all_goals (intro hc; first | (exact absurd hc (by decide)) | (try simp only at hc))) | ((with_reducible refine evD_nil ?_ ?_); kernel_rfl; (with_reducible refine hR _ ?_); clear hR R) | ((first | ((with_reducible apply evD_fcall); rfl; rfl; (first | ((first | (apply opF_callB (ad); rfl; rfl; rfl; rfl; exact Try.func68) | (apply opF_callB (of); rfl; rfl; rfl; rfl; exact Try.func70)); kernel_rfl; rfl; (simp (disch := omega) only [go_sem, ob, hbit, hl, Nat.mul_one, Nat.reduceMul]; rfl); (simp (disch := omega) only [AV.inNL, AV.inN, inNL_map, Bool.and_true])) | ((apply opF_callB (b1); rfl; rfl; rfl; rfl; exact Try.func69); kernel_rfl; rfl; (simp (disch := omega) only [go_sem, ob, hbit, hl, Nat.mul_one, Nat.reduceMul]; rfl); (simp (disch := omega) only [AV.inNL, AV.inN, inNL_map, Bool.and_true])) | ((apply opF_callB (b2); rfl; rfl; rfl; rfl; exact Try.func69); kernel_rfl; rfl; (simp (disch := omega) only [go_sem, ob, hbit, hl, Nat.mul_one, Nat.reduceMul]; rfl); (simp (disch := omega) only [AV.inNL, AV.inN, inNL_map, Bool.and_true])))) | ((with_reducible apply evD_any); rfl; rfl; (simp (disch := omega) only [rdE, rdOf, go_sem, ob, hbit, hl, Nat.mul_one, Nat.reduceMul]; rfl); (intro τ hA hQ hN; ((try simp (disch := omega) only [agree, Op.operands, Call.operands, go_sem, ob, hbit, hl, Nat.mul_one, Nat.reduceMul, go_sem, List.mem_cons, List.not_mem_nil, forall_eq_or_imp, forall_eq, List.append_toArray, Option.toArray] at hA); (try simp (disch := omega) only [go_sem, ob, hbit, hl, Nat.mul_one, Nat.reduceMul, List.mem_cons, List.not_mem_nil, forall_eq_or_imp, forall_eq] at hQ hN); (first | (revert hA; intro hA) | (have hA := True.intro)); (first | (revert hQ; intro hQ) | (have hQ := True.intro)); (first | (revert hN; intro hN) | (have hN := True.intro)); simp (disch := omega) only [go_sem, ob, hbit, hl, Nat.mul_one, Nat.reduceMul, go_sem, hA, hQ, hN]; (repeat (refine And.intro (by first | assumption | omega | rfl) ?_)); (first | exact eff_rd _ _ _ | exact eff_st _ _ _ | exact eff_nw _ _ _ _))))); (simp (disch := omega) only [St.eff, setO, hputs, go_sem, ob, hbit, hl, Nat.mul_one, Nat.reduceMul])) | ((with_reducible refine evC_draw ?_ ?_ ?_ ?_); kernel_rfl; kernel_rfl; (first | kernel_rfl | simp [newNames, isNew, St.free, freeH, AV.refsL, AV.refs]); intro R hR))))
  all_goals (refine ⟨by simp, ⟨_, ?_, AV.le_refl _⟩, leH_get (by simp [leH, hget])⟩; simp only [Try.results53, resL, ldA, oneOf, go_sem])
end Go.Proofs.Ytcbaaibkkfnfmaa

