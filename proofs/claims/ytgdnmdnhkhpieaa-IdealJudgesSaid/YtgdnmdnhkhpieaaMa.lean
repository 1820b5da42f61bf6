/-
  A row laid into a ledger in one pass, as the document has it. No program in sight.
-/
import Derived.Test.YtgdnmdnhkhpieaaSe
import Derived.Test.YtgdnmdnhkhpieaaAvW
import Derived.Test.YtgdnmdnhkhpieaaSs
import Derived.Test.YtgdnmdnhkhpieaaAvI
import Derived.Lib.BytesEntry
import Derived.Laws.BytesArg
import Derived.Laws.Externs
import Derived.Shelf.Bytes.SlCountOne
import Derived.Test.YtgdnmdnhkhpieaaRows
import Derived.ProofKit
import Derived.OpenShut
import Derived.ChangeOld
import Derived.Deep.Slices
import Derived.Test.YtgdnmdnhkhpieaaIg
set_option linter.unusedSimpArgs false
set_option linter.unusedVariables false
namespace Go.Proofs.Ytgdnmdnhkhpieaa
open Go.RowKit
open Nat (reduceBEq)
set_option maxRecDepth 20000
set_option maxHeartbeats 2000000
def lbit (x : Int) (k : Nat) : Int := x / 2 ^ k % 2
theorem lbit_eq {x : Int} (h : U x) (k : Nat) (hk : k < 64) : IntKind.i64.wrap (IntKind.u64.wrap ((BitVec.ofInt IntKind.u64.bits (x.fdiv (2 ^ (min k IntKind.u64.bits))) &&& BitVec.ofInt IntKind.u64.bits 1).toNat : Nat)) = lbit x k := by
  obtain ⟨h1, h2⟩ := h
  obtain ⟨N, rfl⟩ := Int.eq_ofNat_of_zero_le h1
  have hm : min k IntKind.u64.bits = k := Nat.min_eq_left (show k ≤ 64 by omega)
  have hd : ((N : Int)).fdiv (2 ^ k) = ((N / 2 ^ k : Nat) : Int) := by
    rw [Int.fdiv_eq_ediv_of_nonneg _ (Int.le_of_lt (Int.pow_pos (by decide)))]
    simp
  rw [hm, hd]
  have hle : N / 2 ^ k ≤ N := Nat.div_le_self _ _
  generalize hq : N / 2 ^ k = q at hle
  have e : (BitVec.ofInt IntKind.u64.bits (q : Int) &&& BitVec.ofInt IntKind.u64.bits 1).toNat = q % 2 := by
    show (BitVec.ofInt 64 (q : Int) &&& BitVec.ofInt 64 1).toNat = q % 2
    rw [BitVec.toNat_and]
    have e1 : (BitVec.ofInt 64 (q : Int)).toNat = q := by rw [BitVec.toNat_ofInt]; omega
    have e2 : (BitVec.ofInt 64 1).toNat = 1 := by decide
    rw [e1, e2, Nat.and_one_is_mod]
  rw [e, wrU (by omega) (by omega), wrI (by omega) (by omega)]
  unfold lbit
  have : (N : Int) / 2 ^ k = (q : Int) := by rw [← hq]; simp
  rw [this]; omega
def bitW (a b c d : Int) (n : Nat) : Int := if n < 64 then lbit a n else if n < 128 then lbit b (n - 64) else if n < 192 then lbit c (n - 128) else lbit d (n - 192)
theorem bit_fn (a b c d : Int) (u1 : U a) (u2 : U b) (u3 : U c) (u4 : U d) (n : Nat) (hn : n ≤ 255) : Fn Try.prog 63 [w4 a b c d, vi .i64 n] [] (vi .i64 (bitW a b c d n)) [] := by
  have e1 : (decide ((n : Int) < 0)) = false := by simp
  have e2 : (decide ((n : Int) > 255)) = false := by simp; omega
  have e3 : (n : Int).tdiv 64 = ((n / 64 : Nat) : Int) := rfl
  have e4 : (n : Int).tmod 64 = ((n % 64 : Nat) : Int) := rfl
  have hq : n / 64 = 0 ∨ n / 64 = 1 ∨ n / 64 = 2 ∨ n / 64 = 3 := by omega
  rcases hq with hq | hq | hq | hq
  · (refine fn_of Try.func63 rfl (by rfl) ?_; simp only [Try.ntmps63, List.length_cons, List.length_nil, Nat.reduceAdd, Nat.reduceSub, List.replicate, List.cons_append, List.nil_append])
    (have W := ndI e1 (ndI e2 (ndI e3 (ndI e4 @wrI))); (repeat (any_goals (first | ((with_reducible refine evL_one ?_ ?_); rfl; intro K hK; simp (disch := omega) only [go_sem, W, hq, Int.cast_ofNat_Int, Int.reduceEq, Int.toNat_natCast, Int.natCast_nonneg]; ((repeat (refine ndI (by first | assumption | omega | rfl) ?_)); refine hK _ ?_; clear hK K)) | (with_reducible first | (refine evL_nil ?_; refine hR _ ?_; clear hR R) | ((first | refine evC_seq ?_ | refine evC_block ?_); intro Ψ hΨ hΨ') | (refine evC_region ?_; intro R hR) | (refine hΨ _ ?_; clear hΨ hΨ' Ψ) | refine evC_skip ?_ | refine evC_ret ?_ | refine evC_exit ?_) | ((with_reducible refine hΨ' _ _ ?_ ?_); (focus (simp; done)); clear hΨ hΨ' Ψ) | ((with_reducible apply evL_unmet); rfl; rfl; rfl; (try simp (disch := omega) only [go_sem, W, hq, Int.cast_ofNat_Int, Int.reduceEq, Int.toNat_natCast, Int.natCast_nonneg])) | ((with_reducible apply evL_grd); rfl; rfl; rfl; all_goals (intro hb; first | (cases hb; done) | ((try simp only [Bool.not_true, Bool.not_false] at hb); (first | ((with_reducible intro K hK); simp (disch := omega) only [go_sem, W, hq, Int.cast_ofNat_Int, Int.reduceEq, Int.toNat_natCast, Int.natCast_nonneg]; ((repeat (refine ndI (by first | assumption | omega | rfl) ?_)); refine hK _ ?_; clear hK K)) | ((fail_if_success (with_reducible intro _)); simp (disch := omega) only [go_sem, W, hq, Int.cast_ofNat_Int, Int.reduceEq, Int.toNat_natCast, Int.natCast_nonneg]))))) | ((with_reducible apply evC_cond); rfl; rfl; all_goals (intro hc; first | (cases hc; done) | (try simp only at hc)))))))
    all_goals (refine ⟨by simp, ⟨_, ?_, AV.le_refl _⟩, leH_get (by simp [leH, hget])⟩; simp only [Try.results63, resL, ldA, oneOf, go_sem])
    show vi .i64 (IntKind.i64.wrap (IntKind.u64.wrap ((BitVec.ofInt IntKind.u64.bits (a.fdiv (2 ^ (min (n % 64) IntKind.u64.bits))) &&& BitVec.ofInt IntKind.u64.bits 1).toNat : Nat))) = _
    rw [lbit_eq u1 _ (Nat.mod_lt _ (by decide))]
    simp only [bitW, if_pos (show n < 64 by omega), Nat.mod_eq_of_lt (show n < 64 by omega)]
  · (refine fn_of Try.func63 rfl (by rfl) ?_; simp only [Try.ntmps63, List.length_cons, List.length_nil, Nat.reduceAdd, Nat.reduceSub, List.replicate, List.cons_append, List.nil_append])
    (have W := ndI e1 (ndI e2 (ndI e3 (ndI e4 @wrI))); (repeat (any_goals (first | ((with_reducible refine evL_one ?_ ?_); rfl; intro K hK; simp (disch := omega) only [go_sem, W, hq, Int.cast_ofNat_Int, Int.natCast_one, Int.reduceEq, Int.toNat_natCast, Int.natCast_nonneg]; ((repeat (refine ndI (by first | assumption | omega | rfl) ?_)); refine hK _ ?_; clear hK K)) | (with_reducible first | (refine evL_nil ?_; refine hR _ ?_; clear hR R) | ((first | refine evC_seq ?_ | refine evC_block ?_); intro Ψ hΨ hΨ') | (refine evC_region ?_; intro R hR) | (refine hΨ _ ?_; clear hΨ hΨ' Ψ) | refine evC_skip ?_ | refine evC_ret ?_ | refine evC_exit ?_) | ((with_reducible refine hΨ' _ _ ?_ ?_); (focus (simp; done)); clear hΨ hΨ' Ψ) | ((with_reducible apply evL_unmet); rfl; rfl; rfl; (try simp (disch := omega) only [go_sem, W, hq, Int.cast_ofNat_Int, Int.natCast_one, Int.reduceEq, Int.toNat_natCast, Int.natCast_nonneg])) | ((with_reducible apply evL_grd); rfl; rfl; rfl; all_goals (intro hb; first | (cases hb; done) | ((try simp only [Bool.not_true, Bool.not_false] at hb); (first | ((with_reducible intro K hK); simp (disch := omega) only [go_sem, W, hq, Int.cast_ofNat_Int, Int.natCast_one, Int.reduceEq, Int.toNat_natCast, Int.natCast_nonneg]; ((repeat (refine ndI (by first | assumption | omega | rfl) ?_)); refine hK _ ?_; clear hK K)) | ((fail_if_success (with_reducible intro _)); simp (disch := omega) only [go_sem, W, hq, Int.cast_ofNat_Int, Int.natCast_one, Int.reduceEq, Int.toNat_natCast, Int.natCast_nonneg]))))) | ((with_reducible apply evC_cond); rfl; rfl; all_goals (intro hc; first | (cases hc; done) | (try simp only at hc)))))))
    all_goals (refine ⟨by simp, ⟨_, ?_, AV.le_refl _⟩, leH_get (by simp [leH, hget])⟩; simp only [Try.results63, resL, ldA, oneOf, go_sem])
    show vi .i64 (IntKind.i64.wrap (IntKind.u64.wrap ((BitVec.ofInt IntKind.u64.bits (b.fdiv (2 ^ (min (n % 64) IntKind.u64.bits))) &&& BitVec.ofInt IntKind.u64.bits 1).toNat : Nat))) = _
    rw [lbit_eq u2 _ (Nat.mod_lt _ (by decide)), show n % 64 = n - 64 by omega]
    simp only [bitW, if_neg (show ¬ n < 64 by omega), if_pos (show n < 128 by omega)]
  · (refine fn_of Try.func63 rfl (by rfl) ?_; simp only [Try.ntmps63, List.length_cons, List.length_nil, Nat.reduceAdd, Nat.reduceSub, List.replicate, List.cons_append, List.nil_append])
    (have W := ndI e1 (ndI e2 (ndI e3 (ndI e4 @wrI))); (repeat (any_goals (first | ((with_reducible refine evL_one ?_ ?_); rfl; intro K hK; simp (disch := omega) only [go_sem, W, hq, Int.cast_ofNat_Int, Int.natCast_one, Int.reduceEq, Int.toNat_natCast, Int.natCast_nonneg]; ((repeat (refine ndI (by first | assumption | omega | rfl) ?_)); refine hK _ ?_; clear hK K)) | (with_reducible first | (refine evL_nil ?_; refine hR _ ?_; clear hR R) | ((first | refine evC_seq ?_ | refine evC_block ?_); intro Ψ hΨ hΨ') | (refine evC_region ?_; intro R hR) | (refine hΨ _ ?_; clear hΨ hΨ' Ψ) | refine evC_skip ?_ | refine evC_ret ?_ | refine evC_exit ?_) | ((with_reducible refine hΨ' _ _ ?_ ?_); (focus (simp; done)); clear hΨ hΨ' Ψ) | ((with_reducible apply evL_unmet); rfl; rfl; rfl; (try simp (disch := omega) only [go_sem, W, hq, Int.cast_ofNat_Int, Int.natCast_one, Int.reduceEq, Int.toNat_natCast, Int.natCast_nonneg])) | ((with_reducible apply evL_grd); rfl; rfl; rfl; all_goals (intro hb; first | (cases hb; done) | ((try simp only [Bool.not_true, Bool.not_false] at hb); (first | ((with_reducible intro K hK); simp (disch := omega) only [go_sem, W, hq, Int.cast_ofNat_Int, Int.natCast_one, Int.reduceEq, Int.toNat_natCast, Int.natCast_nonneg]; ((repeat (refine ndI (by first | assumption | omega | rfl) ?_)); refine hK _ ?_; clear hK K)) | ((fail_if_success (with_reducible intro _)); simp (disch := omega) only [go_sem, W, hq, Int.cast_ofNat_Int, Int.natCast_one, Int.reduceEq, Int.toNat_natCast, Int.natCast_nonneg]))))) | ((with_reducible apply evC_cond); rfl; rfl; all_goals (intro hc; first | (cases hc; done) | (try simp only at hc)))))))
    all_goals (refine ⟨by simp, ⟨_, ?_, AV.le_refl _⟩, leH_get (by simp [leH, hget])⟩; simp only [Try.results63, resL, ldA, oneOf, go_sem])
    show vi .i64 (IntKind.i64.wrap (IntKind.u64.wrap ((BitVec.ofInt IntKind.u64.bits (c.fdiv (2 ^ (min (n % 64) IntKind.u64.bits))) &&& BitVec.ofInt IntKind.u64.bits 1).toNat : Nat))) = _
    rw [lbit_eq u3 _ (Nat.mod_lt _ (by decide)), show n % 64 = n - 128 by omega]
    simp only [bitW, if_neg (show ¬ n < 64 by omega), if_neg (show ¬ n < 128 by omega), if_pos (show n < 192 by omega)]
  · (refine fn_of Try.func63 rfl (by rfl) ?_; simp only [Try.ntmps63, List.length_cons, List.length_nil, Nat.reduceAdd, Nat.reduceSub, List.replicate, List.cons_append, List.nil_append])
    (have W := ndI e1 (ndI e2 (ndI e3 (ndI e4 @wrI))); (repeat (any_goals (first | ((with_reducible refine evL_one ?_ ?_); rfl; intro K hK; simp (disch := omega) only [go_sem, W, hq, Int.cast_ofNat_Int, Int.natCast_one, Int.reduceEq, Int.toNat_natCast, Int.natCast_nonneg]; ((repeat (refine ndI (by first | assumption | omega | rfl) ?_)); refine hK _ ?_; clear hK K)) | (with_reducible first | (refine evL_nil ?_; refine hR _ ?_; clear hR R) | ((first | refine evC_seq ?_ | refine evC_block ?_); intro Ψ hΨ hΨ') | (refine evC_region ?_; intro R hR) | (refine hΨ _ ?_; clear hΨ hΨ' Ψ) | refine evC_skip ?_ | refine evC_ret ?_ | refine evC_exit ?_) | ((with_reducible refine hΨ' _ _ ?_ ?_); (focus (simp; done)); clear hΨ hΨ' Ψ) | ((with_reducible apply evL_unmet); rfl; rfl; rfl; (try simp (disch := omega) only [go_sem, W, hq, Int.cast_ofNat_Int, Int.natCast_one, Int.reduceEq, Int.toNat_natCast, Int.natCast_nonneg])) | ((with_reducible apply evL_grd); rfl; rfl; rfl; all_goals (intro hb; first | (cases hb; done) | ((try simp only [Bool.not_true, Bool.not_false] at hb); (first | ((with_reducible intro K hK); simp (disch := omega) only [go_sem, W, hq, Int.cast_ofNat_Int, Int.natCast_one, Int.reduceEq, Int.toNat_natCast, Int.natCast_nonneg]; ((repeat (refine ndI (by first | assumption | omega | rfl) ?_)); refine hK _ ?_; clear hK K)) | ((fail_if_success (with_reducible intro _)); simp (disch := omega) only [go_sem, W, hq, Int.cast_ofNat_Int, Int.natCast_one, Int.reduceEq, Int.toNat_natCast, Int.natCast_nonneg]))))) | ((with_reducible apply evC_cond); rfl; rfl; all_goals (intro hc; first | (cases hc; done) | (try simp only at hc)))))))
    all_goals (refine ⟨by simp, ⟨_, ?_, AV.le_refl _⟩, leH_get (by simp [leH, hget])⟩; simp only [Try.results63, resL, ldA, oneOf, go_sem])
    show vi .i64 (IntKind.i64.wrap (IntKind.u64.wrap ((BitVec.ofInt IntKind.u64.bits (d.fdiv (2 ^ (min (n % 64) IntKind.u64.bits))) &&& BitVec.ofInt IntKind.u64.bits 1).toNat : Nat))) = _
    rw [lbit_eq u4 _ (Nat.mod_lt _ (by decide)), show n % 64 = n - 192 by omega]
    simp only [bitW, if_neg (show ¬ n < 64 by omega), if_neg (show ¬ n < 128 by omega), if_neg (show ¬ n < 192 by omega)]
/-! a word as a number -/
def VW (a b c d : Int) : Nat := a.toNat + 18446744073709551616 * (b.toNat + 18446744073709551616 * (c.toNat + 18446744073709551616 * d.toNat))
theorem bit_lo (A R k : Nat) (hk : k < 64) : (A + 18446744073709551616 * R) / 2 ^ k % 2 = A / 2 ^ k % 2 := by
  have e : (18446744073709551616 : Nat) = 2 ^ k * (2 * 2 ^ (63 - k)) := by
    rw [← Nat.pow_succ', ← Nat.pow_add, show k + (63 - k).succ = 64 by omega]
  rw [e, Nat.mul_assoc, Nat.add_mul_div_left _ _ (Nat.pos_of_ne_zero (by simp)), Nat.mul_assoc 2, Nat.add_mul_mod_self_left]
theorem bit_hi (A R k : Nat) (hA : A < 18446744073709551616) (hk : 64 ≤ k) : (A + 18446744073709551616 * R) / 2 ^ k = R / 2 ^ (k - 64) := by
  have e : (2 : Nat) ^ k = 18446744073709551616 * 2 ^ (k - 64) := by
    rw [show (18446744073709551616 : Nat) = 2 ^ 64 by decide, ← Nat.pow_add, show 64 + (k - 64) = k by omega]
  rw [e, ← Nat.div_div_eq_div_mul, Nat.add_mul_div_left _ _ (by decide), Nat.div_eq_of_lt hA, Nat.zero_add]
theorem lbit_nat {x : Int} (h : U x) (k : Nat) : lbit x k = ((x.toNat / 2 ^ k % 2 : Nat) : Int) := by
  obtain ⟨N, rfl⟩ := Int.eq_ofNat_of_zero_le h.1
  unfold lbit
  have : (N : Int) / 2 ^ k = ((N / 2 ^ k : Nat) : Int) := by simp
  rw [this]; simp
theorem bitW_val {a b c d : Int} (u1 : U a) (u2 : U b) (u3 : U c) (u4 : U d) (n : Nat) (hn : n ≤ 255) : bitW a b c d n = ((VW a b c d / 2 ^ n % 2 : Nat) : Int) := by
  unfold bitW VW
  have h1 : a.toNat < 18446744073709551616 := by have := u1.2; omega
  have h2 : b.toNat < 18446744073709551616 := by have := u2.2; omega
  have h3 : c.toNat < 18446744073709551616 := by have := u3.2; omega
  split
  · rw [lbit_nat u1, bit_lo _ _ _ (by omega)]
  · rw [bit_hi _ _ _ h1 (by omega)]
    split
    · rw [lbit_nat u2, bit_lo _ _ _ (by omega)]
    · rw [bit_hi _ _ _ h2 (by omega)]
      split
      · rw [lbit_nat u3, show n - 64 - 64 = n - 128 by omega, bit_lo _ _ _ (by omega)]
      · rw [show n - 64 - 64 = n - 128 by omega, bit_hi _ _ _ h3 (by omega), lbit_nat u4, show n - 128 - 64 = n - 192 by omega]
theorem VW_wN {x : Nat} (h : x < WW) : VW (l0 x) (l1 x) (l2 x) (l3 x) = x := by
  obtain ⟨a, b, c, d, e, _, _, _, _, e0, e1, e2, e3⟩ := split_w h
  rw [e0, e1, e2, e3]
  unfold VW
  simp only [Int.toNat_natCast]
  exact e.symm
def bitN (x n : Nat) : Nat := x / 2 ^ n % 2
theorem bitN_fn (x : Nat) (hx : x < WW) (n : Nat) (hn : n ≤ 255) : Fn Try.prog 63 [wN x, vi .i64 n] [] (vi .i64 (bitN x n : Nat)) [] := by
  have h := bit_fn (l0 x) (l1 x) (l2 x) (l3 x) (U0 x) (U1 x) (U2 x) (U3 x) n hn
  rw [bitW_val (U0 x) (U1 x) (U2 x) (U3 x) n hn, VW_wN hx] at h
  exact h
def cmpN (x y : Nat) : Int := if x < y then -1 else if y < x then 1 else 0
theorem cmpN_lt {x y n : Nat} (h1 : x / 2 ^ (n + 1) = y / 2 ^ (n + 1)) (h2 : x / 2 ^ n % 2 < y / 2 ^ n % 2) : x < y := by
  rw [Nat.pow_succ, ← Nat.div_div_eq_div_mul, ← Nat.div_div_eq_div_mul] at h1
  rcases Nat.lt_or_ge x y with h | h
  · exact h
  · have := Nat.div_le_div_right (c := 2 ^ n) h; omega
theorem cmpN_eq {x y n : Nat} (h1 : x / 2 ^ (n + 1) = y / 2 ^ (n + 1)) (h2 : x / 2 ^ n % 2 = y / 2 ^ n % 2) : x / 2 ^ n = y / 2 ^ n := by
  rw [Nat.pow_succ, ← Nat.div_div_eq_div_mul, ← Nat.div_div_eq_div_mul] at h1
  omega
theorem refcmp_fn (x y : Nat) (lx : x < WW) (ly : y < WW) : Fn Try.prog 43 [wN x, wN y] [] (vi .i64 (cmpN x y)) [] := by
  (refine fn_of Try.func43 rfl (by rfl) ?_; simp only [Try.ntmps43, List.length_cons, List.length_nil, Nat.reduceAdd, Nat.reduceSub, List.replicate, List.cons_append, List.nil_append])
  (repeat (any_goals (first | ((with_reducible refine evL_one ?_ ?_); rfl; intro K hK; simp only [go_sem]; ((repeat (refine ndI (by first | assumption | omega | rfl) ?_)); refine hK _ ?_; clear hK K)) | (with_reducible first | (refine evL_nil ?_; refine hR _ ?_; clear hR R) | ((first | refine evC_seq ?_ | refine evC_block ?_); intro Ψ hΨ hΨ') | (refine evC_region ?_; intro R hR) | (refine hΨ _ ?_; clear hΨ hΨ' Ψ) | refine evC_skip ?_ | refine evC_ret ?_ | refine evC_exit ?_) | ((with_reducible refine hΨ' _ _ ?_ ?_); (focus (simp; done)); clear hΨ hΨ' Ψ) | ((with_reducible apply evC_cond); rfl; rfl; all_goals (intro hc; first | (cases hc; done) | (try simp only at hc))) | ((with_reducible refine evD_nil ?_ ?_); kernel_rfl; (with_reducible refine hR _ ?_); clear hR R) | (((with_reducible apply evD_any); rfl; rfl; (simp only [rdE, rdOf, go_sem]; rfl); (intro τ hA hQ hN; ((try simp only [agree, Op.operands, Call.operands, go_sem, List.mem_cons, List.not_mem_nil, forall_eq_or_imp, forall_eq, List.append_toArray, Option.toArray] at hA); (try simp only [go_sem, List.mem_cons, List.not_mem_nil, forall_eq_or_imp, forall_eq] at hQ hN); (first | (revert hA; intro hA) | have hA := trivial); (first | (revert hQ; intro hQ) | have hQ := trivial); (first | (revert hN; intro hN) | have hN := trivial); simp only [go_sem, hA, hQ, hN]; (repeat (refine ndI (by first | assumption | omega | rfl) ?_)); (first | apply eff_rd | apply eff_st | apply eff_nw)))); (simp only [St.eff, setO, hputs, go_sem])) | ((with_reducible refine evC_draw ?_ ?_ ?_ ?_); kernel_rfl; kernel_rfl; (first | kernel_rfl | simp [newNames, isNew, St.free, freeH, AV.refsL, AV.refs]); intro R hR))))
  refine evC_loop (α := { i : Nat // i ≤ 256 ∧ x / 2 ^ i = y / 2 ^ i }) (fun p => ⟨[.any, .any, .ptr 2 0, .ptr 3 0, vi .i64 0, vi .i64 ((p.1 : Int) - 1), .any, .any, .any, .any, .any, .any, .any, .any, .any, .any, .any, .any, .any, .any, .any, .any, .any, .any], [(2, [vi .u64 (l0 x), vi .u64 (l1 x), vi .u64 (l2 x), vi .u64 (l3 x)]), (3, [vi .u64 (l0 y), vi .u64 (l1 y), vi .u64 (l2 y), vi .u64 (l3 y)])]⟩) (fun p => p.1) ⟨256, Nat.le_refl _, by rw [Nat.div_eq_of_lt (show x < 2 ^ 256 from lx), Nat.div_eq_of_lt (show y < 2 ^ 256 from ly)]⟩ (St.le_of (by simp [leT]) (by simp [leH, hget])) ?_
  rintro ⟨i, h1, h2⟩ Ψ hΨ hΨ'
  dsimp only at hΨ ⊢
  rcases i with _ | n
  · simp only [Nat.pow_zero, Nat.div_one] at h2
    have hr : cmpN x y = 0 := by rw [h2]; simp [cmpN]
    have e1 : (decide (((0 : Nat) : Int) - 1 ≥ 0)) = false := by decide
    (repeat (any_goals (first | ((with_reducible refine evL_one ?_ ?_); rfl; intro K hK; simp only [go_sem, e1]; ((repeat (refine ndI (by first | assumption | omega | rfl) ?_)); refine hK _ ?_; clear hK K)) | (with_reducible first | (refine evL_nil ?_; refine hR _ ?_; clear hR R) | ((first | refine evC_seq ?_ | refine evC_block ?_); intro Ψ hΨ hΨ') | (refine evC_region ?_; intro R hR) | (refine hΨ _ ?_; clear hΨ hΨ' Ψ) | refine evC_skip ?_ | refine evC_ret ?_ | refine evC_exit ?_) | ((with_reducible refine hΨ' _ _ ?_ ?_); (focus (simp; done)); clear hΨ hΨ' Ψ) | ((with_reducible apply evC_cond); rfl; rfl; all_goals (intro hc; first | (cases hc; done) | (try simp only at hc))) | ((with_reducible refine evD_nil ?_ ?_); kernel_rfl; (with_reducible refine hR _ ?_); clear hR R) | (((with_reducible apply evD_any); rfl; rfl; (simp only [rdE, rdOf, go_sem, e1]; rfl); (intro τ hA hQ hN; ((try simp only [agree, Op.operands, Call.operands, go_sem, e1, go_sem, List.mem_cons, List.not_mem_nil, forall_eq_or_imp, forall_eq, List.append_toArray, Option.toArray] at hA); (try simp only [go_sem, e1, List.mem_cons, List.not_mem_nil, forall_eq_or_imp, forall_eq] at hQ hN); (first | (revert hA; intro hA) | have hA := trivial); (first | (revert hQ; intro hQ) | have hQ := trivial); (first | (revert hN; intro hN) | have hN := trivial); simp only [go_sem, e1, go_sem, hA, hQ, hN]; (repeat (refine ndI (by first | assumption | omega | rfl) ?_)); (first | apply eff_rd | apply eff_st | apply eff_nw)))); (simp only [St.eff, setO, hputs, go_sem, e1])) | ((with_reducible refine evC_draw ?_ ?_ ?_ ?_); kernel_rfl; kernel_rfl; (first | kernel_rfl | simp [newNames, isNew, St.free, freeH, AV.refsL, AV.refs]); intro R hR))))
    all_goals rw [hr]
    all_goals (refine ⟨by simp, ⟨_, ?_, AV.le_refl _⟩, leH_get (by simp [leH, hget])⟩; simp only [Try.results43, resL, ldA, oneOf, go_sem])
  · have e0 : ((n + 1 : Nat) : Int) - 1 = (n : Int) := by omega
    have e1 : (decide ((n : Int) ≥ 0)) = true := by simp
    have b1 := bitN_fn x lx n (by omega)
    have b2 := bitN_fn y ly n (by omega)
    obtain ⟨p, hp⟩ : ∃ p, bitN x n = p := ⟨_, rfl⟩
    obtain ⟨q, hq⟩ : ∃ q, bitN y n = q := ⟨_, rfl⟩
    rw [hp] at b1
    rw [hq] at b2
    have hp' : x / 2 ^ n % 2 = p := hp
    have hq' : y / 2 ^ n % 2 = q := hq
    rw [e0]
    rcases Nat.lt_trichotomy p q with hpq | hpq | hpq
    · have hr : cmpN x y = -1 := by
        have hlt := cmpN_lt h2 (by rw [hp', hq']; exact hpq)
        simp [cmpN, hlt]
      have d1 : decide ((p : Int) < (q : Int)) = true := by simp; omega
      (have W := ndI e1 (ndI d1 @wrI); (repeat (any_goals (first | ((with_reducible refine evL_one ?_ ?_); rfl; intro K hK; simp (disch := omega) only [go_sem, W]; ((repeat (refine ndI (by first | assumption | omega | rfl) ?_)); refine hK _ ?_; clear hK K)) | (with_reducible first | (refine evL_nil ?_; refine hR _ ?_; clear hR R) | ((first | refine evC_seq ?_ | refine evC_block ?_); intro Ψ hΨ hΨ') | (refine evC_region ?_; intro R hR) | (refine hΨ _ ?_; clear hΨ hΨ' Ψ) | refine evC_skip ?_ | refine evC_ret ?_ | refine evC_exit ?_) | ((with_reducible refine hΨ' _ _ ?_ ?_); (focus (simp; done)); clear hΨ hΨ' Ψ) | ((with_reducible apply evC_cond); rfl; rfl; all_goals (intro hc; first | (cases hc; done) | (try simp only at hc))) | ((with_reducible refine evD_nil ?_ ?_); kernel_rfl; (with_reducible refine hR _ ?_); clear hR R) | ((first | ((with_reducible apply evD_fcall); rfl; rfl; (first | ((apply opF_callB (b1); rfl; rfl; rfl; rfl; exact Try.func63); kernel_rfl; rfl; (simp (disch := omega) only [go_sem, W]; rfl); (first | rfl | simp [AV.inNL, AV.inN])) | ((apply opF_callB (b2); rfl; rfl; rfl; rfl; exact Try.func63); kernel_rfl; rfl; (simp (disch := omega) only [go_sem, W]; rfl); (first | rfl | simp [AV.inNL, AV.inN])))) | ((with_reducible apply evD_any); rfl; rfl; (simp (disch := omega) only [rdE, rdOf, go_sem, W]; rfl); (intro τ hA hQ hN; ((try simp only [agree, Op.operands, Call.operands, go_sem, W, go_sem, List.mem_cons, List.not_mem_nil, forall_eq_or_imp, forall_eq, List.append_toArray, Option.toArray] at hA); (try simp only [go_sem, W, List.mem_cons, List.not_mem_nil, forall_eq_or_imp, forall_eq] at hQ hN); (first | (revert hA; intro hA) | have hA := trivial); (first | (revert hQ; intro hQ) | have hQ := trivial); (first | (revert hN; intro hN) | have hN := trivial); simp (disch := omega) only [go_sem, W, go_sem, hA, hQ, hN]; (repeat (refine ndI (by first | assumption | omega | rfl) ?_)); (first | apply eff_rd | apply eff_st | apply eff_nw))))); (simp (disch := omega) only [St.eff, setO, hputs, go_sem, W])) | ((with_reducible refine evC_draw ?_ ?_ ?_ ?_); kernel_rfl; kernel_rfl; (first | kernel_rfl | simp [newNames, isNew, St.free, freeH, AV.refsL, AV.refs]); intro R hR)))))
      all_goals rw [hr]
      all_goals (refine ⟨by simp, ⟨_, ?_, AV.le_refl _⟩, leH_get (by simp [leH, hget])⟩; simp only [Try.results43, resL, ldA, oneOf, go_sem])
    · have d1 : decide ((p : Int) < (q : Int)) = false := by simp; omega
      have d2 : decide ((p : Int) > (q : Int)) = false := by simp; omega
      (have W := ndI e1 (ndI d1 (ndI d2 @wrI)); (repeat (any_goals (first | ((with_reducible refine evL_one ?_ ?_); rfl; intro K hK; simp (disch := omega) only [go_sem, W]; ((repeat (refine ndI (by first | assumption | omega | rfl) ?_)); refine hK _ ?_; clear hK K)) | (with_reducible first | (refine evL_nil ?_; refine hR _ ?_; clear hR R) | ((first | refine evC_seq ?_ | refine evC_block ?_); intro Ψ hΨ hΨ') | (refine evC_region ?_; intro R hR) | (refine hΨ _ ?_; clear hΨ hΨ' Ψ) | refine evC_skip ?_ | refine evC_ret ?_ | refine evC_exit ?_) | ((with_reducible refine hΨ' _ _ ?_ ?_); (focus (simp; done)); clear hΨ hΨ' Ψ) | ((with_reducible apply evC_cond); rfl; rfl; all_goals (intro hc; first | (cases hc; done) | (try simp only at hc))) | ((with_reducible refine evD_nil ?_ ?_); kernel_rfl; (with_reducible refine hR _ ?_); clear hR R) | ((first | ((with_reducible apply evD_fcall); rfl; rfl; (first | ((apply opF_callB (b1); rfl; rfl; rfl; rfl; exact Try.func63); kernel_rfl; rfl; (simp (disch := omega) only [go_sem, W]; rfl); (first | rfl | simp [AV.inNL, AV.inN])) | ((apply opF_callB (b2); rfl; rfl; rfl; rfl; exact Try.func63); kernel_rfl; rfl; (simp (disch := omega) only [go_sem, W]; rfl); (first | rfl | simp [AV.inNL, AV.inN])))) | ((with_reducible apply evD_any); rfl; rfl; (simp (disch := omega) only [rdE, rdOf, go_sem, W]; rfl); (intro τ hA hQ hN; ((try simp only [agree, Op.operands, Call.operands, go_sem, W, go_sem, List.mem_cons, List.not_mem_nil, forall_eq_or_imp, forall_eq, List.append_toArray, Option.toArray] at hA); (try simp only [go_sem, W, List.mem_cons, List.not_mem_nil, forall_eq_or_imp, forall_eq] at hQ hN); (first | (revert hA; intro hA) | have hA := trivial); (first | (revert hQ; intro hQ) | have hQ := trivial); (first | (revert hN; intro hN) | have hN := trivial); simp (disch := omega) only [go_sem, W, go_sem, hA, hQ, hN]; (repeat (refine ndI (by first | assumption | omega | rfl) ?_)); (first | apply eff_rd | apply eff_st | apply eff_nw))))); (simp (disch := omega) only [St.eff, setO, hputs, go_sem, W])) | ((with_reducible refine evC_draw ?_ ?_ ?_ ?_); kernel_rfl; kernel_rfl; (first | kernel_rfl | simp [newNames, isNew, St.free, freeH, AV.refsL, AV.refs]); intro R hR)))))
      all_goals exact hΨ _ ⟨n, by omega, cmpN_eq h2 (by rw [hp', hq', hpq])⟩ (by simp) (St.le_of (by simp [leT]) (by simp [leH, hget]))
    · have hr : cmpN x y = 1 := by
        have hlt := cmpN_lt h2.symm (by rw [hp', hq']; exact hpq)
        simp [cmpN, hlt, Nat.lt_asymm hlt]
      have d1 : decide ((p : Int) < (q : Int)) = false := by simp; omega
      have d2 : decide ((p : Int) > (q : Int)) = true := by simp; omega
      (have W := ndI e1 (ndI d1 (ndI d2 @wrI)); (repeat (any_goals (first | ((with_reducible refine evL_one ?_ ?_); rfl; intro K hK; simp (disch := omega) only [go_sem, W]; ((repeat (refine ndI (by first | assumption | omega | rfl) ?_)); refine hK _ ?_; clear hK K)) | (with_reducible first | (refine evL_nil ?_; refine hR _ ?_; clear hR R) | ((first | refine evC_seq ?_ | refine evC_block ?_); intro Ψ hΨ hΨ') | (refine evC_region ?_; intro R hR) | (refine hΨ _ ?_; clear hΨ hΨ' Ψ) | refine evC_skip ?_ | refine evC_ret ?_ | refine evC_exit ?_) | ((with_reducible refine hΨ' _ _ ?_ ?_); (focus (simp; done)); clear hΨ hΨ' Ψ) | ((with_reducible apply evC_cond); rfl; rfl; all_goals (intro hc; first | (cases hc; done) | (try simp only at hc))) | ((with_reducible refine evD_nil ?_ ?_); kernel_rfl; (with_reducible refine hR _ ?_); clear hR R) | ((first | ((with_reducible apply evD_fcall); rfl; rfl; (first | ((apply opF_callB (b1); rfl; rfl; rfl; rfl; exact Try.func63); kernel_rfl; rfl; (simp (disch := omega) only [go_sem, W]; rfl); (first | rfl | simp [AV.inNL, AV.inN])) | ((apply opF_callB (b2); rfl; rfl; rfl; rfl; exact Try.func63); kernel_rfl; rfl; (simp (disch := omega) only [go_sem, W]; rfl); (first | rfl | simp [AV.inNL, AV.inN])))) | ((with_reducible apply evD_any); rfl; rfl; (simp (disch := omega) only [rdE, rdOf, go_sem, W]; rfl); (intro τ hA hQ hN; ((try simp only [agree, Op.operands, Call.operands, go_sem, W, go_sem, List.mem_cons, List.not_mem_nil, forall_eq_or_imp, forall_eq, List.append_toArray, Option.toArray] at hA); (try simp only [go_sem, W, List.mem_cons, List.not_mem_nil, forall_eq_or_imp, forall_eq] at hQ hN); (first | (revert hA; intro hA) | have hA := trivial); (first | (revert hQ; intro hQ) | have hQ := trivial); (first | (revert hN; intro hN) | have hN := trivial); simp (disch := omega) only [go_sem, W, go_sem, hA, hQ, hN]; (repeat (refine ndI (by first | assumption | omega | rfl) ?_)); (first | apply eff_rd | apply eff_st | apply eff_nw))))); (simp (disch := omega) only [St.eff, setO, hputs, go_sem, W])) | ((with_reducible refine evC_draw ?_ ?_ ?_ ?_); kernel_rfl; kernel_rfl; (first | kernel_rfl | simp [newNames, isNew, St.free, freeH, AV.refsL, AV.refs]); intro R hR)))))
      all_goals rw [hr]
      all_goals (refine ⟨by simp, ⟨_, ?_, AV.le_refl _⟩, leH_get (by simp [leH, hget])⟩; simp only [Try.results43, resL, ldA, oneOf, go_sem])
end Go.Proofs.Ytgdnmdnhkhpieaa
namespace Go.Proofs.Ytgdnmdnhkhpieaa
open Go.RowKit
open Nat (reduceBEq)
set_option maxRecDepth 20000
set_option maxHeartbeats 2000000
def ipv (n : Nat) : List PV := [.v (.int .i64 (n : Int))]
theorem ipv_len (n : Nat) : (ipv n).length = 1 := rfl
abbrev isl (ex : Bool) (l : List Nat) : AV := .c (.sl ex 1 l.length (l.flatMap ipv))
def rcI (l : List Nat) : List AV := (l.flatMap ipv).map .c
theorem rcI_len (l : List Nat) : (rcI l).length = l.length * 1 := by unfold rcI; rw [List.length_map, flat_length ipv_len]
theorem refsL_rcI (d : Nat) (l : List Nat) : AV.refsL d (rcI l) = false := by unfold rcI; exact refsL_map _ _
theorem isl_at {l : List Nat} {i : Nat} {y : Nat} (h : l[i]? = some y) : ((l.flatMap ipv).drop i).take 1 = [.v (.int .i64 (y : Int))] := by
  have h2 := flat_at (f := ipv) ipv_len h
  rw [Nat.mul_one] at h2
  exact h2
def bitsL (z k : Nat) : List Nat := (List.range k).map (bitN z)
theorem bitsL_len (z k : Nat) : (bitsL z k).length = k := by simp [bitsL]
theorem bitsL_at {z k i : Nat} (h : i < k) : (bitsL z k)[i]? = some (bitN z i) := by simp [bitsL, h]
theorem bitsL_succ (z k : Nat) : bitsL z (k + 1) = bitsL z k ++ [bitN z k] := by simp [bitsL, List.range_succ]
theorem bitN_lt (x n : Nat) : bitN x n < 2 := Nat.mod_lt _ (by decide)
/-! a word's bits -/
abbrev stI (x : Nat) (r : Nat) (out : List Nat) (i : Int) : St := ⟨[.any, vi .i64 256, .ptr 2 0, .any, .any, .row r 3 1 out.length, .any, vi .i64 256, vi .i64 i, .any, .any, .any, .any, .any, .any, .any, .any, .any, .any], [(2, [vi .u64 (l0 x), vi .u64 (l1 x), vi .u64 (l2 x), vi .u64 (l3 x)]), (r, rcI out)]⟩
theorem stI_rn (x : Nat) (out : List Nat) (i : Int) : (stI x 16 out i).to (stI x 500 out i) := by
  have h := St.to.rn (σ := stI x 16 out i) (fun r => if r = 16 then 500 else r) (fun r => if r = 500 then 16 else r) [2, 16] (by simp [AV.inNL, AV.inN]) (by simp) (by simp [inH, AV.inNL, AV.inN, rcI]) (by simp) (by simp)
  simpa [AV.renL, AV.ren, renH, rcI, stI] using h
theorem bits_row (x : Nat) (hx : x < WW) : Fn Try.prog 82 [wN x, vi .i64 256] [] (.row 500 3 1 256) [(500, rcI (bitsL x 256))] := by
  (refine fn_of Try.func82 rfl (by rfl) ?_; simp only [Try.ntmps82, List.length_cons, List.length_nil, Nat.reduceAdd, Nat.reduceSub, List.replicate, List.cons_append, List.nil_append])
  (repeat (any_goals (first | ((with_reducible refine evL_one ?_ ?_); rfl; intro K hK; simp only [go_sem]; ((repeat (refine ndI (by first | assumption | omega | rfl) ?_)); refine hK _ ?_; clear hK K)) | (with_reducible first | (refine evL_nil ?_; refine hR _ ?_; clear hR R) | ((first | refine evC_seq ?_ | refine evC_block ?_); intro Ψ hΨ hΨ') | (refine evC_region ?_; intro R hR) | (refine hΨ _ ?_; clear hΨ hΨ' Ψ) | refine evC_skip ?_ | refine evC_ret ?_ | refine evC_exit ?_) | ((with_reducible refine hΨ' _ _ ?_ ?_); (focus (simp; done)); clear hΨ hΨ' Ψ) | ((with_reducible apply evC_cond); rfl; rfl; all_goals (intro hc; first | (cases hc; done) | (try simp only at hc))))))
  refine evC_uptoT 256 (fun i => stI x 500 (bitsL x i) (i : Int)) ?_ ?_
  · refine St.to.trans (St.to.of_le (τ := ⟨[.any, vi .i64 256, .ptr 2 0, .any, .any, .c (.v (.slice none 0 0)), .any, vi .i64 256, vi .i64 0, .any, .any, .any, .any, .any, .any, .any, .any, .any, .any], [(2, [vi .u64 (l0 x), vi .u64 (l1 x), vi .u64 (l2 x), vi .u64 (l3 x)])]⟩) (St.le_of (by simp [leT]) (by simp [leH, hget]))) ?_
    refine St.to.trans (St.to.nilrow 5 500 3 1 rfl (by simp) (by simp [St.free, freeH, AV.refsL, AV.refs]) (by decide)) (St.to.of_le (St.le_of (by simp [leT, bitsL]) (by simp [leH, hget, hput, rcI, bitsL])))
  intro i hi Ψ hΨ hΨ'
  dsimp only [stI] at hΨ ⊢
  rcases Nat.lt_or_ge i 256 with hlt | hge
  · have k1 : (decide ((i : Int) < 256)) = true := by simp; omega
    have k7 : (i : Int) + 1 = ((i + 1 : Nat) : Int) := by omega
    have bt := bitN_fn x hx i (by omega)
    have ht := bitsL_succ x i
    have hol := bitsL_len x i
    rw [ht] at hΨ
    generalize bitsL x i = out at hΨ hol ⊢
    have k2 := rcI_len out
    (have W := ndI k1 (ndI k2 (ndI k7 (ndI @wrI @refsL_map))); (repeat (any_goals (first | ((with_reducible refine evL_call ?_ ?_ ?_); rfl; rfl; intro K hK; ((apply opA_callB (bt); rfl; rfl; rfl; rfl; exact Try.func63); kernel_rfl; rfl; (simp (disch := omega) only [go_sem, W, refsL_rcI, refsL_app, AV.refsL, AV.refs, List.length_append, List.length_cons, List.length_nil, Bool.or_false]; rfl); (first | rfl | simp [AV.inNL, AV.inN])); (simp (disch := omega) only [go_sem, W, refsL_rcI, refsL_app, AV.refsL, AV.refs, List.length_append, List.length_cons, List.length_nil, Bool.or_false]; refine hK _ ?_; clear hK K)) | ((with_reducible refine evL_one ?_ ?_); rfl; intro K hK; simp (disch := omega) only [go_sem, W, refsL_rcI, refsL_app, AV.refsL, AV.refs, List.length_append, List.length_cons, List.length_nil, Bool.or_false]; ((repeat (refine ndI (by first | assumption | omega | rfl) ?_)); refine hK _ ?_; clear hK K)) | (with_reducible first | (refine evL_nil ?_; refine hR _ ?_; clear hR R) | ((first | refine evC_seq ?_ | refine evC_block ?_); intro Ψ hΨ hΨ') | (refine evC_region ?_; intro R hR) | (refine hΨ _ ?_; clear hΨ hΨ' Ψ) | refine evC_skip ?_ | refine evC_ret ?_ | refine evC_exit ?_) | ((with_reducible refine hΨ' _ _ ?_ ?_); (focus (simp; done)); clear hΨ hΨ' Ψ) | ((with_reducible apply evC_cond); rfl; rfl; all_goals (intro hc; first | (cases hc; done) | (try simp only at hc)))))))
    all_goals exact hΨ _ hlt (St.to.trans (St.to.of_le (τ := stI x 16 (out ++ [bitN x i]) ((i + 1 : Nat) : Int)) (St.le_of (by simp [leT]) (by simp [leH, hget, rcI, ipv]))) (stI_rn x _ _))
  · have k1 : (decide ((i : Int) < 256)) = false := by simp; omega
    obtain rfl : i = 256 := by omega
    rw [bitsL_len]
    (repeat (any_goals (first | ((with_reducible refine evL_one ?_ ?_); rfl; intro K hK; simp only [go_sem, k1]; ((repeat (refine ndI (by first | assumption | omega | rfl) ?_)); refine hK _ ?_; clear hK K)) | (with_reducible first | (refine evL_nil ?_; refine hR _ ?_; clear hR R) | ((first | refine evC_seq ?_ | refine evC_block ?_); intro Ψ hΨ hΨ') | (refine evC_region ?_; intro R hR) | (refine hΨ _ ?_; clear hΨ hΨ' Ψ) | refine evC_skip ?_ | refine evC_ret ?_ | refine evC_exit ?_) | ((with_reducible refine hΨ' _ _ ?_ ?_); (focus (simp; done)); clear hΨ hΨ' Ψ) | ((with_reducible apply evC_cond); rfl; rfl; all_goals (intro hc; first | (cases hc; done) | (try simp only at hc))))))
    all_goals (refine ⟨by simp, ⟨_, ?_, AV.le_refl _⟩, leH_get (by simp [leH, hget])⟩; simp only [Try.results82, resL, ldA, oneOf, go_sem])
theorem frzI {f : FuncId} {args : List AV} {d e n : Nat} {l : List Nat} (hn : l.length = n) (h : Fn Try.prog f args [] (.row d e 1 n) [(d, rcI l)]) : Fn Try.prog f args [] (isl false l) [] := by
  subst hn
  have h := Fn.frzG (d := d) (pcs := l.flatMap ipv) h
  simp only [AV.frz, beq_self_eq_true, if_true] at h
  rw [if_pos (flat_length ipv_len l).symm] at h
  exact h
theorem bits_fn (x : Nat) (hx : x < WW) : Fn Try.prog 82 [wN x, vi .i64 256] [] (isl false (bitsL x 256)) [] := frzI (bitsL_len x 256) (bits_row x hx)
/-! sums, bit by bit -/
def cyN (x y i : Nat) : Nat := (x % 2 ^ i + y % 2 ^ i) / 2 ^ i
theorem cyN_le (x y i : Nat) : cyN x y i ≤ 1 := by
  unfold cyN
  have hp : 0 < 2 ^ i := Nat.pos_of_ne_zero (by simp)
  have h1 := Nat.mod_lt x hp
  have h2 := Nat.mod_lt y hp
  have := Nat.div_lt_of_lt_mul (m := x % 2 ^ i + y % 2 ^ i) (n := 2 ^ i) (k := 2) (by omega)
  omega
theorem add_step (x y i : Nat) : bitN x i + bitN y i + cyN x y i = 2 * cyN x y (i + 1) + bitN (x + y) i := by
  have hp : 0 < 2 ^ i := Nat.pos_of_ne_zero (by simp)
  have e1 : cyN x y (i + 1) = (cyN x y i + (bitN x i + bitN y i)) / 2 := by
    unfold cyN bitN
    rw [Nat.mod_pow_succ, Nat.mod_pow_succ, Nat.pow_succ, ← Nat.div_div_eq_div_mul]
    rw [show x % 2 ^ i + 2 ^ i * (x / 2 ^ i % 2) + (y % 2 ^ i + 2 ^ i * (y / 2 ^ i % 2)) = (x % 2 ^ i + y % 2 ^ i) + 2 ^ i * (x / 2 ^ i % 2 + y / 2 ^ i % 2) by rw [Nat.mul_add]; omega]
    rw [Nat.add_mul_div_left _ _ hp]
  have e2 : (x + y) / 2 ^ i = x / 2 ^ i + y / 2 ^ i + cyN x y i := by
    unfold cyN
    have hx := Nat.div_add_mod x (2 ^ i)
    have hy := Nat.div_add_mod y (2 ^ i)
    conv => lhs; rw [← hx, ← hy]
    rw [show 2 ^ i * (x / 2 ^ i) + x % 2 ^ i + (2 ^ i * (y / 2 ^ i) + y % 2 ^ i) = (x % 2 ^ i + y % 2 ^ i) + 2 ^ i * (x / 2 ^ i + y / 2 ^ i) by rw [Nat.mul_add]; omega]
    rw [Nat.add_mul_div_left _ _ hp]
    omega
  rw [e1]
  unfold bitN
  rw [e2]
  omega
abbrev stD (e1 e2 : Bool) (x y : Nat) (r : Nat) (out : List Nat) (i : Nat) : St := ⟨[isl e1 (bitsL x 256), isl e2 (bitsL y 256), .any, .any, .any, .row r 3 1 out.length, vi .i64 (cyN x y i : Nat), .any, .any, .any, vi .i64 256, vi .i64 i, .any, .any, .any, .any, .any, .any, .any, .any, .any, .any, .any, .any, .any, .any, .any, .any, .any, .any, .any, .any, .any, .any, .any, .any, .any], [(r, rcI out)]⟩
theorem stD_rn (e1 e2 : Bool) (x y : Nat) (out : List Nat) (i : Nat) : (stD e1 e2 x y 29 out i).to (stD e1 e2 x y 500 out i) := by
  have h := St.to.rn (σ := stD e1 e2 x y 29 out i) (fun r => if r = 29 then 500 else r) (fun r => if r = 500 then 29 else r) [29] (by simp [AV.inNL, AV.inN]) (by simp) (by simp [inH, AV.inNL, AV.inN, rcI]) (by simp) (by simp)
  simpa [AV.renL, AV.ren, renH, rcI, stD] using h
theorem add_row (e1 e2 : Bool) (x y : Nat) (hx : x < WW) (hy : y < WW) : Fn Try.prog 81 [isl e1 (bitsL x 256), isl e2 (bitsL y 256)] [] (.row 36 3 1 257) [(36, rcI (bitsL (x + y) 257))] := by
  have e256 : (((bitsL x 256).length : Nat) : Int) = 256 := by rw [bitsL_len]; rfl
  obtain ⟨tot, htot⟩ : ∃ t, bitsL (x + y) 257 = t := ⟨_, rfl⟩
  rw [htot]
  (refine fn_of Try.func81 rfl (by rfl) ?_; simp only [Try.ntmps81, List.length_cons, List.length_nil, Nat.reduceAdd, Nat.reduceSub, List.replicate, List.cons_append, List.nil_append])
  (repeat (any_goals (first | ((with_reducible refine evL_one ?_ ?_); rfl; intro K hK; simp only [go_sem, e256]; ((repeat (refine ndI (by first | assumption | omega | rfl) ?_)); refine hK _ ?_; clear hK K)) | (with_reducible first | (refine evL_nil ?_; refine hR _ ?_; clear hR R) | ((first | refine evC_seq ?_ | refine evC_block ?_); intro Ψ hΨ hΨ') | (refine evC_region ?_; intro R hR) | (refine hΨ _ ?_; clear hΨ hΨ' Ψ) | refine evC_skip ?_ | refine evC_ret ?_ | refine evC_exit ?_) | ((with_reducible refine hΨ' _ _ ?_ ?_); (focus (simp; done)); clear hΨ hΨ' Ψ) | ((with_reducible apply evC_cond); rfl; rfl; all_goals (intro hc; first | (cases hc; done) | (try simp only at hc))) | ((with_reducible refine evD_nil ?_ ?_); kernel_rfl; (with_reducible refine hR _ ?_); clear hR R) | (((with_reducible apply evD_any); rfl; rfl; (simp only [rdE, rdOf, go_sem, e256]; rfl); (intro τ hA hQ hN; ((try simp only [agree, Op.operands, Call.operands, go_sem, e256, go_sem, List.mem_cons, List.not_mem_nil, forall_eq_or_imp, forall_eq, List.append_toArray, Option.toArray] at hA); (try simp only [go_sem, e256, List.mem_cons, List.not_mem_nil, forall_eq_or_imp, forall_eq] at hQ hN); (first | (revert hA; intro hA) | have hA := trivial); (first | (revert hQ; intro hQ) | have hQ := trivial); (first | (revert hN; intro hN) | have hN := trivial); simp only [go_sem, e256, go_sem, hA, hQ, hN]; (repeat (refine ndI (by first | assumption | omega | rfl) ?_)); (first | apply eff_rd | apply eff_st | apply eff_nw)))); (simp only [St.eff, setO, hputs, go_sem, e256])) | ((with_reducible refine evC_draw ?_ ?_ ?_ ?_); kernel_rfl; kernel_rfl; (first | kernel_rfl | simp [newNames, isNew, St.free, freeH, AV.refsL, AV.refs]); intro R hR))))
  refine evC_uptoT 256 (fun i => stD e1 e2 x y 500 (bitsL (x + y) i) i) ?_ ?_
  · refine St.to.trans (St.to.of_le (τ := ⟨[isl e1 (bitsL x 256), isl e2 (bitsL y 256), .any, .any, .any, .c (.v (.slice none 0 0)), vi .i64 0, .any, .any, .any, vi .i64 256, vi .i64 0, .any, .any, .any, .any, .any, .any, .any, .any, .any, .any, .any, .any, .any, .any, .any, .any, .any, .any, .any, .any, .any, .any, .any, .any, .any], []⟩) (St.le_of (by simp [leT]) (by simp [leH, hget]))) ?_
    refine St.to.trans (St.to.nilrow 5 500 3 1 rfl (by simp) (by simp [St.free, freeH, AV.refsL, AV.refs]) (by decide)) (St.to.of_le (St.le_of (by simp [leT, bitsL, cyN]) (by simp [leH, hget, hput, rcI, bitsL])))
  intro i hi Ψ hΨ hΨ'
  dsimp only [stD] at hΨ ⊢
  have ht := bitsL_succ (x + y) i
  have hol := bitsL_len (x + y) i
  rcases Nat.lt_or_ge i 256 with hlt | hge
  · have k1 : (decide ((i : Int) < 256)) = true := by simp; omega
    have k7 : (i : Int) + 1 = ((i + 1 : Nat) : Int) := by omega
    have g1 := isl_at (bitsL_at (z := x) hlt)
    have g2 := isl_at (bitsL_at (z := y) hlt)
    have il1 : i < (bitsL x 256).length := by rw [bitsL_len]; exact hlt
    have il2 : i < (bitsL y 256).length := by rw [bitsL_len]; exact hlt
    have st := add_step x y i
    have b1 := bitN_lt x i
    have b2 := bitN_lt y i
    have b3 := bitN_lt (x + y) i
    have b4 := cyN_le x y i
    rw [ht] at hΨ
    generalize bitsL (x + y) i = out at hΨ hol ⊢
    have k2 := rcI_len out
    generalize bitN x i = p at st b1 g1
    generalize bitN y i = q at st b2 g2
    generalize bitN (x + y) i = s at st b3 hΨ
    generalize cyN x y i = c at st b4 ⊢
    have hΨ2 : ∀ σ' : St, i + 1 ≤ 256 → σ'.to (stD e1 e2 x y 29 (out ++ [s]) (i + 1)) → Ψ .normal σ' := fun σ' h1 h2 => hΨ σ' h1 (h2.trans (stD_rn e1 e2 x y _ _))
    dsimp only [stD] at hΨ2
    generalize cyN x y (i + 1) = c2 at st hΨ2
    have k3 : ((p : Int) + (q : Int)) = ((p + q : Nat) : Int) := by omega
    have k4 : (((p + q : Nat) : Int) + (c : Int)) = ((p + q + c : Nat) : Int) := by omega
    have k5 : (((p + q + c : Nat) : Int)).tmod 2 = (s : Int) := by
      show (((p + q + c) % 2 : Nat) : Int) = _
      omega
    have k6 : (((p + q + c : Nat) : Int)).tdiv 2 = (c2 : Int) := by
      show (((p + q + c) / 2 : Nat) : Int) = _
      omega
    have k8 : p + q + c ≤ 3 := by omega
    (have W := ndI k1 (ndI k2 (ndI k3 (ndI k4 (ndI k5 (ndI k6 (ndI k7 (ndI g1 (ndI g2 (ndI @wrI @refsL_map))))))))); (repeat (any_goals (first | ((with_reducible refine evL_one ?_ ?_); rfl; intro K hK; simp (disch := omega) only [go_sem, W, Nat.mul_one, Int.reduceEq, refsL_rcI, refsL_app, AV.refsL, AV.refs, List.length_append, List.length_cons, List.length_nil, Bool.or_false]; ((repeat (refine ndI (by first | assumption | omega | rfl) ?_)); refine hK _ ?_; clear hK K)) | (with_reducible first | (refine evL_nil ?_; refine hR _ ?_; clear hR R) | ((first | refine evC_seq ?_ | refine evC_block ?_); intro Ψ hΨ hΨ') | (refine evC_region ?_; intro R hR) | (refine hΨ _ ?_; clear hΨ hΨ' Ψ) | refine evC_skip ?_ | refine evC_ret ?_ | refine evC_exit ?_) | ((with_reducible refine hΨ' _ _ ?_ ?_); (focus (simp; done)); clear hΨ hΨ' Ψ) | ((with_reducible apply evC_cond); rfl; rfl; all_goals (intro hc; first | (cases hc; done) | (try simp only at hc))) | ((with_reducible refine evD_nil ?_ ?_); kernel_rfl; (with_reducible refine hR _ ?_); clear hR R) | (((with_reducible apply evD_any); rfl; rfl; (simp (disch := omega) only [rdE, rdOf, go_sem, W, Nat.mul_one, Int.reduceEq, refsL_rcI, refsL_app, AV.refsL, AV.refs, List.length_append, List.length_cons, List.length_nil, Bool.or_false]; rfl); (intro τ hA hQ hN; ((try simp only [agree, Op.operands, Call.operands, go_sem, W, Nat.mul_one, Int.reduceEq, refsL_rcI, refsL_app, AV.refsL, AV.refs, List.length_append, List.length_cons, List.length_nil, Bool.or_false, go_sem, List.mem_cons, List.not_mem_nil, forall_eq_or_imp, forall_eq, List.append_toArray, Option.toArray] at hA); (try simp only [go_sem, W, Nat.mul_one, Int.reduceEq, refsL_rcI, refsL_app, AV.refsL, AV.refs, List.length_append, List.length_cons, List.length_nil, Bool.or_false, List.mem_cons, List.not_mem_nil, forall_eq_or_imp, forall_eq] at hQ hN); (first | (revert hA; intro hA) | have hA := trivial); (first | (revert hQ; intro hQ) | have hQ := trivial); (first | (revert hN; intro hN) | have hN := trivial); simp (disch := omega) only [go_sem, W, Nat.mul_one, Int.reduceEq, refsL_rcI, refsL_app, AV.refsL, AV.refs, List.length_append, List.length_cons, List.length_nil, Bool.or_false, go_sem, hA, hQ, hN]; (repeat (refine ndI (by first | assumption | omega | rfl) ?_)); (first | apply eff_rd | apply eff_st | apply eff_nw)))); (simp (disch := omega) only [St.eff, setO, hputs, go_sem, W, Nat.mul_one, Int.reduceEq, refsL_rcI, refsL_app, AV.refsL, AV.refs, List.length_append, List.length_cons, List.length_nil, Bool.or_false])) | ((with_reducible refine evC_draw ?_ ?_ ?_ ?_); kernel_rfl; kernel_rfl; (first | kernel_rfl | simp [newNames, isNew, St.free, freeH, AV.refsL, AV.refs]); intro R hR)))))
    all_goals exact hΨ2 _ hlt (St.to.of_le (St.le_of (by simp [leT]) (by simp [leH, hget, rcI, ipv])))
  · have k1 : (decide ((i : Int) < 256)) = false := by simp; omega
    obtain rfl : i = 256 := by omega
    have hcy : cyN x y 256 = bitN (x + y) 256 := by
      unfold cyN bitN
      rw [Nat.mod_eq_of_lt (show x < 2 ^ 256 from hx), Nat.mod_eq_of_lt (show y < 2 ^ 256 from hy)]
      have : (x + y) / 2 ^ 256 < 2 := Nat.div_lt_of_lt_mul (by have : x < 2 ^ 256 := hx; have : y < 2 ^ 256 := hy; omega)
      omega
    rw [hcy]
    have hr : rcI tot = rcI (bitsL (x + y) 256) ++ [vi .i64 (bitN (x + y) 256 : Nat)] := by
      rw [← htot, ht]
      simp [rcI, ipv]
    generalize bitsL (x + y) 256 = out at hol hr ⊢
    have k2 := rcI_len out
    generalize bitN (x + y) 256 = s at hr ⊢
    (have W := ndI k1 (ndI k2 (ndI @wrI @refsL_map)); (repeat (any_goals (first | ((with_reducible refine evL_one ?_ ?_); rfl; intro K hK; simp (disch := omega) only [go_sem, W, hol, Nat.mul_one, refsL_rcI, refsL_app, AV.refsL, AV.refs, List.length_append, List.length_cons, List.length_nil, Bool.or_false]; ((repeat (refine ndI (by first | assumption | omega | rfl) ?_)); refine hK _ ?_; clear hK K)) | (with_reducible first | (refine evL_nil ?_; refine hR _ ?_; clear hR R) | ((first | refine evC_seq ?_ | refine evC_block ?_); intro Ψ hΨ hΨ') | (refine evC_region ?_; intro R hR) | (refine hΨ _ ?_; clear hΨ hΨ' Ψ) | refine evC_skip ?_ | refine evC_ret ?_ | refine evC_exit ?_) | ((with_reducible refine hΨ' _ _ ?_ ?_); (focus (simp; done)); clear hΨ hΨ' Ψ) | ((with_reducible apply evC_cond); rfl; rfl; all_goals (intro hc; first | (cases hc; done) | (try simp only at hc))) | ((with_reducible refine evD_nil ?_ ?_); kernel_rfl; (with_reducible refine hR _ ?_); clear hR R) | (((with_reducible apply evD_any); rfl; rfl; (simp (disch := omega) only [rdE, rdOf, go_sem, W, hol, Nat.mul_one, refsL_rcI, refsL_app, AV.refsL, AV.refs, List.length_append, List.length_cons, List.length_nil, Bool.or_false]; rfl); (intro τ hA hQ hN; ((try simp only [agree, Op.operands, Call.operands, go_sem, W, hol, Nat.mul_one, refsL_rcI, refsL_app, AV.refsL, AV.refs, List.length_append, List.length_cons, List.length_nil, Bool.or_false, go_sem, List.mem_cons, List.not_mem_nil, forall_eq_or_imp, forall_eq, List.append_toArray, Option.toArray] at hA); (try simp only [go_sem, W, hol, Nat.mul_one, refsL_rcI, refsL_app, AV.refsL, AV.refs, List.length_append, List.length_cons, List.length_nil, Bool.or_false, List.mem_cons, List.not_mem_nil, forall_eq_or_imp, forall_eq] at hQ hN); (first | (revert hA; intro hA) | have hA := trivial); (first | (revert hQ; intro hQ) | have hQ := trivial); (first | (revert hN; intro hN) | have hN := trivial); simp (disch := omega) only [go_sem, W, hol, Nat.mul_one, refsL_rcI, refsL_app, AV.refsL, AV.refs, List.length_append, List.length_cons, List.length_nil, Bool.or_false, go_sem, hA, hQ, hN]; (repeat (refine ndI (by first | assumption | omega | rfl) ?_)); (first | apply eff_rd | apply eff_st | apply eff_nw)))); (simp (disch := omega) only [St.eff, setO, hputs, go_sem, W, hol, Nat.mul_one, refsL_rcI, refsL_app, AV.refsL, AV.refs, List.length_append, List.length_cons, List.length_nil, Bool.or_false])) | ((with_reducible refine evC_draw ?_ ?_ ?_ ?_); kernel_rfl; kernel_rfl; (first | kernel_rfl | simp [newNames, isNew, St.free, freeH, AV.refsL, AV.refs]); intro R hR)))))
    all_goals rw [hr]
    all_goals (refine ⟨by simp, ⟨_, ?_, AV.le_refl _⟩, leH_get (by simp [leH, hget])⟩; simp only [Try.results81, resL, ldA, oneOf, go_sem])
theorem addb_fn (e1 e2 : Bool) (x y : Nat) (hx : x < WW) (hy : y < WW) : Fn Try.prog 81 [isl e1 (bitsL x 256), isl e2 (bitsL y 256)] [] (isl false (bitsL (x + y) 257)) [] := frzI (bitsL_len _ _) (add_row e1 e2 x y hx hy)
end Go.Proofs.Ytgdnmdnhkhpieaa
namespace Go.Proofs.Ytgdnmdnhkhpieaa
open Go.RowKit
open Nat (reduceBEq)
set_option maxRecDepth 20000
set_option maxHeartbeats 2000000
theorem orN {a b : Nat} (ha : a < 18446744073709551616) (hb : b < 18446744073709551616) : IntKind.u64.wrap (BitVec.ofInt IntKind.u64.bits (a : Int) ||| BitVec.ofInt IntKind.u64.bits (b : Int)).toNat = ((a ||| b : Nat) : Int) := by
  have e : (BitVec.ofInt IntKind.u64.bits (a : Int) ||| BitVec.ofInt IntKind.u64.bits (b : Int)).toNat = a ||| b := by
    show (BitVec.ofInt 64 (a : Int) ||| BitVec.ofInt 64 (b : Int)).toNat = _
    rw [BitVec.toNat_or, BitVec.ofInt_natCast, BitVec.ofInt_natCast, BitVec.toNat_ofNat, BitVec.toNat_ofNat, Nat.mod_eq_of_lt ha, Nat.mod_eq_of_lt hb]
  rw [e]
  have h : a ||| b < 2 ^ 64 := Nat.or_lt_two_pow ha hb
  exact wrU (by omega) (by omega)
theorem orR {a r : Nat} (hr : r < 64) (ha : a < 2 ^ r) : IntKind.u64.wrap (BitVec.ofInt IntKind.u64.bits (a : Int) ||| BitVec.ofInt IntKind.u64.bits ((2 ^ r : Nat) : Int)).toNat = ((a + 2 ^ r : Nat) : Int) := by
  have h2 : 2 ^ r ≤ 9223372036854775808 := Nat.pow_le_pow_right (n := 2) (by omega) (show r ≤ 63 by omega)
  rw [orN (by omega) (by omega), Nat.or_comm]
  have h3 := Nat.two_pow_add_eq_or_of_lt (i := r) (b := a) ha 1
  rw [Nat.mul_one] at h3
  rw [← h3, Nat.add_comm]
theorem shl1 {r : Nat} (hr : r < 64) : IntKind.u64.wrap (1 * 2 ^ (min r IntKind.u64.bits)) = ((2 ^ r : Nat) : Int) := by
  have hm : min r IntKind.u64.bits = r := Nat.min_eq_left (show r ≤ 64 by omega)
  have h2 : 2 ^ r ≤ 9223372036854775808 := Nat.pow_le_pow_right (n := 2) (by omega) (show r ≤ 63 by omega)
  rw [hm, Int.one_mul, show ((2 : Int) ^ r) = ((2 ^ r : Nat) : Int) by simp]
  generalize 2 ^ r = R at h2 ⊢
  exact wrU (by omega) (by omega)
theorem limb0 {w R : Nat} (hw : w < R) (hR : R ≤ 9223372036854775808) : l0 w = (w : Int) ∧ l0 (w + R) = ((w + R : Nat) : Int) ∧ l1 (w + R) = l1 w ∧ l2 (w + R) = l2 w ∧ l3 (w + R) = l3 w := by
  unfold l0 l1 l2 l3
  refine ⟨?_, ?_, ?_, ?_, ?_⟩ <;> congr 1 <;> omega
theorem limb1 {w R : Nat} (hw : w < 18446744073709551616 * R) (hR : R ≤ 9223372036854775808) : l1 w = ((w / 18446744073709551616 : Nat) : Int) ∧ w / 18446744073709551616 < R ∧ l0 (w + 18446744073709551616 * R) = l0 w ∧ l1 (w + 18446744073709551616 * R) = ((w / 18446744073709551616 + R : Nat) : Int) ∧ l2 (w + 18446744073709551616 * R) = l2 w ∧ l3 (w + 18446744073709551616 * R) = l3 w := by
  unfold l0 l1 l2 l3
  refine ⟨?_, ?_, ?_, ?_, ?_, ?_⟩ <;> (try congr 1) <;> omega
theorem limb2 {w R : Nat} (hw : w < 18446744073709551616 * (18446744073709551616 * R)) (hR : R ≤ 9223372036854775808) : l2 w = ((w / 18446744073709551616 / 18446744073709551616 : Nat) : Int) ∧ w / 18446744073709551616 / 18446744073709551616 < R ∧ l0 (w + 18446744073709551616 * (18446744073709551616 * R)) = l0 w ∧ l1 (w + 18446744073709551616 * (18446744073709551616 * R)) = l1 w ∧ l2 (w + 18446744073709551616 * (18446744073709551616 * R)) = ((w / 18446744073709551616 / 18446744073709551616 + R : Nat) : Int) ∧ l3 (w + 18446744073709551616 * (18446744073709551616 * R)) = l3 w := by
  unfold l0 l1 l2 l3
  have e : (w + 18446744073709551616 * (18446744073709551616 * R)) / 18446744073709551616 = w / 18446744073709551616 + 18446744073709551616 * R := by omega
  rw [e]
  have hw1 : w / 18446744073709551616 < 18446744073709551616 * R := by omega
  have e0 : (w + 18446744073709551616 * (18446744073709551616 * R)) % 18446744073709551616 = w % 18446744073709551616 := by omega
  rw [e0]
  generalize w / 18446744073709551616 = v at hw1
  refine ⟨?_, ?_, rfl, ?_, ?_, ?_⟩ <;> (try congr 1) <;> omega
theorem limb3 {w R : Nat} (hw : w < 18446744073709551616 * (18446744073709551616 * (18446744073709551616 * R))) (hR : R ≤ 9223372036854775808) : l3 w = ((w / 18446744073709551616 / 18446744073709551616 / 18446744073709551616 : Nat) : Int) ∧ w / 18446744073709551616 / 18446744073709551616 / 18446744073709551616 < R ∧ l0 (w + 18446744073709551616 * (18446744073709551616 * (18446744073709551616 * R))) = l0 w ∧ l1 (w + 18446744073709551616 * (18446744073709551616 * (18446744073709551616 * R))) = l1 w ∧ l2 (w + 18446744073709551616 * (18446744073709551616 * (18446744073709551616 * R))) = l2 w ∧ l3 (w + 18446744073709551616 * (18446744073709551616 * (18446744073709551616 * R))) = ((w / 18446744073709551616 / 18446744073709551616 / 18446744073709551616 + R : Nat) : Int) := by
  unfold l0 l1 l2 l3
  have e : (w + 18446744073709551616 * (18446744073709551616 * (18446744073709551616 * R))) / 18446744073709551616 = w / 18446744073709551616 + 18446744073709551616 * (18446744073709551616 * R) := by omega
  have e0 : (w + 18446744073709551616 * (18446744073709551616 * (18446744073709551616 * R))) % 18446744073709551616 = w % 18446744073709551616 := by omega
  have hw1 : w / 18446744073709551616 < 18446744073709551616 * (18446744073709551616 * R) := by omega
  rw [e, e0]
  generalize w / 18446744073709551616 = v at hw1
  have e2 : (v + 18446744073709551616 * (18446744073709551616 * R)) / 18446744073709551616 = v / 18446744073709551616 + 18446744073709551616 * R := by omega
  have e3 : (v + 18446744073709551616 * (18446744073709551616 * R)) % 18446744073709551616 = v % 18446744073709551616 := by omega
  have hw2 : v / 18446744073709551616 < 18446744073709551616 * R := by omega
  rw [e2, e3]
  generalize v / 18446744073709551616 = u at hw2
  refine ⟨?_, ?_, rfl, rfl, ?_, ?_⟩ <;> (try congr 1) <;> omega
theorem set_bit {z i : Nat} (hb : bitN z i = 1) : z % 2 ^ (i + 1) = z % 2 ^ i + 2 ^ i := by
  rw [Nat.mod_pow_succ]
  have : z / 2 ^ i % 2 = 1 := hb
  rw [this, Nat.mul_one]
theorem unset_bit {z i : Nat} (hb : bitN z i = 0) : z % 2 ^ (i + 1) = z % 2 ^ i := by
  rw [Nat.mod_pow_succ]
  have : z / 2 ^ i % 2 = 0 := hb
  rw [this, Nat.mul_zero, Nat.add_zero]
theorem of_step {z i : Nat} (hi : i < 256) (hb : bitN z i = 1) :
    (i / 64 = 0 ∧ IntKind.u64.wrap (BitVec.ofInt IntKind.u64.bits (l0 (z % 2 ^ i)) ||| BitVec.ofInt IntKind.u64.bits ((2 ^ (i % 64) : Nat) : Int)).toNat = l0 (z % 2 ^ (i + 1)) ∧ l1 (z % 2 ^ (i + 1)) = l1 (z % 2 ^ i) ∧ l2 (z % 2 ^ (i + 1)) = l2 (z % 2 ^ i) ∧ l3 (z % 2 ^ (i + 1)) = l3 (z % 2 ^ i)) ∨
    (i / 64 = 1 ∧ IntKind.u64.wrap (BitVec.ofInt IntKind.u64.bits (l1 (z % 2 ^ i)) ||| BitVec.ofInt IntKind.u64.bits ((2 ^ (i % 64) : Nat) : Int)).toNat = l1 (z % 2 ^ (i + 1)) ∧ l0 (z % 2 ^ (i + 1)) = l0 (z % 2 ^ i) ∧ l2 (z % 2 ^ (i + 1)) = l2 (z % 2 ^ i) ∧ l3 (z % 2 ^ (i + 1)) = l3 (z % 2 ^ i)) ∨
    (i / 64 = 2 ∧ IntKind.u64.wrap (BitVec.ofInt IntKind.u64.bits (l2 (z % 2 ^ i)) ||| BitVec.ofInt IntKind.u64.bits ((2 ^ (i % 64) : Nat) : Int)).toNat = l2 (z % 2 ^ (i + 1)) ∧ l0 (z % 2 ^ (i + 1)) = l0 (z % 2 ^ i) ∧ l1 (z % 2 ^ (i + 1)) = l1 (z % 2 ^ i) ∧ l3 (z % 2 ^ (i + 1)) = l3 (z % 2 ^ i)) ∨
    (i / 64 = 3 ∧ IntKind.u64.wrap (BitVec.ofInt IntKind.u64.bits (l3 (z % 2 ^ i)) ||| BitVec.ofInt IntKind.u64.bits ((2 ^ (i % 64) : Nat) : Int)).toNat = l3 (z % 2 ^ (i + 1)) ∧ l0 (z % 2 ^ (i + 1)) = l0 (z % 2 ^ i) ∧ l1 (z % 2 ^ (i + 1)) = l1 (z % 2 ^ i) ∧ l2 (z % 2 ^ (i + 1)) = l2 (z % 2 ^ i)) := by
  have hr : i % 64 < 64 := Nat.mod_lt _ (by decide)
  have hR : 2 ^ (i % 64) ≤ 9223372036854775808 := Nat.pow_le_pow_right (n := 2) (by omega) (show i % 64 ≤ 63 by omega)
  have hw : z % 2 ^ i < 2 ^ i := Nat.mod_lt _ (Nat.pos_of_ne_zero (by simp))
  have hpow : 2 ^ i = 2 ^ (64 * (i / 64)) * 2 ^ (i % 64) := by rw [← Nat.pow_add, Nat.div_add_mod]
  rw [set_bit hb]
  generalize z % 2 ^ i = w at hw ⊢
  have hor : ∀ a : Nat, a < 2 ^ (i % 64) → _ := fun a ha => orR hr ha
  generalize 2 ^ (i % 64) = R at *
  have hq : i / 64 = 0 ∨ i / 64 = 1 ∨ i / 64 = 2 ∨ i / 64 = 3 := by omega
  rcases hq with hq | hq | hq | hq
  · rw [hq] at hpow
    rw [show 2 ^ (64 * 0) = 1 from rfl, Nat.one_mul] at hpow
    rw [hpow] at hw ⊢
    obtain ⟨h0, h1, h2, h3, h4⟩ := limb0 hw hR
    exact .inl ⟨hq, by rw [h0, h1]; exact hor w hw, h2, h3, h4⟩
  · rw [hq] at hpow
    rw [show 2 ^ (64 * 1) = 18446744073709551616 from rfl] at hpow
    rw [hpow] at hw ⊢
    obtain ⟨h0, h1, h2, h3, h4, h5⟩ := limb1 hw hR
    exact .inr (.inl ⟨hq, by rw [h0, h3]; exact hor _ h1, h2, h4, h5⟩)
  · rw [hq] at hpow
    rw [show 2 ^ (64 * 2) = 18446744073709551616 * 18446744073709551616 from rfl, Nat.mul_assoc] at hpow
    rw [hpow] at hw ⊢
    obtain ⟨h0, h1, h2, h3, h4, h5⟩ := limb2 hw hR
    exact .inr (.inr (.inl ⟨hq, by rw [h0, h4]; exact hor _ h1, h2, h3, h5⟩))
  · rw [hq] at hpow
    rw [show 2 ^ (64 * 3) = 18446744073709551616 * (18446744073709551616 * 18446744073709551616) from rfl, Nat.mul_assoc, Nat.mul_assoc] at hpow
    rw [hpow] at hw ⊢
    obtain ⟨h0, h1, h2, h3, h4, h5⟩ := limb3 hw hR
    exact .inr (.inr (.inr ⟨hq, by rw [h0, h5]; exact hor _ h1, h2, h3, h4⟩))
theorem ofb_fn (ex : Bool) (z k : Nat) (hk : 256 ≤ k) (hk2 : k ≤ 257) : Fn Try.prog 83 [isl ex (bitsL z k)] [] (wN (z % WW)) [] := by
  have hlen := bitsL_len z k
  have hbit : ∀ i, i < k → ((((bitsL z k).flatMap ipv).drop i).take 1 = [.v (.int .i64 (bitN z i : Nat))]) := fun i hi => isl_at (bitsL_at hi)
  generalize bitsL z k = bl at hlen hbit ⊢
  (refine fn_of Try.func83 rfl (by rfl) ?_; simp only [Try.ntmps83, List.length_cons, List.length_nil, Nat.reduceAdd, Nat.reduceSub, List.replicate, List.cons_append, List.nil_append])
  (repeat (any_goals (first | ((with_reducible refine evL_one ?_ ?_); rfl; intro K hK; simp only [go_sem, hlen]; ((repeat (refine ndI (by first | assumption | omega | rfl) ?_)); refine hK _ ?_; clear hK K)) | (with_reducible first | (refine evL_nil ?_; refine hR _ ?_; clear hR R) | ((first | refine evC_seq ?_ | refine evC_block ?_); intro Ψ hΨ hΨ') | (refine evC_region ?_; intro R hR) | (refine hΨ _ ?_; clear hΨ hΨ' Ψ) | refine evC_skip ?_ | refine evC_ret ?_ | refine evC_exit ?_) | ((with_reducible refine hΨ' _ _ ?_ ?_); (focus (simp; done)); clear hΨ hΨ' Ψ) | ((with_reducible apply evL_unmet); rfl; rfl; rfl; (try simp only [go_sem, hlen])) | ((with_reducible apply evL_grd); rfl; rfl; rfl; all_goals (intro hb; first | (cases hb; done) | ((try simp only [Bool.not_true, Bool.not_false] at hb); (first | ((with_reducible intro K hK); simp only [go_sem, hlen]; ((repeat (refine ndI (by first | assumption | omega | rfl) ?_)); refine hK _ ?_; clear hK K)) | ((fail_if_success (with_reducible intro _)); simp only [go_sem, hlen]))))) | ((with_reducible apply evC_cond); rfl; rfl; all_goals (intro hc; first | (cases hc; done) | (try simp only at hc))) | ((with_reducible refine evD_nil ?_ ?_); kernel_rfl; (with_reducible refine hR _ ?_); clear hR R) | (((with_reducible apply evD_any); rfl; rfl; (simp only [rdE, rdOf, go_sem, hlen]; rfl); (intro τ hA hQ hN; ((try simp only [agree, Op.operands, Call.operands, go_sem, hlen, go_sem, List.mem_cons, List.not_mem_nil, forall_eq_or_imp, forall_eq, List.append_toArray, Option.toArray] at hA); (try simp only [go_sem, hlen, List.mem_cons, List.not_mem_nil, forall_eq_or_imp, forall_eq] at hQ hN); (first | (revert hA; intro hA) | have hA := trivial); (first | (revert hQ; intro hQ) | have hQ := trivial); (first | (revert hN; intro hN) | have hN := trivial); simp only [go_sem, hlen, go_sem, hA, hQ, hN]; (repeat (refine ndI (by first | assumption | omega | rfl) ?_)); (first | apply eff_rd | apply eff_st | apply eff_nw)))); (simp only [St.eff, setO, hputs, go_sem, hlen])) | ((with_reducible refine evC_draw ?_ ?_ ?_ ?_); kernel_rfl; kernel_rfl; (first | kernel_rfl | simp [newNames, isNew, St.free, freeH, AV.refsL, AV.refs]); intro R hR))))
  refine evC_upto k (fun i => ⟨[.any, .any, .ptr 2 0, .ptr 3 0, .any, .any, isl ex bl, vi .i64 k, vi .i64 i, .any, .any, .any, .any, .any, .any, .any, .any, .any, .any, .any, .any, .any, .any, .any, .any, .any, .any, .any, .any, .any], [(2, [vi .u64 0, vi .u64 0, vi .u64 0, vi .u64 0]), (3, [vi .u64 (l0 (z % 2 ^ min i 256)), vi .u64 (l1 (z % 2 ^ min i 256)), vi .u64 (l2 (z % 2 ^ min i 256)), vi .u64 (l3 (z % 2 ^ min i 256))])]⟩) (St.le_of (by simp [leT, hlen]) (by simp [leH, hget, Nat.mod_one, l0_zero, l1_zero, l2_zero, l3_zero])) ?_
  intro i hi Ψ hΨ hΨ'
  (try dsimp only at hΨ ⊢)
  rcases Nat.lt_or_ge i k with hlt | hge
  · have k1 : (decide ((i : Int) < (k : Int))) = true := by simp; omega
    have k7 : (i : Int) + 1 = ((i + 1 : Nat) : Int) := by omega
    have k2 := hbit i hlt
    have hil : i < bl.length := by omega
    have b1 := bitN_lt z i
    rcases Nat.lt_or_ge i 256 with h256 | h256
    · have k3 : (decide ((i : Int) < 256)) = true := by simp; omega
      rw [Nat.min_eq_left (by omega : i ≤ 256)] at *
      rw [Nat.min_eq_left (by omega : i + 1 ≤ 256)] at hΨ
      rcases (by omega : bitN z i = 0 ∨ bitN z i = 1) with hb | hb
      · have k4 : ((bitN z i : Nat) : Int) = 0 := by rw [hb]; rfl
        rw [unset_bit hb] at hΨ
        (have W := ndI k1 (ndI k2 (ndI k3 (ndI k4 (ndI k7 @wrI)))); (repeat (any_goals (first | ((with_reducible refine evL_one ?_ ?_); rfl; intro K hK; simp (disch := omega) only [go_sem, W, Nat.mul_one, Int.reduceBEq]; ((repeat (refine ndI (by first | assumption | omega | rfl) ?_)); refine hK _ ?_; clear hK K)) | (with_reducible first | (refine evL_nil ?_; refine hR _ ?_; clear hR R) | ((first | refine evC_seq ?_ | refine evC_block ?_); intro Ψ hΨ hΨ') | (refine evC_region ?_; intro R hR) | (refine hΨ _ ?_; clear hΨ hΨ' Ψ) | refine evC_skip ?_ | refine evC_ret ?_ | refine evC_exit ?_) | ((with_reducible refine hΨ' _ _ ?_ ?_); (focus (simp; done)); clear hΨ hΨ' Ψ) | ((with_reducible apply evL_unmet); rfl; rfl; rfl; (try simp (disch := omega) only [go_sem, W, Nat.mul_one, Int.reduceBEq])) | ((with_reducible apply evL_grd); rfl; rfl; rfl; all_goals (intro hb; first | (cases hb; done) | ((try simp only [Bool.not_true, Bool.not_false] at hb); (first | ((with_reducible intro K hK); simp (disch := omega) only [go_sem, W, Nat.mul_one, Int.reduceBEq]; ((repeat (refine ndI (by first | assumption | omega | rfl) ?_)); refine hK _ ?_; clear hK K)) | ((fail_if_success (with_reducible intro _)); simp (disch := omega) only [go_sem, W, Nat.mul_one, Int.reduceBEq]))))) | ((with_reducible apply evC_cond); rfl; rfl; all_goals (intro hc; first | (cases hc; done) | (try simp only at hc))) | ((with_reducible refine evD_nil ?_ ?_); kernel_rfl; (with_reducible refine hR _ ?_); clear hR R) | (((with_reducible apply evD_any); rfl; rfl; (simp (disch := omega) only [rdE, rdOf, go_sem, W, Nat.mul_one, Int.reduceBEq]; rfl); (intro τ hA hQ hN; ((try simp only [agree, Op.operands, Call.operands, go_sem, W, Nat.mul_one, Int.reduceBEq, go_sem, List.mem_cons, List.not_mem_nil, forall_eq_or_imp, forall_eq, List.append_toArray, Option.toArray] at hA); (try simp only [go_sem, W, Nat.mul_one, Int.reduceBEq, List.mem_cons, List.not_mem_nil, forall_eq_or_imp, forall_eq] at hQ hN); (first | (revert hA; intro hA) | have hA := trivial); (first | (revert hQ; intro hQ) | have hQ := trivial); (first | (revert hN; intro hN) | have hN := trivial); simp (disch := omega) only [go_sem, W, Nat.mul_one, Int.reduceBEq, go_sem, hA, hQ, hN]; (repeat (refine ndI (by first | assumption | omega | rfl) ?_)); (first | apply eff_rd | apply eff_st | apply eff_nw)))); (simp (disch := omega) only [St.eff, setO, hputs, go_sem, W, Nat.mul_one, Int.reduceBEq])) | ((with_reducible refine evC_draw ?_ ?_ ?_ ?_); kernel_rfl; kernel_rfl; (first | kernel_rfl | simp [newNames, isNew, St.free, freeH, AV.refsL, AV.refs]); intro R hR)))))
        all_goals exact hΨ _ hlt (St.le_of (by simp [leT]) (by simp [leH, hget]))
      · have k4 : ((bitN z i : Nat) : Int) = 1 := by rw [hb]; rfl
        have e3 : (i : Int).tdiv 64 = ((i / 64 : Nat) : Int) := rfl
        have e4 : (i : Int).tmod 64 = ((i % 64 : Nat) : Int) := rfl
        have e5 := shl1 (Nat.mod_lt i (show 0 < 64 by decide))
        have os := of_step h256 hb
        generalize ((2 ^ (i % 64) : Nat) : Int) = R at e5 os
        generalize z % 2 ^ (i + 1) = w2 at os hΨ
        generalize z % 2 ^ i = w at os ⊢
        rcases os with ⟨hq, o1, o2, o3, o4⟩ | ⟨hq, o1, o2, o3, o4⟩ | ⟨hq, o1, o2, o3, o4⟩ | ⟨hq, o1, o2, o3, o4⟩
        all_goals rw [o2, o3, o4] at hΨ
        all_goals (have W := ndI k1 (ndI k2 (ndI k3 (ndI k4 (ndI k7 (ndI e3 (ndI e4 (ndI e5 (ndI o1 @wrI)))))))); (repeat (any_goals (first | ((with_reducible refine evL_one ?_ ?_); rfl; intro K hK; simp (disch := omega) only [St.free, freeH, reduceCtorEq, Nat.reduceMod, Nat.reduceDiv, Nat.reduceSub, Nat.reduceMul, Int.reduceToNat, Int.reduceLT, Int.reduceLE, Nat.reduceEqDiff, ↓reduceIte, Nat.reduceLeDiff, Nat.reduceLT, Nat.reduceAdd, Nat.reduceBNe, Nat.reduceBEq, forall_const, evz, pickAV, AV.cells, ofV, evO, W, hq, Nat.mul_one, Int.reduceBEq, Int.cast_ofNat_Int, Int.natCast_one, Int.reduceEq, Int.toNat_natCast, Int.natCast_nonneg, ty3, ty32, ty35, ty118]; ((repeat (refine ndI (by first | assumption | omega | rfl) ?_)); refine hK _ ?_; clear hK K)) | (with_reducible first | (refine evL_nil ?_; refine hR _ ?_; clear hR R) | ((first | refine evC_seq ?_ | refine evC_block ?_); intro Ψ hΨ hΨ') | (refine evC_region ?_; intro R hR) | (refine hΨ _ ?_; clear hΨ hΨ' Ψ) | refine evC_skip ?_ | refine evC_ret ?_ | refine evC_exit ?_) | ((with_reducible refine hΨ' _ _ ?_ ?_); (focus (simp; done)); clear hΨ hΨ' Ψ) | ((with_reducible apply evL_unmet); rfl; rfl; rfl; (try simp (disch := omega) only [St.free, freeH, reduceCtorEq, Nat.reduceMod, Nat.reduceDiv, Nat.reduceSub, Nat.reduceMul, Int.reduceToNat, Int.reduceLT, Int.reduceLE, Nat.reduceEqDiff, ↓reduceIte, Nat.reduceLeDiff, Nat.reduceLT, Nat.reduceAdd, Nat.reduceBNe, Nat.reduceBEq, forall_const, evz, pickAV, AV.cells, ofV, evO, W, hq, Nat.mul_one, Int.reduceBEq, Int.cast_ofNat_Int, Int.natCast_one, Int.reduceEq, Int.toNat_natCast, Int.natCast_nonneg, ty3, ty32, ty35, ty118])) | ((with_reducible apply evL_grd); rfl; rfl; rfl; all_goals (intro hb; first | (cases hb; done) | ((try simp only [Bool.not_true, Bool.not_false] at hb); (first | ((with_reducible intro K hK); simp (disch := omega) only [St.free, freeH, reduceCtorEq, Nat.reduceMod, Nat.reduceDiv, Nat.reduceSub, Nat.reduceMul, Int.reduceToNat, Int.reduceLT, Int.reduceLE, Nat.reduceEqDiff, ↓reduceIte, Nat.reduceLeDiff, Nat.reduceLT, Nat.reduceAdd, Nat.reduceBNe, Nat.reduceBEq, forall_const, evz, pickAV, AV.cells, ofV, evO, W, hq, Nat.mul_one, Int.reduceBEq, Int.cast_ofNat_Int, Int.natCast_one, Int.reduceEq, Int.toNat_natCast, Int.natCast_nonneg, ty3, ty32, ty35, ty118]; ((repeat (refine ndI (by first | assumption | omega | rfl) ?_)); refine hK _ ?_; clear hK K)) | ((fail_if_success (with_reducible intro _)); simp (disch := omega) only [St.free, freeH, reduceCtorEq, Nat.reduceMod, Nat.reduceDiv, Nat.reduceSub, Nat.reduceMul, Int.reduceToNat, Int.reduceLT, Int.reduceLE, Nat.reduceEqDiff, ↓reduceIte, Nat.reduceLeDiff, Nat.reduceLT, Nat.reduceAdd, Nat.reduceBNe, Nat.reduceBEq, forall_const, evz, pickAV, AV.cells, ofV, evO, W, hq, Nat.mul_one, Int.reduceBEq, Int.cast_ofNat_Int, Int.natCast_one, Int.reduceEq, Int.toNat_natCast, Int.natCast_nonneg, ty3, ty32, ty35, ty118]))))) | ((with_reducible apply evC_cond); rfl; rfl; all_goals (intro hc; first | (cases hc; done) | (try simp only at hc))) | ((with_reducible refine evD_nil ?_ ?_); kernel_rfl; (with_reducible refine hR _ ?_); clear hR R) | (((with_reducible apply evD_any); rfl; rfl; (simp (disch := omega) only [rdE, rdOf, St.free, freeH, reduceCtorEq, Nat.reduceMod, Nat.reduceDiv, Nat.reduceSub, Nat.reduceMul, Int.reduceToNat, Int.reduceLT, Int.reduceLE, Nat.reduceEqDiff, ↓reduceIte, Nat.reduceLeDiff, Nat.reduceLT, Nat.reduceAdd, Nat.reduceBNe, Nat.reduceBEq, forall_const, evz, pickAV, AV.cells, ofV, evO, W, hq, Nat.mul_one, Int.reduceBEq, Int.cast_ofNat_Int, Int.natCast_one, Int.reduceEq, Int.toNat_natCast, Int.natCast_nonneg]; rfl); (intro τ hA hQ hN; ((try simp only [agree, Op.operands, Call.operands, reduceCtorEq, Nat.reduceMod, Nat.reduceDiv, Nat.reduceSub, Nat.reduceMul, Int.reduceToNat, Int.reduceLT, Int.reduceLE, Nat.reduceEqDiff, ↓reduceIte, Nat.reduceLeDiff, Nat.reduceLT, Nat.reduceAdd, Nat.reduceBNe, Nat.reduceBEq, forall_const, evz, pickAV, AV.cells, ofV, evO, W, hq, Nat.mul_one, Int.reduceBEq, Int.cast_ofNat_Int, Int.natCast_one, Int.reduceEq, Int.toNat_natCast, Int.natCast_nonneg, ty3, ty32, ty35, ty118, List.mem_cons, List.not_mem_nil, forall_eq_or_imp, forall_eq, List.append_toArray, Option.toArray] at hA); (try simp only [reduceCtorEq, Nat.reduceMod, Nat.reduceDiv, Nat.reduceSub, Nat.reduceMul, Int.reduceToNat, Int.reduceLT, Int.reduceLE, Nat.reduceEqDiff, ↓reduceIte, Nat.reduceLeDiff, Nat.reduceLT, Nat.reduceAdd, Nat.reduceBNe, Nat.reduceBEq, forall_const, evz, pickAV, AV.cells, ofV, evO, W, hq, Nat.mul_one, Int.reduceBEq, Int.cast_ofNat_Int, Int.natCast_one, Int.reduceEq, Int.toNat_natCast, Int.natCast_nonneg, List.mem_cons, List.not_mem_nil, forall_eq_or_imp, forall_eq] at hQ hN); (first | (revert hA; intro hA) | have hA := trivial); (first | (revert hQ; intro hQ) | have hQ := trivial); (first | (revert hN; intro hN) | have hN := trivial); simp (disch := omega) only [reduceCtorEq, Nat.reduceMod, Nat.reduceDiv, Nat.reduceSub, Nat.reduceMul, Int.reduceToNat, Int.reduceLT, Int.reduceLE, Nat.reduceEqDiff, ↓reduceIte, Nat.reduceLeDiff, Nat.reduceLT, Nat.reduceAdd, Nat.reduceBNe, Nat.reduceBEq, forall_const, evz, pickAV, AV.cells, ofV, evO, W, hq, Nat.mul_one, Int.reduceBEq, Int.cast_ofNat_Int, Int.natCast_one, Int.reduceEq, Int.toNat_natCast, Int.natCast_nonneg, ty3, ty32, ty35, ty118, hA, hQ, hN]; (repeat (refine ndI (by first | assumption | omega | rfl) ?_)); (first | apply eff_rd | apply eff_st | apply eff_nw)))); (simp (disch := omega) only [St.eff, setO, hputs, St.free, freeH, reduceCtorEq, Nat.reduceMod, Nat.reduceDiv, Nat.reduceSub, Nat.reduceMul, Int.reduceToNat, Int.reduceLT, Int.reduceLE, Nat.reduceEqDiff, ↓reduceIte, Nat.reduceLeDiff, Nat.reduceLT, Nat.reduceAdd, Nat.reduceBNe, Nat.reduceBEq, forall_const, evz, pickAV, AV.cells, ofV, evO, W, hq, Nat.mul_one, Int.reduceBEq, Int.cast_ofNat_Int, Int.natCast_one, Int.reduceEq, Int.toNat_natCast, Int.natCast_nonneg])) | ((with_reducible refine evC_draw ?_ ?_ ?_ ?_); kernel_rfl; kernel_rfl; (first | kernel_rfl | simp [newNames, isNew, St.free, freeH, AV.refsL, AV.refs]); intro R hR)))))
        all_goals exact hΨ _ hlt (St.le_of (by simp [leT]) (by simp [leH, hget]))
    · have k3 : (decide ((i : Int) < 256)) = false := by simp; omega
      rw [Nat.min_eq_right (by omega : 256 ≤ i)] at *
      rw [Nat.min_eq_right (by omega : 256 ≤ i + 1)] at hΨ
      (have W := ndI k1 (ndI k2 (ndI k3 (ndI k7 @wrI))); (repeat (any_goals (first | ((with_reducible refine evL_one ?_ ?_); rfl; intro K hK; simp (disch := omega) only [go_sem, W, Nat.mul_one]; ((repeat (refine ndI (by first | assumption | omega | rfl) ?_)); refine hK _ ?_; clear hK K)) | (with_reducible first | (refine evL_nil ?_; refine hR _ ?_; clear hR R) | ((first | refine evC_seq ?_ | refine evC_block ?_); intro Ψ hΨ hΨ') | (refine evC_region ?_; intro R hR) | (refine hΨ _ ?_; clear hΨ hΨ' Ψ) | refine evC_skip ?_ | refine evC_ret ?_ | refine evC_exit ?_) | ((with_reducible refine hΨ' _ _ ?_ ?_); (focus (simp; done)); clear hΨ hΨ' Ψ) | ((with_reducible apply evL_unmet); rfl; rfl; rfl; (try simp (disch := omega) only [go_sem, W, Nat.mul_one])) | ((with_reducible apply evL_grd); rfl; rfl; rfl; all_goals (intro hb; first | (cases hb; done) | ((try simp only [Bool.not_true, Bool.not_false] at hb); (first | ((with_reducible intro K hK); simp (disch := omega) only [go_sem, W, Nat.mul_one]; ((repeat (refine ndI (by first | assumption | omega | rfl) ?_)); refine hK _ ?_; clear hK K)) | ((fail_if_success (with_reducible intro _)); simp (disch := omega) only [go_sem, W, Nat.mul_one]))))) | ((with_reducible apply evC_cond); rfl; rfl; all_goals (intro hc; first | (cases hc; done) | (try simp only at hc))) | ((with_reducible refine evD_nil ?_ ?_); kernel_rfl; (with_reducible refine hR _ ?_); clear hR R) | (((with_reducible apply evD_any); rfl; rfl; (simp (disch := omega) only [rdE, rdOf, go_sem, W, Nat.mul_one]; rfl); (intro τ hA hQ hN; ((try simp only [agree, Op.operands, Call.operands, go_sem, W, Nat.mul_one, go_sem, List.mem_cons, List.not_mem_nil, forall_eq_or_imp, forall_eq, List.append_toArray, Option.toArray] at hA); (try simp only [go_sem, W, Nat.mul_one, List.mem_cons, List.not_mem_nil, forall_eq_or_imp, forall_eq] at hQ hN); (first | (revert hA; intro hA) | have hA := trivial); (first | (revert hQ; intro hQ) | have hQ := trivial); (first | (revert hN; intro hN) | have hN := trivial); simp (disch := omega) only [go_sem, W, Nat.mul_one, go_sem, hA, hQ, hN]; (repeat (refine ndI (by first | assumption | omega | rfl) ?_)); (first | apply eff_rd | apply eff_st | apply eff_nw)))); (simp (disch := omega) only [St.eff, setO, hputs, go_sem, W, Nat.mul_one])) | ((with_reducible refine evC_draw ?_ ?_ ?_ ?_); kernel_rfl; kernel_rfl; (first | kernel_rfl | simp [newNames, isNew, St.free, freeH, AV.refsL, AV.refs]); intro R hR)))))
      all_goals exact hΨ _ hlt (St.le_of (by simp [leT]) (by simp [leH, hget]))
  · have k1 : (decide ((i : Int) < (k : Int))) = false := by simp; omega
    rw [Nat.min_eq_right (by omega : 256 ≤ i)]
    (repeat (any_goals (first | ((with_reducible refine evL_one ?_ ?_); rfl; intro K hK; simp only [go_sem, k1]; ((repeat (refine ndI (by first | assumption | omega | rfl) ?_)); refine hK _ ?_; clear hK K)) | (with_reducible first | (refine evL_nil ?_; refine hR _ ?_; clear hR R) | ((first | refine evC_seq ?_ | refine evC_block ?_); intro Ψ hΨ hΨ') | (refine evC_region ?_; intro R hR) | (refine hΨ _ ?_; clear hΨ hΨ' Ψ) | refine evC_skip ?_ | refine evC_ret ?_ | refine evC_exit ?_) | ((with_reducible refine hΨ' _ _ ?_ ?_); (focus (simp; done)); clear hΨ hΨ' Ψ) | ((with_reducible apply evL_unmet); rfl; rfl; rfl; (try simp only [go_sem, k1])) | ((with_reducible apply evL_grd); rfl; rfl; rfl; all_goals (intro hb; first | (cases hb; done) | ((try simp only [Bool.not_true, Bool.not_false] at hb); (first | ((with_reducible intro K hK); simp only [go_sem, k1]; ((repeat (refine ndI (by first | assumption | omega | rfl) ?_)); refine hK _ ?_; clear hK K)) | ((fail_if_success (with_reducible intro _)); simp only [go_sem, k1]))))) | ((with_reducible apply evC_cond); rfl; rfl; all_goals (intro hc; first | (cases hc; done) | (try simp only at hc))) | ((with_reducible refine evD_nil ?_ ?_); kernel_rfl; (with_reducible refine hR _ ?_); clear hR R) | (((with_reducible apply evD_any); rfl; rfl; (simp only [rdE, rdOf, go_sem, k1]; rfl); (intro τ hA hQ hN; ((try simp only [agree, Op.operands, Call.operands, go_sem, k1, go_sem, List.mem_cons, List.not_mem_nil, forall_eq_or_imp, forall_eq, List.append_toArray, Option.toArray] at hA); (try simp only [go_sem, k1, List.mem_cons, List.not_mem_nil, forall_eq_or_imp, forall_eq] at hQ hN); (first | (revert hA; intro hA) | have hA := trivial); (first | (revert hQ; intro hQ) | have hQ := trivial); (first | (revert hN; intro hN) | have hN := trivial); simp only [go_sem, k1, go_sem, hA, hQ, hN]; (repeat (refine ndI (by first | assumption | omega | rfl) ?_)); (first | apply eff_rd | apply eff_st | apply eff_nw)))); (simp only [St.eff, setO, hputs, go_sem, k1])) | ((with_reducible refine evC_draw ?_ ?_ ?_ ?_); kernel_rfl; kernel_rfl; (first | kernel_rfl | simp [newNames, isNew, St.free, freeH, AV.refsL, AV.refs]); intro R hR))))
    all_goals (refine ⟨by simp, ⟨_, ?_, AV.le_refl _⟩, leH_get (by simp [leH, hget])⟩; simp only [Try.results83, resL, ldA, oneOf, go_sem])
end Go.Proofs.Ytgdnmdnhkhpieaa
namespace Go.Proofs.Ytgdnmdnhkhpieaa
open Go.RowKit
open Nat (reduceBEq)
set_option maxRecDepth 20000
set_option maxHeartbeats 2000000
theorem over_bit {x y : Nat} (hx : x < WW) (hy : y < WW) : (((bitN (x + y) 256 : Nat) : Int) == 1) = decide (WW ≤ x + y) := by
  have hx' : x < 2 ^ 256 := hx
  have hy' : y < 2 ^ 256 := hy
  have hW : WW = 2 ^ 256 := rfl
  rw [hW]
  unfold bitN
  generalize (2 : Nat) ^ 256 = M at hx' hy' ⊢
  rw [Bool.eq_iff_iff]
  simp only [beq_iff_eq, decide_eq_true_eq]
  have h1 : (x + y) / M < 2 := Nat.div_lt_of_lt_mul (by omega)
  rcases Nat.lt_or_ge (x + y) M with h | h
  · rw [Nat.div_eq_of_lt h]; simp; omega
  · have : 1 ≤ (x + y) / M := (Nat.le_div_iff_mul_le (by omega)).2 (by omega)
    have e : (x + y) / M = 1 := by omega
    rw [e]; simp; omega
theorem refadd_fn (x y : Nat) (hx : x < WW) (hy : y < WW) : Fn Try.prog 60 [wN x, wN y] [] (.tup [wN ((x + y) % WW), vb (decide (WW ≤ x + y))]) [] := by
  have b1 := bits_fn x hx
  have b2 := bits_fn y hy
  have ad := addb_fn false false x y hx hy
  have of := ofb_fn false (x + y) 257 (by decide) (by decide)
  have ob := over_bit hx hy
  have hl := bitsL_len (x + y) 257
  have hbit := isl_at (bitsL_at (z := x + y) (show 256 < 257 by decide))
  generalize decide (WW ≤ x + y) = q at ob ⊢
  generalize (x + y) % WW = r at of ⊢
  generalize bitN (x + y) 256 = s at ob hbit
  generalize bitsL (x + y) 257 = l at ad of hl hbit
  generalize bitsL x 256 = lx at b1 ad
  generalize bitsL y 256 = ly at b2 ad
  have hl2 : 256 < l.length := by omega
  (refine fn_of Try.func60 rfl (by rfl) ?_; simp only [Try.ntmps60, List.length_cons, List.length_nil, Nat.reduceAdd, Nat.reduceSub, List.replicate, List.cons_append, List.nil_append])
  (repeat (any_goals (first | ((with_reducible refine evL_one ?_ ?_); rfl; intro K hK; simp (disch := omega) only [go_sem, ob, hbit, hl, Nat.mul_one, Nat.reduceMul]; ((repeat (refine ndI (by first | assumption | omega | rfl) ?_)); refine hK _ ?_; clear hK K)) | (with_reducible first | (refine evL_nil ?_; refine hR _ ?_; clear hR R) | ((first | refine evC_seq ?_ | refine evC_block ?_); intro Ψ hΨ hΨ') | (refine evC_region ?_; intro R hR) | (refine hΨ _ ?_; clear hΨ hΨ' Ψ) | refine evC_skip ?_ | refine evC_ret ?_ | refine evC_exit ?_) | ((with_reducible refine hΨ' _ _ ?_ ?_); (focus (simp; done)); clear hΨ hΨ' Ψ) | ((with_reducible apply evC_cond); rfl; rfl; all_goals (intro hc; first | (cases hc; done) | (try simp only at hc))) | ((with_reducible refine evD_nil ?_ ?_); kernel_rfl; (with_reducible refine hR _ ?_); clear hR R) | ((first | ((with_reducible apply evD_fcall); rfl; rfl; (first | ((first | (apply opF_callB (ad); rfl; rfl; rfl; rfl; exact Try.func81) | (apply opF_callB (of); rfl; rfl; rfl; rfl; exact Try.func83)); kernel_rfl; rfl; (simp (disch := omega) only [go_sem, ob, hbit, hl, Nat.mul_one, Nat.reduceMul]; rfl); (first | rfl | simp [AV.inNL, AV.inN])) | ((apply opF_callB (b1); rfl; rfl; rfl; rfl; exact Try.func82); kernel_rfl; rfl; (simp (disch := omega) only [go_sem, ob, hbit, hl, Nat.mul_one, Nat.reduceMul]; rfl); (first | rfl | simp [AV.inNL, AV.inN])) | ((apply opF_callB (b2); rfl; rfl; rfl; rfl; exact Try.func82); kernel_rfl; rfl; (simp (disch := omega) only [go_sem, ob, hbit, hl, Nat.mul_one, Nat.reduceMul]; rfl); (first | rfl | simp [AV.inNL, AV.inN])))) | ((with_reducible apply evD_any); rfl; rfl; (simp (disch := omega) only [rdE, rdOf, go_sem, ob, hbit, hl, Nat.mul_one, Nat.reduceMul]; rfl); (intro τ hA hQ hN; ((try simp only [agree, Op.operands, Call.operands, go_sem, ob, hbit, hl, Nat.mul_one, Nat.reduceMul, go_sem, List.mem_cons, List.not_mem_nil, forall_eq_or_imp, forall_eq, List.append_toArray, Option.toArray] at hA); (try simp only [go_sem, ob, hbit, hl, Nat.mul_one, Nat.reduceMul, List.mem_cons, List.not_mem_nil, forall_eq_or_imp, forall_eq] at hQ hN); (first | (revert hA; intro hA) | have hA := trivial); (first | (revert hQ; intro hQ) | have hQ := trivial); (first | (revert hN; intro hN) | have hN := trivial); simp (disch := omega) only [go_sem, ob, hbit, hl, Nat.mul_one, Nat.reduceMul, go_sem, hA, hQ, hN]; (repeat (refine ndI (by first | assumption | omega | rfl) ?_)); (first | apply eff_rd | apply eff_st | apply eff_nw))))); (simp (disch := omega) only [St.eff, setO, hputs, go_sem, ob, hbit, hl, Nat.mul_one, Nat.reduceMul])) | ((with_reducible refine evC_draw ?_ ?_ ?_ ?_); kernel_rfl; kernel_rfl; (first | kernel_rfl | simp [newNames, isNew, St.free, freeH, AV.refsL, AV.refs]); intro R hR))))
  all_goals (refine ⟨by simp, ⟨_, ?_, AV.le_refl _⟩, leH_get (by simp [leH, hget])⟩; simp only [Try.results60, resL, ldA, oneOf, go_sem])
end Go.Proofs.Ytgdnmdnhkhpieaa
namespace Go.Proofs.Ytgdnmdnhkhpieaa
open Go.RowKit
open Nat (reduceBEq)
set_option maxRecDepth 20000
set_option maxHeartbeats 2000000
theorem refsum_fn (ex : Bool) (l : List Nat) (hl : l.length ≤ 1000) (hw : ∀ x ∈ l, x < WW) : Fn Try.prog 84 [wsl ex l] [] (.tup [wN (l.sum % WW), vb (decide (WW ≤ l.sum))]) [] := by
  have hW : 0 < WW := by decide
  obtain ⟨tn, htn⟩ : ∃ n, l.sum % WW = n := ⟨_, rfl⟩
  obtain ⟨tq, htq⟩ : ∃ q, decide (WW ≤ l.sum) = q := ⟨_, rfl⟩
  rw [htn, htq]
  (refine fn_of Try.func84 rfl (by rfl) ?_; simp only [Try.ntmps84, List.length_cons, List.length_nil, Nat.reduceAdd, Nat.reduceSub, List.replicate, List.cons_append, List.nil_append])
  (repeat (any_goals (first | ((with_reducible refine evL_one ?_ ?_); rfl; intro K hK; simp only [go_sem]; ((repeat (refine ndI (by first | assumption | omega | rfl) ?_)); refine hK _ ?_; clear hK K)) | (with_reducible first | (refine evL_nil ?_; refine hR _ ?_; clear hR R) | ((first | refine evC_seq ?_ | refine evC_block ?_); intro Ψ hΨ hΨ') | (refine evC_region ?_; intro R hR) | (refine hΨ _ ?_; clear hΨ hΨ' Ψ) | refine evC_skip ?_ | refine evC_ret ?_ | refine evC_exit ?_) | ((with_reducible refine hΨ' _ _ ?_ ?_); (focus (simp; done)); clear hΨ hΨ' Ψ) | ((with_reducible apply evL_unmet); rfl; rfl; rfl; (try simp only [go_sem])) | ((with_reducible apply evL_grd); rfl; rfl; rfl; all_goals (intro hb; first | (cases hb; done) | ((try simp only [Bool.not_true, Bool.not_false] at hb); (first | ((with_reducible intro K hK); simp only [go_sem]; ((repeat (refine ndI (by first | assumption | omega | rfl) ?_)); refine hK _ ?_; clear hK K)) | ((fail_if_success (with_reducible intro _)); simp only [go_sem]))))) | ((with_reducible apply evC_cond); rfl; rfl; all_goals (intro hc; first | (cases hc; done) | (try simp only at hc))))))
  refine evC_loop (α := { p : Nat × Nat × Bool // p.1 ≤ l.length ∧ p.2.1 = (l.take p.1).sum % WW ∧ p.2.2 = decide (WW ≤ (l.take p.1).sum) }) (fun p => ⟨[wsl ex l, .any, .ptr 2 0, .any, .ptr 4 0, vb p.1.2.2, .any, .any, .any, .any, wsl ex l, vi .i64 l.length, vi .i64 p.1.1, .any, .any, .any, .any, .any, .any, .any, .any, .any, .any, .any, .any, .any, .any, .any, .any, .any], [(2, [vi .u64 0, vi .u64 0, vi .u64 0, vi .u64 0]), (4, [vi .u64 (l0 p.1.2.1), vi .u64 (l1 p.1.2.1), vi .u64 (l2 p.1.2.1), vi .u64 (l3 p.1.2.1)])]⟩) (fun p => l.length - p.1.1) ⟨(0, 0, false), Nat.zero_le _, by simp, by simp [WW]⟩ (St.le_of (by simp [leT]) (by simp [leH, hget, l0_zero, l1_zero, l2_zero, l3_zero])) ?_
  rintro ⟨⟨i, n, q⟩, hi, hn, hq⟩ Ψ hΨ hΨ'
  dsimp only at hi hn hq hΨ ⊢
  rcases Nat.lt_or_ge i l.length with hlt | hge
  · obtain ⟨y, hy⟩ : ∃ y, l[i]? = some y := ⟨l[i], List.getElem?_eq_getElem hlt⟩
    have k1 : (decide ((i : Int) < (l.length : Int))) = true := by simpa using hlt
    have k2 := wsl_at hy
    have k7 : (i : Int) + 1 = ((i + 1 : Nat) : Int) := by omega
    have hnw : n < WW := by rw [hn]; exact Nat.mod_lt _ hW
    have hyw := hw y (List.mem_of_getElem? hy)
    have ad := refadd_fn n y hnw hyw
    have hs : (l.take (i + 1)).sum = (l.take i).sum + y := by rw [List.take_add_one, hy]; simp
    have h1 : (n + y) % WW = (l.take (i + 1)).sum % WW := by rw [hs, hn, Nat.add_mod]; simp
    have h2 : (q || decide (WW ≤ n + y)) = decide (WW ≤ (l.take (i + 1)).sum) := by
      rw [Bool.eq_iff_iff, hq, hs]
      simp only [Bool.or_eq_true, decide_eq_true_eq]
      rcases Nat.lt_or_ge (l.take i).sum WW with h | h
      · rw [hn, Nat.mod_eq_of_lt h]; omega
      · omega
    obtain ⟨m, hm⟩ : ∃ m, (n + y) % WW = m := ⟨_, rfl⟩
    obtain ⟨b, hb⟩ : ∃ b, decide (WW ≤ n + y) = b := ⟨_, rfl⟩
    rw [hm, hb] at ad
    rw [hm] at h1
    rw [hb] at h2
    cases q with
    | true =>
      (have W := ndI k1 (ndI k2 (ndI k7 @wrI)); (repeat (any_goals (first | ((with_reducible refine evL_call ?_ ?_ ?_); rfl; rfl; intro K hK; ((apply opA_callB (ad); rfl; rfl; rfl; rfl; exact Try.func60); kernel_rfl; rfl; (simp (disch := omega) only [go_sem, W]; rfl); (first | rfl | simp [AV.inNL, AV.inN])); (simp (disch := omega) only [go_sem, W]; refine hK _ ?_; clear hK K)) | ((with_reducible refine evL_one ?_ ?_); rfl; intro K hK; simp (disch := omega) only [go_sem, W]; ((repeat (refine ndI (by first | assumption | omega | rfl) ?_)); refine hK _ ?_; clear hK K)) | (with_reducible first | (refine evL_nil ?_; refine hR _ ?_; clear hR R) | ((first | refine evC_seq ?_ | refine evC_block ?_); intro Ψ hΨ hΨ') | (refine evC_region ?_; intro R hR) | (refine hΨ _ ?_; clear hΨ hΨ' Ψ) | refine evC_skip ?_ | refine evC_ret ?_ | refine evC_exit ?_) | ((with_reducible refine hΨ' _ _ ?_ ?_); (focus (simp; done)); clear hΨ hΨ' Ψ) | ((with_reducible apply evL_unmet); rfl; rfl; rfl; (try simp (disch := omega) only [go_sem, W])) | ((with_reducible apply evL_grd); rfl; rfl; rfl; all_goals (intro hb; first | (cases hb; done) | ((try simp only [Bool.not_true, Bool.not_false] at hb); (first | ((with_reducible intro K hK); simp (disch := omega) only [go_sem, W]; ((repeat (refine ndI (by first | assumption | omega | rfl) ?_)); refine hK _ ?_; clear hK K)) | ((fail_if_success (with_reducible intro _)); simp (disch := omega) only [go_sem, W]))))) | ((with_reducible apply evC_cond); rfl; rfl; all_goals (intro hc; first | (cases hc; done) | (try simp only at hc)))))))
      exact hΨ _ ⟨(i + 1, m, true), hlt, h1, by simpa using h2⟩ (by simp only; omega) (St.le_of (by simp [leT]) (by simp [leH, hget]))
    | false =>
      (have W := ndI k1 (ndI k2 (ndI k7 @wrI)); (repeat (any_goals (first | ((with_reducible refine evL_call ?_ ?_ ?_); rfl; rfl; intro K hK; ((apply opA_callB (ad); rfl; rfl; rfl; rfl; exact Try.func60); kernel_rfl; rfl; (simp (disch := omega) only [go_sem, W]; rfl); (first | rfl | simp [AV.inNL, AV.inN])); (simp (disch := omega) only [go_sem, W]; refine hK _ ?_; clear hK K)) | ((with_reducible refine evL_one ?_ ?_); rfl; intro K hK; simp (disch := omega) only [go_sem, W]; ((repeat (refine ndI (by first | assumption | omega | rfl) ?_)); refine hK _ ?_; clear hK K)) | (with_reducible first | (refine evL_nil ?_; refine hR _ ?_; clear hR R) | ((first | refine evC_seq ?_ | refine evC_block ?_); intro Ψ hΨ hΨ') | (refine evC_region ?_; intro R hR) | (refine hΨ _ ?_; clear hΨ hΨ' Ψ) | refine evC_skip ?_ | refine evC_ret ?_ | refine evC_exit ?_) | ((with_reducible refine hΨ' _ _ ?_ ?_); (focus (simp; done)); clear hΨ hΨ' Ψ) | ((with_reducible apply evL_unmet); rfl; rfl; rfl; (try simp (disch := omega) only [go_sem, W])) | ((with_reducible apply evL_grd); rfl; rfl; rfl; all_goals (intro hb; first | (cases hb; done) | ((try simp only [Bool.not_true, Bool.not_false] at hb); (first | ((with_reducible intro K hK); simp (disch := omega) only [go_sem, W]; ((repeat (refine ndI (by first | assumption | omega | rfl) ?_)); refine hK _ ?_; clear hK K)) | ((fail_if_success (with_reducible intro _)); simp (disch := omega) only [go_sem, W]))))) | ((with_reducible apply evC_cond); rfl; rfl; all_goals (intro hc; first | (cases hc; done) | (try simp only at hc)))))))
      exact hΨ _ ⟨(i + 1, m, b), hlt, h1, by simpa using h2⟩ (by simp only; omega) (St.le_of (by simp [leT]) (by simp [leH, hget]))
  · have k1 : (decide ((i : Int) < (l.length : Int))) = false := by simpa using hge
    have e : l.take i = l := List.take_of_length_le hge
    rw [e, htn] at hn
    rw [e, htq] at hq
    rw [hn, hq]
    (repeat (any_goals (first | ((with_reducible refine evL_one ?_ ?_); rfl; intro K hK; simp only [go_sem, k1]; ((repeat (refine ndI (by first | assumption | omega | rfl) ?_)); refine hK _ ?_; clear hK K)) | (with_reducible first | (refine evL_nil ?_; refine hR _ ?_; clear hR R) | ((first | refine evC_seq ?_ | refine evC_block ?_); intro Ψ hΨ hΨ') | (refine evC_region ?_; intro R hR) | (refine hΨ _ ?_; clear hΨ hΨ' Ψ) | refine evC_skip ?_ | refine evC_ret ?_ | refine evC_exit ?_) | ((with_reducible refine hΨ' _ _ ?_ ?_); (focus (simp; done)); clear hΨ hΨ' Ψ) | ((with_reducible apply evL_unmet); rfl; rfl; rfl; (try simp only [go_sem, k1])) | ((with_reducible apply evL_grd); rfl; rfl; rfl; all_goals (intro hb; first | (cases hb; done) | ((try simp only [Bool.not_true, Bool.not_false] at hb); (first | ((with_reducible intro K hK); simp only [go_sem, k1]; ((repeat (refine ndI (by first | assumption | omega | rfl) ?_)); refine hK _ ?_; clear hK K)) | ((fail_if_success (with_reducible intro _)); simp only [go_sem, k1]))))) | ((with_reducible apply evC_cond); rfl; rfl; all_goals (intro hc; first | (cases hc; done) | (try simp only at hc))))))
    all_goals (refine ⟨by simp, ⟨_, ?_, AV.le_refl _⟩, leH_get (by simp [leH, hget])⟩; simp only [Try.results84, resL, ldA, oneOf, go_sem])
end Go.Proofs.Ytgdnmdnhkhpieaa
namespace Go.Proofs.Ytgdnmdnhkhpieaa
open Go.RowKit
open Nat (reduceBEq)
set_option maxRecDepth 20000
set_option maxHeartbeats 2000000
theorem okTo_no {st : List Pr} {i : Nat} (h : okTo st i = false) : ∀ j, i ≤ j → okTo st j = false
  | 0, hj => by
    obtain rfl : i = 0 := by omega
    exact h
  | j + 1, hj => by
    by_cases e : i = j + 1
    · rw [← e]; exact h
    · have := okTo_no h j (by omega)
      show (okTo st j && okP st j) = false
      rw [this]; rfl
theorem right_fn (x : Ac) (hs : ∀ p ∈ x.store, p.ok) : Fn Try.prog 73 [acA x] [] (vb (okAc x)) [] := by
  obtain ⟨a, b, n, code, store⟩ := x
  dsimp only at hs
  unfold okAc
  dsimp only
  obtain ⟨p1, e1⟩ : ∃ p, decide (a ≠ 0) = p := ⟨_, rfl⟩
  obtain ⟨p2, e2⟩ : ∃ p, decide (code.length ≤ 200) = p := ⟨_, rfl⟩
  obtain ⟨p3, e3⟩ : ∃ p, decide (store.length ≤ 24) = p := ⟨_, rfl⟩
  have f1 : (a == 0) = !p1 := by rw [← e1]; by_cases h : a = 0 <;> simp [h]
  have f2 : decide ((code.length : Int) > 200) = !p2 := by
    rw [← e2]
    by_cases h : code.length ≤ 200
    · rw [decide_eq_true h, decide_eq_false (by omega)]; rfl
    · rw [decide_eq_false h, decide_eq_true (by omega)]; rfl
  have f3 : decide ((store.length : Int) > 24) = !p3 := by
    rw [← e3]
    by_cases h : store.length ≤ 24
    · rw [decide_eq_true h, decide_eq_false (by omega)]; rfl
    · rw [decide_eq_false h, decide_eq_true (by omega)]; rfl
  rw [e1, e2, e3]
  by_cases hp : (p1 && p2 && p3) = true
  · rw [hp, Bool.true_and]
    simp only [Bool.and_eq_true] at hp
    obtain ⟨⟨rfl, rfl⟩, rfl⟩ := hp
    have hl24 : store.length ≤ 24 := of_decide_eq_true e3
    simp only [Bool.not_true] at f1 f2 f3
    obtain ⟨rr, hrr⟩ : ∃ r, okTo store store.length = r := ⟨_, rfl⟩
    rw [hrr]
    (refine fn_of Try.func73 rfl (by rfl) ?_; simp only [Try.ntmps73, List.length_cons, List.length_nil, Nat.reduceAdd, Nat.reduceSub, List.replicate, List.cons_append, List.nil_append])
    (have W := ndI f1 (ndI f2 f3); (repeat (any_goals (first | ((with_reducible refine evL_one ?_ ?_); rfl; intro K hK; simp only [go_sem, W]; ((repeat (refine ndI (by first | assumption | omega | rfl) ?_)); refine hK _ ?_; clear hK K)) | (with_reducible first | (refine evL_nil ?_; refine hR _ ?_; clear hR R) | ((first | refine evC_seq ?_ | refine evC_block ?_); intro Ψ hΨ hΨ') | (refine evC_region ?_; intro R hR) | (refine hΨ _ ?_; clear hΨ hΨ' Ψ) | refine evC_skip ?_ | refine evC_ret ?_ | refine evC_exit ?_) | ((with_reducible refine hΨ' _ _ ?_ ?_); (focus (simp; done)); clear hΨ hΨ' Ψ) | ((with_reducible apply evL_unmet); rfl; rfl; rfl; (try simp only [go_sem, W])) | ((with_reducible apply evL_grd); rfl; rfl; rfl; all_goals (intro hb; first | (cases hb; done) | ((try simp only [Bool.not_true, Bool.not_false] at hb); (first | ((with_reducible intro K hK); simp only [go_sem, W]; ((repeat (refine ndI (by first | assumption | omega | rfl) ?_)); refine hK _ ?_; clear hK K)) | ((fail_if_success (with_reducible intro _)); simp only [go_sem, W]))))) | ((with_reducible apply evC_cond); rfl; rfl; all_goals (intro hc; first | (cases hc; done) | (try simp only at hc))) | ((with_reducible refine evD_nil ?_ ?_); kernel_rfl; (with_reducible refine hR _ ?_); clear hR R) | ((first | ((with_reducible apply evD_skip); rfl; rfl; rfl; rfl) | ((with_reducible apply evD_unmet); rfl; rfl; rfl) | ((first | ((with_reducible apply evD_any); rfl; rfl) | ((with_reducible apply evD_gany); rfl; rfl; rfl; rfl; rfl)); (simp only [rdE, rdOf, go_sem, W]; rfl); (intro τ hA hQ hN; ((try simp only [agree, Op.operands, Call.operands, go_sem, W, go_sem, List.mem_cons, List.not_mem_nil, forall_eq_or_imp, forall_eq, List.append_toArray, Option.toArray] at hA); (try simp only [go_sem, W, List.mem_cons, List.not_mem_nil, forall_eq_or_imp, forall_eq] at hQ hN); (first | (revert hA; intro hA) | have hA := trivial); (first | (revert hQ; intro hQ) | have hQ := trivial); (first | (revert hN; intro hN) | have hN := trivial); simp only [go_sem, W, go_sem, hA, hQ, hN]; (repeat (refine ndI (by first | assumption | omega | rfl) ?_)); (first | apply eff_rd | apply eff_st | apply eff_nw))))); (simp only [St.eff, setO, hputs, go_sem, W])) | ((with_reducible apply evD_split); rfl; rfl; rfl; all_goals intro hb; all_goals (simp only [St.eff, setO, hputs, go_sem, W])) | ((with_reducible refine evC_draw ?_ ?_ ?_ ?_); kernel_rfl; kernel_rfl; (first | kernel_rfl | simp [newNames, isNew, St.free, freeH, AV.refsL, AV.refs]); intro R hR)))))
    refine evC_loop (α := { i : Nat // i ≤ store.length ∧ okTo store i = true }) (fun x => ⟨[.any, .ptr 1 0, vb false, .any, .any, .any, .any, .any, .any, .any, .any, .any, .any, .any, .any, .any, .any, .any, .any, .any, .any, .c (psV store), vi .i64 store.length, vi .i64 (x.1 : Int), .any, .any, .any, .any, .any, .any, .any, .any, .any, .any, .any, .any, .any, .any, .any, .any, .any, .any, .any, .any, .any, .any, .any, .any, .any, .any], [(1, ac8 a b n (bsV code) (psV store))]⟩) (fun x => store.length - x.1) ⟨0, Nat.zero_le _, rfl⟩ (St.le_of (by simp [leT]) (by simp [leH, hget])) ?_
    rintro ⟨i, hi, hok⟩ Ψ hΨ hΨ'
    (try dsimp only at hΨ ⊢)
    have k7 : (i : Int) + 1 = ((i + 1 : Nat) : Int) := by omega
    rcases Nat.lt_or_ge i store.length with hlt | hge
    · obtain ⟨p, hp⟩ : ∃ p, store[i]? = some p := ⟨_, List.getElem?_eq_getElem hlt⟩
      have k1 : (decide ((i : Int) < (store.length : Int))) = true := decide_eq_true (by omega)
      have k2 := ps_at hp
      have hv := zero_dec (hs p (List.mem_of_getElem? hp)).2
      obtain ⟨q1, hq1⟩ : ∃ q, decide (p.v ≠ 0) = q := ⟨_, rfl⟩
      rw [hq1] at hv
      have hnx : okTo store (i + 1) = okP store i := by show (okTo store i && okP store i) = _; rw [hok, Bool.true_and]
      have hno : okP store i = false → rr = false := fun h => by
        rw [← hrr]
        exact okTo_no (by rw [hnx]; exact h) store.length hlt
      have hΨ1 := fun (h : okP store i = true) σ' => hΨ σ' ⟨i + 1, hlt, by rw [hnx]; exact h⟩ (by dsimp only; omega)
      dsimp only at hΨ1
      rcases Nat.eq_zero_or_pos i with h0 | h0
      · have n3 : (decide ((i : Int) > 0)) = false := by simp; omega
        have hok' : okP store i = q1 := by
          rw [h0] at hp ⊢
          rw [okP_zero hp, hq1]
        rw [hok'] at hno hΨ1
        cases q1
        all_goals simp only [Bool.not_true, Bool.not_false] at hv
        all_goals first | (have hrf := hno rfl; clear hΨ1) | skip
        all_goals (have W := ndI k1 (ndI k2 (ndI k7 (ndI n3 @wrI))); (repeat (any_goals (first | ((with_reducible refine evL_one ?_ ?_); rfl; intro K hK; simp (disch := omega) only [go_sem, W, hv]; ((repeat (refine ndI (by first | assumption | omega | rfl) ?_)); refine hK _ ?_; clear hK K)) | (with_reducible first | (refine evL_nil ?_; refine hR _ ?_; clear hR R) | ((first | refine evC_seq ?_ | refine evC_block ?_); intro Ψ hΨ hΨ') | (refine evC_region ?_; intro R hR) | (refine hΨ _ ?_; clear hΨ hΨ' Ψ) | refine evC_skip ?_ | refine evC_ret ?_ | refine evC_exit ?_) | ((with_reducible refine hΨ' _ _ ?_ ?_); (focus (simp; done)); clear hΨ hΨ' Ψ) | ((with_reducible apply evL_unmet); rfl; rfl; rfl; (try simp (disch := omega) only [go_sem, W, hv])) | ((with_reducible apply evL_grd); rfl; rfl; rfl; all_goals (intro hb; first | (cases hb; done) | ((try simp only [Bool.not_true, Bool.not_false] at hb); (first | ((with_reducible intro K hK); simp (disch := omega) only [go_sem, W, hv]; ((repeat (refine ndI (by first | assumption | omega | rfl) ?_)); refine hK _ ?_; clear hK K)) | ((fail_if_success (with_reducible intro _)); simp (disch := omega) only [go_sem, W, hv]))))) | ((with_reducible apply evC_cond); rfl; rfl; all_goals (intro hc; first | (cases hc; done) | (try simp only at hc))) | ((with_reducible refine evD_nil ?_ ?_); kernel_rfl; (with_reducible refine hR _ ?_); clear hR R) | ((first | ((with_reducible apply evD_skip); rfl; rfl; rfl; rfl) | ((with_reducible apply evD_unmet); rfl; rfl; rfl) | ((first | ((with_reducible apply evD_any); rfl; rfl) | ((with_reducible apply evD_gany); rfl; rfl; rfl; rfl; rfl)); (simp (disch := omega) only [rdE, rdOf, go_sem, W, hv]; rfl); (intro τ hA hQ hN; ((try simp only [agree, Op.operands, Call.operands, go_sem, W, hv, go_sem, List.mem_cons, List.not_mem_nil, forall_eq_or_imp, forall_eq, List.append_toArray, Option.toArray] at hA); (try simp only [go_sem, W, hv, List.mem_cons, List.not_mem_nil, forall_eq_or_imp, forall_eq] at hQ hN); (first | (revert hA; intro hA) | have hA := trivial); (first | (revert hQ; intro hQ) | have hQ := trivial); (first | (revert hN; intro hN) | have hN := trivial); simp (disch := omega) only [go_sem, W, hv, go_sem, hA, hQ, hN]; (repeat (refine ndI (by first | assumption | omega | rfl) ?_)); (first | apply eff_rd | apply eff_st | apply eff_nw))))); (simp (disch := omega) only [St.eff, setO, hputs, go_sem, W, hv])) | ((with_reducible apply evD_split); rfl; rfl; rfl; all_goals intro hb; all_goals (simp (disch := omega) only [St.eff, setO, hputs, go_sem, W, hv])) | ((with_reducible refine evC_draw ?_ ?_ ?_ ?_); kernel_rfl; kernel_rfl; (first | kernel_rfl | simp [newNames, isNew, St.free, freeH, AV.refsL, AV.refs]); intro R hR)))))
        all_goals first | exact hΨ1 rfl _ (St.le_of (by simp [leT]) (by simp [leH, hget])) | (rw [hrf]; (refine ⟨by simp, ⟨_, ?_, AV.le_refl _⟩, leH_get (by simp [leH, hget])⟩; simp only [Try.results73, resL, ldA, oneOf, go_sem]))
      · obtain ⟨j, hj⟩ : ∃ j, i = j + 1 := ⟨i - 1, by omega⟩
        obtain ⟨q, hq⟩ : ∃ q, store[j]? = some q := ⟨_, List.getElem?_eq_getElem (by omega)⟩
        have n3 : (decide ((i : Int) > 0)) = true := by simp; omega
        have n4 := ps_at hq
        have n5 : (i : Int) - 1 = (j : Int) := by omega
        have hjl : j < store.length := by omega
        have cm := refcmp_fn q.k p.k (hs q (List.mem_of_getElem? hq)).1 (hs p (List.mem_of_getElem? hp)).1
        obtain ⟨q2, hq2⟩ : ∃ c, decide (q.k < p.k) = c := ⟨_, rfl⟩
        have hok' : okP store i = (q1 && q2) := by
          rw [hj] at hp ⊢
          rw [okP_succ hq hp, hq1, hq2]
        rw [hok'] at hno hΨ1
        obtain ⟨cv, hcv, hcd⟩ : ∃ cv : Int, cmpN q.k p.k = cv ∧ decide (cv ≥ 0) = !q2 := by
          refine ⟨_, rfl, ?_⟩
          rw [← hq2]
          unfold cmpN
          by_cases h : q.k < p.k
          · rw [if_pos h, decide_eq_true h]; rfl
          · rw [if_neg h, decide_eq_false h]; split <;> rfl
        rw [hcv] at cm
        cases q1 <;> cases q2
        all_goals simp only [Bool.not_true, Bool.not_false] at hv hcd
        all_goals first | (have hrf := hno rfl; clear hΨ1) | skip
        all_goals (have W := ndI k1 (ndI k2 (ndI k7 (ndI n3 (ndI n4 (ndI n5 @wrI))))); (repeat (any_goals (first | ((with_reducible refine evL_one ?_ ?_); rfl; intro K hK; simp (disch := omega) only [go_sem, W, hv, hcd]; ((repeat (refine ndI (by first | assumption | omega | rfl) ?_)); refine hK _ ?_; clear hK K)) | (with_reducible first | (refine evL_nil ?_; refine hR _ ?_; clear hR R) | ((first | refine evC_seq ?_ | refine evC_block ?_); intro Ψ hΨ hΨ') | (refine evC_region ?_; intro R hR) | (refine hΨ _ ?_; clear hΨ hΨ' Ψ) | refine evC_skip ?_ | refine evC_ret ?_ | refine evC_exit ?_) | ((with_reducible refine hΨ' _ _ ?_ ?_); (focus (simp; done)); clear hΨ hΨ' Ψ) | ((with_reducible apply evL_unmet); rfl; rfl; rfl; (try simp (disch := omega) only [go_sem, W, hv, hcd])) | ((with_reducible apply evL_grd); rfl; rfl; rfl; all_goals (intro hb; first | (cases hb; done) | ((try simp only [Bool.not_true, Bool.not_false] at hb); (first | ((with_reducible intro K hK); simp (disch := omega) only [go_sem, W, hv, hcd]; ((repeat (refine ndI (by first | assumption | omega | rfl) ?_)); refine hK _ ?_; clear hK K)) | ((fail_if_success (with_reducible intro _)); simp (disch := omega) only [go_sem, W, hv, hcd]))))) | ((with_reducible apply evC_cond); rfl; rfl; all_goals (intro hc; first | (cases hc; done) | (try simp only at hc))) | ((with_reducible refine evD_nil ?_ ?_); kernel_rfl; (with_reducible refine hR _ ?_); clear hR R) | ((first | ((with_reducible apply evD_skip); rfl; rfl; rfl; rfl) | ((with_reducible apply evD_unmet); rfl; rfl; rfl) | ((first | ((with_reducible apply evD_fcall); rfl; rfl) | ((with_reducible apply evD_gcall); rfl; rfl; rfl; rfl; rfl)); ((apply opF_callB (cm); rfl; rfl; rfl; rfl; exact Try.func43); kernel_rfl; rfl; (simp (disch := omega) only [go_sem, W, hv, hcd]; rfl); (first | rfl | simp [AV.inNL, AV.inN]))) | ((first | ((with_reducible apply evD_any); rfl; rfl) | ((with_reducible apply evD_gany); rfl; rfl; rfl; rfl; rfl)); (simp (disch := omega) only [rdE, rdOf, go_sem, W, hv, hcd]; rfl); (intro τ hA hQ hN; ((try simp only [agree, Op.operands, Call.operands, go_sem, W, hv, hcd, go_sem, List.mem_cons, List.not_mem_nil, forall_eq_or_imp, forall_eq, List.append_toArray, Option.toArray] at hA); (try simp only [go_sem, W, hv, hcd, List.mem_cons, List.not_mem_nil, forall_eq_or_imp, forall_eq] at hQ hN); (first | (revert hA; intro hA) | have hA := trivial); (first | (revert hQ; intro hQ) | have hQ := trivial); (first | (revert hN; intro hN) | have hN := trivial); simp (disch := omega) only [go_sem, W, hv, hcd, go_sem, hA, hQ, hN]; (repeat (refine ndI (by first | assumption | omega | rfl) ?_)); (first | apply eff_rd | apply eff_st | apply eff_nw))))); (simp (disch := omega) only [St.eff, setO, hputs, go_sem, W, hv, hcd])) | ((with_reducible apply evD_split); rfl; rfl; rfl; all_goals intro hb; all_goals (simp (disch := omega) only [St.eff, setO, hputs, go_sem, W, hv, hcd])) | ((with_reducible refine evC_draw ?_ ?_ ?_ ?_); kernel_rfl; kernel_rfl; (first | kernel_rfl | simp [newNames, isNew, St.free, freeH, AV.refsL, AV.refs]); intro R hR)))))
        all_goals first | exact hΨ1 rfl _ (St.le_of (by simp [leT]) (by simp [leH, hget])) | (rw [hrf]; (refine ⟨by simp, ⟨_, ?_, AV.le_refl _⟩, leH_get (by simp [leH, hget])⟩; simp only [Try.results73, resL, ldA, oneOf, go_sem]))
    · have k1 : (decide ((i : Int) < (store.length : Int))) = false := decide_eq_false (by omega)
      have e : i = store.length := by omega
      have hrt : rr = true := by rw [← hrr, ← e]; exact hok
      (repeat (any_goals (first | ((with_reducible refine evL_one ?_ ?_); rfl; intro K hK; simp only [go_sem, k1]; ((repeat (refine ndI (by first | assumption | omega | rfl) ?_)); refine hK _ ?_; clear hK K)) | (with_reducible first | (refine evL_nil ?_; refine hR _ ?_; clear hR R) | ((first | refine evC_seq ?_ | refine evC_block ?_); intro Ψ hΨ hΨ') | (refine evC_region ?_; intro R hR) | (refine hΨ _ ?_; clear hΨ hΨ' Ψ) | refine evC_skip ?_ | refine evC_ret ?_ | refine evC_exit ?_) | ((with_reducible refine hΨ' _ _ ?_ ?_); (focus (simp; done)); clear hΨ hΨ' Ψ) | ((with_reducible apply evL_unmet); rfl; rfl; rfl; (try simp only [go_sem, k1])) | ((with_reducible apply evL_grd); rfl; rfl; rfl; all_goals (intro hb; first | (cases hb; done) | ((try simp only [Bool.not_true, Bool.not_false] at hb); (first | ((with_reducible intro K hK); simp only [go_sem, k1]; ((repeat (refine ndI (by first | assumption | omega | rfl) ?_)); refine hK _ ?_; clear hK K)) | ((fail_if_success (with_reducible intro _)); simp only [go_sem, k1]))))) | ((with_reducible apply evC_cond); rfl; rfl; all_goals (intro hc; first | (cases hc; done) | (try simp only at hc))) | ((with_reducible refine evD_nil ?_ ?_); kernel_rfl; (with_reducible refine hR _ ?_); clear hR R) | ((first | ((with_reducible apply evD_skip); rfl; rfl; rfl; rfl) | ((with_reducible apply evD_unmet); rfl; rfl; rfl) | ((first | ((with_reducible apply evD_any); rfl; rfl) | ((with_reducible apply evD_gany); rfl; rfl; rfl; rfl; rfl)); (simp only [rdE, rdOf, go_sem, k1]; rfl); (intro τ hA hQ hN; ((try simp only [agree, Op.operands, Call.operands, go_sem, k1, go_sem, List.mem_cons, List.not_mem_nil, forall_eq_or_imp, forall_eq, List.append_toArray, Option.toArray] at hA); (try simp only [go_sem, k1, List.mem_cons, List.not_mem_nil, forall_eq_or_imp, forall_eq] at hQ hN); (first | (revert hA; intro hA) | have hA := trivial); (first | (revert hQ; intro hQ) | have hQ := trivial); (first | (revert hN; intro hN) | have hN := trivial); simp only [go_sem, k1, go_sem, hA, hQ, hN]; (repeat (refine ndI (by first | assumption | omega | rfl) ?_)); (first | apply eff_rd | apply eff_st | apply eff_nw))))); (simp only [St.eff, setO, hputs, go_sem, k1])) | ((with_reducible apply evD_split); rfl; rfl; rfl; all_goals intro hb; all_goals (simp only [St.eff, setO, hputs, go_sem, k1])) | ((with_reducible refine evC_draw ?_ ?_ ?_ ?_); kernel_rfl; kernel_rfl; (first | kernel_rfl | simp [newNames, isNew, St.free, freeH, AV.refsL, AV.refs]); intro R hR))))
      all_goals rw [hrt]
      all_goals (refine ⟨by simp, ⟨_, ?_, AV.le_refl _⟩, leH_get (by simp [leH, hget])⟩; simp only [Try.results73, resL, ldA, oneOf, go_sem])
  · have hpf : (p1 && p2 && p3) = false := by simpa using hp
    rw [hpf, Bool.false_and]
    clear e1 e2 e3 hp
    cases p1 <;> cases p2 <;> cases p3
    all_goals first | (cases hpf; done) | skip
    all_goals simp only [Bool.not_true, Bool.not_false] at f1 f2 f3
    all_goals (refine fn_of Try.func73 rfl (by rfl) ?_; simp only [Try.ntmps73, List.length_cons, List.length_nil, Nat.reduceAdd, Nat.reduceSub, List.replicate, List.cons_append, List.nil_append])
    all_goals (have W := ndI f1 (ndI f2 f3); (repeat (any_goals (first | ((with_reducible refine evL_one ?_ ?_); rfl; intro K hK; simp only [go_sem, W]; ((repeat (refine ndI (by first | assumption | omega | rfl) ?_)); refine hK _ ?_; clear hK K)) | (with_reducible first | (refine evL_nil ?_; refine hR _ ?_; clear hR R) | ((first | refine evC_seq ?_ | refine evC_block ?_); intro Ψ hΨ hΨ') | (refine evC_region ?_; intro R hR) | (refine hΨ _ ?_; clear hΨ hΨ' Ψ) | refine evC_skip ?_ | refine evC_ret ?_ | refine evC_exit ?_) | ((with_reducible refine hΨ' _ _ ?_ ?_); (focus (simp; done)); clear hΨ hΨ' Ψ) | ((with_reducible apply evL_unmet); rfl; rfl; rfl; (try simp only [go_sem, W])) | ((with_reducible apply evL_grd); rfl; rfl; rfl; all_goals (intro hb; first | (cases hb; done) | ((try simp only [Bool.not_true, Bool.not_false] at hb); (first | ((with_reducible intro K hK); simp only [go_sem, W]; ((repeat (refine ndI (by first | assumption | omega | rfl) ?_)); refine hK _ ?_; clear hK K)) | ((fail_if_success (with_reducible intro _)); simp only [go_sem, W]))))) | ((with_reducible apply evC_cond); rfl; rfl; all_goals (intro hc; first | (cases hc; done) | (try simp only at hc))) | ((with_reducible refine evD_nil ?_ ?_); kernel_rfl; (with_reducible refine hR _ ?_); clear hR R) | ((first | ((with_reducible apply evD_skip); rfl; rfl; rfl; rfl) | ((with_reducible apply evD_unmet); rfl; rfl; rfl) | ((first | ((with_reducible apply evD_any); rfl; rfl) | ((with_reducible apply evD_gany); rfl; rfl; rfl; rfl; rfl)); (simp only [rdE, rdOf, go_sem, W]; rfl); (intro τ hA hQ hN; ((try simp only [agree, Op.operands, Call.operands, go_sem, W, go_sem, List.mem_cons, List.not_mem_nil, forall_eq_or_imp, forall_eq, List.append_toArray, Option.toArray] at hA); (try simp only [go_sem, W, List.mem_cons, List.not_mem_nil, forall_eq_or_imp, forall_eq] at hQ hN); (first | (revert hA; intro hA) | have hA := trivial); (first | (revert hQ; intro hQ) | have hQ := trivial); (first | (revert hN; intro hN) | have hN := trivial); simp only [go_sem, W, go_sem, hA, hQ, hN]; (repeat (refine ndI (by first | assumption | omega | rfl) ?_)); (first | apply eff_rd | apply eff_st | apply eff_nw))))); (simp only [St.eff, setO, hputs, go_sem, W])) | ((with_reducible apply evD_split); rfl; rfl; rfl; all_goals intro hb; all_goals (simp only [St.eff, setO, hputs, go_sem, W])) | ((with_reducible refine evC_draw ?_ ?_ ?_ ?_); kernel_rfl; kernel_rfl; (first | kernel_rfl | simp [newNames, isNew, St.free, freeH, AV.refsL, AV.refs]); intro R hR)))))
    all_goals (refine ⟨by simp, ⟨_, ?_, AV.le_refl _⟩, leH_get (by simp [leH, hget])⟩; simp only [Try.results73, resL, ldA, oneOf, go_sem])
end Go.Proofs.Ytgdnmdnhkhpieaa
namespace Go.Proofs.Ytgdnmdnhkhpieaa
open Go.RowKit
set_option maxRecDepth 20000
set_option maxHeartbeats 2000000
instance decPr : DecidableEq Pr := fun p q => decidable_of_iff (p.k = q.k ∧ p.v = q.v) ⟨fun h => by cases p; cases q; simp_all, fun h => by rw [h]; exact ⟨rfl, rfl⟩⟩
end Go.Proofs.Ytgdnmdnhkhpieaa
namespace Go.Proofs.Ytgdnmdnhkhpieaa
open Go.RowKit
set_option maxRecDepth 20000
set_option maxHeartbeats 2000000
theorem ac_ext {x y : Ac} (h : x.a = y.a ∧ x.b = y.b ∧ x.n = y.n ∧ x.code = y.code ∧ x.store = y.store) : x = y := by
  obtain ⟨a, b, n, c, s⟩ := x
  obtain ⟨a', b', n', c', s'⟩ := y
  obtain ⟨h1, h2, h3, h4, h5⟩ := h
  dsimp only at h1 h2 h3 h4 h5
  subst h1 h2 h3 h4 h5
  rfl
instance decAc : DecidableEq Ac := fun x y => decidable_of_iff (x.a = y.a ∧ x.b = y.b ∧ x.n = y.n ∧ x.code = y.code ∧ x.store = y.store) ⟨ac_ext, fun h => by rw [h]; exact ⟨rfl, rfl, rfl, rfl, rfl⟩⟩
def RisesS (L : List Ac) : Prop := L.Pairwise fun x y => x.a < y.a
theorem okS_every {q : Bool} {L : List Ac} : ∀ {i : Nat}, okS q L i = true → ∀ j, j < i → okS1 L j = true
  | 0, _, j, hj => by omega
  | i + 1, h, j, hj => by
    unfold okS at h
    rw [Bool.and_eq_true] at h
    by_cases e : j = i
    · rw [e]; exact h.2
    · exact okS_every h.1 j (by omega)
theorem okSt_full {L : List Ac} (h : okSt L = true) {y : Ac} (hy : y ∈ L) : emptyA y = false := by
  obtain ⟨j, hj⟩ := List.mem_iff_getElem?.1 hy
  have := okS_every h j (List.getElem?_eq_some_iff.1 hj).1
  unfold okS1 at this
  rw [hj] at this
  simp only [Bool.and_eq_true, Bool.not_eq_true'] at this
  exact this.1.2
theorem okSt_rises {L : List Ac} (h : okSt L = true) : RisesS L := by
  have step : ∀ j (hj : j + 1 < L.length), L[j].a < L[j + 1].a := fun j hj => by
    have := okS_every h (j + 1) hj
    rw [okS1_succ (List.getElem?_eq_getElem (by omega)) (List.getElem?_eq_getElem hj)] at this
    simp only [Bool.and_eq_true, decide_eq_true_eq] at this
    exact this.2
  have key : ∀ d i (hi : i + d + 1 < L.length), L[i].a < L[i + d + 1].a := fun d => by
    induction d with
    | zero => exact fun i hi => step i hi
    | succ d ih => exact fun i hi => Int.lt_trans (ih i (by omega)) (step (i + d + 1) hi)
  unfold RisesS
  rw [List.pairwise_iff_getElem]
  intro i j hi hj hij
  have := key (j - i - 1) i (by omega)
  simpa [show i + (j - i - 1) + 1 = j by omega] using this
theorem ltA_eq {L : List Ac} {a : Int} {i : Nat} (hi : i < L.length) : ltA L a i = decide (L[i].a < a) := by
  unfold ltA
  rw [List.getElem?_eq_getElem hi]
  refine decide_eq_decide.2 ?_
  unfold cmpI
  by_cases h : L[i].a < a
  · rw [if_pos h]; exact ⟨fun _ => h, fun _ => by decide⟩
  · rw [if_neg h]
    constructor
    · intro h2; split at h2 <;> omega
    · exact fun h2 => absurd h2 h
end Go.Proofs.Ytgdnmdnhkhpieaa
namespace Go.Proofs.Ytgdnmdnhkhpieaa
open Go.RowKit
theorem posS_parts {L : List Ac} (hr : RisesS L) (a : Int) : Parts Ac.a L a (posS L a) := bsr_parts (key := Ac.a) hr fun i h => ltA_eq h
theorem isS_fnd {L : List Ac} (hr : RisesS L) (a : Int) : isS L a = (fnd Ac.a a L).isSome := by
  rw [parts_fnd hr (posS_parts hr a)]
  unfold isS eqA
  cases L[posS L a]? with
  | none => rfl
  | some z =>
    simp only [Option.filter_some, decide_eq_true_eq]
    unfold cmpI
    by_cases h : z.a = a
    · rw [if_pos h, if_neg (by omega), if_neg (by omega)]; rfl
    · rw [if_neg h]
      by_cases h2 : z.a < a
      · rw [if_pos h2]; rfl
      · rw [if_neg h2, if_pos (by omega)]; rfl
theorem ofS_fnd {L : List Ac} (hr : RisesS L) (a : Int) : ofS L a = (fnd Ac.a a L).getD ⟨a, 0, 0, [], []⟩ := by
  have h := isS_fnd hr a
  unfold ofS
  cases hf : fnd Ac.a a L with
  | none => rw [hf] at h; rw [h]; rfl
  | some z =>
    rw [hf] at h
    rw [h]
    show (L[posS L a]?).getD _ = z
    rw [parts_fnd hr (posS_parts hr a)] at hf
    cases hz : L[posS L a]? with
    | none => rw [hz] at hf; cases hf
    | some w =>
      rw [hz] at hf
      rw [Option.filter_some] at hf
      split at hf
      · cases hf; rfl
      · cases hf
def FullS (L : List Ac) : Prop := ∀ x ∈ L, okAc x = true ∧ emptyA x = false
theorem okS_of {q : Bool} {L : List Ac} : ∀ {i : Nat}, q = true → (∀ j, j < i → okS1 L j = true) → okS q L i = true
  | 0, hq, _ => hq
  | i + 1, hq, h => by
    unfold okS
    rw [okS_of hq fun j hj => h j (by omega), h i (by omega)]; rfl
theorem okS_q {q : Bool} {L : List Ac} : ∀ {i : Nat}, okS q L i = true → q = true
  | 0, h => h
  | i + 1, h => by
    unfold okS at h
    rw [Bool.and_eq_true] at h
    exact okS_q h.1
theorem okSt_iff {L : List Ac} : okSt L = true ↔ RisesS L ∧ FullS L ∧ (L.map Ac.b).sum < WW ∧ manyL L ≤ 24 := by
  constructor
  · intro h
    have := okS_q h
    simp only [Bool.and_eq_true, Bool.not_eq_true', decide_eq_true_eq, decide_eq_false_iff_not] at this
    exact ⟨okSt_rises h, fun x hx => ⟨okSt_ac h x hx, okSt_full h hx⟩, by omega, this.2⟩
  · rintro ⟨h1, h2, h3, h4⟩
    refine okS_of (by simp only [Bool.and_eq_true, Bool.not_eq_true', decide_eq_true_eq, decide_eq_false_iff_not]; exact ⟨by omega, h4⟩) fun j hj => ?_
    have hp := List.pairwise_iff_getElem.1 h1
    have hf := h2 L[j] (List.getElem_mem hj)
    cases j with
    | zero => rw [okS1_zero (List.getElem?_eq_getElem hj), hf.1, hf.2]; rfl
    | succ j =>
      rw [okS1_succ (List.getElem?_eq_getElem (by omega)) (List.getElem?_eq_getElem hj), hf.1, hf.2]
      simpa using hp j (j + 1) (by omega) hj (by omega)
end Go.Proofs.Ytgdnmdnhkhpieaa
namespace Go.Proofs.Ytgdnmdnhkhpieaa
open Go.RowKit
open Nat (reduceBEq)
set_option maxRecDepth 20000
set_option maxHeartbeats 2000000
theorem rmany_fn (ex : Bool) (L : List Ac) (hL : L.length ≤ maxLen) : Fn Try.prog 75 [acS ex L] [] (vi .i64 (manyL L : Nat)) [] := by
  unfold manyL
  (refine fn_of Try.func75 rfl (by rfl) ?_; simp only [Try.ntmps75, List.length_cons, List.length_nil, Nat.reduceAdd, Nat.reduceSub, List.replicate, List.cons_append, List.nil_append])
  (repeat (any_goals (first | ((with_reducible refine evL_one ?_ ?_); rfl; intro K hK; simp only [go_sem]; ((repeat (refine ndI (by first | assumption | omega | rfl) ?_)); refine hK _ ?_; clear hK K)) | (with_reducible first | (refine evL_nil ?_; refine hR _ ?_; clear hR R) | ((first | refine evC_seq ?_ | refine evC_block ?_); intro Ψ hΨ hΨ') | (refine evC_region ?_; intro R hR) | (refine hΨ _ ?_; clear hΨ hΨ' Ψ) | refine evC_skip ?_ | refine evC_ret ?_ | refine evC_exit ?_) | ((with_reducible refine hΨ' _ _ ?_ ?_); (focus (simp; done)); clear hΨ hΨ' Ψ) | ((with_reducible apply evC_cond); rfl; rfl; all_goals (intro hc; first | (cases hc; done) | (try simp only at hc))))))
  refine evC_upto L.length (fun i => ⟨[.any, .any, .any, vi .i64 (((L.take i).filter fun x => decide (16 ≤ x.a)).length : Nat), .any, .any, acS ex L, vi .i64 L.length, vi .i64 (i : Int), .any, .any, .any, .any, .any, .any, .any, .any, .any, .any], []⟩) (St.le_of (by simp [leT]) (by simp [leH, hget])) ?_
  intro i hi Ψ hΨ hΨ'
  (try dsimp only at hΨ ⊢)
  have k8 : L.length < 9223372036854775808 := Nat.lt_succ_of_le hL
  rcases Nat.lt_or_ge i L.length with hlt | hge
  · obtain ⟨x, hx⟩ : ∃ x, L[i]? = some x := ⟨_, List.getElem?_eq_getElem hlt⟩
    have k1 : (decide ((i : Int) < (L.length : Int))) = true := decide_eq_true (by omega)
    have k2 := ac_at hx
    have k7 : (i : Int) + 1 = ((i + 1 : Nat) : Int) := by omega
    have k3 : ((L.take (i + 1)).filter fun x => decide (16 ≤ x.a)) = ((L.take i).filter fun x => decide (16 ≤ x.a)) ++ (if decide (16 ≤ x.a) then [x] else []) := by
      rw [List.take_add_one, hx, List.filter_append]; simp [List.filter_cons]
    have k5 : ((L.take i).filter fun x => decide (16 ≤ x.a)).length ≤ i := Nat.le_trans (List.length_filter_le _ _) (by rw [List.length_take]; omega)
    rw [k3, List.length_append] at hΨ
    generalize ((L.take i).filter fun x => decide (16 ≤ x.a)).length = c at hΨ k5 ⊢
    have k6 : (c : Int) + 1 = ((c + 1 : Nat) : Int) := by omega
    cases hq : decide (16 ≤ x.a)
    all_goals rw [hq] at hΨ
    all_goals (have W := ndI k1 (ndI k2 (ndI k6 (ndI k7 @wrI))); (repeat (any_goals (first | ((with_reducible refine evL_one ?_ ?_); rfl; intro K hK; simp (disch := omega) only [go_sem, W, hq]; ((repeat (refine ndI (by first | assumption | omega | rfl) ?_)); refine hK _ ?_; clear hK K)) | (with_reducible first | (refine evL_nil ?_; refine hR _ ?_; clear hR R) | ((first | refine evC_seq ?_ | refine evC_block ?_); intro Ψ hΨ hΨ') | (refine evC_region ?_; intro R hR) | (refine hΨ _ ?_; clear hΨ hΨ' Ψ) | refine evC_skip ?_ | refine evC_ret ?_ | refine evC_exit ?_) | ((with_reducible refine hΨ' _ _ ?_ ?_); (focus (simp; done)); clear hΨ hΨ' Ψ) | ((with_reducible apply evC_cond); rfl; rfl; all_goals (intro hc; first | (cases hc; done) | (try simp only at hc)))))))
    all_goals exact hΨ _ hlt (St.le_of (by simp [leT]) (by simp [leH, hget]))
  · have k1 : (decide ((i : Int) < (L.length : Int))) = false := decide_eq_false (by omega)
    rw [List.take_of_length_le hge]
    (repeat (any_goals (first | ((with_reducible refine evL_one ?_ ?_); rfl; intro K hK; simp only [go_sem, k1]; ((repeat (refine ndI (by first | assumption | omega | rfl) ?_)); refine hK _ ?_; clear hK K)) | (with_reducible first | (refine evL_nil ?_; refine hR _ ?_; clear hR R) | ((first | refine evC_seq ?_ | refine evC_block ?_); intro Ψ hΨ hΨ') | (refine evC_region ?_; intro R hR) | (refine hΨ _ ?_; clear hΨ hΨ' Ψ) | refine evC_skip ?_ | refine evC_ret ?_ | refine evC_exit ?_) | ((with_reducible refine hΨ' _ _ ?_ ?_); (focus (simp; done)); clear hΨ hΨ' Ψ) | ((with_reducible apply evC_cond); rfl; rfl; all_goals (intro hc; first | (cases hc; done) | (try simp only at hc))))))
    all_goals (refine ⟨by simp, ⟨_, ?_, AV.le_refl _⟩, leH_get (by simp [leH, hget])⟩; simp only [Try.results75, resL, ldA, oneOf, go_sem])
abbrev stO (ex : Bool) (L : List Ac) (r : Nat) (out : List Nat) (i : Int) : St := ⟨[.any, .any, .ptr 2 0, vb false, .row r 35 4 out.length, .any, .any, acS ex L, vi .i64 L.length, vi .i64 i, .any, .any, .any, .any, .any, .any, .any, .any, .any, .any, .any, .any, .any], [(2, [vi .u64 0, vi .u64 0, vi .u64 0, vi .u64 0]), (r, rcW out)]⟩
theorem stO_rn (ex : Bool) (L : List Ac) (out : List Nat) (i : Int) : (stO ex L 17 out i).to (stO ex L 500 out i) := by
  refine (St.to.rn (fun r => if r = 17 then 500 else r) (fun r => if r = 500 then 17 else r) [2, 17] (by simp [AV.inNL, AV.inN]) (by simp) (by simp [inH, AV.inNL, AV.inN, inNL_rcW]) (by simp) (by simp)).trans (St.to.of_le (St.le_of (by simp [leT, AV.renL, AV.ren]) (by simp [leH, hget, renH, AV.renL, AV.ren, renL_rcW])))
theorem rtotal_fn (ex : Bool) (L : List Ac) (hL : L.length ≤ 1000) (ok : ∀ x ∈ L, x.b < WW) : Fn Try.prog 62 [acS ex L] [] (.tup [wN ((L.map Ac.b).sum % WW), vb (decide (WW ≤ (L.map Ac.b).sum))]) [] := by
  have sm := refsum_fn false (L.map Ac.b) (by rw [List.length_map]; exact hL) (fun x hx => by obtain ⟨y, hy, rfl⟩ := List.mem_map.1 hx; exact ok y hy)
  obtain ⟨tn, htn⟩ : ∃ n, (L.map Ac.b).sum % WW = n := ⟨_, rfl⟩
  obtain ⟨tq, htq⟩ : ∃ q, decide (WW ≤ (L.map Ac.b).sum) = q := ⟨_, rfl⟩
  rw [htn, htq] at sm ⊢
  (refine fn_of Try.func62 rfl (by rfl) ?_; simp only [Try.ntmps62, List.length_cons, List.length_nil, Nat.reduceAdd, Nat.reduceSub, List.replicate, List.cons_append, List.nil_append])
  (repeat (any_goals (first | ((with_reducible refine evL_one ?_ ?_); rfl; intro K hK; simp only [go_sem]; ((repeat (refine ndI (by first | assumption | omega | rfl) ?_)); refine hK _ ?_; clear hK K)) | (with_reducible first | (refine evL_nil ?_; refine hR _ ?_; clear hR R) | ((first | refine evC_seq ?_ | refine evC_block ?_); intro Ψ hΨ hΨ') | (refine evC_region ?_; intro R hR) | (refine hΨ _ ?_; clear hΨ hΨ' Ψ) | refine evC_skip ?_ | refine evC_ret ?_ | refine evC_exit ?_) | ((with_reducible refine hΨ' _ _ ?_ ?_); (focus (simp; done)); clear hΨ hΨ' Ψ) | ((with_reducible apply evC_cond); rfl; rfl; all_goals (intro hc; first | (cases hc; done) | (try simp only at hc))))))
  refine evC_uptoT L.length (fun i => stO ex L 500 ((L.take i).map Ac.b) i) ?_ ?_
  · refine (St.to.nilrow 4 500 35 4 rfl (by simp) (by simp [St.free, freeH, AV.refs, AV.refsL]) (by omega)).trans (St.to.of_le (St.le_of (by simp [leT]) (by simp [leH, hget, hput, rcW])))
  · intro i hi Ψ hΨ hΨ'
    have k8 : L.length < 9223372036854775808 := by omega
    have ln : ((L.take i).map Ac.b).length ≤ 1000 := by rw [List.length_map, List.length_take]; omega
    rcases Nat.lt_or_ge i L.length with hlt | hge
    · obtain ⟨x, hx⟩ : ∃ x, L[i]? = some x := ⟨_, List.getElem?_eq_getElem hlt⟩
      have k1 : (decide ((i : Int) < (L.length : Int))) = true := decide_eq_true (by omega)
      have k2 := ac_at hx
      have k7 : (i : Int) + 1 = ((i + 1 : Nat) : Int) := by omega
      have k3 : (L.take (i + 1)).map Ac.b = (L.take i).map Ac.b ++ [x.b] := by rw [List.take_add_one, hx, List.map_append]; rfl
      (try dsimp only at hΨ ⊢)
      rw [k3] at hΨ
      generalize (L.take i).map Ac.b = out at hΨ ln ⊢
      have e1 := rcW_len out
      have e2 : rcW (out ++ [x.b]) = rcW out ++ (wpv x.b).map .c := by unfold rcW; rw [List.flatMap_append]; simp [List.flatMap_cons]
      have e3 : ∀ r, AV.refsL r (rcW out) = false := fun r => refsL_map r _
      (have W := ndI k1 (ndI k2 (ndI k7 (ndI e1 (ndI e3 @wrI)))); (repeat (any_goals (first | ((with_reducible refine evL_one ?_ ?_); rfl; intro K hK; simp (disch := omega) only [go_sem, W]; ((repeat (refine ndI (by first | assumption | omega | rfl) ?_)); refine hK _ ?_; clear hK K)) | (with_reducible first | (refine evL_nil ?_; refine hR _ ?_; clear hR R) | ((first | refine evC_seq ?_ | refine evC_block ?_); intro Ψ hΨ hΨ') | (refine evC_region ?_; intro R hR) | (refine hΨ _ ?_; clear hΨ hΨ' Ψ) | refine evC_skip ?_ | refine evC_ret ?_ | refine evC_exit ?_) | ((with_reducible refine hΨ' _ _ ?_ ?_); (focus (simp; done)); clear hΨ hΨ' Ψ) | ((with_reducible apply evC_cond); rfl; rfl; all_goals (intro hc; first | (cases hc; done) | (try simp only at hc)))))))
      all_goals exact hΨ _ hlt (St.to.trans (St.to.of_le (τ := stO ex L 17 (out ++ [x.b]) ((i + 1 : Nat) : Int)) (St.le_of (by simp [leT]) (by simp [leH, hget, e2, wpv]))) (stO_rn ex L _ _))
    · have k1 : (decide ((i : Int) < (L.length : Int))) = false := decide_eq_false (by omega)
      rw [List.take_of_length_le hge]
      (try dsimp only)
      (repeat (any_goals (first | ((with_reducible refine evL_one ?_ ?_); rfl; intro K hK; simp only [go_sem, k1]; ((repeat (refine ndI (by first | assumption | omega | rfl) ?_)); refine hK _ ?_; clear hK K)) | (with_reducible first | (refine evL_nil ?_; refine hR _ ?_; clear hR R) | ((first | refine evC_seq ?_ | refine evC_block ?_); intro Ψ hΨ hΨ') | (refine evC_region ?_; intro R hR) | (refine hΨ _ ?_; clear hΨ hΨ' Ψ) | refine evC_skip ?_ | refine evC_ret ?_ | refine evC_exit ?_) | ((with_reducible refine hΨ' _ _ ?_ ?_); (focus (simp; done)); clear hΨ hΨ' Ψ) | ((with_reducible apply evC_cond); rfl; rfl; all_goals (intro hc; first | (cases hc; done) | (try simp only at hc))))))
      refine evL_to rfl (St.to.frz 500 (pcs := (L.map Ac.b).flatMap wpv) (by simp [hget, rcW])) ?_
      have el : ((L.map Ac.b).flatMap wpv).length = (L.map Ac.b).length * 4 := flat_length wpv_len _
      simp only [St.frz, AV.frzL, AV.frz, frzH, el, if_true, eq_self, ↓reduceIte, Nat.reduceEqDiff]
      (repeat (any_goals (first | ((with_reducible refine evL_call ?_ ?_ ?_); rfl; rfl; intro K hK; ((apply opA_callB (sm); rfl; rfl; rfl; rfl; exact Try.func84); kernel_rfl; rfl; (simp only [go_sem]; rfl); (first | rfl | simp [AV.inNL, AV.inN])); (simp only [go_sem]; refine hK _ ?_; clear hK K)) | ((with_reducible refine evL_one ?_ ?_); rfl; intro K hK; simp only [go_sem]; ((repeat (refine ndI (by first | assumption | omega | rfl) ?_)); refine hK _ ?_; clear hK K)) | (with_reducible first | (refine evL_nil ?_; refine hR _ ?_; clear hR R) | ((first | refine evC_seq ?_ | refine evC_block ?_); intro Ψ hΨ hΨ') | (refine evC_region ?_; intro R hR) | (refine hΨ _ ?_; clear hΨ hΨ' Ψ) | refine evC_skip ?_ | refine evC_ret ?_ | refine evC_exit ?_) | ((with_reducible refine hΨ' _ _ ?_ ?_); (focus (simp; done)); clear hΨ hΨ' Ψ) | ((with_reducible apply evC_cond); rfl; rfl; all_goals (intro hc; first | (cases hc; done) | (try simp only at hc))))))
      all_goals (refine ⟨by simp, ⟨_, ?_, AV.le_refl _⟩, leH_get (by simp [leH, hget])⟩; simp only [Try.results62, resL, ldA, oneOf, go_sem])
end Go.Proofs.Ytgdnmdnhkhpieaa
namespace Go.Proofs.Ytgdnmdnhkhpieaa
open Go.RowKit
open Nat (reduceBEq)
set_option maxRecDepth 20000
set_option maxHeartbeats 2000000
theorem rfits_fn (ex : Bool) (L : List Ac) (hL : L.length ≤ 1000) (ok : ∀ x ∈ L, x.b < WW) : Fn Try.prog 76 [acS ex L] [] (vb (!decide (WW ≤ (L.map Ac.b).sum))) [] := by
  have tt := rtotal_fn ex L hL ok
  generalize (L.map Ac.b).sum % WW = n at tt
  generalize decide (WW ≤ (L.map Ac.b).sum) = q at tt ⊢
  (refine fn_of Try.func76 rfl (by rfl) ?_; simp only [Try.ntmps76, List.length_cons, List.length_nil, Nat.reduceAdd, Nat.reduceSub, List.replicate, List.cons_append, List.nil_append])
  (repeat (any_goals (first | ((with_reducible refine evL_call ?_ ?_ ?_); rfl; rfl; intro K hK; ((apply opA_callB (tt); rfl; rfl; rfl; rfl; exact Try.func62); kernel_rfl; rfl; (simp only [go_sem]; rfl); (first | rfl | simp [AV.inNL, AV.inN])); (simp only [go_sem]; refine hK _ ?_; clear hK K)) | ((with_reducible refine evL_one ?_ ?_); rfl; intro K hK; simp only [go_sem]; ((repeat (refine ndI (by first | assumption | omega | rfl) ?_)); refine hK _ ?_; clear hK K)) | (with_reducible first | (refine evL_nil ?_; refine hR _ ?_; clear hR R) | ((first | refine evC_seq ?_ | refine evC_block ?_); intro Ψ hΨ hΨ') | (refine evC_region ?_; intro R hR) | (refine hΨ _ ?_; clear hΨ hΨ' Ψ) | refine evC_skip ?_ | refine evC_ret ?_ | refine evC_exit ?_) | ((with_reducible refine hΨ' _ _ ?_ ?_); (focus (simp; done)); clear hΨ hΨ' Ψ) | ((with_reducible apply evC_cond); rfl; rfl; all_goals (intro hc; first | (cases hc; done) | (try simp only at hc))))))
  all_goals (refine ⟨by simp, ⟨_, ?_, AV.le_refl _⟩, leH_get (by simp [leH, hget])⟩; simp only [Try.results76, resL, ldA, oneOf, go_sem])
theorem rempty_fn (x : Ac) (hb : x.b < WW) : Fn Try.prog 74 [acA x] [] (vb (emptyA x)) [] := by
  obtain ⟨a, b, n, code, store⟩ := x
  dsimp only at hb
  unfold emptyA
  dsimp only
  obtain ⟨q1, e1⟩ : ∃ p, decide (b = 0) = p := ⟨_, rfl⟩
  obtain ⟨q2, e2⟩ : ∃ p, decide (n = 0) = p := ⟨_, rfl⟩
  obtain ⟨q3, e3⟩ : ∃ p, decide (code.length = 0) = p := ⟨_, rfl⟩
  obtain ⟨q4, e4⟩ : ∃ p, decide (store.length = 0) = p := ⟨_, rfl⟩
  have f1 : (l0 b == 0 && (l1 b == 0 && (l2 b == 0 && l3 b == 0))) = q1 := by rw [← e1, wN_zero hb]
  have f2 : (n == 0) = q2 := by rw [← e2]; by_cases h : n = 0 <;> simp [h]
  have f3 : ((code.length : Int) == 0) = q3 := by rw [← e3]; by_cases h : code.length = 0 <;> simp [h]
  have f4 : ((store.length : Int) == 0) = q4 := by rw [← e4]; by_cases h : store.length = 0 <;> simp [h]
  have f5 : decide (code.length + store.length = 0) = (q3 && q4) := by
    rw [← e3, ← e4, Bool.eq_iff_iff]
    simp only [Bool.and_eq_true, decide_eq_true_eq]
    omega
  rw [e1, e2, f5]
  clear e1 e2 e3 e4 f5
  cases q1 <;> cases q2 <;> cases q3 <;> cases q4
  all_goals (refine fn_of Try.func74 rfl (by rfl) ?_; simp only [Try.ntmps74, List.length_cons, List.length_nil, Nat.reduceAdd, Nat.reduceSub, List.replicate, List.cons_append, List.nil_append])
  all_goals (have W := ndI f1 (ndI f2 (ndI f3 f4)); (repeat (any_goals (first | ((with_reducible refine evL_one ?_ ?_); rfl; intro K hK; simp only [go_sem, W]; ((repeat (refine ndI (by first | assumption | omega | rfl) ?_)); refine hK _ ?_; clear hK K)) | (with_reducible first | (refine evL_nil ?_; refine hR _ ?_; clear hR R) | ((first | refine evC_seq ?_ | refine evC_block ?_); intro Ψ hΨ hΨ') | (refine evC_region ?_; intro R hR) | (refine hΨ _ ?_; clear hΨ hΨ' Ψ) | refine evC_skip ?_ | refine evC_ret ?_ | refine evC_exit ?_) | ((with_reducible refine hΨ' _ _ ?_ ?_); (focus (simp; done)); clear hΨ hΨ' Ψ) | ((with_reducible apply evL_unmet); rfl; rfl; rfl; (try simp only [go_sem, W])) | ((with_reducible apply evL_grd); rfl; rfl; rfl; all_goals (intro hb; first | (cases hb; done) | ((try simp only [Bool.not_true, Bool.not_false] at hb); (first | ((with_reducible intro K hK); simp only [go_sem, W]; ((repeat (refine ndI (by first | assumption | omega | rfl) ?_)); refine hK _ ?_; clear hK K)) | ((fail_if_success (with_reducible intro _)); simp only [go_sem, W]))))) | ((with_reducible apply evC_cond); rfl; rfl; all_goals (intro hc; first | (cases hc; done) | (try simp only at hc)))))))
  all_goals (refine ⟨by simp, ⟨_, ?_, AV.le_refl _⟩, leH_get (by simp [leH, hget])⟩; simp only [Try.results74, resL, ldA, oneOf, go_sem])
  all_goals rfl
theorem okS_eq {q : Bool} {L : List Ac} : ∀ i, okS q L i = (q && okS true L i)
  | 0 => by simp [okS]
  | i + 1 => by
    unfold okS
    rw [okS_eq i, Bool.and_assoc]
theorem rright_fn (ex : Bool) (L : List Ac) (hL : Okl L) : Fn Try.prog 57 [stA ex L] [] (vb (okSt L)) [] := by
  have hl := hL.1
  have mn := rmany_fn ex L (by unfold maxLen; omega)
  have ft := rfits_fn ex L (by omega) (fun x hx => (hL.2 x hx).1.2.1)
  unfold okSt
  rw [okS_eq]
  obtain ⟨q1, e1⟩ : ∃ p, decide (WW ≤ (L.map Ac.b).sum) = p := ⟨_, rfl⟩
  obtain ⟨q2, e2⟩ : ∃ p, decide (manyL L ≤ 24) = p := ⟨_, rfl⟩
  have e3 : decide (((manyL L : Nat) : Int) ≤ 24) = q2 := by rw [← e2]; exact decide_eq_decide.2 (by omega)
  rw [e1] at ft
  rw [e1, e2]
  clear e1 e2
  obtain ⟨rr, hrr⟩ : ∃ r, okS true L L.length = r := ⟨_, rfl⟩
  rw [hrr]
  (refine fn_of Try.func57 rfl (by rfl) ?_; simp only [Try.ntmps57, List.length_cons, List.length_nil, Nat.reduceAdd, Nat.reduceSub, List.replicate, List.cons_append, List.nil_append])
  (repeat (any_goals (first | ((with_reducible refine evL_one ?_ ?_); rfl; intro K hK; simp only [go_sem]; ((repeat (refine ndI (by first | assumption | omega | rfl) ?_)); refine hK _ ?_; clear hK K)) | (with_reducible first | (refine evL_nil ?_; refine hR _ ?_; clear hR R) | ((first | refine evC_seq ?_ | refine evC_block ?_); intro Ψ hΨ hΨ') | (refine evC_region ?_; intro R hR) | (refine hΨ _ ?_; clear hΨ hΨ' Ψ) | refine evC_skip ?_ | refine evC_ret ?_ | refine evC_exit ?_) | ((with_reducible refine hΨ' _ _ ?_ ?_); (focus (simp; done)); clear hΨ hΨ' Ψ) | ((with_reducible apply evL_unmet); rfl; rfl; rfl; (try simp only [go_sem])) | ((with_reducible apply evL_grd); rfl; rfl; rfl; all_goals (intro hb; first | (cases hb; done) | ((try simp only [Bool.not_true, Bool.not_false] at hb); (first | ((with_reducible intro K hK); simp only [go_sem]; ((repeat (refine ndI (by first | assumption | omega | rfl) ?_)); refine hK _ ?_; clear hK K)) | ((fail_if_success (with_reducible intro _)); simp only [go_sem]))))) | ((with_reducible apply evC_cond); rfl; rfl; all_goals (intro hc; first | (cases hc; done) | (try simp only at hc))) | ((with_reducible refine evD_nil ?_ ?_); kernel_rfl; (with_reducible refine hR _ ?_); clear hR R) | ((first | ((with_reducible apply evD_skip); rfl; rfl; rfl; rfl) | ((with_reducible apply evD_unmet); rfl; rfl; rfl) | ((first | ((with_reducible apply evD_any); rfl; rfl) | ((with_reducible apply evD_gany); rfl; rfl; rfl; rfl; rfl)); (simp only [rdE, rdOf, go_sem]; rfl); (intro τ hA hQ hN; ((try simp only [agree, Op.operands, Call.operands, go_sem, List.mem_cons, List.not_mem_nil, forall_eq_or_imp, forall_eq, List.append_toArray, Option.toArray] at hA); (try simp only [go_sem, List.mem_cons, List.not_mem_nil, forall_eq_or_imp, forall_eq] at hQ hN); (first | (revert hA; intro hA) | have hA := trivial); (first | (revert hQ; intro hQ) | have hQ := trivial); (first | (revert hN; intro hN) | have hN := trivial); simp only [go_sem, hA, hQ, hN]; (repeat (refine ndI (by first | assumption | omega | rfl) ?_)); (first | apply eff_rd | apply eff_st | apply eff_nw))))); (simp only [St.eff, setO, hputs, go_sem])) | ((with_reducible apply evD_split); rfl; rfl; rfl; all_goals intro hb; all_goals (simp only [St.eff, setO, hputs, go_sem])) | ((with_reducible refine evC_draw ?_ ?_ ?_ ?_); kernel_rfl; kernel_rfl; (first | kernel_rfl | simp [newNames, isNew, St.free, freeH, AV.refsL, AV.refs]); intro R hR))))
  refine evC_loop (α := { i : Nat // i ≤ L.length ∧ okS true L i = true }) (fun x => ⟨[.any, .ptr 1 0, vb false, .any, .any, .any, acS ex L, vi .i64 L.length, vi .i64 (x.1 : Int), .any, .any, .any, .any, .any, .any, .any, .any, .any, .any, .any, .any, .any, .any, .any, .any, .any, .any, .any, .any, .any, .any, .any, .any, .any, .any, .any, .any, .any, .any, .any, .any, .any, .any, .any, .any, .any], [(1, [acS ex L])]⟩) (fun x => L.length - x.1) ⟨0, Nat.zero_le _, rfl⟩ (St.le_of (by simp [leT]) (by simp [leH, hget])) ?_
  rintro ⟨i, hi, hok⟩ Ψ hΨ hΨ'
  (try dsimp only at hΨ ⊢)
  have k7 : (i : Int) + 1 = ((i + 1 : Nat) : Int) := by omega
  rcases Nat.lt_or_ge i L.length with hlt | hge
  · obtain ⟨x, hx⟩ : ∃ x, L[i]? = some x := ⟨_, List.getElem?_eq_getElem hlt⟩
    have k1 : (decide ((i : Int) < (L.length : Int))) = true := decide_eq_true (by omega)
    have k2 := ac_at hx
    have xo := hL.2 x (List.mem_of_getElem? hx)
    have ra := right_fn x xo.1.2.2.2.2.2
    have em := rempty_fn x xo.1.2.1
    obtain ⟨q3, hq3⟩ : ∃ q, okAc x = q := ⟨_, rfl⟩
    obtain ⟨q4, hq4⟩ : ∃ q, emptyA x = q := ⟨_, rfl⟩
    rw [hq3] at ra
    rw [hq4] at em
    have hnx : okS true L (i + 1) = okS1 L i := by show (okS true L i && okS1 L i) = _; rw [hok, Bool.true_and]
    have hno : okS1 L i = false → rr = false := fun h => by
      rw [← hrr]
      exact okS_no (by rw [hnx]; exact h) L.length hlt
    have hΨ1 := fun (h : okS1 L i = true) σ' => hΨ σ' ⟨i + 1, hlt, by rw [hnx]; exact h⟩ (by dsimp only; omega)
    dsimp only at hΨ1
    rcases Nat.eq_zero_or_pos i with h0 | h0
    · have n3 : (decide ((i : Int) > 0)) = false := by simp; omega
      have hok' : okS1 L i = (q3 && !q4) := by
        rw [h0] at hx ⊢
        rw [okS1_zero hx, hq3, hq4]
      rw [hok'] at hno hΨ1
      cases q3 <;> cases q4
      all_goals first | (have hrf := hno rfl; clear hΨ1) | skip
      all_goals (have W := ndI k1 (ndI k2 (ndI k7 (ndI n3 @wrI))); (repeat (any_goals (first | ((with_reducible refine evL_one ?_ ?_); rfl; intro K hK; simp (disch := omega) only [go_sem, W]; ((repeat (refine ndI (by first | assumption | omega | rfl) ?_)); refine hK _ ?_; clear hK K)) | (with_reducible first | (refine evL_nil ?_; refine hR _ ?_; clear hR R) | ((first | refine evC_seq ?_ | refine evC_block ?_); intro Ψ hΨ hΨ') | (refine evC_region ?_; intro R hR) | (refine hΨ _ ?_; clear hΨ hΨ' Ψ) | refine evC_skip ?_ | refine evC_ret ?_ | refine evC_exit ?_) | ((with_reducible refine hΨ' _ _ ?_ ?_); (focus (simp; done)); clear hΨ hΨ' Ψ) | ((with_reducible apply evL_unmet); rfl; rfl; rfl; (try simp (disch := omega) only [go_sem, W])) | ((with_reducible apply evL_grd); rfl; rfl; rfl; all_goals (intro hb; first | (cases hb; done) | ((try simp only [Bool.not_true, Bool.not_false] at hb); (first | ((with_reducible intro K hK); simp (disch := omega) only [go_sem, W]; ((repeat (refine ndI (by first | assumption | omega | rfl) ?_)); refine hK _ ?_; clear hK K)) | ((fail_if_success (with_reducible intro _)); simp (disch := omega) only [go_sem, W]))))) | ((with_reducible apply evC_cond); rfl; rfl; all_goals (intro hc; first | (cases hc; done) | (try simp only at hc))) | ((with_reducible refine evD_nil ?_ ?_); kernel_rfl; (with_reducible refine hR _ ?_); clear hR R) | ((first | ((with_reducible apply evD_skip); rfl; rfl; rfl; rfl) | ((with_reducible apply evD_unmet); rfl; rfl; rfl) | ((first | ((with_reducible apply evD_fcall); rfl; rfl) | ((with_reducible apply evD_gcall); rfl; rfl; rfl; rfl; rfl)); ((first | (apply opF_callB (ra); rfl; rfl; rfl; rfl; exact Try.func73) | (apply opF_callB (em); rfl; rfl; rfl; rfl; exact Try.func74)); kernel_rfl; rfl; (simp (disch := omega) only [go_sem, W]; rfl); (first | rfl | simp [AV.inNL, AV.inN]))) | ((first | ((with_reducible apply evD_any); rfl; rfl) | ((with_reducible apply evD_gany); rfl; rfl; rfl; rfl; rfl)); (simp (disch := omega) only [rdE, rdOf, go_sem, W]; rfl); (intro τ hA hQ hN; ((try simp only [agree, Op.operands, Call.operands, go_sem, W, go_sem, List.mem_cons, List.not_mem_nil, forall_eq_or_imp, forall_eq, List.append_toArray, Option.toArray] at hA); (try simp only [go_sem, W, List.mem_cons, List.not_mem_nil, forall_eq_or_imp, forall_eq] at hQ hN); (first | (revert hA; intro hA) | have hA := trivial); (first | (revert hQ; intro hQ) | have hQ := trivial); (first | (revert hN; intro hN) | have hN := trivial); simp (disch := omega) only [go_sem, W, go_sem, hA, hQ, hN]; (repeat (refine ndI (by first | assumption | omega | rfl) ?_)); (first | apply eff_rd | apply eff_st | apply eff_nw))))); (simp (disch := omega) only [St.eff, setO, hputs, go_sem, W])) | ((with_reducible apply evD_split); rfl; rfl; rfl; all_goals intro hb; all_goals (simp (disch := omega) only [St.eff, setO, hputs, go_sem, W])) | ((with_reducible refine evC_draw ?_ ?_ ?_ ?_); kernel_rfl; kernel_rfl; (first | kernel_rfl | simp [newNames, isNew, St.free, freeH, AV.refsL, AV.refs]); intro R hR)))))
      all_goals first | exact hΨ1 rfl _ (St.le_of (by simp [leT]) (by simp [leH, hget])) | (rw [hrf]; (refine ⟨by simp, ⟨_, ?_, AV.le_refl _⟩, leH_get (by simp [leH, hget])⟩; simp only [Try.results57, resL, ldA, oneOf, go_sem]); simp)
    · obtain ⟨j, hj⟩ : ∃ j, i = j + 1 := ⟨i - 1, by omega⟩
      obtain ⟨q, hq⟩ : ∃ q, L[j]? = some q := ⟨_, List.getElem?_eq_getElem (by omega)⟩
      have n3 : (decide ((i : Int) > 0)) = true := by simp; omega
      have n4 := ac_at hq
      have n5 : (i : Int) - 1 = (j : Int) := by omega
      have hjl : j < L.length := by omega
      obtain ⟨q5, hq5⟩ : ∃ c, decide (q.a < x.a) = c := ⟨_, rfl⟩
      have hge : decide (q.a ≥ x.a) = !q5 := by
        rw [← hq5]
        by_cases h : q.a < x.a
        · rw [decide_eq_true h, decide_eq_false (by omega)]; rfl
        · rw [decide_eq_false h, decide_eq_true (by omega)]; rfl
      have hok' : okS1 L i = (q3 && !q4 && q5) := by
        rw [hj] at hx ⊢
        rw [okS1_succ hq hx, hq3, hq4, hq5]
      rw [hok'] at hno hΨ1
      cases q3 <;> cases q4 <;> cases q5
      all_goals simp only [Bool.not_true, Bool.not_false] at hge
      all_goals first | (have hrf := hno rfl; clear hΨ1) | skip
      all_goals (have W := ndI k1 (ndI k2 (ndI k7 (ndI n3 (ndI n4 (ndI n5 @wrI))))); (repeat (any_goals (first | ((with_reducible refine evL_one ?_ ?_); rfl; intro K hK; simp (disch := omega) only [go_sem, W, hge]; ((repeat (refine ndI (by first | assumption | omega | rfl) ?_)); refine hK _ ?_; clear hK K)) | (with_reducible first | (refine evL_nil ?_; refine hR _ ?_; clear hR R) | ((first | refine evC_seq ?_ | refine evC_block ?_); intro Ψ hΨ hΨ') | (refine evC_region ?_; intro R hR) | (refine hΨ _ ?_; clear hΨ hΨ' Ψ) | refine evC_skip ?_ | refine evC_ret ?_ | refine evC_exit ?_) | ((with_reducible refine hΨ' _ _ ?_ ?_); (focus (simp; done)); clear hΨ hΨ' Ψ) | ((with_reducible apply evL_unmet); rfl; rfl; rfl; (try simp (disch := omega) only [go_sem, W, hge])) | ((with_reducible apply evL_grd); rfl; rfl; rfl; all_goals (intro hb; first | (cases hb; done) | ((try simp only [Bool.not_true, Bool.not_false] at hb); (first | ((with_reducible intro K hK); simp (disch := omega) only [go_sem, W, hge]; ((repeat (refine ndI (by first | assumption | omega | rfl) ?_)); refine hK _ ?_; clear hK K)) | ((fail_if_success (with_reducible intro _)); simp (disch := omega) only [go_sem, W, hge]))))) | ((with_reducible apply evC_cond); rfl; rfl; all_goals (intro hc; first | (cases hc; done) | (try simp only at hc))) | ((with_reducible refine evD_nil ?_ ?_); kernel_rfl; (with_reducible refine hR _ ?_); clear hR R) | ((first | ((with_reducible apply evD_skip); rfl; rfl; rfl; rfl) | ((with_reducible apply evD_unmet); rfl; rfl; rfl) | ((first | ((with_reducible apply evD_fcall); rfl; rfl) | ((with_reducible apply evD_gcall); rfl; rfl; rfl; rfl; rfl)); ((first | (apply opF_callB (ra); rfl; rfl; rfl; rfl; exact Try.func73) | (apply opF_callB (em); rfl; rfl; rfl; rfl; exact Try.func74)); kernel_rfl; rfl; (simp (disch := omega) only [go_sem, W, hge]; rfl); (first | rfl | simp [AV.inNL, AV.inN]))) | ((first | ((with_reducible apply evD_any); rfl; rfl) | ((with_reducible apply evD_gany); rfl; rfl; rfl; rfl; rfl)); (simp (disch := omega) only [rdE, rdOf, go_sem, W, hge]; rfl); (intro τ hA hQ hN; ((try simp only [agree, Op.operands, Call.operands, go_sem, W, hge, go_sem, List.mem_cons, List.not_mem_nil, forall_eq_or_imp, forall_eq, List.append_toArray, Option.toArray] at hA); (try simp only [go_sem, W, hge, List.mem_cons, List.not_mem_nil, forall_eq_or_imp, forall_eq] at hQ hN); (first | (revert hA; intro hA) | have hA := trivial); (first | (revert hQ; intro hQ) | have hQ := trivial); (first | (revert hN; intro hN) | have hN := trivial); simp (disch := omega) only [go_sem, W, hge, go_sem, hA, hQ, hN]; (repeat (refine ndI (by first | assumption | omega | rfl) ?_)); (first | apply eff_rd | apply eff_st | apply eff_nw))))); (simp (disch := omega) only [St.eff, setO, hputs, go_sem, W, hge])) | ((with_reducible apply evD_split); rfl; rfl; rfl; all_goals intro hb; all_goals (simp (disch := omega) only [St.eff, setO, hputs, go_sem, W, hge])) | ((with_reducible refine evC_draw ?_ ?_ ?_ ?_); kernel_rfl; kernel_rfl; (first | kernel_rfl | simp [newNames, isNew, St.free, freeH, AV.refsL, AV.refs]); intro R hR)))))
      all_goals first | exact hΨ1 rfl _ (St.le_of (by simp [leT]) (by simp [leH, hget])) | (rw [hrf]; (refine ⟨by simp, ⟨_, ?_, AV.le_refl _⟩, leH_get (by simp [leH, hget])⟩; simp only [Try.results57, resL, ldA, oneOf, go_sem]); simp)
  · have k1 : (decide ((i : Int) < (L.length : Int))) = false := decide_eq_false (by omega)
    have e : i = L.length := by omega
    have hrt : rr = true := by rw [← hrr, ← e]; exact hok
    (repeat (any_goals (first | ((with_reducible refine evL_call ?_ ?_ ?_); rfl; rfl; intro K hK; ((apply opA_callB (mn); rfl; rfl; rfl; rfl; exact Try.func75); kernel_rfl; rfl; (simp only [go_sem, k1, e3]; rfl); (first | rfl | simp [AV.inNL, AV.inN])); (simp only [go_sem, k1, e3]; refine hK _ ?_; clear hK K)) | ((with_reducible refine evL_one ?_ ?_); rfl; intro K hK; simp only [go_sem, k1, e3]; ((repeat (refine ndI (by first | assumption | omega | rfl) ?_)); refine hK _ ?_; clear hK K)) | (with_reducible first | (refine evL_nil ?_; refine hR _ ?_; clear hR R) | ((first | refine evC_seq ?_ | refine evC_block ?_); intro Ψ hΨ hΨ') | (refine evC_region ?_; intro R hR) | (refine hΨ _ ?_; clear hΨ hΨ' Ψ) | refine evC_skip ?_ | refine evC_ret ?_ | refine evC_exit ?_) | ((with_reducible refine hΨ' _ _ ?_ ?_); (focus (simp; done)); clear hΨ hΨ' Ψ) | ((with_reducible apply evL_unmet); rfl; rfl; rfl; (try simp only [go_sem, k1, e3])) | ((with_reducible apply evL_grd); rfl; rfl; rfl; all_goals (intro hb; first | (cases hb; done) | ((try simp only [Bool.not_true, Bool.not_false] at hb); (first | ((with_reducible intro K hK); (first | ((apply opA_callB (ft); rfl; rfl; rfl; rfl; exact Try.func76); kernel_rfl; rfl; (simp only [go_sem, k1, e3]; rfl); (first | rfl | simp [AV.inNL, AV.inN])) | skip); simp only [go_sem, k1, e3]; ((repeat (refine ndI (by first | assumption | omega | rfl) ?_)); refine hK _ ?_; clear hK K)) | ((fail_if_success (with_reducible intro _)); simp only [go_sem, k1, e3]))))) | ((with_reducible apply evC_cond); rfl; rfl; all_goals (intro hc; first | (cases hc; done) | (try simp only at hc))) | ((with_reducible refine evD_nil ?_ ?_); kernel_rfl; (with_reducible refine hR _ ?_); clear hR R) | ((first | ((with_reducible apply evD_skip); rfl; rfl; rfl; rfl) | ((with_reducible apply evD_unmet); rfl; rfl; rfl) | ((first | ((with_reducible apply evD_any); rfl; rfl) | ((with_reducible apply evD_gany); rfl; rfl; rfl; rfl; rfl)); (simp only [rdE, rdOf, go_sem, k1, e3]; rfl); (intro τ hA hQ hN; ((try simp only [agree, Op.operands, Call.operands, go_sem, k1, e3, go_sem, List.mem_cons, List.not_mem_nil, forall_eq_or_imp, forall_eq, List.append_toArray, Option.toArray] at hA); (try simp only [go_sem, k1, e3, List.mem_cons, List.not_mem_nil, forall_eq_or_imp, forall_eq] at hQ hN); (first | (revert hA; intro hA) | have hA := trivial); (first | (revert hQ; intro hQ) | have hQ := trivial); (first | (revert hN; intro hN) | have hN := trivial); simp only [go_sem, k1, e3, go_sem, hA, hQ, hN]; (repeat (refine ndI (by first | assumption | omega | rfl) ?_)); (first | apply eff_rd | apply eff_st | apply eff_nw))))); (simp only [St.eff, setO, hputs, go_sem, k1, e3])) | ((with_reducible apply evD_split); rfl; rfl; rfl; all_goals intro hb; all_goals (simp only [St.eff, setO, hputs, go_sem, k1, e3])) | ((with_reducible refine evC_draw ?_ ?_ ?_ ?_); kernel_rfl; kernel_rfl; (first | kernel_rfl | simp [newNames, isNew, St.free, freeH, AV.refsL, AV.refs]); intro R hR))))
    all_goals rw [hrt]
    all_goals (refine ⟨by simp, ⟨_, ?_, AV.le_refl _⟩, leH_get (by simp [leH, hget])⟩; simp only [Try.results57, resL, ldA, oneOf, go_sem])
    all_goals simp_all
def findS (L : List Ac) (a : Int) : Ac := (fnd Ac.a a L).getD ⟨a, 0, 0, [], []⟩
theorem fnd_drop {α : Type} {key : α → Int} {k : Int} {L : List α} {i : Nat} {x : α} (hx : L[i]? = some x) : fnd key k (L.drop i) = if key x = k then some x else fnd key k (L.drop (i + 1)) := by
  obtain ⟨h, rfl⟩ := List.getElem?_eq_some_iff.1 hx
  rw [List.drop_eq_getElem_cons h]; rfl
theorem rof_fn (ex : Bool) (L : List Ac) (hL : Okl L) (a : Int) : Fn Try.prog 44 [stA ex L, vi .u64 a] [] (acA (findS L a)) [] := by
  have hl := hL.1
  have z0 := AV.le_agg (a := [vi .u64 a, vi .u64 0, vi .u64 0, vi .u64 0, vi .u64 0, vi .u64 0, .c (.v (.slice none 0 0)), .c (.v (.slice none 0 0))]) (b := ac8 a 0 0 (bsV []) (psV [])) ⟨AV.le_refl _, AV.le_of (by rw [l0_zero]), AV.le_of (by rw [l1_zero]), AV.le_of (by rw [l2_zero]), AV.le_of (by rw [l3_zero]), AV.le_refl _, AV.le_nil _ _, AV.le_nil _ _, trivial⟩
  obtain ⟨r, hr⟩ : ∃ r, findS L a = r := ⟨_, rfl⟩
  rw [hr]
  (refine fn_of Try.func44 rfl (by rfl) ?_; simp only [Try.ntmps44, List.length_cons, List.length_nil, Nat.reduceAdd, Nat.reduceSub, List.replicate, List.cons_append, List.nil_append])
  (repeat (any_goals (first | ((with_reducible refine evL_one ?_ ?_); rfl; intro K hK; simp only [go_sem]; ((repeat (refine ndI (by first | assumption | omega | rfl) ?_)); refine hK _ ?_; clear hK K)) | (with_reducible first | (refine evL_nil ?_; refine hR _ ?_; clear hR R) | ((first | refine evC_seq ?_ | refine evC_block ?_); intro Ψ hΨ hΨ') | (refine evC_region ?_; intro R hR) | (refine hΨ _ ?_; clear hΨ hΨ' Ψ) | refine evC_skip ?_ | refine evC_ret ?_ | refine evC_exit ?_) | ((with_reducible refine hΨ' _ _ ?_ ?_); (focus (simp; done)); clear hΨ hΨ' Ψ) | ((with_reducible apply evC_cond); rfl; rfl; all_goals (intro hc; first | (cases hc; done) | (try simp only at hc))))))
  refine evC_loop (α := { i : Nat // i ≤ L.length ∧ findS (L.drop i) a = r }) (fun x => ⟨[.any, vi .u64 a, .ptr 2 0, .any, .ptr 4 0, .any, .any, .any, acS ex L, vi .i64 L.length, vi .i64 (x.1 : Int), .any, .any, .any, .any, .any, .any, .any, .any, .any, .any, .any], [(4, [vi .u64 0, vi .u64 0, vi .u64 0, vi .u64 0, vi .u64 0, vi .u64 0, .c (.v (.slice none 0 0)), .c (.v (.slice none 0 0))])]⟩) (fun x => L.length - x.1) ⟨0, Nat.zero_le _, hr⟩ (St.le_of (by simp [leT]) (by simp [leH, hget])) ?_
  rintro ⟨i, hi, hok⟩ Ψ hΨ hΨ'
  (try dsimp only at hΨ ⊢)
  have k7 : (i : Int) + 1 = ((i + 1 : Nat) : Int) := by omega
  rcases Nat.lt_or_ge i L.length with hlt | hge
  · obtain ⟨x, hx⟩ : ∃ x, L[i]? = some x := ⟨_, List.getElem?_eq_getElem hlt⟩
    have k1 : (decide ((i : Int) < (L.length : Int))) = true := decide_eq_true (by omega)
    have k2 := ac_at hx
    unfold findS at hok
    rw [fnd_drop hx] at hok
    by_cases he : x.a = a
    · rw [if_pos he] at hok
      have k3 : (x.a == a) = true := by simpa using he
      have e : r = x := hok.symm
      (have W := ndI k1 (ndI k2 k3); (repeat (any_goals (first | ((with_reducible refine evL_one ?_ ?_); rfl; intro K hK; simp only [go_sem, W]; ((repeat (refine ndI (by first | assumption | omega | rfl) ?_)); refine hK _ ?_; clear hK K)) | (with_reducible first | (refine evL_nil ?_; refine hR _ ?_; clear hR R) | ((first | refine evC_seq ?_ | refine evC_block ?_); intro Ψ hΨ hΨ') | (refine evC_region ?_; intro R hR) | (refine hΨ _ ?_; clear hΨ hΨ' Ψ) | refine evC_skip ?_ | refine evC_ret ?_ | refine evC_exit ?_) | ((with_reducible refine hΨ' _ _ ?_ ?_); (focus (simp; done)); clear hΨ hΨ' Ψ) | ((with_reducible apply evC_cond); rfl; rfl; all_goals (intro hc; first | (cases hc; done) | (try simp only at hc)))))))
      all_goals rw [e]
      all_goals (refine ⟨by simp, ⟨_, ?_, AV.le_refl _⟩, leH_get (by simp [leH, hget])⟩; simp only [Try.results44, resL, ldA, oneOf, go_sem])
    · rw [if_neg he] at hok
      have k3 : (x.a == a) = false := by simpa using he
      (have W := ndI k1 (ndI k2 (ndI k3 (ndI k7 @wrI))); (repeat (any_goals (first | ((with_reducible refine evL_one ?_ ?_); rfl; intro K hK; simp (disch := omega) only [go_sem, W]; ((repeat (refine ndI (by first | assumption | omega | rfl) ?_)); refine hK _ ?_; clear hK K)) | (with_reducible first | (refine evL_nil ?_; refine hR _ ?_; clear hR R) | ((first | refine evC_seq ?_ | refine evC_block ?_); intro Ψ hΨ hΨ') | (refine evC_region ?_; intro R hR) | (refine hΨ _ ?_; clear hΨ hΨ' Ψ) | refine evC_skip ?_ | refine evC_ret ?_ | refine evC_exit ?_) | ((with_reducible refine hΨ' _ _ ?_ ?_); (focus (simp; done)); clear hΨ hΨ' Ψ) | ((with_reducible apply evC_cond); rfl; rfl; all_goals (intro hc; first | (cases hc; done) | (try simp only at hc)))))))
      exact hΨ _ ⟨i + 1, hlt, hok⟩ (by dsimp only; omega) (St.le_of (by simp [leT]) (by simp [leH, hget]))
  · have k1 : (decide ((i : Int) < (L.length : Int))) = false := decide_eq_false (by omega)
    rw [List.drop_eq_nil_of_le hge] at hok
    have e : r = ⟨a, 0, 0, [], []⟩ := hok.symm
    (repeat (any_goals (first | ((with_reducible refine evL_one ?_ ?_); rfl; intro K hK; simp only [go_sem, k1]; ((repeat (refine ndI (by first | assumption | omega | rfl) ?_)); refine hK _ ?_; clear hK K)) | (with_reducible first | (refine evL_nil ?_; refine hR _ ?_; clear hR R) | ((first | refine evC_seq ?_ | refine evC_block ?_); intro Ψ hΨ hΨ') | (refine evC_region ?_; intro R hR) | (refine hΨ _ ?_; clear hΨ hΨ' Ψ) | refine evC_skip ?_ | refine evC_ret ?_ | refine evC_exit ?_) | ((with_reducible refine hΨ' _ _ ?_ ?_); (focus (simp; done)); clear hΨ hΨ' Ψ) | ((with_reducible apply evC_cond); rfl; rfl; all_goals (intro hc; first | (cases hc; done) | (try simp only at hc))))))
    all_goals rw [e]
    all_goals (refine ⟨by simp, ⟨_, ?_, z0⟩, leH_get (by simp [leH, hget])⟩; simp only [Try.results44, resL, ldA, oneOf, go_sem])
def findP (l : List Pr) (k : Nat) : Nat := ((l.find? fun p => decide (p.k = k)).map Pr.v).getD 0
end Go.Proofs.Ytgdnmdnhkhpieaa
namespace Go.Proofs.Ytgdnmdnhkhpieaa
open Go.RowKit Go.ChangeShapes Go.WideShapes Go.ChangeAt Go.Deep

section
variable {H : Type} {enc : TypeId × Value → H} {P : Program}

def Dec {α : Type} (P : Program) (t : TypeId) (sz : Nat) (f : α → List Value) (Good : α → Prop) : Prop :=
  P.cellsOf t = sz ∧ ∀ (H : Type) (enc : TypeId × Value → H) (w : World) (base : Nat) (spare : Nat → Bool) (held : Bool) (fuel : Nat) (cs : List Value) (x : DataW H × List MemPlace),
    DataW.trod enc P w base spare held fuel t cs = some x → ∃ a, cs = f a ∧ Good a

theorem dec_int {t : TypeId} {k : IntKind} (ht : P.underlying t = some (.int k)) (hc : P.cellsOf t = 1) : Dec P t 1 (fun n : Int => [.int k n]) (fun n => (Lit.int k n).wf = true) :=
  ⟨hc, fun H enc w base spare held fuel cs x h => by
    obtain ⟨n, rfl, _, hw⟩ := DataW.trod_int ht h
    exact ⟨n, rfl, hw⟩⟩
theorem dec_map {α β : Type} {t : TypeId} {sz : Nat} {f : α → List Value} {G : α → Prop} (h : Dec P t sz f G) {f' : β → List Value} {G' : β → Prop} (hg : ∀ a, G a → ∃ b, f a = f' b ∧ G' b) : Dec P t sz f' G' :=
  ⟨h.1, fun H enc w base spare held fuel cs x hx => by
    obtain ⟨a, e, g⟩ := h.2 H enc w base spare held fuel cs x hx
    obtain ⟨b, e', g'⟩ := hg a g
    exact ⟨b, e.trans e', g'⟩⟩
theorem wf_u64 {n : Int} (h : (Lit.int .u64 n).wf = true) : 0 ≤ n ∧ n < 18446744073709551616 := by
  simp [Lit.wf, IntKind.min, IntKind.max, IntKind.signed, IntKind.bits] at h; omega
theorem wf_u8 {n : Int} (h : (Lit.int .u8 n).wf = true) : 0 ≤ n ∧ n < 256 := by
  simp [Lit.wf, IntKind.min, IntKind.max, IntKind.signed, IntKind.bits] at h; omega
theorem dec_u64 {t : TypeId} (ht : P.underlying t = some (.int .u64)) (hc : P.cellsOf t = 1) : Dec P t 1 (fun n : Nat => [.int .u64 (n : Int)]) (fun n => n < 18446744073709551616) :=
  dec_map (dec_int ht hc) fun n h => ⟨n.toNat, by have := wf_u64 h; rw [Int.toNat_of_nonneg (by omega)], by have := wf_u64 h; omega⟩
theorem choose_list {α : Type} {p : Nat → α → Prop} (n : Nat) (h : ∀ i, i < n → ∃ b, p i b) : ∃ l : List α, l.length = n ∧ ∀ i b, l[i]? = some b → p i b := by
  induction n with
  | zero => exact ⟨[], rfl, by simp⟩
  | succ k ih =>
    obtain ⟨l, hl, hp⟩ := ih fun i hi => h i (by omega)
    obtain ⟨b, hb⟩ := h k (by omega)
    refine ⟨l ++ [b], by simp [hl], fun i b' hib => ?_⟩
    rw [List.getElem?_append] at hib
    split at hib
    · exact hp i b' hib
    · have hi0 : i = k := by
        have := (List.getElem?_eq_some_iff.1 hib).1
        simp at this; omega
      subst hi0
      rw [hl, Nat.sub_self] at hib
      simp at hib
      subst hib
      exact hb
theorem dec_arr {α : Type} {t e : TypeId} {n sz : Nat} {f : α → List Value} {G : α → Prop} (ht : P.underlying t = some (.array n e)) (hc : P.cellsOf t = n * sz) (hs : 0 < sz)
    (he : Dec P e sz f G) (hf : ∀ a, (f a).length = sz) : Dec P t (n * sz) (sts f) (fun l => l.length = n ∧ ∀ a ∈ l, G a) :=
  ⟨hc, fun H enc w base spare held fuel cs x hx => by
    obtain ⟨xs, m, _, _, hlen, hxl, hi⟩ := DataW.trod_array ht hx
    rw [hc] at hlen
    obtain ⟨l, hl, hp⟩ := choose_list (p := fun i b => G b ∧ (cs.drop (i * sz)).take sz = f b) n fun i hin => by
      have h1 := hi i hin
      rw [he.1, List.getElem?_eq_getElem (by omega)] at h1
      obtain ⟨b, hb, hg⟩ := he.2 H enc w base spare held m _ _ h1
      exact ⟨b, hg, hb⟩
    refine ⟨l, ?_, hl, fun a ha => ?_⟩
    · apply List.ext_getElem?
      intro j
      by_cases hj : j < n * sz
      · have hq : j / sz < n := Nat.div_lt_of_lt_mul (by rw [Nat.mul_comm]; exact hj)
        have hr : j % sz < sz := Nat.mod_lt _ hs
        have hje : j = j / sz * sz + j % sz := by rw [Nat.mul_comm]; exact (Nat.div_add_mod j sz).symm
        have hk : l[j / sz]? = some (l[j / sz]'(by omega)) := List.getElem?_eq_getElem (by omega)
        have h1 := sts_get hf hk hr
        rw [← hje] at h1
        rw [h1, ← (hp _ _ hk).2, List.getElem?_take, if_pos hr, List.getElem?_drop, ← hje]
      · rw [List.getElem?_eq_none (by omega), List.getElem?_eq_none (by rw [sts_length f sz hf, hl]; omega)]
    · obtain ⟨i, hi'⟩ := List.mem_iff_getElem?.1 ha
      exact (hp i a hi').1⟩
theorem trodAll_stays (hl : laidOutB P = true) {W W' : World} (hb : Below W.heap.size W W') : ∀ {ts : List TypeId} {vs : List Value} {ds : List (DataW H)} {ps : List MemPlace},
    (∀ t ∈ ts, P.readableRec t = true ∧ t < P.types.size) → DataW.TrodAll enc P W 0 (fun _ => true) true ts vs ds ps → DataW.TrodAll enc P W' 0 (fun b => decide (b < W.heap.size)) true ts vs ds ps
  | [], [], [], _, _, h => h
  | t :: ts, v :: vs, d :: ds, ps, hr, h => by
    obtain ⟨p, q, ⟨m, hm⟩, hq, rfl⟩ := h
    have h1 := hr t (List.mem_cons_self ..)
    exact ⟨p, q, Below.trod hl h1.1 h1.2 ⟨m, hm⟩ hb (fun x hx => DataW.trod_lt m _ _ _ hm x hx), trodAll_stays hl hb (fun t ht => hr t (List.mem_cons_of_mem _ ht)) hq, rfl⟩
  | [], _ :: _, _, _, _, h => h.elim
  | [], [], _ :: _, _, _, h => h.elim
  | _ :: _, [], _, _, _, h => h.elim
  | _ :: _, _ :: _, [], _, _, h => h.elim

theorem trodAll_size : ∀ {w : World} {base : Nat} {spare : Nat → Bool} {held : Bool} {ts : List TypeId} {vs : List Value} {ds : List (DataW H)} {ps : List MemPlace}, DataW.TrodAll enc P w base spare held ts vs ds ps → ds.length = ts.length
  | _, _, _, _, [], [], [], _, _ => rfl
  | _, _, _, _, t :: ts, v :: vs, d :: ds, _, h => by
    obtain ⟨p, q, _, hq, _⟩ := h
    simp [trodAll_size hq]
  | _, _, _, _, [], _ :: _, _, _, h => h.elim
  | _, _, _, _, [], [], _ :: _, _, h => h.elim
  | _, _, _, _, _ :: _, [], _, _, h => h.elim
  | _, _, _, _, _ :: _, _ :: _, [], _, h => h.elim

theorem law_post {W : World} {args : Array Value} {ds gs : List (DataW H)} {before : List MemPlace} {fn : Func} {s : ChangeSpec} {f : Nat} {tb : TypeId} (hl : laidOutB P = true) (hvars : s.vars = []) (htb : P.underlying tb = some .bool) (hrt : fn.resultTypes = #[tb])
    (hr : ∀ t ∈ fn.params.toList, P.readableRec t = true ∧ t < P.types.size) (hfn : ∀ ds : List (DataW H), ds.length = fn.params.toList.length → s.fn H ds = { results := [.lit (.bool true)], args := ds })
    (hW : DataW.Whole enc P fn.params.toList s.vars false W args.toList ds gs before) (hc : Calls P f args W (RetT W true)) :
    Calls P f args W fun e W' => ∃ v, e = .returned v ∧ s.post enc P fn false true false false W args v W' := by
  refine hc.mono fun e W' h => ?_
  obtain ⟨he, bel⟩ := h
  subst he
  have hW' := hW
  obtain ⟨p, q, hA, hV, rfl, hfz, hnd⟩ := hW
  rw [hvars] at hV
  obtain ⟨rfl, rfl⟩ := trodVars_none hV
  have hfd := hfn ds (trodAll_size hA)
  refine ⟨_, rfl, ds, [], p ++ [], [], p, [], hW', ?_, ?_, ?_, bel.frame _, fun h => by cases h⟩
  · rw [hrt, List.append_nil, hfd]
    exact trodAll_mk1 (shut_bool htb _)
  · rw [List.append_nil, hfd]
    exact trodAll_stays hl bel hr hA
  · rw [hvars, List.append_nil, hfd]
    rfl
end
end Go.Proofs.Ytgdnmdnhkhpieaa
namespace Go.Proofs.Ytgdnmdnhkhpieaa
open Go.RowKit Go.ChangeShapes Go.WideShapes Go.ChangeAt Go.Deep
def DecV {α : Type} (P : Program) (t : TypeId) (sz : Nat) (g : α → List PV) (Good : α → Prop) : Prop :=
  P.cellsOf t = sz ∧ ∀ (H : Type) (enc : TypeId × Value → H) (w : World) (base : Nat) (spare : Nat → Bool) (held : Bool) (fuel : Nat) (cs : List Value) (x : DataW H × List MemPlace),
    DataW.trod enc P w base spare held fuel t cs = some x → ∃ a, cs.length = sz ∧ (g a).length = sz ∧ (∀ (j : Nat) (u : Value) (y : PV), cs[j]? = some u → (g a)[j]? = some y → RVp (fun _ => True) w u y) ∧ Good a
theorem Dec.toV {α : Type} {P : Program} {t : TypeId} {sz : Nat} {f : α → List Value} {G : α → Prop} (h : Dec P t sz f G) (hf : ∀ a, (f a).length = sz) (ho : ∀ a, ∀ u ∈ f a, u.oneCell' = true) : DecV P t sz (fun a => (f a).map .v) G :=
  ⟨h.1, fun H enc w base spare held fuel cs x hx => by
    obtain ⟨a, rfl, ga⟩ := h.2 H enc w base spare held fuel cs x hx
    refine ⟨a, hf a, by simp [hf], fun j u y hu hy => ?_, ga⟩
    rw [List.getElem?_map, hu] at hy
    cases hy
    exact .v u (ho a u (List.mem_of_getElem? hu))⟩
theorem DecV.map {α β : Type} {P : Program} {t : TypeId} {sz : Nat} {g : α → List PV} {G : α → Prop} (h : DecV P t sz g G) {g' : β → List PV} {G' : β → Prop} (hg : ∀ a, G a → ∃ b, g a = g' b ∧ G' b) : DecV P t sz g' G' :=
  ⟨h.1, fun H enc w base spare held fuel cs x hx => by
    obtain ⟨a, h1, h2, h3, ga⟩ := h.2 H enc w base spare held fuel cs x hx
    obtain ⟨b, e, gb⟩ := hg a ga
    exact ⟨b, h1, by rw [← e]; exact h2, by rw [← e]; exact h3, gb⟩⟩
theorem decV_slice {α : Type} {P : Program} {t e : TypeId} {sz : Nat} {g : α → List PV} {G : α → Prop} (ht : P.underlying t = some (.slice e)) (hc : P.cellsOf t = 1) (he : DecV P e sz g G) (hs : 0 < sz) (hgl : ∀ a, (g a).length = sz) :
    DecV P t 1 (fun l : List α => [PV.sl false sz l.length (l.flatMap g)]) (fun l => l.length ≤ maxLen ∧ ∀ a ∈ l, G a) :=
  ⟨hc, fun H enc w base spare held fuel cs x hx => by
    rcases DataW.trod_slice ht hx with ⟨rfl, _⟩ | ⟨a, n, c, elems, rest, m, _, rfl, _, _, hl, hm, hel, hi, _, _⟩
    · refine ⟨[], rfl, rfl, fun j u y hu hy => ?_, Nat.zero_le _, by simp⟩
      cases j with
      | zero =>
        simp only [List.getElem?_cons_zero, Option.some.injEq] at hu hy
        subst hu hy
        exact .sl false sz none 0 0 [] [] (Nat.le_refl _) (Nat.zero_le _) (fun _ => rfl) (fun h => by cases h) rfl (by simp) (fun h => absurd rfl h) fun j u x hu => by cases hu
      | succ j => simp at hu
    · have key : ∀ i, i < n → ∃ b : α, G b ∧ ∃ us : List Value, us.length = sz ∧ (∀ j, j < sz → w.cell? (a.add (i * sz + j)) = us[j]?) ∧ ∀ (j : Nat) (u : Value) (y : PV), us[j]? = some u → (g b)[j]? = some y → RVp (fun _ => True) w u y := by
        intro i hin
        have h1 := hi i hin
        rw [List.getElem?_eq_getElem (by omega)] at h1
        obtain ⟨us, hcs, htr⟩ := Option.bind_eq_some_iff.1 h1
        rw [he.1] at hcs
        obtain ⟨b, hb1, hb2, hb3, hG⟩ := he.2 H enc w base spare held m us _ htr
        obtain ⟨_, hcl, hat⟩ := World.cells?_some hcs
        refine ⟨b, hG, us, hb1, fun j hj => ?_, hb3⟩
        rw [← Go.Deep.add_add, hat j hj]
      have key2 : ∃ l : List α, l.length = n ∧ ∀ i b, l[i]? = some b → G b ∧ ∃ us : List Value, us.length = sz ∧ (∀ j, j < sz → w.cell? (a.add (i * sz + j)) = us[j]?) ∧ ∀ (j : Nat) (u : Value) (y : PV), us[j]? = some u → (g b)[j]? = some y → RVp (fun _ => True) w u y :=
        choose_list (p := fun i b => G b ∧ ∃ us : List Value, us.length = sz ∧ (∀ j, j < sz → w.cell? (a.add (i * sz + j)) = us[j]?) ∧ ∀ (j : Nat) (u : Value) (y : PV), us[j]? = some u → (g b)[j]? = some y → RVp (fun _ => True) w u y) n key
      obtain ⟨l, hll, hp⟩ := key2
      have hcell : ∀ j, j < n * sz → ∃ u, w.cell? (a.add j) = some u ∧ ∀ y, (l.flatMap g)[j]? = some y → RVp (fun _ => True) w u y := fun j hjl => by
        have hq : j / sz < n := Nat.div_lt_of_lt_mul (by rw [Nat.mul_comm]; exact hjl)
        have hr : j % sz < sz := Nat.mod_lt _ hs
        have hj : j = j / sz * sz + j % sz := by rw [Nat.mul_comm]; exact (Nat.div_add_mod j sz).symm
        have hk : l[j / sz]? = some (l[j / sz]'(by omega)) := List.getElem?_eq_getElem (by omega)
        obtain ⟨_, us, hul, hc1, hrv⟩ := hp _ _ hk
        have h1 := hc1 _ hr
        rw [← hj, List.getElem?_eq_getElem (by omega)] at h1
        refine ⟨_, h1, fun y hy => hrv (j % sz) _ y (List.getElem?_eq_getElem (by omega)) ?_⟩
        have h2 := flat_at hgl hk
        have h3 : ((l.flatMap g).drop (j / sz * sz)).take sz = g (l[j / sz]'(by omega)) := h2
        rw [← h3, List.getElem?_take, if_pos hr, List.getElem?_drop, ← hj]
        exact hy
      have hus : ∃ us : List Value, us.length = n * sz ∧ ∀ j u, us[j]? = some u → w.cell? (a.add j) = some u ∧ ∀ y, (l.flatMap g)[j]? = some y → RVp (fun _ => True) w u y :=
        choose_list (p := fun j u => w.cell? (a.add j) = some u ∧ ∀ y, (l.flatMap g)[j]? = some y → RVp (fun _ => True) w u y) (n * sz) hcell
      obtain ⟨us, husl, hu⟩ := hus
      have hfl : (l.flatMap g).length = n * sz := by rw [flat_length hgl, hll]
      refine ⟨l, rfl, rfl, fun j u y hu0 hy => ?_, by omega, fun b hb => ?_⟩
      · cases j with
        | zero =>
          simp only [List.getElem?_cons_zero, Option.some.injEq] at hu0 hy
          subst hu0 hy
          rw [hll]
          refine .sl false sz (some a) n c us _ hl hm (fun h => by cases h) (fun h => by cases h) (by rw [husl, hfl]) hfl (fun hne => ?_) fun j u x hj hx => (hu j u hj).2 x hx
          obtain ⟨u0, rest0, hu0⟩ := List.exists_cons_of_ne_nil hne
          have hc0 := (hu 0 u0 (by rw [hu0]; rfl)).1
          rw [add_zero'] at hc0
          have hspot := World.cell?_spot hc0
          obtain ⟨ab, ao, asp⟩ := a
          simp only at hspot
          subst hspot
          exact ⟨ab, ao, rfl, trivial, fun j u hj => by have := (hu j u hj).1; rwa [add_none] at this⟩
        | succ j => simp at hu0
      · obtain ⟨i, hi'⟩ := List.mem_iff_getElem?.1 hb
        exact (hp i b hi').1⟩
theorem decV_triple {α β γ : Type} {P : Program} {t : TypeId} {f0 f1 f2 : Field} {s0 s1 s2 : Nat} {f : α → List PV} {g : β → List PV} {h : γ → List PV} {G : α → Prop} {G' : β → Prop} {G2 : γ → Prop} (ht : P.underlying t = some (.struct #[f0, f1, f2])) (hc : P.cellsOf t = s0 + (s1 + s2))
    (h0 : DecV P f0.type s0 f G) (h1 : DecV P f1.type s1 g G') (h2 : DecV P f2.type s2 h G2) (o0 : f0.offset = 0) (o1 : f1.offset = s0) (o2 : f2.offset = s0 + s1) : DecV P t (s0 + (s1 + s2)) (fun x : α × β × γ => f x.1 ++ (g x.2.1 ++ h x.2.2)) (fun x => G x.1 ∧ G' x.2.1 ∧ G2 x.2.2) :=
  ⟨hc, fun H enc w base spare held fuel cs x hx => by
    obtain ⟨xs, n, _, _, hlen, hxl, hf⟩ := DataW.trod_struct ht hx
    have e0 := hf 0 f0 rfl
    have e1 := hf 1 f1 rfl
    have e2 := hf 2 f2 rfl
    have hxl' : xs.length = 3 := hxl
    rw [o0, h0.1, List.drop_zero, List.getElem?_eq_getElem (by omega)] at e0
    rw [o1, h1.1, List.getElem?_eq_getElem (by omega)] at e1
    rw [o2, h2.1, List.getElem?_eq_getElem (by omega)] at e2
    obtain ⟨a, a1, a2, a3, ga⟩ := h0.2 H enc w base spare held n _ _ e0
    obtain ⟨b, b1, b2, b3, gb⟩ := h1.2 H enc w base spare held n _ _ e1
    obtain ⟨c, c1, c2, c3, gc⟩ := h2.2 H enc w base spare held n _ _ e2
    rw [hc] at hlen
    refine ⟨(a, b, c), hlen, by simp [a2, b2, c2], fun j u y hu hy => ?_, ga, gb, gc⟩
    dsimp only at hy
    rw [List.getElem?_append] at hy
    split at hy
    · exact a3 j u y (by rw [List.getElem?_take, if_pos (by omega)]; exact hu) hy
    · rw [List.getElem?_append] at hy
      split at hy
      · refine b3 (j - (f a).length) u y ?_ hy
        rw [List.getElem?_take, if_pos (by omega), List.getElem?_drop, a2, show s0 + (j - s0) = j by omega]; exact hu
      · have hjl := (List.getElem?_eq_some_iff.1 hy).1
        refine c3 (j - (f a).length - (g b).length) u y ?_ hy
        rw [List.getElem?_take, if_pos (by omega), List.getElem?_drop, a2, b2, show s0 + s1 + (j - s0 - s1) = j by omega]; exact hu⟩
theorem decV_int {P : Program} {t : TypeId} {k : IntKind} (ht : P.underlying t = some (.int k)) (hc : P.cellsOf t = 1) : DecV P t 1 (fun n : Int => [PV.v (.int k n)]) (fun n => (Lit.int k n).wf = true) :=
  ((dec_int ht hc).toV (fun _ => rfl) (fun a u hu => by simp at hu; subst hu; rfl)).map fun a ga => ⟨a, rfl, ga⟩
theorem decV_u64 {P : Program} {t : TypeId} (ht : P.underlying t = some (.int .u64)) (hc : P.cellsOf t = 1) : DecV P t 1 (fun n : Int => [PV.v (.int .u64 n)]) (fun n => 0 ≤ n ∧ n ≤ 18446744073709551615) :=
  (decV_int ht hc).map fun a ga => ⟨a, rfl, by have := wf_u64 ga; omega⟩
theorem decV_w4 {P : Program} {t e : TypeId} (ht : P.underlying t = some (.array 4 e)) (hc : P.cellsOf t = 4 * 1) (he : P.underlying e = some (.int .u64)) (hce : P.cellsOf e = 1) :
    DecV P t 4 (fun x : Int × Int × Int × Int => [PV.v (.int .u64 x.1), .v (.int .u64 x.2.1), .v (.int .u64 x.2.2.1), .v (.int .u64 x.2.2.2)]) (fun x => (0 ≤ x.1 ∧ x.1 ≤ 18446744073709551615) ∧ (0 ≤ x.2.1 ∧ x.2.1 ≤ 18446744073709551615) ∧ (0 ≤ x.2.2.1 ∧ x.2.2.1 ≤ 18446744073709551615) ∧ (0 ≤ x.2.2.2 ∧ x.2.2.2 ≤ 18446744073709551615)) :=
  ((dec_map (f' := fun x : Int × Int × Int × Int => [.int .u64 x.1, .int .u64 x.2.1, .int .u64 x.2.2.1, .int .u64 x.2.2.2]) (G' := fun x => (0 ≤ x.1 ∧ x.1 ≤ 18446744073709551615) ∧ (0 ≤ x.2.1 ∧ x.2.1 ≤ 18446744073709551615) ∧ (0 ≤ x.2.2.1 ∧ x.2.2.1 ≤ 18446744073709551615) ∧ (0 ≤ x.2.2.2 ∧ x.2.2.2 ≤ 18446744073709551615)) (dec_arr (n := 4) ht hc (by omega) (dec_u64 he hce) (fun _ => rfl)) fun l ⟨hl, hg⟩ => by
    match l, hl with
    | [x, y, z, u], _ =>
      have h1 := hg x (by simp)
      have h2 := hg y (by simp)
      have h3 := hg z (by simp)
      have h4 := hg u (by simp)
      exact ⟨(x, y, z, u), by simp [sts], ⟨by simp only; omega, by simp only; omega⟩, ⟨by simp only; omega, by simp only; omega⟩, ⟨by simp only; omega, by simp only; omega⟩, ⟨by simp only; omega, by simp only; omega⟩⟩).toV (fun _ => rfl) (fun a u hu => by simp at hu; rcases hu with rfl | rfl | rfl | rfl <;> rfl)).map fun a ga => ⟨a, rfl, ga⟩
open Go.RowKit Go.ChangeShapes Go.WideShapes Go.ChangeAt Go.Deep
def DecF {α : Type} (P : Program) (fs : List Field) (o sz : Nat) (g : α → List PV) (Good : α → Prop) : Prop :=
  ∀ (H : Type) (enc : TypeId × Value → H) (w : World) (base : Nat) (spare : Nat → Bool) (held : Bool) (fuel : Nat) (cs : List Value), o + sz ≤ cs.length →
    (∀ f ∈ fs, ∃ x : DataW H × List MemPlace, DataW.trod enc P w base spare held fuel f.type ((cs.drop f.offset).take (P.cellsOf f.type)) = some x) →
    ∃ a, (g a).length = sz ∧ (∀ (j : Nat) (u : Value) (y : PV), cs[o + j]? = some u → (g a)[j]? = some y → RVp (fun _ => True) w u y) ∧ Good a
theorem decF_one {α : Type} {P : Program} {f : Field} {o sz : Nat} {g : α → List PV} {G : α → Prop} (h : DecV P f.type sz g G) (ho : f.offset = o) : DecF P [f] o sz g G := by
  intro H enc w base spare held fuel cs hlen hf
  obtain ⟨x, hx⟩ := hf f (by simp)
  rw [ho, h.1] at hx
  obtain ⟨a, a1, a2, a3, ga⟩ := h.2 H enc w base spare held fuel _ _ hx
  refine ⟨a, a2, fun j u y hu hy => a3 j u y ?_ hy, ga⟩
  have hj := (List.getElem?_eq_some_iff.1 hy).1
  rw [List.getElem?_take, if_pos (by omega), List.getElem?_drop]
  exact hu
theorem decF_cons {α β : Type} {P : Program} {f : Field} {fs : List Field} {o s0 s1 : Nat} {g : α → List PV} {g' : β → List PV} {G : α → Prop} {G' : β → Prop} (h : DecV P f.type s0 g G) (ho : f.offset = o) (hr : DecF P fs (o + s0) s1 g' G') :
    DecF P (f :: fs) o (s0 + s1) (fun x : α × β => g x.1 ++ g' x.2) (fun x => G x.1 ∧ G' x.2) := by
  intro H enc w base spare held fuel cs hlen hf
  obtain ⟨a, a2, a3, ga⟩ := decF_one h ho H enc w base spare held fuel cs (by omega) (fun f' hf' => hf f' (by simp at hf'; simp [hf']))
  obtain ⟨b, b2, b3, gb⟩ := hr H enc w base spare held fuel cs (by omega) (fun f' hf' => hf f' (by simp [hf']))
  refine ⟨(a, b), by simp [a2, b2], fun j u y hu hy => ?_, ga, gb⟩
  dsimp only at hy
  rw [List.getElem?_append] at hy
  split at hy
  · exact a3 j u y hu hy
  · exact b3 (j - (g a).length) u y (by rw [a2, show o + s0 + (j - s0) = o + j by omega]; exact hu) hy
theorem decV_struct {α : Type} {P : Program} {t : TypeId} {fs : Array Field} {sz : Nat} {g : α → List PV} {G : α → Prop} (ht : P.underlying t = some (.struct fs)) (hc : P.cellsOf t = sz) (h : DecF P fs.toList 0 sz g G) : DecV P t sz g G :=
  ⟨hc, fun H enc w base spare held fuel cs x hx => by
    obtain ⟨xs, n, _, _, hlen, hxl, hf⟩ := DataW.trod_struct ht hx
    rw [hc] at hlen
    obtain ⟨a, a2, a3, ga⟩ := h H enc w base spare held n cs (by omega) (fun f hf' => by
      obtain ⟨k, hk⟩ := List.mem_iff_getElem?.1 hf'
      have hk' : fs[k]? = some f := by rw [← Array.getElem?_toList]; exact hk
      have h1 := hf k f hk'
      have hlt := (Array.getElem?_eq_some_iff.1 hk').1
      rw [List.getElem?_eq_getElem (by omega)] at h1
      exact ⟨_, h1⟩)
    exact ⟨a, hlen, a2, fun j u y hu hy => a3 j u y (by rw [Nat.zero_add]; exact hu) hy, ga⟩⟩
theorem open_VA {H : Type} {enc : TypeId × Value → H} {α : Type} {P : Program} {t : TypeId} {sz : Nat} {g : α → List PV} {G : α → Prop} {w : World} {base : Nat} {spare : Nat → Bool} {held : Bool} {cs : Array Value} {d : DataW H} {ps : List MemPlace} (h : DecV P t sz g G) (ht : DataW.Trod enc P w base spare held t (.agg cs) d ps) (ι : Nat → Nat × Nat × Nat) :
    ∃ a, RV (fun _ => True) ι w (.agg cs) (.agg ((g a).map .c)) ∧ G a := by
  obtain ⟨fuel, ht⟩ := ht
  obtain ⟨a, a1, a2, a3, ga⟩ := h.2 H enc w base spare held fuel _ _ ht
  have e : (Value.agg cs).cells.toList = cs.toList := rfl
  rw [e] at a1 a3
  refine ⟨a, ?_, ga⟩
  have hc : cs = cs.toList.toArray := by simp
  rw [hc]
  have key : ∀ (j : Nat) (u : Value) (y : PV), cs.toList[j]? = some u → (g a)[j]? = some y → RVp (fun _ => True) w u y := a3
  refine .agg cs.toList _ (by rw [List.length_map, a1, a2]) (fun u hu => ?_) fun j u x hu hx => ?_
  · obtain ⟨j, hj⟩ := List.mem_iff_getElem?.1 hu
    have hlt := (List.getElem?_eq_some_iff.1 hj).1
    exact (key j u _ hj (List.getElem?_eq_getElem (by omega))).one
  · rw [List.getElem?_map, Option.map_eq_some_iff] at hx
    obtain ⟨y, hy, rfl⟩ := hx
    exact .c _ _ (key j u y hu hy)
theorem okWide_struct {P : Program} {w : World} {r : Reach} {base : Nat} {t : TypeId} {fs : Array Field} {v : Value} (ht : P.underlying t = some (.struct fs)) (h : Value.okWide P w r base t v) : ∃ cs, v = .agg cs := by
  simp only [Value.okWide, ht] at h
  obtain ⟨cs, h1, _⟩ := h
  exact ⟨cs, h1⟩
end Go.Proofs.Ytgdnmdnhkhpieaa
namespace Go.Proofs.Ytgdnmdnhkhpieaa
open Go.RowKit
set_option maxRecDepth 20000
set_option maxHeartbeats 2000000
def w1 : List Ac := [⟨20, 7, 0, [], []⟩]
def w2 : List Ac := [⟨20, 4, 0, [], []⟩, ⟨21, 3, 0, [], []⟩]
def w3 : List Ac := [⟨20, 4, 0, [], []⟩, ⟨21, 3, 0, [], [⟨5, 9⟩]⟩]
theorem k0 : Okl [] := ⟨Nat.zero_le _, fun x h => by cases h⟩
theorem word_of {a b c d : Int} (ha : 0 ≤ a ∧ a ≤ 18446744073709551615) (hb : 0 ≤ b ∧ b ≤ 18446744073709551615) (hc : 0 ≤ c ∧ c ≤ 18446744073709551615) (hd : 0 ≤ d ∧ d ≤ 18446744073709551615) : ∃ n : Nat, n < WW ∧ l0 n = a ∧ l1 n = b ∧ l2 n = c ∧ l3 n = d := by
  refine ⟨a.toNat + 18446744073709551616 * (b.toNat + 18446744073709551616 * (c.toNat + 18446744073709551616 * d.toNat)), ?_, ?_⟩
  · show _ < 115792089237316195423570985008687907853269984665640564039457584007913129639936
    omega
  · obtain ⟨h0, h1, h2, h3⟩ := limbs_of (s0 := a.toNat) (s1 := b.toNat) (s2 := c.toNat) (s3 := d.toNat) rfl (by omega) (by omega) (by omega) (by omega)
    rw [h0, h1, h2, h3]
    exact ⟨Int.toNat_of_nonneg ha.1, Int.toNat_of_nonneg hb.1, Int.toNat_of_nonneg hc.1, Int.toNat_of_nonneg hd.1⟩
theorem decV_word : DecV Try.prog 35 4 wpv (fun n => n < WW) :=
  (decV_w4 Try.underlying35 (by kernel_rfl) Try.underlying32 (by kernel_rfl)).map fun x hx => by
    obtain ⟨n, hn, h0, h1, h2, h3⟩ := word_of hx.1 hx.2.1 hx.2.2.1 hx.2.2.2
    exact ⟨n, by unfold wpv; rw [h0, h1, h2, h3], hn⟩
theorem decV_addr : DecV Try.prog 33 1 (fun n : Int => [PV.v (.int .u64 n)]) U := (decV_u64 Try.underlying33 (by kernel_rfl)).map fun a ga => ⟨a, rfl, ga⟩
theorem decV_num : DecV Try.prog 32 1 (fun n : Int => [PV.v (.int .u64 n)]) U := (decV_u64 Try.underlying32 (by kernel_rfl)).map fun a ga => ⟨a, rfl, ga⟩
theorem decV_byte : DecV Try.prog 5 1 bpv (fun n => n < 256) := (decV_int Try.underlying5 (by kernel_rfl)).map fun a ga => ⟨a.toNat, by unfold bpv; rw [Int.toNat_of_nonneg (wf_u8 ga).1], by have := wf_u8 ga; omega⟩
theorem decV_bytes : DecV Try.prog 55 1 (fun l : List Nat => [PV.sl false 1 l.length (l.flatMap bpv)]) (fun l => l.length ≤ maxLen ∧ ∀ a ∈ l, a < 256) :=
  decV_slice Try.underlying55 (by kernel_rfl) decV_byte (by omega) bpv_len
theorem decV_pairP : DecV Try.prog 63 8 Pr.pv Pr.ok :=
  (decV_struct (sz := 4 + 4) Try.underlying63 (by kernel_rfl) (decF_cons decV_word rfl (decF_one decV_word rfl))).map fun x hx => ⟨⟨x.1, x.2⟩, rfl, hx⟩
theorem decV_pairs : DecV Try.prog 56 1 (fun l : List Pr => [PV.sl false 8 l.length (l.flatMap Pr.pv)]) (fun l => l.length ≤ maxLen ∧ ∀ a ∈ l, a.ok) :=
  decV_slice Try.underlying56 (by kernel_rfl) decV_pairP (by omega) pr_len
theorem decV_account : DecV Try.prog 58 8 Ac.pv Ac.ok :=
  (decV_struct (sz := 1 + (4 + (1 + (1 + 1)))) Try.underlying58 (by kernel_rfl) (decF_cons decV_addr rfl (decF_cons decV_word rfl (decF_cons decV_num rfl (decF_cons decV_bytes rfl (decF_one decV_pairs rfl)))))).map fun x hx => ⟨⟨x.1, x.2.1, x.2.2.1, x.2.2.2.1, x.2.2.2.2⟩, rfl, hx⟩
theorem decV_accounts : DecV Try.prog 22 1 (fun l : List Ac => [PV.sl false 8 l.length (l.flatMap Ac.pv)]) (fun l => l.length ≤ maxLen ∧ ∀ a ∈ l, a.ok) :=
  decV_slice Try.underlying22 (by kernel_rfl) decV_account (by omega) ac_len
end Go.Proofs.Ytgdnmdnhkhpieaa
namespace Go.Proofs.Ytgdnmdnhkhpieaa
open Go.RowKit
set_option maxRecDepth 20000
set_option maxHeartbeats 2000000
structure Do where
  kind : Int
  a : Int
  b : Int
  n : Nat
  p : Pr
  x : Ac
def Do.ok (o : Do) : Prop := (-9223372036854775808 ≤ o.kind ∧ o.kind ≤ 9223372036854775807) ∧ U o.a ∧ U o.b ∧ o.n < WW ∧ o.p.ok ∧ o.x.ok
def Do.pv (o : Do) : List PV := .v (.int .i64 o.kind) :: .v (.int .u64 o.a) :: .v (.int .u64 o.b) :: (wpv o.n ++ (o.p.pv ++ o.x.pv))
end Go.Proofs.Ytgdnmdnhkhpieaa
namespace Go.Proofs.Ytgdnmdnhkhpieaa
open Go.RowKit
set_option maxRecDepth 20000
set_option maxHeartbeats 2000000
theorem findS_of {L : List Ac} (h : okSt L = true) (a : Int) : findS L a = ofS L a := (ofS_fnd (okSt_iff.1 h).1 a).symm
end Go.Proofs.Ytgdnmdnhkhpieaa
namespace Go.Proofs.Ytgdnmdnhkhpieaa.lg
open Go.RowKit
set_option maxRecDepth 20000
set_option maxHeartbeats 2000000
theorem Fn.res {P : Program} {f : FuncId} {args : List AV} {H0 H1 : List (Nat × List AV)} {res res' : AV} (h : Fn P f args H0 res H1) (hr : ∀ S ι w v, RV S ι w v res → RV S ι w v res') : Fn P f args H0 res' H1 := by
  intro E vs hD hS hH hlen hargs
  refine (h E vs hD hS hH hlen hargs).mono fun e w' => ?_
  rintro ⟨v, ι', rfl, hres, hc, hk⟩
  exact ⟨v, ι', rfl, hr _ _ _ _ hres, hc, hk⟩
structure Dd where
  k : Int
  a : Int
  n : Nat
  y : Int
  t : Int
def Dd.ok (D : Dd) : Prop := U D.a ∧ D.n < WW ∧ U D.y ∧ U D.t
def Dd.q (D : Dd) : Int := (IntKind.u64.wrap D.k).tmod 5
def Dd.er (D : Dd) (l : List Hd) (h : Hd) : Int := if D.q = 0 then fitsE l D.a D.n else if D.q = 1 then wdrE h D.n else if D.q = 2 then bondE l D.a h D.n D.y else if D.q = 3 then unlE h D.t else relE h D.t
def Dd.row (D : Dd) (h : Hd) : Hd := if D.q = 0 then depH h D.n else if D.q = 1 then wdrH h D.n else if D.q = 2 then bondH h D.n D.y else if D.q = 3 then unlH h D.t else relH h
def Dd.E (D : Dd) (l : List Hd) : Int := gate l D.a (D.er l (findH l D.a))
def Dd.M (D : Dd) (l : List Hd) : List Hd := if D.E l = 0 then putL l (D.row (findH l D.a)) else []
def Dd.W (D : Dd) (l : List Hd) : Nat := if D.q = 0 ∨ D.q = 1 ∨ D.q = 2 ∨ D.q = 3 then 0 else if D.E l = 0 then (findH l D.a).s else 0
end Go.Proofs.Ytgdnmdnhkhpieaa.lg
namespace Go.Proofs.Ytgdnmdnhkhpieaa.lg
open Go.RowKit
set_option maxRecDepth 20000
set_option maxHeartbeats 2000000
def srt (l : List Hd) : Prop := l.Pairwise fun x y => x.a < y.a
theorem lastA_succ {l : List Hd} {i : Nat} {y : Hd} (h : l[i]? = some y) : lastA l (i + 1) = y.a := by
  show (match l[i]? with | some y => y.a | none => 0) = y.a
  rw [h]
def emptyH (h : Hd) : Bool := decide (h.p = 0) && decide (h.s = 0)
def zH (a : Int) : Hd := ⟨a, 0, 0, 0, 0⟩
theorem cutA {l : List Hd} (hs : srt l) (a : Int) : ∃ (A : List Hd) (o : Option Hd) (B : List Hd), l = A ++ (o.toList ++ B) ∧ (∀ x ∈ A, x.a < a) ∧ (∀ x ∈ o, x.a = a) ∧ (∀ x ∈ B, a < x.a) ∧ isA l a = o.isSome ∧ findH l a = o.getD (zH a) ∧ ∀ h : Hd, h.a = a → putL l h = A ++ ((if emptyH h = true then [] else [h]) ++ B) := by
  have hle := posA_le l a
  have hA : ∀ x ∈ l.take (posA l a), x.a < a := by
    intro x hx
    obtain ⟨i, hi, rfl⟩ := List.getElem_of_mem hx
    rw [List.length_take] at hi
    rw [List.getElem_take]
    have hlt : i < l.findIdx fun h => decide (a ≤ h.a) := by
      have : posA l a = l.findIdx fun h => decide (a ≤ h.a) := rfl
      omega
    have := List.not_of_lt_findIdx hlt
    simpa using this
  rcases Nat.lt_or_ge (posA l a) l.length with hlt | hge
  · have hat : a ≤ (l[posA l a]).a := by
      have h2 : l.findIdx (fun h => decide (a ≤ h.a)) < l.length := hlt
      have := List.findIdx_getElem (w := h2)
      exact of_decide_eq_true this
    have hl : l = l.take (posA l a) ++ l[posA l a] :: l.drop (posA l a + 1) := by
      conv => lhs; rw [← List.take_append_drop (posA l a) l, List.drop_eq_getElem_cons hlt]
    have hB : ∀ x ∈ l.drop (posA l a + 1), (l[posA l a]).a < x.a := by
      intro x hx
      unfold srt at hs
      rw [hl, List.pairwise_append] at hs
      exact (List.pairwise_cons.1 hs.2.1).1 x hx
    have hg := List.getElem?_eq_getElem hlt
    by_cases he : (l[posA l a]).a = a
    · have hi : isA l a = true := by unfold isA; rw [hg]; simp [he]
      refine ⟨l.take (posA l a), some l[posA l a], l.drop (posA l a + 1), hl, hA, fun x hx => by cases hx; exact he, fun x hx => by have := hB x hx; omega, hi, by unfold findH; rw [hg]; simp [he], ?_⟩
      intro h hh
      have hrem : remL l a = l.take (posA l a) ++ l.drop (posA l a + 1) := by unfold remL; rw [if_pos hi]
      unfold putL
      rw [hh, hrem, List.take_append_of_le_length (by simp; omega), List.take_take, Nat.min_self, List.drop_append_of_le_length (by simp; omega)]
      have : (l.take (posA l a)).drop (posA l a) = [] := List.drop_eq_nil_of_le (by simp; omega)
      rw [this, List.nil_append]
      unfold emptyH
      split <;> rfl
    · have hi : isA l a = false := by unfold isA; rw [hg]; simp [he]
      refine ⟨l.take (posA l a), none, l.drop (posA l a), (List.take_append_drop _ _).symm, hA, fun x hx => (by cases hx), fun x hx => ?_, hi, by unfold findH; rw [hg]; simp [he, zH], ?_⟩
      · rw [List.drop_eq_getElem_cons hlt] at hx
        rcases List.mem_cons.1 hx with rfl | hx
        · omega
        · have := hB x hx; omega
      · intro h hh
        have hrem : remL l a = l := by unfold remL; rw [if_neg (by rw [hi]; decide)]
        unfold putL
        rw [hh, hrem]
        unfold emptyH
        split
        · exact (List.take_append_drop _ _).symm
        · rfl
  · have hp : posA l a = l.length := by omega
    have hg : l[posA l a]? = none := List.getElem?_eq_none (by omega)
    have hi : isA l a = false := by unfold isA; rw [hg]
    refine ⟨l, none, [], by simp, by rwa [hp, List.take_length] at hA, fun x hx => (by cases hx), fun x hx => (by cases hx), hi, by unfold findH; rw [hg]; rfl, ?_⟩
    intro h hh
    have hrem : remL l a = l := by unfold remL; rw [if_neg (by rw [hi]; decide)]
    unfold putL
    rw [hh, hrem, hp, List.take_length, List.drop_length]
    unfold emptyH
    split <;> simp
theorem tot_cons (h : Hd) (l : List Hd) : tot (h :: l) = h.p + h.s + tot l := by simp [tot]
end Go.Proofs.Ytgdnmdnhkhpieaa.lg
namespace Go.Proofs.Ytgdnmdnhkhpieaa.lg
open Go.RowKit
def lp (h : Hd) : Bool → List Hd → List Hd
  | laid, [] => if laid = true then [] else [h]
  | laid, y :: l => if laid = false ∧ h.a ≤ y.a then h :: ((if y.a = h.a then [] else [y]) ++ lp h true l) else (if y.a = h.a then [] else [y]) ++ lp h laid l
end Go.Proofs.Ytgdnmdnhkhpieaa.lg
