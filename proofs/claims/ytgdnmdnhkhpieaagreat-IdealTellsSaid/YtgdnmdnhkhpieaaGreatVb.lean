/-
  What the document has of states: which may be, what is found, whether there is room, what a slot holds; reckoned.
-/
import Derived.Test.YtgdnmdnhkhpieaaGreatSe
import Derived.Test.YtgdnmdnhkhpieaaGreatAvW
import Derived.Test.YtgdnmdnhkhpieaaGreatSs
import Derived.Test.YtgdnmdnhkhpieaaGreatAvI
import Derived.Lib.BytesEntry
import Derived.Laws.BytesArg
import Derived.Laws.Externs
import Derived.Shelf.Bytes.SlCountOne
set_option linter.unusedSimpArgs false
set_option linter.unusedVariables false
namespace Go.Proofs.YtgdnmdnhkhpieaaGreat
open Go.RowKit
open Nat (reduceBEq)
set_option maxRecDepth 20000
set_option maxHeartbeats 2000000
def lbit (x : Int) (k : Nat) : Int := x / 2 ^ k % 2
theorem lbit_eq {x : Int} (h : U x) (k : Nat) (hk : k < 64) : IntKind.i64.wrap (IntKind.u64.wrap ((BitVec.ofInt IntKind.u64.bits (x.fdiv (2 ^ (min k IntKind.u64.bits))) &&& BitVec.ofInt IntKind.u64.bits 1).toNat : Nat)) = lbit x k := by
  obtain ⟨h1, h2⟩ := h
  obtain ⟨N, rfl⟩ := Int.eq_ofNat_of_zero_le h1
  have hm : min k IntKind.u64.bits = k := Nat.min_eq_left (show k ≤ 64 by omega)
  have hd : ((N : Int)).fdiv (2 ^ k) = ((N / 2 ^ k : Nat) : Int) := by
    rw [Int.fdiv_eq_ediv_of_nonneg _ (Int.le_of_lt (Int.pow_pos (by decide)))]
    simp
  rw [hm, hd]
  have hle : N / 2 ^ k ≤ N := Nat.div_le_self _ _
  generalize hq : N / 2 ^ k = q at hle
  have e : (BitVec.ofInt IntKind.u64.bits (q : Int) &&& BitVec.ofInt IntKind.u64.bits 1).toNat = q % 2 := by
    show (BitVec.ofInt 64 (q : Int) &&& BitVec.ofInt 64 1).toNat = q % 2
    rw [BitVec.toNat_and]
    have e1 : (BitVec.ofInt 64 (q : Int)).toNat = q := by rw [BitVec.toNat_ofInt]; omega
    have e2 : (BitVec.ofInt 64 1).toNat = 1 := by decide
    rw [e1, e2, Nat.and_one_is_mod]
  rw [e, wrU (by omega) (by omega), wrI (by omega) (by omega)]
  unfold lbit
  have : (N : Int) / 2 ^ k = (q : Int) := by rw [← hq]; simp
  rw [this]; omega
def bitW (a b c d : Int) (n : Nat) : Int := if n < 64 then lbit a n else if n < 128 then lbit b (n - 64) else if n < 192 then lbit c (n - 128) else lbit d (n - 192)
theorem bit_fn (a b c d : Int) (u1 : U a) (u2 : U b) (u3 : U c) (u4 : U d) (n : Nat) (hn : n ≤ 255) : Fn Tryz.prog 31 [w4 a b c d, vi .i64 n] [] (vi .i64 (bitW a b c d n)) [] := by
  have e1 : (decide ((n : Int) < 0)) = false := by simp
  have e2 : (decide ((n : Int) > 255)) = false := by simp; omega
  have e3 : (n : Int).tdiv 64 = ((n / 64 : Nat) : Int) := rfl
  have e4 : (n : Int).tmod 64 = ((n % 64 : Nat) : Int) := rfl
  have hq : n / 64 = 0 ∨ n / 64 = 1 ∨ n / 64 = 2 ∨ n / 64 = 3 := by omega
  rcases hq with hq | hq | hq | hq
  · (refine fn_of Tryz.func31 rfl (by rfl) ?_; simp only [Tryz.ntmps31, List.length_cons, List.length_nil, Nat.reduceAdd, Nat.reduceSub, List.replicate, List.cons_append, List.nil_append])
    (have W := ndI e1 (ndI e2 (ndI e3 (ndI e4 @wrI))); (repeat (any_goals (first | ((with_reducible refine evL_one ?_ ?_); rfl; intro K hK; simp (disch := omega) only [go_sem, W, hq, Int.cast_ofNat_Int, Int.reduceEq, Int.toNat_natCast, Int.natCast_nonneg]; ((repeat (refine ndI (by first | assumption | omega | rfl) ?_)); refine hK _ ?_; clear hK K)) | (with_reducible first | (refine evL_nil ?_; refine hR _ ?_; clear hR R) | ((first | refine evC_seq ?_ | refine evC_block ?_); intro Ψ hΨ hΨ') | (refine evC_region ?_; intro R hR) | (refine hΨ _ ?_; clear hΨ hΨ' Ψ) | refine evC_skip ?_ | refine evC_ret ?_ | refine evC_exit ?_) | ((with_reducible refine hΨ' _ _ ?_ ?_); (focus (simp; done)); clear hΨ hΨ' Ψ) | ((with_reducible apply evL_unmet); rfl; rfl; rfl; (try simp (disch := omega) only [go_sem, W, hq, Int.cast_ofNat_Int, Int.reduceEq, Int.toNat_natCast, Int.natCast_nonneg])) | ((with_reducible apply evL_grd); rfl; rfl; rfl; all_goals (intro hb; first | (cases hb; done) | ((try simp only [Bool.not_true, Bool.not_false] at hb); (first | ((with_reducible intro K hK); simp (disch := omega) only [go_sem, W, hq, Int.cast_ofNat_Int, Int.reduceEq, Int.toNat_natCast, Int.natCast_nonneg]; ((repeat (refine ndI (by first | assumption | omega | rfl) ?_)); refine hK _ ?_; clear hK K)) | ((fail_if_success (with_reducible intro _)); simp (disch := omega) only [go_sem, W, hq, Int.cast_ofNat_Int, Int.reduceEq, Int.toNat_natCast, Int.natCast_nonneg]))))) | ((with_reducible apply evC_cond); rfl; rfl; all_goals (intro hc; first | (cases hc; done) | (try simp only at hc)))))))
    all_goals (refine ⟨by simp, ⟨_, ?_, AV.le_refl _⟩, leH_get (by simp [leH, hget])⟩; simp only [Tryz.results31, resL, ldA, oneOf, go_sem])
    show vi .i64 (IntKind.i64.wrap (IntKind.u64.wrap ((BitVec.ofInt IntKind.u64.bits (a.fdiv (2 ^ (min (n % 64) IntKind.u64.bits))) &&& BitVec.ofInt IntKind.u64.bits 1).toNat : Nat))) = _
    rw [lbit_eq u1 _ (Nat.mod_lt _ (by decide))]
    simp only [bitW, if_pos (show n < 64 by omega), Nat.mod_eq_of_lt (show n < 64 by omega)]
  · (refine fn_of Tryz.func31 rfl (by rfl) ?_; simp only [Tryz.ntmps31, List.length_cons, List.length_nil, Nat.reduceAdd, Nat.reduceSub, List.replicate, List.cons_append, List.nil_append])
    (have W := ndI e1 (ndI e2 (ndI e3 (ndI e4 @wrI))); (repeat (any_goals (first | ((with_reducible refine evL_one ?_ ?_); rfl; intro K hK; simp (disch := omega) only [go_sem, W, hq, Int.cast_ofNat_Int, Int.natCast_one, Int.reduceEq, Int.toNat_natCast, Int.natCast_nonneg]; ((repeat (refine ndI (by first | assumption | omega | rfl) ?_)); refine hK _ ?_; clear hK K)) | (with_reducible first | (refine evL_nil ?_; refine hR _ ?_; clear hR R) | ((first | refine evC_seq ?_ | refine evC_block ?_); intro Ψ hΨ hΨ') | (refine evC_region ?_; intro R hR) | (refine hΨ _ ?_; clear hΨ hΨ' Ψ) | refine evC_skip ?_ | refine evC_ret ?_ | refine evC_exit ?_) | ((with_reducible refine hΨ' _ _ ?_ ?_); (focus (simp; done)); clear hΨ hΨ' Ψ) | ((with_reducible apply evL_unmet); rfl; rfl; rfl; (try simp (disch := omega) only [go_sem, W, hq, Int.cast_ofNat_Int, Int.natCast_one, Int.reduceEq, Int.toNat_natCast, Int.natCast_nonneg])) | ((with_reducible apply evL_grd); rfl; rfl; rfl; all_goals (intro hb; first | (cases hb; done) | ((try simp only [Bool.not_true, Bool.not_false] at hb); (first | ((with_reducible intro K hK); simp (disch := omega) only [go_sem, W, hq, Int.cast_ofNat_Int, Int.natCast_one, Int.reduceEq, Int.toNat_natCast, Int.natCast_nonneg]; ((repeat (refine ndI (by first | assumption | omega | rfl) ?_)); refine hK _ ?_; clear hK K)) | ((fail_if_success (with_reducible intro _)); simp (disch := omega) only [go_sem, W, hq, Int.cast_ofNat_Int, Int.natCast_one, Int.reduceEq, Int.toNat_natCast, Int.natCast_nonneg]))))) | ((with_reducible apply evC_cond); rfl; rfl; all_goals (intro hc; first | (cases hc; done) | (try simp only at hc)))))))
    all_goals (refine ⟨by simp, ⟨_, ?_, AV.le_refl _⟩, leH_get (by simp [leH, hget])⟩; simp only [Tryz.results31, resL, ldA, oneOf, go_sem])
    show vi .i64 (IntKind.i64.wrap (IntKind.u64.wrap ((BitVec.ofInt IntKind.u64.bits (b.fdiv (2 ^ (min (n % 64) IntKind.u64.bits))) &&& BitVec.ofInt IntKind.u64.bits 1).toNat : Nat))) = _
    rw [lbit_eq u2 _ (Nat.mod_lt _ (by decide)), show n % 64 = n - 64 by omega]
    simp only [bitW, if_neg (show ¬ n < 64 by omega), if_pos (show n < 128 by omega)]
  · (refine fn_of Tryz.func31 rfl (by rfl) ?_; simp only [Tryz.ntmps31, List.length_cons, List.length_nil, Nat.reduceAdd, Nat.reduceSub, List.replicate, List.cons_append, List.nil_append])
    (have W := ndI e1 (ndI e2 (ndI e3 (ndI e4 @wrI))); (repeat (any_goals (first | ((with_reducible refine evL_one ?_ ?_); rfl; intro K hK; simp (disch := omega) only [go_sem, W, hq, Int.cast_ofNat_Int, Int.natCast_one, Int.reduceEq, Int.toNat_natCast, Int.natCast_nonneg]; ((repeat (refine ndI (by first | assumption | omega | rfl) ?_)); refine hK _ ?_; clear hK K)) | (with_reducible first | (refine evL_nil ?_; refine hR _ ?_; clear hR R) | ((first | refine evC_seq ?_ | refine evC_block ?_); intro Ψ hΨ hΨ') | (refine evC_region ?_; intro R hR) | (refine hΨ _ ?_; clear hΨ hΨ' Ψ) | refine evC_skip ?_ | refine evC_ret ?_ | refine evC_exit ?_) | ((with_reducible refine hΨ' _ _ ?_ ?_); (focus (simp; done)); clear hΨ hΨ' Ψ) | ((with_reducible apply evL_unmet); rfl; rfl; rfl; (try simp (disch := omega) only [go_sem, W, hq, Int.cast_ofNat_Int, Int.natCast_one, Int.reduceEq, Int.toNat_natCast, Int.natCast_nonneg])) | ((with_reducible apply evL_grd); rfl; rfl; rfl; all_goals (intro hb; first | (cases hb; done) | ((try simp only [Bool.not_true, Bool.not_false] at hb); (first | ((with_reducible intro K hK); simp (disch := omega) only [go_sem, W, hq, Int.cast_ofNat_Int, Int.natCast_one, Int.reduceEq, Int.toNat_natCast, Int.natCast_nonneg]; ((repeat (refine ndI (by first | assumption | omega | rfl) ?_)); refine hK _ ?_; clear hK K)) | ((fail_if_success (with_reducible intro _)); simp (disch := omega) only [go_sem, W, hq, Int.cast_ofNat_Int, Int.natCast_one, Int.reduceEq, Int.toNat_natCast, Int.natCast_nonneg]))))) | ((with_reducible apply evC_cond); rfl; rfl; all_goals (intro hc; first | (cases hc; done) | (try simp only at hc)))))))
    all_goals (refine ⟨by simp, ⟨_, ?_, AV.le_refl _⟩, leH_get (by simp [leH, hget])⟩; simp only [Tryz.results31, resL, ldA, oneOf, go_sem])
    show vi .i64 (IntKind.i64.wrap (IntKind.u64.wrap ((BitVec.ofInt IntKind.u64.bits (c.fdiv (2 ^ (min (n % 64) IntKind.u64.bits))) &&& BitVec.ofInt IntKind.u64.bits 1).toNat : Nat))) = _
    rw [lbit_eq u3 _ (Nat.mod_lt _ (by decide)), show n % 64 = n - 128 by omega]
    simp only [bitW, if_neg (show ¬ n < 64 by omega), if_neg (show ¬ n < 128 by omega), if_pos (show n < 192 by omega)]
  · (refine fn_of Tryz.func31 rfl (by rfl) ?_; simp only [Tryz.ntmps31, List.length_cons, List.length_nil, Nat.reduceAdd, Nat.reduceSub, List.replicate, List.cons_append, List.nil_append])
    (have W := ndI e1 (ndI e2 (ndI e3 (ndI e4 @wrI))); (repeat (any_goals (first | ((with_reducible refine evL_one ?_ ?_); rfl; intro K hK; simp (disch := omega) only [go_sem, W, hq, Int.cast_ofNat_Int, Int.natCast_one, Int.reduceEq, Int.toNat_natCast, Int.natCast_nonneg]; ((repeat (refine ndI (by first | assumption | omega | rfl) ?_)); refine hK _ ?_; clear hK K)) | (with_reducible first | (refine evL_nil ?_; refine hR _ ?_; clear hR R) | ((first | refine evC_seq ?_ | refine evC_block ?_); intro Ψ hΨ hΨ') | (refine evC_region ?_; intro R hR) | (refine hΨ _ ?_; clear hΨ hΨ' Ψ) | refine evC_skip ?_ | refine evC_ret ?_ | refine evC_exit ?_) | ((with_reducible refine hΨ' _ _ ?_ ?_); (focus (simp; done)); clear hΨ hΨ' Ψ) | ((with_reducible apply evL_unmet); rfl; rfl; rfl; (try simp (disch := omega) only [go_sem, W, hq, Int.cast_ofNat_Int, Int.natCast_one, Int.reduceEq, Int.toNat_natCast, Int.natCast_nonneg])) | ((with_reducible apply evL_grd); rfl; rfl; rfl; all_goals (intro hb; first | (cases hb; done) | ((try simp only [Bool.not_true, Bool.not_false] at hb); (first | ((with_reducible intro K hK); simp (disch := omega) only [go_sem, W, hq, Int.cast_ofNat_Int, Int.natCast_one, Int.reduceEq, Int.toNat_natCast, Int.natCast_nonneg]; ((repeat (refine ndI (by first | assumption | omega | rfl) ?_)); refine hK _ ?_; clear hK K)) | ((fail_if_success (with_reducible intro _)); simp (disch := omega) only [go_sem, W, hq, Int.cast_ofNat_Int, Int.natCast_one, Int.reduceEq, Int.toNat_natCast, Int.natCast_nonneg]))))) | ((with_reducible apply evC_cond); rfl; rfl; all_goals (intro hc; first | (cases hc; done) | (try simp only at hc)))))))
    all_goals (refine ⟨by simp, ⟨_, ?_, AV.le_refl _⟩, leH_get (by simp [leH, hget])⟩; simp only [Tryz.results31, resL, ldA, oneOf, go_sem])
    show vi .i64 (IntKind.i64.wrap (IntKind.u64.wrap ((BitVec.ofInt IntKind.u64.bits (d.fdiv (2 ^ (min (n % 64) IntKind.u64.bits))) &&& BitVec.ofInt IntKind.u64.bits 1).toNat : Nat))) = _
    rw [lbit_eq u4 _ (Nat.mod_lt _ (by decide)), show n % 64 = n - 192 by omega]
    simp only [bitW, if_neg (show ¬ n < 64 by omega), if_neg (show ¬ n < 128 by omega), if_neg (show ¬ n < 192 by omega)]
/-! a word as a number -/
def VW (a b c d : Int) : Nat := a.toNat + 18446744073709551616 * (b.toNat + 18446744073709551616 * (c.toNat + 18446744073709551616 * d.toNat))
theorem bit_lo (A R k : Nat) (hk : k < 64) : (A + 18446744073709551616 * R) / 2 ^ k % 2 = A / 2 ^ k % 2 := by
  have e : (18446744073709551616 : Nat) = 2 ^ k * (2 * 2 ^ (63 - k)) := by
    rw [← Nat.pow_succ', ← Nat.pow_add, show k + (63 - k).succ = 64 by omega]
  rw [e, Nat.mul_assoc, Nat.add_mul_div_left _ _ (Nat.pos_of_ne_zero (by simp)), Nat.mul_assoc 2, Nat.add_mul_mod_self_left]
theorem bit_hi (A R k : Nat) (hA : A < 18446744073709551616) (hk : 64 ≤ k) : (A + 18446744073709551616 * R) / 2 ^ k = R / 2 ^ (k - 64) := by
  have e : (2 : Nat) ^ k = 18446744073709551616 * 2 ^ (k - 64) := by
    rw [show (18446744073709551616 : Nat) = 2 ^ 64 by decide, ← Nat.pow_add, show 64 + (k - 64) = k by omega]
  rw [e, ← Nat.div_div_eq_div_mul, Nat.add_mul_div_left _ _ (by decide), Nat.div_eq_of_lt hA, Nat.zero_add]
theorem lbit_nat {x : Int} (h : U x) (k : Nat) : lbit x k = ((x.toNat / 2 ^ k % 2 : Nat) : Int) := by
  obtain ⟨N, rfl⟩ := Int.eq_ofNat_of_zero_le h.1
  unfold lbit
  have : (N : Int) / 2 ^ k = ((N / 2 ^ k : Nat) : Int) := by simp
  rw [this]; simp
theorem bitW_val {a b c d : Int} (u1 : U a) (u2 : U b) (u3 : U c) (u4 : U d) (n : Nat) (hn : n ≤ 255) : bitW a b c d n = ((VW a b c d / 2 ^ n % 2 : Nat) : Int) := by
  unfold bitW VW
  have h1 : a.toNat < 18446744073709551616 := by have := u1.2; omega
  have h2 : b.toNat < 18446744073709551616 := by have := u2.2; omega
  have h3 : c.toNat < 18446744073709551616 := by have := u3.2; omega
  split
  · rw [lbit_nat u1, bit_lo _ _ _ (by omega)]
  · rw [bit_hi _ _ _ h1 (by omega)]
    split
    · rw [lbit_nat u2, bit_lo _ _ _ (by omega)]
    · rw [bit_hi _ _ _ h2 (by omega)]
      split
      · rw [lbit_nat u3, show n - 64 - 64 = n - 128 by omega, bit_lo _ _ _ (by omega)]
      · rw [show n - 64 - 64 = n - 128 by omega, bit_hi _ _ _ h3 (by omega), lbit_nat u4, show n - 128 - 64 = n - 192 by omega]
theorem VW_wN {x : Nat} (h : x < WW) : VW (l0 x) (l1 x) (l2 x) (l3 x) = x := by
  obtain ⟨a, b, c, d, e, _, _, _, _, e0, e1, e2, e3⟩ := split_w h
  rw [e0, e1, e2, e3]
  unfold VW
  simp only [Int.toNat_natCast]
  exact e.symm
def bitN (x n : Nat) : Nat := x / 2 ^ n % 2
theorem bitN_fn (x : Nat) (hx : x < WW) (n : Nat) (hn : n ≤ 255) : Fn Tryz.prog 31 [wN x, vi .i64 n] [] (vi .i64 (bitN x n : Nat)) [] := by
  have h := bit_fn (l0 x) (l1 x) (l2 x) (l3 x) (U0 x) (U1 x) (U2 x) (U3 x) n hn
  rw [bitW_val (U0 x) (U1 x) (U2 x) (U3 x) n hn, VW_wN hx] at h
  exact h
def cmpN (x y : Nat) : Int := if x < y then -1 else if y < x then 1 else 0
theorem cmpN_lt {x y n : Nat} (h1 : x / 2 ^ (n + 1) = y / 2 ^ (n + 1)) (h2 : x / 2 ^ n % 2 < y / 2 ^ n % 2) : x < y := by
  rw [Nat.pow_succ, ← Nat.div_div_eq_div_mul, ← Nat.div_div_eq_div_mul] at h1
  rcases Nat.lt_or_ge x y with h | h
  · exact h
  · have := Nat.div_le_div_right (c := 2 ^ n) h; omega
theorem cmpN_eq {x y n : Nat} (h1 : x / 2 ^ (n + 1) = y / 2 ^ (n + 1)) (h2 : x / 2 ^ n % 2 = y / 2 ^ n % 2) : x / 2 ^ n = y / 2 ^ n := by
  rw [Nat.pow_succ, ← Nat.div_div_eq_div_mul, ← Nat.div_div_eq_div_mul] at h1
  omega
theorem refcmp_fn (x y : Nat) (lx : x < WW) (ly : y < WW) : Fn Tryz.prog 80 [wN x, wN y] [] (vi .i64 (cmpN x y)) [] := by
  (refine fn_of Tryz.func80 rfl (by rfl) ?_; simp only [Tryz.ntmps80, List.length_cons, List.length_nil, Nat.reduceAdd, Nat.reduceSub, List.replicate, List.cons_append, List.nil_append])
  (repeat (any_goals (first | ((with_reducible refine evL_one ?_ ?_); rfl; intro K hK; simp only [go_sem]; ((repeat (refine ndI (by first | assumption | omega | rfl) ?_)); refine hK _ ?_; clear hK K)) | (with_reducible first | (refine evL_nil ?_; refine hR _ ?_; clear hR R) | ((first | refine evC_seq ?_ | refine evC_block ?_); intro Ψ hΨ hΨ') | (refine evC_region ?_; intro R hR) | (refine hΨ _ ?_; clear hΨ hΨ' Ψ) | refine evC_skip ?_ | refine evC_ret ?_ | refine evC_exit ?_) | ((with_reducible refine hΨ' _ _ ?_ ?_); (focus (simp; done)); clear hΨ hΨ' Ψ) | ((with_reducible apply evC_cond); rfl; rfl; all_goals (intro hc; first | (cases hc; done) | (try simp only at hc))) | ((with_reducible refine evD_nil ?_ ?_); kernel_rfl; (with_reducible refine hR _ ?_); clear hR R) | (((with_reducible apply evD_any); rfl; rfl; (simp only [rdE, rdOf, go_sem]; rfl); (intro τ hA hQ hN; ((try simp only [agree, Op.operands, Call.operands, go_sem, List.mem_cons, List.not_mem_nil, forall_eq_or_imp, forall_eq, List.append_toArray, Option.toArray] at hA); (try simp only [go_sem, List.mem_cons, List.not_mem_nil, forall_eq_or_imp, forall_eq] at hQ hN); (first | (revert hA; intro hA) | have hA := trivial); (first | (revert hQ; intro hQ) | have hQ := trivial); (first | (revert hN; intro hN) | have hN := trivial); simp only [go_sem, hA, hQ, hN]; (repeat (refine ndI (by first | assumption | omega | rfl) ?_)); (first | apply eff_rd | apply eff_st | apply eff_nw)))); (simp only [St.eff, setO, hputs, go_sem])) | ((with_reducible refine evC_draw ?_ ?_ ?_ ?_); kernel_rfl; kernel_rfl; (first | kernel_rfl | simp [newNames, isNew, St.free, freeH, AV.refsL, AV.refs]); intro R hR))))
  refine evC_loop (α := { i : Nat // i ≤ 256 ∧ x / 2 ^ i = y / 2 ^ i }) (fun p => ⟨[.any, .any, .ptr 2 0, .ptr 3 0, vi .i64 0, vi .i64 ((p.1 : Int) - 1), .any, .any, .any, .any, .any, .any, .any, .any, .any, .any, .any, .any, .any, .any, .any, .any, .any, .any], [(2, [vi .u64 (l0 x), vi .u64 (l1 x), vi .u64 (l2 x), vi .u64 (l3 x)]), (3, [vi .u64 (l0 y), vi .u64 (l1 y), vi .u64 (l2 y), vi .u64 (l3 y)])]⟩) (fun p => p.1) ⟨256, Nat.le_refl _, by rw [Nat.div_eq_of_lt (show x < 2 ^ 256 from lx), Nat.div_eq_of_lt (show y < 2 ^ 256 from ly)]⟩ (St.le_of (by simp [leT]) (by simp [leH, hget])) ?_
  rintro ⟨i, h1, h2⟩ Ψ hΨ hΨ'
  dsimp only at hΨ ⊢
  rcases i with _ | n
  · simp only [Nat.pow_zero, Nat.div_one] at h2
    have hr : cmpN x y = 0 := by rw [h2]; simp [cmpN]
    have e1 : (decide (((0 : Nat) : Int) - 1 ≥ 0)) = false := by decide
    (repeat (any_goals (first | ((with_reducible refine evL_one ?_ ?_); rfl; intro K hK; simp only [go_sem, e1]; ((repeat (refine ndI (by first | assumption | omega | rfl) ?_)); refine hK _ ?_; clear hK K)) | (with_reducible first | (refine evL_nil ?_; refine hR _ ?_; clear hR R) | ((first | refine evC_seq ?_ | refine evC_block ?_); intro Ψ hΨ hΨ') | (refine evC_region ?_; intro R hR) | (refine hΨ _ ?_; clear hΨ hΨ' Ψ) | refine evC_skip ?_ | refine evC_ret ?_ | refine evC_exit ?_) | ((with_reducible refine hΨ' _ _ ?_ ?_); (focus (simp; done)); clear hΨ hΨ' Ψ) | ((with_reducible apply evC_cond); rfl; rfl; all_goals (intro hc; first | (cases hc; done) | (try simp only at hc))) | ((with_reducible refine evD_nil ?_ ?_); kernel_rfl; (with_reducible refine hR _ ?_); clear hR R) | (((with_reducible apply evD_any); rfl; rfl; (simp only [rdE, rdOf, go_sem, e1]; rfl); (intro τ hA hQ hN; ((try simp only [agree, Op.operands, Call.operands, go_sem, e1, go_sem, List.mem_cons, List.not_mem_nil, forall_eq_or_imp, forall_eq, List.append_toArray, Option.toArray] at hA); (try simp only [go_sem, e1, List.mem_cons, List.not_mem_nil, forall_eq_or_imp, forall_eq] at hQ hN); (first | (revert hA; intro hA) | have hA := trivial); (first | (revert hQ; intro hQ) | have hQ := trivial); (first | (revert hN; intro hN) | have hN := trivial); simp only [go_sem, e1, go_sem, hA, hQ, hN]; (repeat (refine ndI (by first | assumption | omega | rfl) ?_)); (first | apply eff_rd | apply eff_st | apply eff_nw)))); (simp only [St.eff, setO, hputs, go_sem, e1])) | ((with_reducible refine evC_draw ?_ ?_ ?_ ?_); kernel_rfl; kernel_rfl; (first | kernel_rfl | simp [newNames, isNew, St.free, freeH, AV.refsL, AV.refs]); intro R hR))))
    all_goals rw [hr]
    all_goals (refine ⟨by simp, ⟨_, ?_, AV.le_refl _⟩, leH_get (by simp [leH, hget])⟩; simp only [Tryz.results80, resL, ldA, oneOf, go_sem])
  · have e0 : ((n + 1 : Nat) : Int) - 1 = (n : Int) := by omega
    have e1 : (decide ((n : Int) ≥ 0)) = true := by simp
    have b1 := bitN_fn x lx n (by omega)
    have b2 := bitN_fn y ly n (by omega)
    obtain ⟨p, hp⟩ : ∃ p, bitN x n = p := ⟨_, rfl⟩
    obtain ⟨q, hq⟩ : ∃ q, bitN y n = q := ⟨_, rfl⟩
    rw [hp] at b1
    rw [hq] at b2
    have hp' : x / 2 ^ n % 2 = p := hp
    have hq' : y / 2 ^ n % 2 = q := hq
    rw [e0]
    rcases Nat.lt_trichotomy p q with hpq | hpq | hpq
    · have hr : cmpN x y = -1 := by
        have hlt := cmpN_lt h2 (by rw [hp', hq']; exact hpq)
        simp [cmpN, hlt]
      have d1 : decide ((p : Int) < (q : Int)) = true := by simp; omega
      (have W := ndI e1 (ndI d1 @wrI); (repeat (any_goals (first | ((with_reducible refine evL_one ?_ ?_); rfl; intro K hK; simp (disch := omega) only [go_sem, W]; ((repeat (refine ndI (by first | assumption | omega | rfl) ?_)); refine hK _ ?_; clear hK K)) | (with_reducible first | (refine evL_nil ?_; refine hR _ ?_; clear hR R) | ((first | refine evC_seq ?_ | refine evC_block ?_); intro Ψ hΨ hΨ') | (refine evC_region ?_; intro R hR) | (refine hΨ _ ?_; clear hΨ hΨ' Ψ) | refine evC_skip ?_ | refine evC_ret ?_ | refine evC_exit ?_) | ((with_reducible refine hΨ' _ _ ?_ ?_); (focus (simp; done)); clear hΨ hΨ' Ψ) | ((with_reducible apply evC_cond); rfl; rfl; all_goals (intro hc; first | (cases hc; done) | (try simp only at hc))) | ((with_reducible refine evD_nil ?_ ?_); kernel_rfl; (with_reducible refine hR _ ?_); clear hR R) | ((first | ((with_reducible apply evD_fcall); rfl; rfl; (first | ((apply opF_callB (b1); rfl; rfl; rfl; rfl; exact Tryz.func31); kernel_rfl; rfl; (simp (disch := omega) only [go_sem, W]; rfl); (first | rfl | simp [AV.inNL, AV.inN])) | ((apply opF_callB (b2); rfl; rfl; rfl; rfl; exact Tryz.func31); kernel_rfl; rfl; (simp (disch := omega) only [go_sem, W]; rfl); (first | rfl | simp [AV.inNL, AV.inN])))) | ((with_reducible apply evD_any); rfl; rfl; (simp (disch := omega) only [rdE, rdOf, go_sem, W]; rfl); (intro τ hA hQ hN; ((try simp only [agree, Op.operands, Call.operands, go_sem, W, go_sem, List.mem_cons, List.not_mem_nil, forall_eq_or_imp, forall_eq, List.append_toArray, Option.toArray] at hA); (try simp only [go_sem, W, List.mem_cons, List.not_mem_nil, forall_eq_or_imp, forall_eq] at hQ hN); (first | (revert hA; intro hA) | have hA := trivial); (first | (revert hQ; intro hQ) | have hQ := trivial); (first | (revert hN; intro hN) | have hN := trivial); simp (disch := omega) only [go_sem, W, go_sem, hA, hQ, hN]; (repeat (refine ndI (by first | assumption | omega | rfl) ?_)); (first | apply eff_rd | apply eff_st | apply eff_nw))))); (simp (disch := omega) only [St.eff, setO, hputs, go_sem, W])) | ((with_reducible refine evC_draw ?_ ?_ ?_ ?_); kernel_rfl; kernel_rfl; (first | kernel_rfl | simp [newNames, isNew, St.free, freeH, AV.refsL, AV.refs]); intro R hR)))))
      all_goals rw [hr]
      all_goals (refine ⟨by simp, ⟨_, ?_, AV.le_refl _⟩, leH_get (by simp [leH, hget])⟩; simp only [Tryz.results80, resL, ldA, oneOf, go_sem])
    · have d1 : decide ((p : Int) < (q : Int)) = false := by simp; omega
      have d2 : decide ((p : Int) > (q : Int)) = false := by simp; omega
      (have W := ndI e1 (ndI d1 (ndI d2 @wrI)); (repeat (any_goals (first | ((with_reducible refine evL_one ?_ ?_); rfl; intro K hK; simp (disch := omega) only [go_sem, W]; ((repeat (refine ndI (by first | assumption | omega | rfl) ?_)); refine hK _ ?_; clear hK K)) | (with_reducible first | (refine evL_nil ?_; refine hR _ ?_; clear hR R) | ((first | refine evC_seq ?_ | refine evC_block ?_); intro Ψ hΨ hΨ') | (refine evC_region ?_; intro R hR) | (refine hΨ _ ?_; clear hΨ hΨ' Ψ) | refine evC_skip ?_ | refine evC_ret ?_ | refine evC_exit ?_) | ((with_reducible refine hΨ' _ _ ?_ ?_); (focus (simp; done)); clear hΨ hΨ' Ψ) | ((with_reducible apply evC_cond); rfl; rfl; all_goals (intro hc; first | (cases hc; done) | (try simp only at hc))) | ((with_reducible refine evD_nil ?_ ?_); kernel_rfl; (with_reducible refine hR _ ?_); clear hR R) | ((first | ((with_reducible apply evD_fcall); rfl; rfl; (first | ((apply opF_callB (b1); rfl; rfl; rfl; rfl; exact Tryz.func31); kernel_rfl; rfl; (simp (disch := omega) only [go_sem, W]; rfl); (first | rfl | simp [AV.inNL, AV.inN])) | ((apply opF_callB (b2); rfl; rfl; rfl; rfl; exact Tryz.func31); kernel_rfl; rfl; (simp (disch := omega) only [go_sem, W]; rfl); (first | rfl | simp [AV.inNL, AV.inN])))) | ((with_reducible apply evD_any); rfl; rfl; (simp (disch := omega) only [rdE, rdOf, go_sem, W]; rfl); (intro τ hA hQ hN; ((try simp only [agree, Op.operands, Call.operands, go_sem, W, go_sem, List.mem_cons, List.not_mem_nil, forall_eq_or_imp, forall_eq, List.append_toArray, Option.toArray] at hA); (try simp only [go_sem, W, List.mem_cons, List.not_mem_nil, forall_eq_or_imp, forall_eq] at hQ hN); (first | (revert hA; intro hA) | have hA := trivial); (first | (revert hQ; intro hQ) | have hQ := trivial); (first | (revert hN; intro hN) | have hN := trivial); simp (disch := omega) only [go_sem, W, go_sem, hA, hQ, hN]; (repeat (refine ndI (by first | assumption | omega | rfl) ?_)); (first | apply eff_rd | apply eff_st | apply eff_nw))))); (simp (disch := omega) only [St.eff, setO, hputs, go_sem, W])) | ((with_reducible refine evC_draw ?_ ?_ ?_ ?_); kernel_rfl; kernel_rfl; (first | kernel_rfl | simp [newNames, isNew, St.free, freeH, AV.refsL, AV.refs]); intro R hR)))))
      all_goals exact hΨ _ ⟨n, by omega, cmpN_eq h2 (by rw [hp', hq', hpq])⟩ (by simp) (St.le_of (by simp [leT]) (by simp [leH, hget]))
    · have hr : cmpN x y = 1 := by
        have hlt := cmpN_lt h2.symm (by rw [hp', hq']; exact hpq)
        simp [cmpN, hlt, Nat.lt_asymm hlt]
      have d1 : decide ((p : Int) < (q : Int)) = false := by simp; omega
      have d2 : decide ((p : Int) > (q : Int)) = true := by simp; omega
      (have W := ndI e1 (ndI d1 (ndI d2 @wrI)); (repeat (any_goals (first | ((with_reducible refine evL_one ?_ ?_); rfl; intro K hK; simp (disch := omega) only [go_sem, W]; ((repeat (refine ndI (by first | assumption | omega | rfl) ?_)); refine hK _ ?_; clear hK K)) | (with_reducible first | (refine evL_nil ?_; refine hR _ ?_; clear hR R) | ((first | refine evC_seq ?_ | refine evC_block ?_); intro Ψ hΨ hΨ') | (refine evC_region ?_; intro R hR) | (refine hΨ _ ?_; clear hΨ hΨ' Ψ) | refine evC_skip ?_ | refine evC_ret ?_ | refine evC_exit ?_) | ((with_reducible refine hΨ' _ _ ?_ ?_); (focus (simp; done)); clear hΨ hΨ' Ψ) | ((with_reducible apply evC_cond); rfl; rfl; all_goals (intro hc; first | (cases hc; done) | (try simp only at hc))) | ((with_reducible refine evD_nil ?_ ?_); kernel_rfl; (with_reducible refine hR _ ?_); clear hR R) | ((first | ((with_reducible apply evD_fcall); rfl; rfl; (first | ((apply opF_callB (b1); rfl; rfl; rfl; rfl; exact Tryz.func31); kernel_rfl; rfl; (simp (disch := omega) only [go_sem, W]; rfl); (first | rfl | simp [AV.inNL, AV.inN])) | ((apply opF_callB (b2); rfl; rfl; rfl; rfl; exact Tryz.func31); kernel_rfl; rfl; (simp (disch := omega) only [go_sem, W]; rfl); (first | rfl | simp [AV.inNL, AV.inN])))) | ((with_reducible apply evD_any); rfl; rfl; (simp (disch := omega) only [rdE, rdOf, go_sem, W]; rfl); (intro τ hA hQ hN; ((try simp only [agree, Op.operands, Call.operands, go_sem, W, go_sem, List.mem_cons, List.not_mem_nil, forall_eq_or_imp, forall_eq, List.append_toArray, Option.toArray] at hA); (try simp only [go_sem, W, List.mem_cons, List.not_mem_nil, forall_eq_or_imp, forall_eq] at hQ hN); (first | (revert hA; intro hA) | have hA := trivial); (first | (revert hQ; intro hQ) | have hQ := trivial); (first | (revert hN; intro hN) | have hN := trivial); simp (disch := omega) only [go_sem, W, go_sem, hA, hQ, hN]; (repeat (refine ndI (by first | assumption | omega | rfl) ?_)); (first | apply eff_rd | apply eff_st | apply eff_nw))))); (simp (disch := omega) only [St.eff, setO, hputs, go_sem, W])) | ((with_reducible refine evC_draw ?_ ?_ ?_ ?_); kernel_rfl; kernel_rfl; (first | kernel_rfl | simp [newNames, isNew, St.free, freeH, AV.refsL, AV.refs]); intro R hR)))))
      all_goals rw [hr]
      all_goals (refine ⟨by simp, ⟨_, ?_, AV.le_refl _⟩, leH_get (by simp [leH, hget])⟩; simp only [Tryz.results80, resL, ldA, oneOf, go_sem])
end Go.Proofs.YtgdnmdnhkhpieaaGreat
namespace Go.Proofs.YtgdnmdnhkhpieaaGreat
open Go.RowKit
open Nat (reduceBEq)
set_option maxRecDepth 20000
set_option maxHeartbeats 2000000
def ipv (n : Nat) : List PV := [.v (.int .i64 (n : Int))]
theorem ipv_len (n : Nat) : (ipv n).length = 1 := rfl
abbrev isl (ex : Bool) (l : List Nat) : AV := .c (.sl ex 1 l.length (l.flatMap ipv))
def rcI (l : List Nat) : List AV := (l.flatMap ipv).map .c
theorem rcI_len (l : List Nat) : (rcI l).length = l.length * 1 := by unfold rcI; rw [List.length_map, flat_length ipv_len]
theorem refsL_rcI (d : Nat) (l : List Nat) : AV.refsL d (rcI l) = false := by unfold rcI; exact refsL_map _ _
theorem isl_at {l : List Nat} {i : Nat} {y : Nat} (h : l[i]? = some y) : ((l.flatMap ipv).drop i).take 1 = [.v (.int .i64 (y : Int))] := by
  have h2 := flat_at (f := ipv) ipv_len h
  rw [Nat.mul_one] at h2
  exact h2
def bitsL (z k : Nat) : List Nat := (List.range k).map (bitN z)
theorem bitsL_len (z k : Nat) : (bitsL z k).length = k := by simp [bitsL]
theorem bitsL_at {z k i : Nat} (h : i < k) : (bitsL z k)[i]? = some (bitN z i) := by simp [bitsL, h]
theorem bitsL_succ (z k : Nat) : bitsL z (k + 1) = bitsL z k ++ [bitN z k] := by simp [bitsL, List.range_succ]
theorem bitN_lt (x n : Nat) : bitN x n < 2 := Nat.mod_lt _ (by decide)
/-! a word's bits -/
abbrev stI (x : Nat) (r : Nat) (out : List Nat) (i : Int) : St := ⟨[.any, vi .i64 256, .ptr 2 0, .any, .any, .row r 3 1 out.length, .any, vi .i64 256, vi .i64 i, .any, .any, .any, .any, .any, .any, .any, .any, .any, .any], [(2, [vi .u64 (l0 x), vi .u64 (l1 x), vi .u64 (l2 x), vi .u64 (l3 x)]), (r, rcI out)]⟩
theorem stI_rn (x : Nat) (out : List Nat) (i : Int) : (stI x 16 out i).to (stI x 500 out i) := by
  have h := St.to.rn (σ := stI x 16 out i) (fun r => if r = 16 then 500 else r) (fun r => if r = 500 then 16 else r) [2, 16] (by simp [AV.inNL, AV.inN]) (by simp) (by simp [inH, AV.inNL, AV.inN, rcI]) (by simp) (by simp)
  simpa [AV.renL, AV.ren, renH, rcI, stI] using h
theorem bits_row (x : Nat) (hx : x < WW) : Fn Tryz.prog 75 [wN x, vi .i64 256] [] (.row 500 3 1 256) [(500, rcI (bitsL x 256))] := by
  (refine fn_of Tryz.func75 rfl (by rfl) ?_; simp only [Tryz.ntmps75, List.length_cons, List.length_nil, Nat.reduceAdd, Nat.reduceSub, List.replicate, List.cons_append, List.nil_append])
  (repeat (any_goals (first | ((with_reducible refine evL_one ?_ ?_); rfl; intro K hK; simp only [go_sem]; ((repeat (refine ndI (by first | assumption | omega | rfl) ?_)); refine hK _ ?_; clear hK K)) | (with_reducible first | (refine evL_nil ?_; refine hR _ ?_; clear hR R) | ((first | refine evC_seq ?_ | refine evC_block ?_); intro Ψ hΨ hΨ') | (refine evC_region ?_; intro R hR) | (refine hΨ _ ?_; clear hΨ hΨ' Ψ) | refine evC_skip ?_ | refine evC_ret ?_ | refine evC_exit ?_) | ((with_reducible refine hΨ' _ _ ?_ ?_); (focus (simp; done)); clear hΨ hΨ' Ψ) | ((with_reducible apply evC_cond); rfl; rfl; all_goals (intro hc; first | (cases hc; done) | (try simp only at hc))))))
  refine evC_uptoT 256 (fun i => stI x 500 (bitsL x i) (i : Int)) ?_ ?_
  · refine St.to.trans (St.to.of_le (τ := ⟨[.any, vi .i64 256, .ptr 2 0, .any, .any, .c (.v (.slice none 0 0)), .any, vi .i64 256, vi .i64 0, .any, .any, .any, .any, .any, .any, .any, .any, .any, .any], [(2, [vi .u64 (l0 x), vi .u64 (l1 x), vi .u64 (l2 x), vi .u64 (l3 x)])]⟩) (St.le_of (by simp [leT]) (by simp [leH, hget]))) ?_
    refine St.to.trans (St.to.nilrow 5 500 3 1 rfl (by simp) (by simp [St.free, freeH, AV.refsL, AV.refs]) (by decide)) (St.to.of_le (St.le_of (by simp [leT, bitsL]) (by simp [leH, hget, hput, rcI, bitsL])))
  intro i hi Ψ hΨ hΨ'
  dsimp only [stI] at hΨ ⊢
  rcases Nat.lt_or_ge i 256 with hlt | hge
  · have k1 : (decide ((i : Int) < 256)) = true := by simp; omega
    have k7 : (i : Int) + 1 = ((i + 1 : Nat) : Int) := by omega
    have bt := bitN_fn x hx i (by omega)
    have ht := bitsL_succ x i
    have hol := bitsL_len x i
    rw [ht] at hΨ
    generalize bitsL x i = out at hΨ hol ⊢
    have k2 := rcI_len out
    (have W := ndI k1 (ndI k2 (ndI k7 (ndI @wrI @refsL_map))); (repeat (any_goals (first | ((with_reducible refine evL_call ?_ ?_ ?_); rfl; rfl; intro K hK; ((apply opA_callB (bt); rfl; rfl; rfl; rfl; exact Tryz.func31); kernel_rfl; rfl; (simp (disch := omega) only [go_sem, W, refsL_rcI, refsL_app, AV.refsL, AV.refs, List.length_append, List.length_cons, List.length_nil, Bool.or_false]; rfl); (first | rfl | simp [AV.inNL, AV.inN])); (simp (disch := omega) only [go_sem, W, refsL_rcI, refsL_app, AV.refsL, AV.refs, List.length_append, List.length_cons, List.length_nil, Bool.or_false]; refine hK _ ?_; clear hK K)) | ((with_reducible refine evL_one ?_ ?_); rfl; intro K hK; simp (disch := omega) only [go_sem, W, refsL_rcI, refsL_app, AV.refsL, AV.refs, List.length_append, List.length_cons, List.length_nil, Bool.or_false]; ((repeat (refine ndI (by first | assumption | omega | rfl) ?_)); refine hK _ ?_; clear hK K)) | (with_reducible first | (refine evL_nil ?_; refine hR _ ?_; clear hR R) | ((first | refine evC_seq ?_ | refine evC_block ?_); intro Ψ hΨ hΨ') | (refine evC_region ?_; intro R hR) | (refine hΨ _ ?_; clear hΨ hΨ' Ψ) | refine evC_skip ?_ | refine evC_ret ?_ | refine evC_exit ?_) | ((with_reducible refine hΨ' _ _ ?_ ?_); (focus (simp; done)); clear hΨ hΨ' Ψ) | ((with_reducible apply evC_cond); rfl; rfl; all_goals (intro hc; first | (cases hc; done) | (try simp only at hc)))))))
    all_goals exact hΨ _ hlt (St.to.trans (St.to.of_le (τ := stI x 16 (out ++ [bitN x i]) ((i + 1 : Nat) : Int)) (St.le_of (by simp [leT]) (by simp [leH, hget, rcI, ipv]))) (stI_rn x _ _))
  · have k1 : (decide ((i : Int) < 256)) = false := by simp; omega
    obtain rfl : i = 256 := by omega
    rw [bitsL_len]
    (repeat (any_goals (first | ((with_reducible refine evL_one ?_ ?_); rfl; intro K hK; simp only [go_sem, k1]; ((repeat (refine ndI (by first | assumption | omega | rfl) ?_)); refine hK _ ?_; clear hK K)) | (with_reducible first | (refine evL_nil ?_; refine hR _ ?_; clear hR R) | ((first | refine evC_seq ?_ | refine evC_block ?_); intro Ψ hΨ hΨ') | (refine evC_region ?_; intro R hR) | (refine hΨ _ ?_; clear hΨ hΨ' Ψ) | refine evC_skip ?_ | refine evC_ret ?_ | refine evC_exit ?_) | ((with_reducible refine hΨ' _ _ ?_ ?_); (focus (simp; done)); clear hΨ hΨ' Ψ) | ((with_reducible apply evC_cond); rfl; rfl; all_goals (intro hc; first | (cases hc; done) | (try simp only at hc))))))
    all_goals (refine ⟨by simp, ⟨_, ?_, AV.le_refl _⟩, leH_get (by simp [leH, hget])⟩; simp only [Tryz.results75, resL, ldA, oneOf, go_sem])
theorem frzI {f : FuncId} {args : List AV} {d e n : Nat} {l : List Nat} (hn : l.length = n) (h : Fn Tryz.prog f args [] (.row d e 1 n) [(d, rcI l)]) : Fn Tryz.prog f args [] (isl false l) [] := by
  subst hn
  have h := Fn.frzG (d := d) (pcs := l.flatMap ipv) h
  simp only [AV.frz, beq_self_eq_true, if_true] at h
  rw [if_pos (flat_length ipv_len l).symm] at h
  exact h
theorem bits_fn (x : Nat) (hx : x < WW) : Fn Tryz.prog 75 [wN x, vi .i64 256] [] (isl false (bitsL x 256)) [] := frzI (bitsL_len x 256) (bits_row x hx)
/-! sums, bit by bit -/
def cyN (x y i : Nat) : Nat := (x % 2 ^ i + y % 2 ^ i) / 2 ^ i
theorem cyN_le (x y i : Nat) : cyN x y i ≤ 1 := by
  unfold cyN
  have hp : 0 < 2 ^ i := Nat.pos_of_ne_zero (by simp)
  have h1 := Nat.mod_lt x hp
  have h2 := Nat.mod_lt y hp
  have := Nat.div_lt_of_lt_mul (m := x % 2 ^ i + y % 2 ^ i) (n := 2 ^ i) (k := 2) (by omega)
  omega
theorem add_step (x y i : Nat) : bitN x i + bitN y i + cyN x y i = 2 * cyN x y (i + 1) + bitN (x + y) i := by
  have hp : 0 < 2 ^ i := Nat.pos_of_ne_zero (by simp)
  have e1 : cyN x y (i + 1) = (cyN x y i + (bitN x i + bitN y i)) / 2 := by
    unfold cyN bitN
    rw [Nat.mod_pow_succ, Nat.mod_pow_succ, Nat.pow_succ, ← Nat.div_div_eq_div_mul]
    rw [show x % 2 ^ i + 2 ^ i * (x / 2 ^ i % 2) + (y % 2 ^ i + 2 ^ i * (y / 2 ^ i % 2)) = (x % 2 ^ i + y % 2 ^ i) + 2 ^ i * (x / 2 ^ i % 2 + y / 2 ^ i % 2) by rw [Nat.mul_add]; omega]
    rw [Nat.add_mul_div_left _ _ hp]
  have e2 : (x + y) / 2 ^ i = x / 2 ^ i + y / 2 ^ i + cyN x y i := by
    unfold cyN
    have hx := Nat.div_add_mod x (2 ^ i)
    have hy := Nat.div_add_mod y (2 ^ i)
    conv => lhs; rw [← hx, ← hy]
    rw [show 2 ^ i * (x / 2 ^ i) + x % 2 ^ i + (2 ^ i * (y / 2 ^ i) + y % 2 ^ i) = (x % 2 ^ i + y % 2 ^ i) + 2 ^ i * (x / 2 ^ i + y / 2 ^ i) by rw [Nat.mul_add]; omega]
    rw [Nat.add_mul_div_left _ _ hp]
    omega
  rw [e1]
  unfold bitN
  rw [e2]
  omega
abbrev stD (e1 e2 : Bool) (x y : Nat) (r : Nat) (out : List Nat) (i : Nat) : St := ⟨[isl e1 (bitsL x 256), isl e2 (bitsL y 256), .any, .any, .any, .row r 3 1 out.length, vi .i64 (cyN x y i : Nat), .any, .any, .any, vi .i64 256, vi .i64 i, .any, .any, .any, .any, .any, .any, .any, .any, .any, .any, .any, .any, .any, .any, .any, .any, .any, .any, .any, .any, .any, .any, .any, .any, .any], [(r, rcI out)]⟩
theorem stD_rn (e1 e2 : Bool) (x y : Nat) (out : List Nat) (i : Nat) : (stD e1 e2 x y 29 out i).to (stD e1 e2 x y 500 out i) := by
  have h := St.to.rn (σ := stD e1 e2 x y 29 out i) (fun r => if r = 29 then 500 else r) (fun r => if r = 500 then 29 else r) [29] (by simp [AV.inNL, AV.inN]) (by simp) (by simp [inH, AV.inNL, AV.inN, rcI]) (by simp) (by simp)
  simpa [AV.renL, AV.ren, renH, rcI, stD] using h
theorem add_row (e1 e2 : Bool) (x y : Nat) (hx : x < WW) (hy : y < WW) : Fn Tryz.prog 74 [isl e1 (bitsL x 256), isl e2 (bitsL y 256)] [] (.row 36 3 1 257) [(36, rcI (bitsL (x + y) 257))] := by
  have e256 : (((bitsL x 256).length : Nat) : Int) = 256 := by rw [bitsL_len]; rfl
  obtain ⟨tot, htot⟩ : ∃ t, bitsL (x + y) 257 = t := ⟨_, rfl⟩
  rw [htot]
  (refine fn_of Tryz.func74 rfl (by rfl) ?_; simp only [Tryz.ntmps74, List.length_cons, List.length_nil, Nat.reduceAdd, Nat.reduceSub, List.replicate, List.cons_append, List.nil_append])
  (repeat (any_goals (first | ((with_reducible refine evL_one ?_ ?_); rfl; intro K hK; simp only [go_sem, e256]; ((repeat (refine ndI (by first | assumption | omega | rfl) ?_)); refine hK _ ?_; clear hK K)) | (with_reducible first | (refine evL_nil ?_; refine hR _ ?_; clear hR R) | ((first | refine evC_seq ?_ | refine evC_block ?_); intro Ψ hΨ hΨ') | (refine evC_region ?_; intro R hR) | (refine hΨ _ ?_; clear hΨ hΨ' Ψ) | refine evC_skip ?_ | refine evC_ret ?_ | refine evC_exit ?_) | ((with_reducible refine hΨ' _ _ ?_ ?_); (focus (simp; done)); clear hΨ hΨ' Ψ) | ((with_reducible apply evC_cond); rfl; rfl; all_goals (intro hc; first | (cases hc; done) | (try simp only at hc))) | ((with_reducible refine evD_nil ?_ ?_); kernel_rfl; (with_reducible refine hR _ ?_); clear hR R) | (((with_reducible apply evD_any); rfl; rfl; (simp only [rdE, rdOf, go_sem, e256]; rfl); (intro τ hA hQ hN; ((try simp only [agree, Op.operands, Call.operands, go_sem, e256, go_sem, List.mem_cons, List.not_mem_nil, forall_eq_or_imp, forall_eq, List.append_toArray, Option.toArray] at hA); (try simp only [go_sem, e256, List.mem_cons, List.not_mem_nil, forall_eq_or_imp, forall_eq] at hQ hN); (first | (revert hA; intro hA) | have hA := trivial); (first | (revert hQ; intro hQ) | have hQ := trivial); (first | (revert hN; intro hN) | have hN := trivial); simp only [go_sem, e256, go_sem, hA, hQ, hN]; (repeat (refine ndI (by first | assumption | omega | rfl) ?_)); (first | apply eff_rd | apply eff_st | apply eff_nw)))); (simp only [St.eff, setO, hputs, go_sem, e256])) | ((with_reducible refine evC_draw ?_ ?_ ?_ ?_); kernel_rfl; kernel_rfl; (first | kernel_rfl | simp [newNames, isNew, St.free, freeH, AV.refsL, AV.refs]); intro R hR))))
  refine evC_uptoT 256 (fun i => stD e1 e2 x y 500 (bitsL (x + y) i) i) ?_ ?_
  · refine St.to.trans (St.to.of_le (τ := ⟨[isl e1 (bitsL x 256), isl e2 (bitsL y 256), .any, .any, .any, .c (.v (.slice none 0 0)), vi .i64 0, .any, .any, .any, vi .i64 256, vi .i64 0, .any, .any, .any, .any, .any, .any, .any, .any, .any, .any, .any, .any, .any, .any, .any, .any, .any, .any, .any, .any, .any, .any, .any, .any, .any], []⟩) (St.le_of (by simp [leT]) (by simp [leH, hget]))) ?_
    refine St.to.trans (St.to.nilrow 5 500 3 1 rfl (by simp) (by simp [St.free, freeH, AV.refsL, AV.refs]) (by decide)) (St.to.of_le (St.le_of (by simp [leT, bitsL, cyN]) (by simp [leH, hget, hput, rcI, bitsL])))
  intro i hi Ψ hΨ hΨ'
  dsimp only [stD] at hΨ ⊢
  have ht := bitsL_succ (x + y) i
  have hol := bitsL_len (x + y) i
  rcases Nat.lt_or_ge i 256 with hlt | hge
  · have k1 : (decide ((i : Int) < 256)) = true := by simp; omega
    have k7 : (i : Int) + 1 = ((i + 1 : Nat) : Int) := by omega
    have g1 := isl_at (bitsL_at (z := x) hlt)
    have g2 := isl_at (bitsL_at (z := y) hlt)
    have il1 : i < (bitsL x 256).length := by rw [bitsL_len]; exact hlt
    have il2 : i < (bitsL y 256).length := by rw [bitsL_len]; exact hlt
    have st := add_step x y i
    have b1 := bitN_lt x i
    have b2 := bitN_lt y i
    have b3 := bitN_lt (x + y) i
    have b4 := cyN_le x y i
    rw [ht] at hΨ
    generalize bitsL (x + y) i = out at hΨ hol ⊢
    have k2 := rcI_len out
    generalize bitN x i = p at st b1 g1
    generalize bitN y i = q at st b2 g2
    generalize bitN (x + y) i = s at st b3 hΨ
    generalize cyN x y i = c at st b4 ⊢
    have hΨ2 : ∀ σ' : St, i + 1 ≤ 256 → σ'.to (stD e1 e2 x y 29 (out ++ [s]) (i + 1)) → Ψ .normal σ' := fun σ' h1 h2 => hΨ σ' h1 (h2.trans (stD_rn e1 e2 x y _ _))
    dsimp only [stD] at hΨ2
    generalize cyN x y (i + 1) = c2 at st hΨ2
    have k3 : ((p : Int) + (q : Int)) = ((p + q : Nat) : Int) := by omega
    have k4 : (((p + q : Nat) : Int) + (c : Int)) = ((p + q + c : Nat) : Int) := by omega
    have k5 : (((p + q + c : Nat) : Int)).tmod 2 = (s : Int) := by
      show (((p + q + c) % 2 : Nat) : Int) = _
      omega
    have k6 : (((p + q + c : Nat) : Int)).tdiv 2 = (c2 : Int) := by
      show (((p + q + c) / 2 : Nat) : Int) = _
      omega
    have k8 : p + q + c ≤ 3 := by omega
    (have W := ndI k1 (ndI k2 (ndI k3 (ndI k4 (ndI k5 (ndI k6 (ndI k7 (ndI g1 (ndI g2 (ndI @wrI @refsL_map))))))))); (repeat (any_goals (first | ((with_reducible refine evL_one ?_ ?_); rfl; intro K hK; simp (disch := omega) only [go_sem, W, Nat.mul_one, Int.reduceEq, refsL_rcI, refsL_app, AV.refsL, AV.refs, List.length_append, List.length_cons, List.length_nil, Bool.or_false]; ((repeat (refine ndI (by first | assumption | omega | rfl) ?_)); refine hK _ ?_; clear hK K)) | (with_reducible first | (refine evL_nil ?_; refine hR _ ?_; clear hR R) | ((first | refine evC_seq ?_ | refine evC_block ?_); intro Ψ hΨ hΨ') | (refine evC_region ?_; intro R hR) | (refine hΨ _ ?_; clear hΨ hΨ' Ψ) | refine evC_skip ?_ | refine evC_ret ?_ | refine evC_exit ?_) | ((with_reducible refine hΨ' _ _ ?_ ?_); (focus (simp; done)); clear hΨ hΨ' Ψ) | ((with_reducible apply evC_cond); rfl; rfl; all_goals (intro hc; first | (cases hc; done) | (try simp only at hc))) | ((with_reducible refine evD_nil ?_ ?_); kernel_rfl; (with_reducible refine hR _ ?_); clear hR R) | (((with_reducible apply evD_any); rfl; rfl; (simp (disch := omega) only [rdE, rdOf, go_sem, W, Nat.mul_one, Int.reduceEq, refsL_rcI, refsL_app, AV.refsL, AV.refs, List.length_append, List.length_cons, List.length_nil, Bool.or_false]; rfl); (intro τ hA hQ hN; ((try simp only [agree, Op.operands, Call.operands, go_sem, W, Nat.mul_one, Int.reduceEq, refsL_rcI, refsL_app, AV.refsL, AV.refs, List.length_append, List.length_cons, List.length_nil, Bool.or_false, go_sem, List.mem_cons, List.not_mem_nil, forall_eq_or_imp, forall_eq, List.append_toArray, Option.toArray] at hA); (try simp only [go_sem, W, Nat.mul_one, Int.reduceEq, refsL_rcI, refsL_app, AV.refsL, AV.refs, List.length_append, List.length_cons, List.length_nil, Bool.or_false, List.mem_cons, List.not_mem_nil, forall_eq_or_imp, forall_eq] at hQ hN); (first | (revert hA; intro hA) | have hA := trivial); (first | (revert hQ; intro hQ) | have hQ := trivial); (first | (revert hN; intro hN) | have hN := trivial); simp (disch := omega) only [go_sem, W, Nat.mul_one, Int.reduceEq, refsL_rcI, refsL_app, AV.refsL, AV.refs, List.length_append, List.length_cons, List.length_nil, Bool.or_false, go_sem, hA, hQ, hN]; (repeat (refine ndI (by first | assumption | omega | rfl) ?_)); (first | apply eff_rd | apply eff_st | apply eff_nw)))); (simp (disch := omega) only [St.eff, setO, hputs, go_sem, W, Nat.mul_one, Int.reduceEq, refsL_rcI, refsL_app, AV.refsL, AV.refs, List.length_append, List.length_cons, List.length_nil, Bool.or_false])) | ((with_reducible refine evC_draw ?_ ?_ ?_ ?_); kernel_rfl; kernel_rfl; (first | kernel_rfl | simp [newNames, isNew, St.free, freeH, AV.refsL, AV.refs]); intro R hR)))))
    all_goals exact hΨ2 _ hlt (St.to.of_le (St.le_of (by simp [leT]) (by simp [leH, hget, rcI, ipv])))
  · have k1 : (decide ((i : Int) < 256)) = false := by simp; omega
    obtain rfl : i = 256 := by omega
    have hcy : cyN x y 256 = bitN (x + y) 256 := by
      unfold cyN bitN
      rw [Nat.mod_eq_of_lt (show x < 2 ^ 256 from hx), Nat.mod_eq_of_lt (show y < 2 ^ 256 from hy)]
      have : (x + y) / 2 ^ 256 < 2 := Nat.div_lt_of_lt_mul (by have : x < 2 ^ 256 := hx; have : y < 2 ^ 256 := hy; omega)
      omega
    rw [hcy]
    have hr : rcI tot = rcI (bitsL (x + y) 256) ++ [vi .i64 (bitN (x + y) 256 : Nat)] := by
      rw [← htot, ht]
      simp [rcI, ipv]
    generalize bitsL (x + y) 256 = out at hol hr ⊢
    have k2 := rcI_len out
    generalize bitN (x + y) 256 = s at hr ⊢
    (have W := ndI k1 (ndI k2 (ndI @wrI @refsL_map)); (repeat (any_goals (first | ((with_reducible refine evL_one ?_ ?_); rfl; intro K hK; simp (disch := omega) only [go_sem, W, hol, Nat.mul_one, refsL_rcI, refsL_app, AV.refsL, AV.refs, List.length_append, List.length_cons, List.length_nil, Bool.or_false]; ((repeat (refine ndI (by first | assumption | omega | rfl) ?_)); refine hK _ ?_; clear hK K)) | (with_reducible first | (refine evL_nil ?_; refine hR _ ?_; clear hR R) | ((first | refine evC_seq ?_ | refine evC_block ?_); intro Ψ hΨ hΨ') | (refine evC_region ?_; intro R hR) | (refine hΨ _ ?_; clear hΨ hΨ' Ψ) | refine evC_skip ?_ | refine evC_ret ?_ | refine evC_exit ?_) | ((with_reducible refine hΨ' _ _ ?_ ?_); (focus (simp; done)); clear hΨ hΨ' Ψ) | ((with_reducible apply evC_cond); rfl; rfl; all_goals (intro hc; first | (cases hc; done) | (try simp only at hc))) | ((with_reducible refine evD_nil ?_ ?_); kernel_rfl; (with_reducible refine hR _ ?_); clear hR R) | (((with_reducible apply evD_any); rfl; rfl; (simp (disch := omega) only [rdE, rdOf, go_sem, W, hol, Nat.mul_one, refsL_rcI, refsL_app, AV.refsL, AV.refs, List.length_append, List.length_cons, List.length_nil, Bool.or_false]; rfl); (intro τ hA hQ hN; ((try simp only [agree, Op.operands, Call.operands, go_sem, W, hol, Nat.mul_one, refsL_rcI, refsL_app, AV.refsL, AV.refs, List.length_append, List.length_cons, List.length_nil, Bool.or_false, go_sem, List.mem_cons, List.not_mem_nil, forall_eq_or_imp, forall_eq, List.append_toArray, Option.toArray] at hA); (try simp only [go_sem, W, hol, Nat.mul_one, refsL_rcI, refsL_app, AV.refsL, AV.refs, List.length_append, List.length_cons, List.length_nil, Bool.or_false, List.mem_cons, List.not_mem_nil, forall_eq_or_imp, forall_eq] at hQ hN); (first | (revert hA; intro hA) | have hA := trivial); (first | (revert hQ; intro hQ) | have hQ := trivial); (first | (revert hN; intro hN) | have hN := trivial); simp (disch := omega) only [go_sem, W, hol, Nat.mul_one, refsL_rcI, refsL_app, AV.refsL, AV.refs, List.length_append, List.length_cons, List.length_nil, Bool.or_false, go_sem, hA, hQ, hN]; (repeat (refine ndI (by first | assumption | omega | rfl) ?_)); (first | apply eff_rd | apply eff_st | apply eff_nw)))); (simp (disch := omega) only [St.eff, setO, hputs, go_sem, W, hol, Nat.mul_one, refsL_rcI, refsL_app, AV.refsL, AV.refs, List.length_append, List.length_cons, List.length_nil, Bool.or_false])) | ((with_reducible refine evC_draw ?_ ?_ ?_ ?_); kernel_rfl; kernel_rfl; (first | kernel_rfl | simp [newNames, isNew, St.free, freeH, AV.refsL, AV.refs]); intro R hR)))))
    all_goals rw [hr]
    all_goals (refine ⟨by simp, ⟨_, ?_, AV.le_refl _⟩, leH_get (by simp [leH, hget])⟩; simp only [Tryz.results74, resL, ldA, oneOf, go_sem])
theorem addb_fn (e1 e2 : Bool) (x y : Nat) (hx : x < WW) (hy : y < WW) : Fn Tryz.prog 74 [isl e1 (bitsL x 256), isl e2 (bitsL y 256)] [] (isl false (bitsL (x + y) 257)) [] := frzI (bitsL_len _ _) (add_row e1 e2 x y hx hy)
end Go.Proofs.YtgdnmdnhkhpieaaGreat
namespace Go.Proofs.YtgdnmdnhkhpieaaGreat
open Go.RowKit
open Nat (reduceBEq)
set_option maxRecDepth 20000
set_option maxHeartbeats 2000000
theorem orN {a b : Nat} (ha : a < 18446744073709551616) (hb : b < 18446744073709551616) : IntKind.u64.wrap (BitVec.ofInt IntKind.u64.bits (a : Int) ||| BitVec.ofInt IntKind.u64.bits (b : Int)).toNat = ((a ||| b : Nat) : Int) := by
  have e : (BitVec.ofInt IntKind.u64.bits (a : Int) ||| BitVec.ofInt IntKind.u64.bits (b : Int)).toNat = a ||| b := by
    show (BitVec.ofInt 64 (a : Int) ||| BitVec.ofInt 64 (b : Int)).toNat = _
    rw [BitVec.toNat_or, BitVec.ofInt_natCast, BitVec.ofInt_natCast, BitVec.toNat_ofNat, BitVec.toNat_ofNat, Nat.mod_eq_of_lt ha, Nat.mod_eq_of_lt hb]
  rw [e]
  have h : a ||| b < 2 ^ 64 := Nat.or_lt_two_pow ha hb
  exact wrU (by omega) (by omega)
theorem orR {a r : Nat} (hr : r < 64) (ha : a < 2 ^ r) : IntKind.u64.wrap (BitVec.ofInt IntKind.u64.bits (a : Int) ||| BitVec.ofInt IntKind.u64.bits ((2 ^ r : Nat) : Int)).toNat = ((a + 2 ^ r : Nat) : Int) := by
  have h2 : 2 ^ r ≤ 9223372036854775808 := Nat.pow_le_pow_right (n := 2) (by omega) (show r ≤ 63 by omega)
  rw [orN (by omega) (by omega), Nat.or_comm]
  have h3 := Nat.two_pow_add_eq_or_of_lt (i := r) (b := a) ha 1
  rw [Nat.mul_one] at h3
  rw [← h3, Nat.add_comm]
theorem shl1 {r : Nat} (hr : r < 64) : IntKind.u64.wrap (1 * 2 ^ (min r IntKind.u64.bits)) = ((2 ^ r : Nat) : Int) := by
  have hm : min r IntKind.u64.bits = r := Nat.min_eq_left (show r ≤ 64 by omega)
  have h2 : 2 ^ r ≤ 9223372036854775808 := Nat.pow_le_pow_right (n := 2) (by omega) (show r ≤ 63 by omega)
  rw [hm, Int.one_mul, show ((2 : Int) ^ r) = ((2 ^ r : Nat) : Int) by simp]
  generalize 2 ^ r = R at h2 ⊢
  exact wrU (by omega) (by omega)
theorem limb0 {w R : Nat} (hw : w < R) (hR : R ≤ 9223372036854775808) : l0 w = (w : Int) ∧ l0 (w + R) = ((w + R : Nat) : Int) ∧ l1 (w + R) = l1 w ∧ l2 (w + R) = l2 w ∧ l3 (w + R) = l3 w := by
  unfold l0 l1 l2 l3
  refine ⟨?_, ?_, ?_, ?_, ?_⟩ <;> congr 1 <;> omega
theorem limb1 {w R : Nat} (hw : w < 18446744073709551616 * R) (hR : R ≤ 9223372036854775808) : l1 w = ((w / 18446744073709551616 : Nat) : Int) ∧ w / 18446744073709551616 < R ∧ l0 (w + 18446744073709551616 * R) = l0 w ∧ l1 (w + 18446744073709551616 * R) = ((w / 18446744073709551616 + R : Nat) : Int) ∧ l2 (w + 18446744073709551616 * R) = l2 w ∧ l3 (w + 18446744073709551616 * R) = l3 w := by
  unfold l0 l1 l2 l3
  refine ⟨?_, ?_, ?_, ?_, ?_, ?_⟩ <;> (try congr 1) <;> omega
theorem limb2 {w R : Nat} (hw : w < 18446744073709551616 * (18446744073709551616 * R)) (hR : R ≤ 9223372036854775808) : l2 w = ((w / 18446744073709551616 / 18446744073709551616 : Nat) : Int) ∧ w / 18446744073709551616 / 18446744073709551616 < R ∧ l0 (w + 18446744073709551616 * (18446744073709551616 * R)) = l0 w ∧ l1 (w + 18446744073709551616 * (18446744073709551616 * R)) = l1 w ∧ l2 (w + 18446744073709551616 * (18446744073709551616 * R)) = ((w / 18446744073709551616 / 18446744073709551616 + R : Nat) : Int) ∧ l3 (w + 18446744073709551616 * (18446744073709551616 * R)) = l3 w := by
  unfold l0 l1 l2 l3
  have e : (w + 18446744073709551616 * (18446744073709551616 * R)) / 18446744073709551616 = w / 18446744073709551616 + 18446744073709551616 * R := by omega
  rw [e]
  have hw1 : w / 18446744073709551616 < 18446744073709551616 * R := by omega
  have e0 : (w + 18446744073709551616 * (18446744073709551616 * R)) % 18446744073709551616 = w % 18446744073709551616 := by omega
  rw [e0]
  generalize w / 18446744073709551616 = v at hw1
  refine ⟨?_, ?_, rfl, ?_, ?_, ?_⟩ <;> (try congr 1) <;> omega
theorem limb3 {w R : Nat} (hw : w < 18446744073709551616 * (18446744073709551616 * (18446744073709551616 * R))) (hR : R ≤ 9223372036854775808) : l3 w = ((w / 18446744073709551616 / 18446744073709551616 / 18446744073709551616 : Nat) : Int) ∧ w / 18446744073709551616 / 18446744073709551616 / 18446744073709551616 < R ∧ l0 (w + 18446744073709551616 * (18446744073709551616 * (18446744073709551616 * R))) = l0 w ∧ l1 (w + 18446744073709551616 * (18446744073709551616 * (18446744073709551616 * R))) = l1 w ∧ l2 (w + 18446744073709551616 * (18446744073709551616 * (18446744073709551616 * R))) = l2 w ∧ l3 (w + 18446744073709551616 * (18446744073709551616 * (18446744073709551616 * R))) = ((w / 18446744073709551616 / 18446744073709551616 / 18446744073709551616 + R : Nat) : Int) := by
  unfold l0 l1 l2 l3
  have e : (w + 18446744073709551616 * (18446744073709551616 * (18446744073709551616 * R))) / 18446744073709551616 = w / 18446744073709551616 + 18446744073709551616 * (18446744073709551616 * R) := by omega
  have e0 : (w + 18446744073709551616 * (18446744073709551616 * (18446744073709551616 * R))) % 18446744073709551616 = w % 18446744073709551616 := by omega
  have hw1 : w / 18446744073709551616 < 18446744073709551616 * (18446744073709551616 * R) := by omega
  rw [e, e0]
  generalize w / 18446744073709551616 = v at hw1
  have e2 : (v + 18446744073709551616 * (18446744073709551616 * R)) / 18446744073709551616 = v / 18446744073709551616 + 18446744073709551616 * R := by omega
  have e3 : (v + 18446744073709551616 * (18446744073709551616 * R)) % 18446744073709551616 = v % 18446744073709551616 := by omega
  have hw2 : v / 18446744073709551616 < 18446744073709551616 * R := by omega
  rw [e2, e3]
  generalize v / 18446744073709551616 = u at hw2
  refine ⟨?_, ?_, rfl, rfl, ?_, ?_⟩ <;> (try congr 1) <;> omega
theorem set_bit {z i : Nat} (hb : bitN z i = 1) : z % 2 ^ (i + 1) = z % 2 ^ i + 2 ^ i := by
  rw [Nat.mod_pow_succ]
  have : z / 2 ^ i % 2 = 1 := hb
  rw [this, Nat.mul_one]
theorem unset_bit {z i : Nat} (hb : bitN z i = 0) : z % 2 ^ (i + 1) = z % 2 ^ i := by
  rw [Nat.mod_pow_succ]
  have : z / 2 ^ i % 2 = 0 := hb
  rw [this, Nat.mul_zero, Nat.add_zero]
theorem of_step {z i : Nat} (hi : i < 256) (hb : bitN z i = 1) :
    (i / 64 = 0 ∧ IntKind.u64.wrap (BitVec.ofInt IntKind.u64.bits (l0 (z % 2 ^ i)) ||| BitVec.ofInt IntKind.u64.bits ((2 ^ (i % 64) : Nat) : Int)).toNat = l0 (z % 2 ^ (i + 1)) ∧ l1 (z % 2 ^ (i + 1)) = l1 (z % 2 ^ i) ∧ l2 (z % 2 ^ (i + 1)) = l2 (z % 2 ^ i) ∧ l3 (z % 2 ^ (i + 1)) = l3 (z % 2 ^ i)) ∨
    (i / 64 = 1 ∧ IntKind.u64.wrap (BitVec.ofInt IntKind.u64.bits (l1 (z % 2 ^ i)) ||| BitVec.ofInt IntKind.u64.bits ((2 ^ (i % 64) : Nat) : Int)).toNat = l1 (z % 2 ^ (i + 1)) ∧ l0 (z % 2 ^ (i + 1)) = l0 (z % 2 ^ i) ∧ l2 (z % 2 ^ (i + 1)) = l2 (z % 2 ^ i) ∧ l3 (z % 2 ^ (i + 1)) = l3 (z % 2 ^ i)) ∨
    (i / 64 = 2 ∧ IntKind.u64.wrap (BitVec.ofInt IntKind.u64.bits (l2 (z % 2 ^ i)) ||| BitVec.ofInt IntKind.u64.bits ((2 ^ (i % 64) : Nat) : Int)).toNat = l2 (z % 2 ^ (i + 1)) ∧ l0 (z % 2 ^ (i + 1)) = l0 (z % 2 ^ i) ∧ l1 (z % 2 ^ (i + 1)) = l1 (z % 2 ^ i) ∧ l3 (z % 2 ^ (i + 1)) = l3 (z % 2 ^ i)) ∨
    (i / 64 = 3 ∧ IntKind.u64.wrap (BitVec.ofInt IntKind.u64.bits (l3 (z % 2 ^ i)) ||| BitVec.ofInt IntKind.u64.bits ((2 ^ (i % 64) : Nat) : Int)).toNat = l3 (z % 2 ^ (i + 1)) ∧ l0 (z % 2 ^ (i + 1)) = l0 (z % 2 ^ i) ∧ l1 (z % 2 ^ (i + 1)) = l1 (z % 2 ^ i) ∧ l2 (z % 2 ^ (i + 1)) = l2 (z % 2 ^ i)) := by
  have hr : i % 64 < 64 := Nat.mod_lt _ (by decide)
  have hR : 2 ^ (i % 64) ≤ 9223372036854775808 := Nat.pow_le_pow_right (n := 2) (by omega) (show i % 64 ≤ 63 by omega)
  have hw : z % 2 ^ i < 2 ^ i := Nat.mod_lt _ (Nat.pos_of_ne_zero (by simp))
  have hpow : 2 ^ i = 2 ^ (64 * (i / 64)) * 2 ^ (i % 64) := by rw [← Nat.pow_add, Nat.div_add_mod]
  rw [set_bit hb]
  generalize z % 2 ^ i = w at hw ⊢
  have hor : ∀ a : Nat, a < 2 ^ (i % 64) → _ := fun a ha => orR hr ha
  generalize 2 ^ (i % 64) = R at *
  have hq : i / 64 = 0 ∨ i / 64 = 1 ∨ i / 64 = 2 ∨ i / 64 = 3 := by omega
  rcases hq with hq | hq | hq | hq
  · rw [hq] at hpow
    rw [show 2 ^ (64 * 0) = 1 from rfl, Nat.one_mul] at hpow
    rw [hpow] at hw ⊢
    obtain ⟨h0, h1, h2, h3, h4⟩ := limb0 hw hR
    exact .inl ⟨hq, by rw [h0, h1]; exact hor w hw, h2, h3, h4⟩
  · rw [hq] at hpow
    rw [show 2 ^ (64 * 1) = 18446744073709551616 from rfl] at hpow
    rw [hpow] at hw ⊢
    obtain ⟨h0, h1, h2, h3, h4, h5⟩ := limb1 hw hR
    exact .inr (.inl ⟨hq, by rw [h0, h3]; exact hor _ h1, h2, h4, h5⟩)
  · rw [hq] at hpow
    rw [show 2 ^ (64 * 2) = 18446744073709551616 * 18446744073709551616 from rfl, Nat.mul_assoc] at hpow
    rw [hpow] at hw ⊢
    obtain ⟨h0, h1, h2, h3, h4, h5⟩ := limb2 hw hR
    exact .inr (.inr (.inl ⟨hq, by rw [h0, h4]; exact hor _ h1, h2, h3, h5⟩))
  · rw [hq] at hpow
    rw [show 2 ^ (64 * 3) = 18446744073709551616 * (18446744073709551616 * 18446744073709551616) from rfl, Nat.mul_assoc, Nat.mul_assoc] at hpow
    rw [hpow] at hw ⊢
    obtain ⟨h0, h1, h2, h3, h4, h5⟩ := limb3 hw hR
    exact .inr (.inr (.inr ⟨hq, by rw [h0, h5]; exact hor _ h1, h2, h3, h4⟩))
theorem ofb_fn (ex : Bool) (z k : Nat) (hk : 256 ≤ k) (hk2 : k ≤ 257) : Fn Tryz.prog 32 [isl ex (bitsL z k)] [] (wN (z % WW)) [] := by
  have hlen := bitsL_len z k
  have hbit : ∀ i, i < k → ((((bitsL z k).flatMap ipv).drop i).take 1 = [.v (.int .i64 (bitN z i : Nat))]) := fun i hi => isl_at (bitsL_at hi)
  generalize bitsL z k = bl at hlen hbit ⊢
  (refine fn_of Tryz.func32 rfl (by rfl) ?_; simp only [Tryz.ntmps32, List.length_cons, List.length_nil, Nat.reduceAdd, Nat.reduceSub, List.replicate, List.cons_append, List.nil_append])
  (repeat (any_goals (first | ((with_reducible refine evL_one ?_ ?_); rfl; intro K hK; simp only [go_sem, hlen]; ((repeat (refine ndI (by first | assumption | omega | rfl) ?_)); refine hK _ ?_; clear hK K)) | (with_reducible first | (refine evL_nil ?_; refine hR _ ?_; clear hR R) | ((first | refine evC_seq ?_ | refine evC_block ?_); intro Ψ hΨ hΨ') | (refine evC_region ?_; intro R hR) | (refine hΨ _ ?_; clear hΨ hΨ' Ψ) | refine evC_skip ?_ | refine evC_ret ?_ | refine evC_exit ?_) | ((with_reducible refine hΨ' _ _ ?_ ?_); (focus (simp; done)); clear hΨ hΨ' Ψ) | ((with_reducible apply evL_unmet); rfl; rfl; rfl; (try simp only [go_sem, hlen])) | ((with_reducible apply evL_grd); rfl; rfl; rfl; all_goals (intro hb; first | (cases hb; done) | ((try simp only [Bool.not_true, Bool.not_false] at hb); (first | ((with_reducible intro K hK); simp only [go_sem, hlen]; ((repeat (refine ndI (by first | assumption | omega | rfl) ?_)); refine hK _ ?_; clear hK K)) | ((fail_if_success (with_reducible intro _)); simp only [go_sem, hlen]))))) | ((with_reducible apply evC_cond); rfl; rfl; all_goals (intro hc; first | (cases hc; done) | (try simp only at hc))) | ((with_reducible refine evD_nil ?_ ?_); kernel_rfl; (with_reducible refine hR _ ?_); clear hR R) | (((with_reducible apply evD_any); rfl; rfl; (simp only [rdE, rdOf, go_sem, hlen]; rfl); (intro τ hA hQ hN; ((try simp only [agree, Op.operands, Call.operands, go_sem, hlen, go_sem, List.mem_cons, List.not_mem_nil, forall_eq_or_imp, forall_eq, List.append_toArray, Option.toArray] at hA); (try simp only [go_sem, hlen, List.mem_cons, List.not_mem_nil, forall_eq_or_imp, forall_eq] at hQ hN); (first | (revert hA; intro hA) | have hA := trivial); (first | (revert hQ; intro hQ) | have hQ := trivial); (first | (revert hN; intro hN) | have hN := trivial); simp only [go_sem, hlen, go_sem, hA, hQ, hN]; (repeat (refine ndI (by first | assumption | omega | rfl) ?_)); (first | apply eff_rd | apply eff_st | apply eff_nw)))); (simp only [St.eff, setO, hputs, go_sem, hlen])) | ((with_reducible refine evC_draw ?_ ?_ ?_ ?_); kernel_rfl; kernel_rfl; (first | kernel_rfl | simp [newNames, isNew, St.free, freeH, AV.refsL, AV.refs]); intro R hR))))
  refine evC_upto k (fun i => ⟨[.any, .any, .ptr 2 0, .ptr 3 0, .any, .any, isl ex bl, vi .i64 k, vi .i64 i, .any, .any, .any, .any, .any, .any, .any, .any, .any, .any, .any, .any, .any, .any, .any, .any, .any, .any, .any, .any, .any], [(2, [vi .u64 0, vi .u64 0, vi .u64 0, vi .u64 0]), (3, [vi .u64 (l0 (z % 2 ^ min i 256)), vi .u64 (l1 (z % 2 ^ min i 256)), vi .u64 (l2 (z % 2 ^ min i 256)), vi .u64 (l3 (z % 2 ^ min i 256))])]⟩) (St.le_of (by simp [leT, hlen]) (by simp [leH, hget, Nat.mod_one, l0_zero, l1_zero, l2_zero, l3_zero])) ?_
  intro i hi Ψ hΨ hΨ'
  (try dsimp only at hΨ ⊢)
  rcases Nat.lt_or_ge i k with hlt | hge
  · have k1 : (decide ((i : Int) < (k : Int))) = true := by simp; omega
    have k7 : (i : Int) + 1 = ((i + 1 : Nat) : Int) := by omega
    have k2 := hbit i hlt
    have hil : i < bl.length := by omega
    have b1 := bitN_lt z i
    rcases Nat.lt_or_ge i 256 with h256 | h256
    · have k3 : (decide ((i : Int) < 256)) = true := by simp; omega
      rw [Nat.min_eq_left (by omega : i ≤ 256)] at *
      rw [Nat.min_eq_left (by omega : i + 1 ≤ 256)] at hΨ
      rcases (by omega : bitN z i = 0 ∨ bitN z i = 1) with hb | hb
      · have k4 : ((bitN z i : Nat) : Int) = 0 := by rw [hb]; rfl
        rw [unset_bit hb] at hΨ
        (have W := ndI k1 (ndI k2 (ndI k3 (ndI k4 (ndI k7 @wrI)))); (repeat (any_goals (first | ((with_reducible refine evL_one ?_ ?_); rfl; intro K hK; simp (disch := omega) only [go_sem, W, Nat.mul_one, Int.reduceBEq]; ((repeat (refine ndI (by first | assumption | omega | rfl) ?_)); refine hK _ ?_; clear hK K)) | (with_reducible first | (refine evL_nil ?_; refine hR _ ?_; clear hR R) | ((first | refine evC_seq ?_ | refine evC_block ?_); intro Ψ hΨ hΨ') | (refine evC_region ?_; intro R hR) | (refine hΨ _ ?_; clear hΨ hΨ' Ψ) | refine evC_skip ?_ | refine evC_ret ?_ | refine evC_exit ?_) | ((with_reducible refine hΨ' _ _ ?_ ?_); (focus (simp; done)); clear hΨ hΨ' Ψ) | ((with_reducible apply evL_unmet); rfl; rfl; rfl; (try simp (disch := omega) only [go_sem, W, Nat.mul_one, Int.reduceBEq])) | ((with_reducible apply evL_grd); rfl; rfl; rfl; all_goals (intro hb; first | (cases hb; done) | ((try simp only [Bool.not_true, Bool.not_false] at hb); (first | ((with_reducible intro K hK); simp (disch := omega) only [go_sem, W, Nat.mul_one, Int.reduceBEq]; ((repeat (refine ndI (by first | assumption | omega | rfl) ?_)); refine hK _ ?_; clear hK K)) | ((fail_if_success (with_reducible intro _)); simp (disch := omega) only [go_sem, W, Nat.mul_one, Int.reduceBEq]))))) | ((with_reducible apply evC_cond); rfl; rfl; all_goals (intro hc; first | (cases hc; done) | (try simp only at hc))) | ((with_reducible refine evD_nil ?_ ?_); kernel_rfl; (with_reducible refine hR _ ?_); clear hR R) | (((with_reducible apply evD_any); rfl; rfl; (simp (disch := omega) only [rdE, rdOf, go_sem, W, Nat.mul_one, Int.reduceBEq]; rfl); (intro τ hA hQ hN; ((try simp only [agree, Op.operands, Call.operands, go_sem, W, Nat.mul_one, Int.reduceBEq, go_sem, List.mem_cons, List.not_mem_nil, forall_eq_or_imp, forall_eq, List.append_toArray, Option.toArray] at hA); (try simp only [go_sem, W, Nat.mul_one, Int.reduceBEq, List.mem_cons, List.not_mem_nil, forall_eq_or_imp, forall_eq] at hQ hN); (first | (revert hA; intro hA) | have hA := trivial); (first | (revert hQ; intro hQ) | have hQ := trivial); (first | (revert hN; intro hN) | have hN := trivial); simp (disch := omega) only [go_sem, W, Nat.mul_one, Int.reduceBEq, go_sem, hA, hQ, hN]; (repeat (refine ndI (by first | assumption | omega | rfl) ?_)); (first | apply eff_rd | apply eff_st | apply eff_nw)))); (simp (disch := omega) only [St.eff, setO, hputs, go_sem, W, Nat.mul_one, Int.reduceBEq])) | ((with_reducible refine evC_draw ?_ ?_ ?_ ?_); kernel_rfl; kernel_rfl; (first | kernel_rfl | simp [newNames, isNew, St.free, freeH, AV.refsL, AV.refs]); intro R hR)))))
        all_goals exact hΨ _ hlt (St.le_of (by simp [leT]) (by simp [leH, hget]))
      · have k4 : ((bitN z i : Nat) : Int) = 1 := by rw [hb]; rfl
        have e3 : (i : Int).tdiv 64 = ((i / 64 : Nat) : Int) := rfl
        have e4 : (i : Int).tmod 64 = ((i % 64 : Nat) : Int) := rfl
        have e5 := shl1 (Nat.mod_lt i (show 0 < 64 by decide))
        have os := of_step h256 hb
        generalize ((2 ^ (i % 64) : Nat) : Int) = R at e5 os
        generalize z % 2 ^ (i + 1) = w2 at os hΨ
        generalize z % 2 ^ i = w at os ⊢
        rcases os with ⟨hq, o1, o2, o3, o4⟩ | ⟨hq, o1, o2, o3, o4⟩ | ⟨hq, o1, o2, o3, o4⟩ | ⟨hq, o1, o2, o3, o4⟩
        all_goals rw [o2, o3, o4] at hΨ
        all_goals (have W := ndI k1 (ndI k2 (ndI k3 (ndI k4 (ndI k7 (ndI e3 (ndI e4 (ndI e5 (ndI o1 @wrI)))))))); (repeat (any_goals (first | ((with_reducible refine evL_one ?_ ?_); rfl; intro K hK; simp (disch := omega) only [St.free, freeH, reduceCtorEq, Nat.reduceMod, Nat.reduceDiv, Nat.reduceSub, Nat.reduceMul, Int.reduceToNat, Int.reduceLT, Int.reduceLE, Nat.reduceEqDiff, ↓reduceIte, Nat.reduceLeDiff, Nat.reduceLT, Nat.reduceAdd, Nat.reduceBNe, Nat.reduceBEq, forall_const, evz, pickAV, AV.cells, ofV, evO, W, hq, Nat.mul_one, Int.reduceBEq, Int.cast_ofNat_Int, Int.natCast_one, Int.reduceEq, Int.toNat_natCast, Int.natCast_nonneg, ty3, ty35, ty37, ty75]; ((repeat (refine ndI (by first | assumption | omega | rfl) ?_)); refine hK _ ?_; clear hK K)) | (with_reducible first | (refine evL_nil ?_; refine hR _ ?_; clear hR R) | ((first | refine evC_seq ?_ | refine evC_block ?_); intro Ψ hΨ hΨ') | (refine evC_region ?_; intro R hR) | (refine hΨ _ ?_; clear hΨ hΨ' Ψ) | refine evC_skip ?_ | refine evC_ret ?_ | refine evC_exit ?_) | ((with_reducible refine hΨ' _ _ ?_ ?_); (focus (simp; done)); clear hΨ hΨ' Ψ) | ((with_reducible apply evL_unmet); rfl; rfl; rfl; (try simp (disch := omega) only [St.free, freeH, reduceCtorEq, Nat.reduceMod, Nat.reduceDiv, Nat.reduceSub, Nat.reduceMul, Int.reduceToNat, Int.reduceLT, Int.reduceLE, Nat.reduceEqDiff, ↓reduceIte, Nat.reduceLeDiff, Nat.reduceLT, Nat.reduceAdd, Nat.reduceBNe, Nat.reduceBEq, forall_const, evz, pickAV, AV.cells, ofV, evO, W, hq, Nat.mul_one, Int.reduceBEq, Int.cast_ofNat_Int, Int.natCast_one, Int.reduceEq, Int.toNat_natCast, Int.natCast_nonneg, ty3, ty35, ty37, ty75])) | ((with_reducible apply evL_grd); rfl; rfl; rfl; all_goals (intro hb; first | (cases hb; done) | ((try simp only [Bool.not_true, Bool.not_false] at hb); (first | ((with_reducible intro K hK); simp (disch := omega) only [St.free, freeH, reduceCtorEq, Nat.reduceMod, Nat.reduceDiv, Nat.reduceSub, Nat.reduceMul, Int.reduceToNat, Int.reduceLT, Int.reduceLE, Nat.reduceEqDiff, ↓reduceIte, Nat.reduceLeDiff, Nat.reduceLT, Nat.reduceAdd, Nat.reduceBNe, Nat.reduceBEq, forall_const, evz, pickAV, AV.cells, ofV, evO, W, hq, Nat.mul_one, Int.reduceBEq, Int.cast_ofNat_Int, Int.natCast_one, Int.reduceEq, Int.toNat_natCast, Int.natCast_nonneg, ty3, ty35, ty37, ty75]; ((repeat (refine ndI (by first | assumption | omega | rfl) ?_)); refine hK _ ?_; clear hK K)) | ((fail_if_success (with_reducible intro _)); simp (disch := omega) only [St.free, freeH, reduceCtorEq, Nat.reduceMod, Nat.reduceDiv, Nat.reduceSub, Nat.reduceMul, Int.reduceToNat, Int.reduceLT, Int.reduceLE, Nat.reduceEqDiff, ↓reduceIte, Nat.reduceLeDiff, Nat.reduceLT, Nat.reduceAdd, Nat.reduceBNe, Nat.reduceBEq, forall_const, evz, pickAV, AV.cells, ofV, evO, W, hq, Nat.mul_one, Int.reduceBEq, Int.cast_ofNat_Int, Int.natCast_one, Int.reduceEq, Int.toNat_natCast, Int.natCast_nonneg, ty3, ty35, ty37, ty75]))))) | ((with_reducible apply evC_cond); rfl; rfl; all_goals (intro hc; first | (cases hc; done) | (try simp only at hc))) | ((with_reducible refine evD_nil ?_ ?_); kernel_rfl; (with_reducible refine hR _ ?_); clear hR R) | (((with_reducible apply evD_any); rfl; rfl; (simp (disch := omega) only [rdE, rdOf, St.free, freeH, reduceCtorEq, Nat.reduceMod, Nat.reduceDiv, Nat.reduceSub, Nat.reduceMul, Int.reduceToNat, Int.reduceLT, Int.reduceLE, Nat.reduceEqDiff, ↓reduceIte, Nat.reduceLeDiff, Nat.reduceLT, Nat.reduceAdd, Nat.reduceBNe, Nat.reduceBEq, forall_const, evz, pickAV, AV.cells, ofV, evO, W, hq, Nat.mul_one, Int.reduceBEq, Int.cast_ofNat_Int, Int.natCast_one, Int.reduceEq, Int.toNat_natCast, Int.natCast_nonneg]; rfl); (intro τ hA hQ hN; ((try simp only [agree, Op.operands, Call.operands, reduceCtorEq, Nat.reduceMod, Nat.reduceDiv, Nat.reduceSub, Nat.reduceMul, Int.reduceToNat, Int.reduceLT, Int.reduceLE, Nat.reduceEqDiff, ↓reduceIte, Nat.reduceLeDiff, Nat.reduceLT, Nat.reduceAdd, Nat.reduceBNe, Nat.reduceBEq, forall_const, evz, pickAV, AV.cells, ofV, evO, W, hq, Nat.mul_one, Int.reduceBEq, Int.cast_ofNat_Int, Int.natCast_one, Int.reduceEq, Int.toNat_natCast, Int.natCast_nonneg, ty3, ty35, ty37, ty75, List.mem_cons, List.not_mem_nil, forall_eq_or_imp, forall_eq, List.append_toArray, Option.toArray] at hA); (try simp only [reduceCtorEq, Nat.reduceMod, Nat.reduceDiv, Nat.reduceSub, Nat.reduceMul, Int.reduceToNat, Int.reduceLT, Int.reduceLE, Nat.reduceEqDiff, ↓reduceIte, Nat.reduceLeDiff, Nat.reduceLT, Nat.reduceAdd, Nat.reduceBNe, Nat.reduceBEq, forall_const, evz, pickAV, AV.cells, ofV, evO, W, hq, Nat.mul_one, Int.reduceBEq, Int.cast_ofNat_Int, Int.natCast_one, Int.reduceEq, Int.toNat_natCast, Int.natCast_nonneg, List.mem_cons, List.not_mem_nil, forall_eq_or_imp, forall_eq] at hQ hN); (first | (revert hA; intro hA) | have hA := trivial); (first | (revert hQ; intro hQ) | have hQ := trivial); (first | (revert hN; intro hN) | have hN := trivial); simp (disch := omega) only [reduceCtorEq, Nat.reduceMod, Nat.reduceDiv, Nat.reduceSub, Nat.reduceMul, Int.reduceToNat, Int.reduceLT, Int.reduceLE, Nat.reduceEqDiff, ↓reduceIte, Nat.reduceLeDiff, Nat.reduceLT, Nat.reduceAdd, Nat.reduceBNe, Nat.reduceBEq, forall_const, evz, pickAV, AV.cells, ofV, evO, W, hq, Nat.mul_one, Int.reduceBEq, Int.cast_ofNat_Int, Int.natCast_one, Int.reduceEq, Int.toNat_natCast, Int.natCast_nonneg, ty3, ty35, ty37, ty75, hA, hQ, hN]; (repeat (refine ndI (by first | assumption | omega | rfl) ?_)); (first | apply eff_rd | apply eff_st | apply eff_nw)))); (simp (disch := omega) only [St.eff, setO, hputs, St.free, freeH, reduceCtorEq, Nat.reduceMod, Nat.reduceDiv, Nat.reduceSub, Nat.reduceMul, Int.reduceToNat, Int.reduceLT, Int.reduceLE, Nat.reduceEqDiff, ↓reduceIte, Nat.reduceLeDiff, Nat.reduceLT, Nat.reduceAdd, Nat.reduceBNe, Nat.reduceBEq, forall_const, evz, pickAV, AV.cells, ofV, evO, W, hq, Nat.mul_one, Int.reduceBEq, Int.cast_ofNat_Int, Int.natCast_one, Int.reduceEq, Int.toNat_natCast, Int.natCast_nonneg])) | ((with_reducible refine evC_draw ?_ ?_ ?_ ?_); kernel_rfl; kernel_rfl; (first | kernel_rfl | simp [newNames, isNew, St.free, freeH, AV.refsL, AV.refs]); intro R hR)))))
        all_goals exact hΨ _ hlt (St.le_of (by simp [leT]) (by simp [leH, hget]))
    · have k3 : (decide ((i : Int) < 256)) = false := by simp; omega
      rw [Nat.min_eq_right (by omega : 256 ≤ i)] at *
      rw [Nat.min_eq_right (by omega : 256 ≤ i + 1)] at hΨ
      (have W := ndI k1 (ndI k2 (ndI k3 (ndI k7 @wrI))); (repeat (any_goals (first | ((with_reducible refine evL_one ?_ ?_); rfl; intro K hK; simp (disch := omega) only [go_sem, W, Nat.mul_one]; ((repeat (refine ndI (by first | assumption | omega | rfl) ?_)); refine hK _ ?_; clear hK K)) | (with_reducible first | (refine evL_nil ?_; refine hR _ ?_; clear hR R) | ((first | refine evC_seq ?_ | refine evC_block ?_); intro Ψ hΨ hΨ') | (refine evC_region ?_; intro R hR) | (refine hΨ _ ?_; clear hΨ hΨ' Ψ) | refine evC_skip ?_ | refine evC_ret ?_ | refine evC_exit ?_) | ((with_reducible refine hΨ' _ _ ?_ ?_); (focus (simp; done)); clear hΨ hΨ' Ψ) | ((with_reducible apply evL_unmet); rfl; rfl; rfl; (try simp (disch := omega) only [go_sem, W, Nat.mul_one])) | ((with_reducible apply evL_grd); rfl; rfl; rfl; all_goals (intro hb; first | (cases hb; done) | ((try simp only [Bool.not_true, Bool.not_false] at hb); (first | ((with_reducible intro K hK); simp (disch := omega) only [go_sem, W, Nat.mul_one]; ((repeat (refine ndI (by first | assumption | omega | rfl) ?_)); refine hK _ ?_; clear hK K)) | ((fail_if_success (with_reducible intro _)); simp (disch := omega) only [go_sem, W, Nat.mul_one]))))) | ((with_reducible apply evC_cond); rfl; rfl; all_goals (intro hc; first | (cases hc; done) | (try simp only at hc))) | ((with_reducible refine evD_nil ?_ ?_); kernel_rfl; (with_reducible refine hR _ ?_); clear hR R) | (((with_reducible apply evD_any); rfl; rfl; (simp (disch := omega) only [rdE, rdOf, go_sem, W, Nat.mul_one]; rfl); (intro τ hA hQ hN; ((try simp only [agree, Op.operands, Call.operands, go_sem, W, Nat.mul_one, go_sem, List.mem_cons, List.not_mem_nil, forall_eq_or_imp, forall_eq, List.append_toArray, Option.toArray] at hA); (try simp only [go_sem, W, Nat.mul_one, List.mem_cons, List.not_mem_nil, forall_eq_or_imp, forall_eq] at hQ hN); (first | (revert hA; intro hA) | have hA := trivial); (first | (revert hQ; intro hQ) | have hQ := trivial); (first | (revert hN; intro hN) | have hN := trivial); simp (disch := omega) only [go_sem, W, Nat.mul_one, go_sem, hA, hQ, hN]; (repeat (refine ndI (by first | assumption | omega | rfl) ?_)); (first | apply eff_rd | apply eff_st | apply eff_nw)))); (simp (disch := omega) only [St.eff, setO, hputs, go_sem, W, Nat.mul_one])) | ((with_reducible refine evC_draw ?_ ?_ ?_ ?_); kernel_rfl; kernel_rfl; (first | kernel_rfl | simp [newNames, isNew, St.free, freeH, AV.refsL, AV.refs]); intro R hR)))))
      all_goals exact hΨ _ hlt (St.le_of (by simp [leT]) (by simp [leH, hget]))
  · have k1 : (decide ((i : Int) < (k : Int))) = false := by simp; omega
    rw [Nat.min_eq_right (by omega : 256 ≤ i)]
    (repeat (any_goals (first | ((with_reducible refine evL_one ?_ ?_); rfl; intro K hK; simp only [go_sem, k1]; ((repeat (refine ndI (by first | assumption | omega | rfl) ?_)); refine hK _ ?_; clear hK K)) | (with_reducible first | (refine evL_nil ?_; refine hR _ ?_; clear hR R) | ((first | refine evC_seq ?_ | refine evC_block ?_); intro Ψ hΨ hΨ') | (refine evC_region ?_; intro R hR) | (refine hΨ _ ?_; clear hΨ hΨ' Ψ) | refine evC_skip ?_ | refine evC_ret ?_ | refine evC_exit ?_) | ((with_reducible refine hΨ' _ _ ?_ ?_); (focus (simp; done)); clear hΨ hΨ' Ψ) | ((with_reducible apply evL_unmet); rfl; rfl; rfl; (try simp only [go_sem, k1])) | ((with_reducible apply evL_grd); rfl; rfl; rfl; all_goals (intro hb; first | (cases hb; done) | ((try simp only [Bool.not_true, Bool.not_false] at hb); (first | ((with_reducible intro K hK); simp only [go_sem, k1]; ((repeat (refine ndI (by first | assumption | omega | rfl) ?_)); refine hK _ ?_; clear hK K)) | ((fail_if_success (with_reducible intro _)); simp only [go_sem, k1]))))) | ((with_reducible apply evC_cond); rfl; rfl; all_goals (intro hc; first | (cases hc; done) | (try simp only at hc))) | ((with_reducible refine evD_nil ?_ ?_); kernel_rfl; (with_reducible refine hR _ ?_); clear hR R) | (((with_reducible apply evD_any); rfl; rfl; (simp only [rdE, rdOf, go_sem, k1]; rfl); (intro τ hA hQ hN; ((try simp only [agree, Op.operands, Call.operands, go_sem, k1, go_sem, List.mem_cons, List.not_mem_nil, forall_eq_or_imp, forall_eq, List.append_toArray, Option.toArray] at hA); (try simp only [go_sem, k1, List.mem_cons, List.not_mem_nil, forall_eq_or_imp, forall_eq] at hQ hN); (first | (revert hA; intro hA) | have hA := trivial); (first | (revert hQ; intro hQ) | have hQ := trivial); (first | (revert hN; intro hN) | have hN := trivial); simp only [go_sem, k1, go_sem, hA, hQ, hN]; (repeat (refine ndI (by first | assumption | omega | rfl) ?_)); (first | apply eff_rd | apply eff_st | apply eff_nw)))); (simp only [St.eff, setO, hputs, go_sem, k1])) | ((with_reducible refine evC_draw ?_ ?_ ?_ ?_); kernel_rfl; kernel_rfl; (first | kernel_rfl | simp [newNames, isNew, St.free, freeH, AV.refsL, AV.refs]); intro R hR))))
    all_goals (refine ⟨by simp, ⟨_, ?_, AV.le_refl _⟩, leH_get (by simp [leH, hget])⟩; simp only [Tryz.results32, resL, ldA, oneOf, go_sem])
end Go.Proofs.YtgdnmdnhkhpieaaGreat
namespace Go.Proofs.YtgdnmdnhkhpieaaGreat
open Go.RowKit
open Nat (reduceBEq)
set_option maxRecDepth 20000
set_option maxHeartbeats 2000000
theorem over_bit {x y : Nat} (hx : x < WW) (hy : y < WW) : (((bitN (x + y) 256 : Nat) : Int) == 1) = decide (WW ≤ x + y) := by
  have hx' : x < 2 ^ 256 := hx
  have hy' : y < 2 ^ 256 := hy
  have hW : WW = 2 ^ 256 := rfl
  rw [hW]
  unfold bitN
  generalize (2 : Nat) ^ 256 = M at hx' hy' ⊢
  rw [Bool.eq_iff_iff]
  simp only [beq_iff_eq, decide_eq_true_eq]
  have h1 : (x + y) / M < 2 := Nat.div_lt_of_lt_mul (by omega)
  rcases Nat.lt_or_ge (x + y) M with h | h
  · rw [Nat.div_eq_of_lt h]; simp; omega
  · have : 1 ≤ (x + y) / M := (Nat.le_div_iff_mul_le (by omega)).2 (by omega)
    have e : (x + y) / M = 1 := by omega
    rw [e]; simp; omega
theorem refadd_fn (x y : Nat) (hx : x < WW) (hy : y < WW) : Fn Tryz.prog 39 [wN x, wN y] [] (.tup [wN ((x + y) % WW), vb (decide (WW ≤ x + y))]) [] := by
  have b1 := bits_fn x hx
  have b2 := bits_fn y hy
  have ad := addb_fn false false x y hx hy
  have of := ofb_fn false (x + y) 257 (by decide) (by decide)
  have ob := over_bit hx hy
  have hl := bitsL_len (x + y) 257
  have hbit := isl_at (bitsL_at (z := x + y) (show 256 < 257 by decide))
  generalize decide (WW ≤ x + y) = q at ob ⊢
  generalize (x + y) % WW = r at of ⊢
  generalize bitN (x + y) 256 = s at ob hbit
  generalize bitsL (x + y) 257 = l at ad of hl hbit
  generalize bitsL x 256 = lx at b1 ad
  generalize bitsL y 256 = ly at b2 ad
  have hl2 : 256 < l.length := by omega
  (refine fn_of Tryz.func39 rfl (by rfl) ?_; simp only [Tryz.ntmps39, List.length_cons, List.length_nil, Nat.reduceAdd, Nat.reduceSub, List.replicate, List.cons_append, List.nil_append])
  (repeat (any_goals (first | ((with_reducible refine evL_one ?_ ?_); rfl; intro K hK; simp (disch := omega) only [go_sem, ob, hbit, hl, Nat.mul_one, Nat.reduceMul]; ((repeat (refine ndI (by first | assumption | omega | rfl) ?_)); refine hK _ ?_; clear hK K)) | (with_reducible first | (refine evL_nil ?_; refine hR _ ?_; clear hR R) | ((first | refine evC_seq ?_ | refine evC_block ?_); intro Ψ hΨ hΨ') | (refine evC_region ?_; intro R hR) | (refine hΨ _ ?_; clear hΨ hΨ' Ψ) | refine evC_skip ?_ | refine evC_ret ?_ | refine evC_exit ?_) | ((with_reducible refine hΨ' _ _ ?_ ?_); (focus (simp; done)); clear hΨ hΨ' Ψ) | ((with_reducible apply evC_cond); rfl; rfl; all_goals (intro hc; first | (cases hc; done) | (try simp only at hc))) | ((with_reducible refine evD_nil ?_ ?_); kernel_rfl; (with_reducible refine hR _ ?_); clear hR R) | ((first | ((with_reducible apply evD_fcall); rfl; rfl; (first | ((first | (apply opF_callB (ad); rfl; rfl; rfl; rfl; exact Tryz.func74) | (apply opF_callB (of); rfl; rfl; rfl; rfl; exact Tryz.func32)); kernel_rfl; rfl; (simp (disch := omega) only [go_sem, ob, hbit, hl, Nat.mul_one, Nat.reduceMul]; rfl); (first | rfl | simp [AV.inNL, AV.inN])) | ((apply opF_callB (b1); rfl; rfl; rfl; rfl; exact Tryz.func75); kernel_rfl; rfl; (simp (disch := omega) only [go_sem, ob, hbit, hl, Nat.mul_one, Nat.reduceMul]; rfl); (first | rfl | simp [AV.inNL, AV.inN])) | ((apply opF_callB (b2); rfl; rfl; rfl; rfl; exact Tryz.func75); kernel_rfl; rfl; (simp (disch := omega) only [go_sem, ob, hbit, hl, Nat.mul_one, Nat.reduceMul]; rfl); (first | rfl | simp [AV.inNL, AV.inN])))) | ((with_reducible apply evD_any); rfl; rfl; (simp (disch := omega) only [rdE, rdOf, go_sem, ob, hbit, hl, Nat.mul_one, Nat.reduceMul]; rfl); (intro τ hA hQ hN; ((try simp only [agree, Op.operands, Call.operands, go_sem, ob, hbit, hl, Nat.mul_one, Nat.reduceMul, go_sem, List.mem_cons, List.not_mem_nil, forall_eq_or_imp, forall_eq, List.append_toArray, Option.toArray] at hA); (try simp only [go_sem, ob, hbit, hl, Nat.mul_one, Nat.reduceMul, List.mem_cons, List.not_mem_nil, forall_eq_or_imp, forall_eq] at hQ hN); (first | (revert hA; intro hA) | have hA := trivial); (first | (revert hQ; intro hQ) | have hQ := trivial); (first | (revert hN; intro hN) | have hN := trivial); simp (disch := omega) only [go_sem, ob, hbit, hl, Nat.mul_one, Nat.reduceMul, go_sem, hA, hQ, hN]; (repeat (refine ndI (by first | assumption | omega | rfl) ?_)); (first | apply eff_rd | apply eff_st | apply eff_nw))))); (simp (disch := omega) only [St.eff, setO, hputs, go_sem, ob, hbit, hl, Nat.mul_one, Nat.reduceMul])) | ((with_reducible refine evC_draw ?_ ?_ ?_ ?_); kernel_rfl; kernel_rfl; (first | kernel_rfl | simp [newNames, isNew, St.free, freeH, AV.refsL, AV.refs]); intro R hR))))
  all_goals (refine ⟨by simp, ⟨_, ?_, AV.le_refl _⟩, leH_get (by simp [leH, hget])⟩; simp only [Tryz.results39, resL, ldA, oneOf, go_sem])
def lessN (x y i : Nat) : Nat := if x % 2 ^ i < y % 2 ^ i then 1 else 0
theorem sub_step {x y i : Nat} (hx : x < WW) (hy : y < WW) (hi : i < 256) :
    (bitN x i : Int) - (bitN y i : Int) - (lessN x y i : Int) = (bitN (x + WW - y) i : Int) - 2 * (lessN x y (i + 1) : Int) := by
  have hp : 0 < 2 ^ i := Nat.pos_of_ne_zero (by simp)
  have hW : WW = 2 ^ i * (2 * 2 ^ (255 - i)) := by
    rw [show WW = 2 ^ 256 from rfl, ← Nat.pow_succ', ← Nat.pow_add, show i + (255 - i).succ = 256 by omega]
  have ex := Nat.div_add_mod x (2 ^ i)
  have ey := Nat.div_add_mod y (2 ^ i)
  have hX := Nat.mod_lt x hp
  have hY := Nat.mod_lt y hp
  unfold lessN
  rw [Nat.mod_pow_succ, Nat.mod_pow_succ]
  unfold bitN
  have hqy : y / 2 ^ i < 2 * 2 ^ (255 - i) := Nat.div_lt_of_lt_mul (by rw [← hW]; exact hy)
  generalize hM : 2 ^ (255 - i) = M at hW hqy
  have hz : (x + WW - y) / 2 ^ i = x / 2 ^ i + 2 * M - y / 2 ^ i - (if x % 2 ^ i < y % 2 ^ i then 1 else 0) := by
    generalize 2 ^ i = P at *
    generalize x / P = qx at *
    generalize y / P = qy at *
    generalize x % P = X at *
    generalize y % P = Y at *
    rw [hW, ← ex, ← ey]
    split
    · have : P * qx + X + P * (2 * M) - (P * qy + Y) = (P + X - Y) + P * (qx + 2 * M - qy - 1) := by
        rw [Nat.mul_sub, Nat.mul_sub, Nat.mul_add]
        have h1 : P * qy + P ≤ P * (2 * M) := by rw [← Nat.mul_succ]; exact Nat.mul_le_mul_left _ hqy
        omega
      rw [this, Nat.add_mul_div_left _ _ hp, Nat.div_eq_of_lt (by omega)]
      omega
    · have : P * qx + X + P * (2 * M) - (P * qy + Y) = (X - Y) + P * (qx + 2 * M - qy) := by
        rw [Nat.mul_sub, Nat.mul_add]
        have h1 : P * qy + P ≤ P * (2 * M) := by rw [← Nat.mul_succ]; exact Nat.mul_le_mul_left _ hqy
        omega
      rw [this, Nat.add_mul_div_left _ _ hp, Nat.div_eq_of_lt (by omega)]
      omega
  rw [hz]
  generalize 2 ^ i = P at *
  generalize x / P = qx at *
  generalize y / P = qy at *
  generalize x % P = X at *
  generalize y % P = Y at *
  have c1 : qx % 2 = 0 ∨ qx % 2 = 1 := by omega
  have c2 : qy % 2 = 0 ∨ qy % 2 = 1 := by omega
  rcases c1 with c1 | c1 <;> rcases c2 with c2 | c2 <;> rw [c1, c2] <;> simp only [Nat.mul_zero, Nat.mul_one, Nat.add_zero] <;> (repeat' split) <;> omega
theorem less_all {x y : Nat} (hx : x < WW) (hy : y < WW) : (((lessN x y 256 : Nat) : Int) == 1) = decide (x < y) := by
  unfold lessN
  rw [Nat.mod_eq_of_lt (show x < 2 ^ 256 from hx), Nat.mod_eq_of_lt (show y < 2 ^ 256 from hy)]
  by_cases h : x < y
  · rw [if_pos h, decide_eq_true h]; rfl
  · rw [if_neg h, decide_eq_false h]; rfl
theorem lessN_le (x y i : Nat) : lessN x y i < 2 := by unfold lessN; split <;> omega
abbrev stL2 (x y : Nat) (z : Nat) (r : Nat) (out : List Nat) (i : Nat) : St := ⟨[.any, .any, .ptr 2 0, .ptr 3 0, .ptr 4 0, .any, .row r 3 1 out.length, vi .i64 (lessN x y i : Nat), .any, .any, vi .i64 i, .any, .any, .any, .any, .any, .any, .any, .any, .any, .any, .any, .any, .any, .any, .any, .any, .any, .any, .any, .any, .any, .any, .any, .any], [(2, [vi .u64 (l0 x), vi .u64 (l1 x), vi .u64 (l2 x), vi .u64 (l3 x)]), (3, [vi .u64 (l0 y), vi .u64 (l1 y), vi .u64 (l2 y), vi .u64 (l3 y)]), (4, [vi .u64 0, vi .u64 0, vi .u64 0, vi .u64 0]), (r, rcI out)]⟩
theorem stL2_rn (x y z : Nat) (out : List Nat) (i : Nat) : (stL2 x y z 29 out i).to (stL2 x y z 500 out i) := by
  have h := St.to.rn (σ := stL2 x y z 29 out i) (fun r => if r = 29 then 500 else r) (fun r => if r = 500 then 29 else r) [2, 3, 4, 29] (by simp [AV.inNL, AV.inN]) (by simp) (by simp [inH, AV.inNL, AV.inN, rcI]) (by simp) (by simp)
  simpa [AV.renL, AV.ren, renH, rcI, stL2] using h
theorem refsub_fn (x y : Nat) (hx : x < WW) (hy : y < WW) : Fn Tryz.prog 10 [wN x, wN y] [] (.tup [wN ((x + WW - y) % WW), vb (decide (x < y))]) [] := by
  obtain ⟨z, hz⟩ : ∃ z, x + WW - y = z := ⟨_, rfl⟩
  have of := ofb_fn false z 256 (by decide) (by decide)
  have la := less_all hx hy
  rw [hz]
  generalize decide (x < y) = q at la ⊢
  generalize z % WW = r at of ⊢
  (refine fn_of Tryz.func10 rfl (by rfl) ?_; simp only [Tryz.ntmps10, List.length_cons, List.length_nil, Nat.reduceAdd, Nat.reduceSub, List.replicate, List.cons_append, List.nil_append])
  (repeat (any_goals (first | ((with_reducible refine evL_one ?_ ?_); rfl; intro K hK; simp only [go_sem]; ((repeat (refine ndI (by first | assumption | omega | rfl) ?_)); refine hK _ ?_; clear hK K)) | (with_reducible first | (refine evL_nil ?_; refine hR _ ?_; clear hR R) | ((first | refine evC_seq ?_ | refine evC_block ?_); intro Ψ hΨ hΨ') | (refine evC_region ?_; intro R hR) | (refine hΨ _ ?_; clear hΨ hΨ' Ψ) | refine evC_skip ?_ | refine evC_ret ?_ | refine evC_exit ?_) | ((with_reducible refine hΨ' _ _ ?_ ?_); (focus (simp; done)); clear hΨ hΨ' Ψ) | ((with_reducible apply evC_cond); rfl; rfl; all_goals (intro hc; first | (cases hc; done) | (try simp only at hc))) | ((with_reducible refine evD_nil ?_ ?_); kernel_rfl; (with_reducible refine hR _ ?_); clear hR R) | (((with_reducible apply evD_any); rfl; rfl; (simp only [rdE, rdOf, go_sem]; rfl); (intro τ hA hQ hN; ((try simp only [agree, Op.operands, Call.operands, go_sem, List.mem_cons, List.not_mem_nil, forall_eq_or_imp, forall_eq, List.append_toArray, Option.toArray] at hA); (try simp only [go_sem, List.mem_cons, List.not_mem_nil, forall_eq_or_imp, forall_eq] at hQ hN); (first | (revert hA; intro hA) | have hA := trivial); (first | (revert hQ; intro hQ) | have hQ := trivial); (first | (revert hN; intro hN) | have hN := trivial); simp only [go_sem, hA, hQ, hN]; (repeat (refine ndI (by first | assumption | omega | rfl) ?_)); (first | apply eff_rd | apply eff_st | apply eff_nw)))); (simp only [St.eff, setO, hputs, go_sem])) | ((with_reducible refine evC_draw ?_ ?_ ?_ ?_); kernel_rfl; kernel_rfl; (first | kernel_rfl | simp [newNames, isNew, St.free, freeH, AV.refsL, AV.refs]); intro R hR))))
  refine evC_uptoT 256 (fun i => stL2 x y z 500 (bitsL z i) i) ?_ ?_
  · refine St.to.trans (St.to.of_le (τ := ⟨[.any, .any, .ptr 2 0, .ptr 3 0, .ptr 4 0, .any, .c (.v (.slice none 0 0)), vi .i64 0, .any, .any, vi .i64 0, .any, .any, .any, .any, .any, .any, .any, .any, .any, .any, .any, .any, .any, .any, .any, .any, .any, .any, .any, .any, .any, .any, .any, .any], [(2, [vi .u64 (l0 x), vi .u64 (l1 x), vi .u64 (l2 x), vi .u64 (l3 x)]), (3, [vi .u64 (l0 y), vi .u64 (l1 y), vi .u64 (l2 y), vi .u64 (l3 y)]), (4, [vi .u64 0, vi .u64 0, vi .u64 0, vi .u64 0])]⟩) (St.le_of (by simp [leT]) (by simp [leH, hget]))) ?_
    refine St.to.trans (St.to.nilrow 6 500 3 1 rfl (by simp) (by simp [St.free, freeH, AV.refsL, AV.refs]) (by decide)) (St.to.of_le (St.le_of (by simp [leT, bitsL, lessN, Nat.mod_one]) (by simp [leH, hget, hput, rcI, bitsL])))
  intro i hi Ψ hΨ hΨ'
  dsimp only [stL2] at hΨ ⊢
  have ht := bitsL_succ z i
  have hol := bitsL_len z i
  rcases Nat.lt_or_ge i 256 with hlt | hge
  · have k1 : (decide ((i : Int) < 256)) = true := by simp; omega
    have k7 : (i : Int) + 1 = ((i + 1 : Nat) : Int) := by omega
    have t1 := bitN_fn x hx i (by omega)
    have t2 := bitN_fn y hy i (by omega)
    have st := sub_step hx hy hlt
    rw [hz] at st
    have b1 := bitN_lt x i
    have b2 := bitN_lt y i
    have b3 := bitN_lt z i
    have b4 := lessN_le x y i
    have b5 := lessN_le x y (i + 1)
    rw [ht] at hΨ
    generalize bitsL z i = out at hΨ hol ⊢
    have k2 := rcI_len out
    generalize bitN x i = p at st b1 t1
    generalize bitN y i = q at st b2 t2
    generalize bitN z i = s at st b3 hΨ
    have hΨ2 : ∀ σ' : St, i + 1 ≤ 256 → σ'.to (stL2 x y z 29 (out ++ [s]) (i + 1)) → Ψ .normal σ' := fun σ' h1 h2 => hΨ σ' h1 (h2.trans (stL2_rn x y z _ _))
    dsimp only [stL2] at hΨ2
    generalize lessN x y (i + 1) = c2 at st b5 hΨ2
    generalize lessN x y i = c at st b4 ⊢
    rcases (by omega : c2 = 0 ∨ c2 = 1) with hc2 | hc2
    · have k3 : ((p : Int) - (q : Int)) - (c : Int) = (s : Int) := by omega
      have k4 : decide ((s : Int) < 0) = false := by simp
      have k5 : ((c2 : Nat) : Int) = 0 := by omega
      rw [k5] at hΨ2
      (have W := ndI k1 (ndI k2 (ndI k3 (ndI k4 (ndI k7 (ndI @wrI @refsL_map))))); (repeat (any_goals (first | ((with_reducible refine evL_one ?_ ?_); rfl; intro K hK; simp (disch := omega) only [go_sem, W, Nat.mul_one, refsL_rcI, refsL_app, AV.refsL, AV.refs, List.length_append, List.length_cons, List.length_nil, Bool.or_false]; ((repeat (refine ndI (by first | assumption | omega | rfl) ?_)); refine hK _ ?_; clear hK K)) | (with_reducible first | (refine evL_nil ?_; refine hR _ ?_; clear hR R) | ((first | refine evC_seq ?_ | refine evC_block ?_); intro Ψ hΨ hΨ') | (refine evC_region ?_; intro R hR) | (refine hΨ _ ?_; clear hΨ hΨ' Ψ) | refine evC_skip ?_ | refine evC_ret ?_ | refine evC_exit ?_) | ((with_reducible refine hΨ' _ _ ?_ ?_); (focus (simp; done)); clear hΨ hΨ' Ψ) | ((with_reducible apply evC_cond); rfl; rfl; all_goals (intro hc; first | (cases hc; done) | (try simp only at hc))) | ((with_reducible refine evD_nil ?_ ?_); kernel_rfl; (with_reducible refine hR _ ?_); clear hR R) | ((first | ((with_reducible apply evD_fcall); rfl; rfl; (first | ((apply opF_callB (t1); rfl; rfl; rfl; rfl; exact Tryz.func31); kernel_rfl; rfl; (simp (disch := omega) only [go_sem, W, Nat.mul_one, refsL_rcI, refsL_app, AV.refsL, AV.refs, List.length_append, List.length_cons, List.length_nil, Bool.or_false]; rfl); (first | rfl | simp [AV.inNL, AV.inN])) | ((apply opF_callB (t2); rfl; rfl; rfl; rfl; exact Tryz.func31); kernel_rfl; rfl; (simp (disch := omega) only [go_sem, W, Nat.mul_one, refsL_rcI, refsL_app, AV.refsL, AV.refs, List.length_append, List.length_cons, List.length_nil, Bool.or_false]; rfl); (first | rfl | simp [AV.inNL, AV.inN])))) | ((with_reducible apply evD_any); rfl; rfl; (simp (disch := omega) only [rdE, rdOf, go_sem, W, Nat.mul_one, refsL_rcI, refsL_app, AV.refsL, AV.refs, List.length_append, List.length_cons, List.length_nil, Bool.or_false]; rfl); (intro τ hA hQ hN; ((try simp only [agree, Op.operands, Call.operands, go_sem, W, Nat.mul_one, refsL_rcI, refsL_app, AV.refsL, AV.refs, List.length_append, List.length_cons, List.length_nil, Bool.or_false, go_sem, List.mem_cons, List.not_mem_nil, forall_eq_or_imp, forall_eq, List.append_toArray, Option.toArray] at hA); (try simp only [go_sem, W, Nat.mul_one, refsL_rcI, refsL_app, AV.refsL, AV.refs, List.length_append, List.length_cons, List.length_nil, Bool.or_false, List.mem_cons, List.not_mem_nil, forall_eq_or_imp, forall_eq] at hQ hN); (first | (revert hA; intro hA) | have hA := trivial); (first | (revert hQ; intro hQ) | have hQ := trivial); (first | (revert hN; intro hN) | have hN := trivial); simp (disch := omega) only [go_sem, W, Nat.mul_one, refsL_rcI, refsL_app, AV.refsL, AV.refs, List.length_append, List.length_cons, List.length_nil, Bool.or_false, go_sem, hA, hQ, hN]; (repeat (refine ndI (by first | assumption | omega | rfl) ?_)); (first | apply eff_rd | apply eff_st | apply eff_nw))))); (simp (disch := omega) only [St.eff, setO, hputs, go_sem, W, Nat.mul_one, refsL_rcI, refsL_app, AV.refsL, AV.refs, List.length_append, List.length_cons, List.length_nil, Bool.or_false])) | ((with_reducible refine evC_draw ?_ ?_ ?_ ?_); kernel_rfl; kernel_rfl; (simp [newNames, isNew, St.free, freeH, AV.refsL, AV.refs, refsL_rcI]); intro R hR)))))
      all_goals exact hΨ2 _ hlt (St.to.of_le (St.le_of (by simp [leT]) (by simp [leH, hget, rcI, ipv])))
    · have k3 : ((p : Int) - (q : Int)) - (c : Int) = (s : Int) - 2 := by omega
      have k4 : decide ((s : Int) - 2 < 0) = true := by simp; omega
      have k5 : ((c2 : Nat) : Int) = 1 := by omega
      have k6 : (s : Int) - 2 + 2 = (s : Int) := by omega
      rw [k5] at hΨ2
      (have W := ndI k1 (ndI k2 (ndI k3 (ndI k4 (ndI k6 (ndI k7 (ndI @wrI @refsL_map)))))); (repeat (any_goals (first | ((with_reducible refine evL_one ?_ ?_); rfl; intro K hK; simp (disch := omega) only [go_sem, W, Nat.mul_one, refsL_rcI, refsL_app, AV.refsL, AV.refs, List.length_append, List.length_cons, List.length_nil, Bool.or_false]; ((repeat (refine ndI (by first | assumption | omega | rfl) ?_)); refine hK _ ?_; clear hK K)) | (with_reducible first | (refine evL_nil ?_; refine hR _ ?_; clear hR R) | ((first | refine evC_seq ?_ | refine evC_block ?_); intro Ψ hΨ hΨ') | (refine evC_region ?_; intro R hR) | (refine hΨ _ ?_; clear hΨ hΨ' Ψ) | refine evC_skip ?_ | refine evC_ret ?_ | refine evC_exit ?_) | ((with_reducible refine hΨ' _ _ ?_ ?_); (focus (simp; done)); clear hΨ hΨ' Ψ) | ((with_reducible apply evC_cond); rfl; rfl; all_goals (intro hc; first | (cases hc; done) | (try simp only at hc))) | ((with_reducible refine evD_nil ?_ ?_); kernel_rfl; (with_reducible refine hR _ ?_); clear hR R) | ((first | ((with_reducible apply evD_fcall); rfl; rfl; (first | ((apply opF_callB (t1); rfl; rfl; rfl; rfl; exact Tryz.func31); kernel_rfl; rfl; (simp (disch := omega) only [go_sem, W, Nat.mul_one, refsL_rcI, refsL_app, AV.refsL, AV.refs, List.length_append, List.length_cons, List.length_nil, Bool.or_false]; rfl); (first | rfl | simp [AV.inNL, AV.inN])) | ((apply opF_callB (t2); rfl; rfl; rfl; rfl; exact Tryz.func31); kernel_rfl; rfl; (simp (disch := omega) only [go_sem, W, Nat.mul_one, refsL_rcI, refsL_app, AV.refsL, AV.refs, List.length_append, List.length_cons, List.length_nil, Bool.or_false]; rfl); (first | rfl | simp [AV.inNL, AV.inN])))) | ((with_reducible apply evD_any); rfl; rfl; (simp (disch := omega) only [rdE, rdOf, go_sem, W, Nat.mul_one, refsL_rcI, refsL_app, AV.refsL, AV.refs, List.length_append, List.length_cons, List.length_nil, Bool.or_false]; rfl); (intro τ hA hQ hN; ((try simp only [agree, Op.operands, Call.operands, go_sem, W, Nat.mul_one, refsL_rcI, refsL_app, AV.refsL, AV.refs, List.length_append, List.length_cons, List.length_nil, Bool.or_false, go_sem, List.mem_cons, List.not_mem_nil, forall_eq_or_imp, forall_eq, List.append_toArray, Option.toArray] at hA); (try simp only [go_sem, W, Nat.mul_one, refsL_rcI, refsL_app, AV.refsL, AV.refs, List.length_append, List.length_cons, List.length_nil, Bool.or_false, List.mem_cons, List.not_mem_nil, forall_eq_or_imp, forall_eq] at hQ hN); (first | (revert hA; intro hA) | have hA := trivial); (first | (revert hQ; intro hQ) | have hQ := trivial); (first | (revert hN; intro hN) | have hN := trivial); simp (disch := omega) only [go_sem, W, Nat.mul_one, refsL_rcI, refsL_app, AV.refsL, AV.refs, List.length_append, List.length_cons, List.length_nil, Bool.or_false, go_sem, hA, hQ, hN]; (repeat (refine ndI (by first | assumption | omega | rfl) ?_)); (first | apply eff_rd | apply eff_st | apply eff_nw))))); (simp (disch := omega) only [St.eff, setO, hputs, go_sem, W, Nat.mul_one, refsL_rcI, refsL_app, AV.refsL, AV.refs, List.length_append, List.length_cons, List.length_nil, Bool.or_false])) | ((with_reducible refine evC_draw ?_ ?_ ?_ ?_); kernel_rfl; kernel_rfl; (simp [newNames, isNew, St.free, freeH, AV.refsL, AV.refs, refsL_rcI]); intro R hR)))))
      all_goals exact hΨ2 _ hlt (St.to.of_le (St.le_of (by simp [leT]) (by simp [leH, hget, rcI, ipv])))
  · have k1 : (decide ((i : Int) < 256)) = false := by simp; omega
    obtain rfl : i = 256 := by omega
    generalize lessN x y 256 = c at la ⊢
    generalize bitsL z 256 = out at of hol ⊢
    (repeat (any_goals (first | ((with_reducible refine evL_one ?_ ?_); rfl; intro K hK; simp only [go_sem, k1]; ((repeat (refine ndI (by first | assumption | omega | rfl) ?_)); refine hK _ ?_; clear hK K)) | (with_reducible first | (refine evL_nil ?_; refine hR _ ?_; clear hR R) | ((first | refine evC_seq ?_ | refine evC_block ?_); intro Ψ hΨ hΨ') | (refine evC_region ?_; intro R hR) | (refine hΨ _ ?_; clear hΨ hΨ' Ψ) | refine evC_skip ?_ | refine evC_ret ?_ | refine evC_exit ?_) | ((with_reducible refine hΨ' _ _ ?_ ?_); (focus (simp; done)); clear hΨ hΨ' Ψ) | ((with_reducible apply evC_cond); rfl; rfl; all_goals (intro hc; first | (cases hc; done) | (try simp only at hc))) | ((with_reducible refine evD_nil ?_ ?_); kernel_rfl; (with_reducible refine hR _ ?_); clear hR R) | (((with_reducible apply evD_any); rfl; rfl; (simp only [rdE, rdOf, go_sem, k1]; rfl); (intro τ hA hQ hN; ((try simp only [agree, Op.operands, Call.operands, go_sem, k1, go_sem, List.mem_cons, List.not_mem_nil, forall_eq_or_imp, forall_eq, List.append_toArray, Option.toArray] at hA); (try simp only [go_sem, k1, List.mem_cons, List.not_mem_nil, forall_eq_or_imp, forall_eq] at hQ hN); (first | (revert hA; intro hA) | have hA := trivial); (first | (revert hQ; intro hQ) | have hQ := trivial); (first | (revert hN; intro hN) | have hN := trivial); simp only [go_sem, k1, go_sem, hA, hQ, hN]; (repeat (refine ndI (by first | assumption | omega | rfl) ?_)); (first | apply eff_rd | apply eff_st | apply eff_nw)))); (simp only [St.eff, setO, hputs, go_sem, k1])) | ((with_reducible refine evC_draw ?_ ?_ ?_ ?_); kernel_rfl; kernel_rfl; (first | kernel_rfl | simp [newNames, isNew, St.free, freeH, AV.refsL, AV.refs]); intro R hR))))
    refine evL_to rfl (St.to.frz 500 (pcs := out.flatMap ipv) (by simp [hget, rcI])) ?_
    simp only [St.frz, AV.frzL, AV.frz, frzH, flat_length ipv_len, Nat.mul_one, if_true, eq_self, ↓reduceIte, Nat.reduceEqDiff]
    (repeat (any_goals (first | ((with_reducible refine evL_call ?_ ?_ ?_); rfl; rfl; intro K hK; ((apply opA_callB (of); rfl; rfl; rfl; rfl; exact Tryz.func32); kernel_rfl; rfl; (simp only [go_sem, la]; rfl); (first | rfl | simp [AV.inNL, AV.inN])); (simp only [go_sem, la]; refine hK _ ?_; clear hK K)) | ((with_reducible refine evL_one ?_ ?_); rfl; intro K hK; simp only [go_sem, la]; ((repeat (refine ndI (by first | assumption | omega | rfl) ?_)); refine hK _ ?_; clear hK K)) | (with_reducible first | (refine evL_nil ?_; refine hR _ ?_; clear hR R) | ((first | refine evC_seq ?_ | refine evC_block ?_); intro Ψ hΨ hΨ') | (refine evC_region ?_; intro R hR) | (refine hΨ _ ?_; clear hΨ hΨ' Ψ) | refine evC_skip ?_ | refine evC_ret ?_ | refine evC_exit ?_) | ((with_reducible refine hΨ' _ _ ?_ ?_); (focus (simp; done)); clear hΨ hΨ' Ψ) | ((with_reducible apply evC_cond); rfl; rfl; all_goals (intro hc; first | (cases hc; done) | (try simp only at hc))) | ((with_reducible refine evD_nil ?_ ?_); kernel_rfl; (with_reducible refine hR _ ?_); clear hR R) | (((with_reducible apply evD_any); rfl; rfl; (simp only [rdE, rdOf, go_sem, la]; rfl); (intro τ hA hQ hN; ((try simp only [agree, Op.operands, Call.operands, go_sem, la, go_sem, List.mem_cons, List.not_mem_nil, forall_eq_or_imp, forall_eq, List.append_toArray, Option.toArray] at hA); (try simp only [go_sem, la, List.mem_cons, List.not_mem_nil, forall_eq_or_imp, forall_eq] at hQ hN); (first | (revert hA; intro hA) | have hA := trivial); (first | (revert hQ; intro hQ) | have hQ := trivial); (first | (revert hN; intro hN) | have hN := trivial); simp only [go_sem, la, go_sem, hA, hQ, hN]; (repeat (refine ndI (by first | assumption | omega | rfl) ?_)); (first | apply eff_rd | apply eff_st | apply eff_nw)))); (simp only [St.eff, setO, hputs, go_sem, la])) | ((with_reducible refine evC_draw ?_ ?_ ?_ ?_); kernel_rfl; kernel_rfl; (first | kernel_rfl | simp [newNames, isNew, St.free, freeH, AV.refsL, AV.refs]); intro R hR))))
    all_goals (refine ⟨by simp, ⟨_, ?_, AV.le_refl _⟩, leH_get (by simp [leH, hget])⟩; simp only [Tryz.results10, resL, ldA, oneOf, go_sem])
end Go.Proofs.YtgdnmdnhkhpieaaGreat
namespace Go.Proofs.YtgdnmdnhkhpieaaGreat
open Go.RowKit
open Nat (reduceBEq)
set_option maxRecDepth 20000
set_option maxHeartbeats 2000000
theorem refsum_fn (ex : Bool) (l : List Nat) (hl : l.length ≤ 1000) (hw : ∀ x ∈ l, x < WW) : Fn Tryz.prog 63 [wsl ex l] [] (.tup [wN (l.sum % WW), vb (decide (WW ≤ l.sum))]) [] := by
  have hW : 0 < WW := by decide
  obtain ⟨tn, htn⟩ : ∃ n, l.sum % WW = n := ⟨_, rfl⟩
  obtain ⟨tq, htq⟩ : ∃ q, decide (WW ≤ l.sum) = q := ⟨_, rfl⟩
  rw [htn, htq]
  (refine fn_of Tryz.func63 rfl (by rfl) ?_; simp only [Tryz.ntmps63, List.length_cons, List.length_nil, Nat.reduceAdd, Nat.reduceSub, List.replicate, List.cons_append, List.nil_append])
  (repeat (any_goals (first | ((with_reducible refine evL_one ?_ ?_); rfl; intro K hK; simp only [go_sem]; ((repeat (refine ndI (by first | assumption | omega | rfl) ?_)); refine hK _ ?_; clear hK K)) | (with_reducible first | (refine evL_nil ?_; refine hR _ ?_; clear hR R) | ((first | refine evC_seq ?_ | refine evC_block ?_); intro Ψ hΨ hΨ') | (refine evC_region ?_; intro R hR) | (refine hΨ _ ?_; clear hΨ hΨ' Ψ) | refine evC_skip ?_ | refine evC_ret ?_ | refine evC_exit ?_) | ((with_reducible refine hΨ' _ _ ?_ ?_); (focus (simp; done)); clear hΨ hΨ' Ψ) | ((with_reducible apply evL_unmet); rfl; rfl; rfl; (try simp only [go_sem])) | ((with_reducible apply evL_grd); rfl; rfl; rfl; all_goals (intro hb; first | (cases hb; done) | ((try simp only [Bool.not_true, Bool.not_false] at hb); (first | ((with_reducible intro K hK); simp only [go_sem]; ((repeat (refine ndI (by first | assumption | omega | rfl) ?_)); refine hK _ ?_; clear hK K)) | ((fail_if_success (with_reducible intro _)); simp only [go_sem]))))) | ((with_reducible apply evC_cond); rfl; rfl; all_goals (intro hc; first | (cases hc; done) | (try simp only at hc))))))
  refine evC_loop (α := { p : Nat × Nat × Bool // p.1 ≤ l.length ∧ p.2.1 = (l.take p.1).sum % WW ∧ p.2.2 = decide (WW ≤ (l.take p.1).sum) }) (fun p => ⟨[wsl ex l, .any, .ptr 2 0, .any, .ptr 4 0, vb p.1.2.2, .any, .any, .any, .any, wsl ex l, vi .i64 l.length, vi .i64 p.1.1, .any, .any, .any, .any, .any, .any, .any, .any, .any, .any, .any, .any, .any, .any, .any, .any, .any], [(2, [vi .u64 0, vi .u64 0, vi .u64 0, vi .u64 0]), (4, [vi .u64 (l0 p.1.2.1), vi .u64 (l1 p.1.2.1), vi .u64 (l2 p.1.2.1), vi .u64 (l3 p.1.2.1)])]⟩) (fun p => l.length - p.1.1) ⟨(0, 0, false), Nat.zero_le _, by simp, by simp [WW]⟩ (St.le_of (by simp [leT]) (by simp [leH, hget, l0_zero, l1_zero, l2_zero, l3_zero])) ?_
  rintro ⟨⟨i, n, q⟩, hi, hn, hq⟩ Ψ hΨ hΨ'
  dsimp only at hi hn hq hΨ ⊢
  rcases Nat.lt_or_ge i l.length with hlt | hge
  · obtain ⟨y, hy⟩ : ∃ y, l[i]? = some y := ⟨l[i], List.getElem?_eq_getElem hlt⟩
    have k1 : (decide ((i : Int) < (l.length : Int))) = true := by simpa using hlt
    have k2 := wsl_at hy
    have k7 : (i : Int) + 1 = ((i + 1 : Nat) : Int) := by omega
    have hnw : n < WW := by rw [hn]; exact Nat.mod_lt _ hW
    have hyw := hw y (List.mem_of_getElem? hy)
    have ad := refadd_fn n y hnw hyw
    have hs : (l.take (i + 1)).sum = (l.take i).sum + y := by rw [List.take_add_one, hy]; simp
    have h1 : (n + y) % WW = (l.take (i + 1)).sum % WW := by rw [hs, hn, Nat.add_mod]; simp
    have h2 : (q || decide (WW ≤ n + y)) = decide (WW ≤ (l.take (i + 1)).sum) := by
      rw [Bool.eq_iff_iff, hq, hs]
      simp only [Bool.or_eq_true, decide_eq_true_eq]
      rcases Nat.lt_or_ge (l.take i).sum WW with h | h
      · rw [hn, Nat.mod_eq_of_lt h]; omega
      · omega
    obtain ⟨m, hm⟩ : ∃ m, (n + y) % WW = m := ⟨_, rfl⟩
    obtain ⟨b, hb⟩ : ∃ b, decide (WW ≤ n + y) = b := ⟨_, rfl⟩
    rw [hm, hb] at ad
    rw [hm] at h1
    rw [hb] at h2
    cases q with
    | true =>
      (have W := ndI k1 (ndI k2 (ndI k7 @wrI)); (repeat (any_goals (first | ((with_reducible refine evL_call ?_ ?_ ?_); rfl; rfl; intro K hK; ((apply opA_callB (ad); rfl; rfl; rfl; rfl; exact Tryz.func39); kernel_rfl; rfl; (simp (disch := omega) only [go_sem, W]; rfl); (first | rfl | simp [AV.inNL, AV.inN])); (simp (disch := omega) only [go_sem, W]; refine hK _ ?_; clear hK K)) | ((with_reducible refine evL_one ?_ ?_); rfl; intro K hK; simp (disch := omega) only [go_sem, W]; ((repeat (refine ndI (by first | assumption | omega | rfl) ?_)); refine hK _ ?_; clear hK K)) | (with_reducible first | (refine evL_nil ?_; refine hR _ ?_; clear hR R) | ((first | refine evC_seq ?_ | refine evC_block ?_); intro Ψ hΨ hΨ') | (refine evC_region ?_; intro R hR) | (refine hΨ _ ?_; clear hΨ hΨ' Ψ) | refine evC_skip ?_ | refine evC_ret ?_ | refine evC_exit ?_) | ((with_reducible refine hΨ' _ _ ?_ ?_); (focus (simp; done)); clear hΨ hΨ' Ψ) | ((with_reducible apply evL_unmet); rfl; rfl; rfl; (try simp (disch := omega) only [go_sem, W])) | ((with_reducible apply evL_grd); rfl; rfl; rfl; all_goals (intro hb; first | (cases hb; done) | ((try simp only [Bool.not_true, Bool.not_false] at hb); (first | ((with_reducible intro K hK); simp (disch := omega) only [go_sem, W]; ((repeat (refine ndI (by first | assumption | omega | rfl) ?_)); refine hK _ ?_; clear hK K)) | ((fail_if_success (with_reducible intro _)); simp (disch := omega) only [go_sem, W]))))) | ((with_reducible apply evC_cond); rfl; rfl; all_goals (intro hc; first | (cases hc; done) | (try simp only at hc)))))))
      exact hΨ _ ⟨(i + 1, m, true), hlt, h1, by simpa using h2⟩ (by simp only; omega) (St.le_of (by simp [leT]) (by simp [leH, hget]))
    | false =>
      (have W := ndI k1 (ndI k2 (ndI k7 @wrI)); (repeat (any_goals (first | ((with_reducible refine evL_call ?_ ?_ ?_); rfl; rfl; intro K hK; ((apply opA_callB (ad); rfl; rfl; rfl; rfl; exact Tryz.func39); kernel_rfl; rfl; (simp (disch := omega) only [go_sem, W]; rfl); (first | rfl | simp [AV.inNL, AV.inN])); (simp (disch := omega) only [go_sem, W]; refine hK _ ?_; clear hK K)) | ((with_reducible refine evL_one ?_ ?_); rfl; intro K hK; simp (disch := omega) only [go_sem, W]; ((repeat (refine ndI (by first | assumption | omega | rfl) ?_)); refine hK _ ?_; clear hK K)) | (with_reducible first | (refine evL_nil ?_; refine hR _ ?_; clear hR R) | ((first | refine evC_seq ?_ | refine evC_block ?_); intro Ψ hΨ hΨ') | (refine evC_region ?_; intro R hR) | (refine hΨ _ ?_; clear hΨ hΨ' Ψ) | refine evC_skip ?_ | refine evC_ret ?_ | refine evC_exit ?_) | ((with_reducible refine hΨ' _ _ ?_ ?_); (focus (simp; done)); clear hΨ hΨ' Ψ) | ((with_reducible apply evL_unmet); rfl; rfl; rfl; (try simp (disch := omega) only [go_sem, W])) | ((with_reducible apply evL_grd); rfl; rfl; rfl; all_goals (intro hb; first | (cases hb; done) | ((try simp only [Bool.not_true, Bool.not_false] at hb); (first | ((with_reducible intro K hK); simp (disch := omega) only [go_sem, W]; ((repeat (refine ndI (by first | assumption | omega | rfl) ?_)); refine hK _ ?_; clear hK K)) | ((fail_if_success (with_reducible intro _)); simp (disch := omega) only [go_sem, W]))))) | ((with_reducible apply evC_cond); rfl; rfl; all_goals (intro hc; first | (cases hc; done) | (try simp only at hc)))))))
      exact hΨ _ ⟨(i + 1, m, b), hlt, h1, by simpa using h2⟩ (by simp only; omega) (St.le_of (by simp [leT]) (by simp [leH, hget]))
  · have k1 : (decide ((i : Int) < (l.length : Int))) = false := by simpa using hge
    have e : l.take i = l := List.take_of_length_le hge
    rw [e, htn] at hn
    rw [e, htq] at hq
    rw [hn, hq]
    (repeat (any_goals (first | ((with_reducible refine evL_one ?_ ?_); rfl; intro K hK; simp only [go_sem, k1]; ((repeat (refine ndI (by first | assumption | omega | rfl) ?_)); refine hK _ ?_; clear hK K)) | (with_reducible first | (refine evL_nil ?_; refine hR _ ?_; clear hR R) | ((first | refine evC_seq ?_ | refine evC_block ?_); intro Ψ hΨ hΨ') | (refine evC_region ?_; intro R hR) | (refine hΨ _ ?_; clear hΨ hΨ' Ψ) | refine evC_skip ?_ | refine evC_ret ?_ | refine evC_exit ?_) | ((with_reducible refine hΨ' _ _ ?_ ?_); (focus (simp; done)); clear hΨ hΨ' Ψ) | ((with_reducible apply evL_unmet); rfl; rfl; rfl; (try simp only [go_sem, k1])) | ((with_reducible apply evL_grd); rfl; rfl; rfl; all_goals (intro hb; first | (cases hb; done) | ((try simp only [Bool.not_true, Bool.not_false] at hb); (first | ((with_reducible intro K hK); simp only [go_sem, k1]; ((repeat (refine ndI (by first | assumption | omega | rfl) ?_)); refine hK _ ?_; clear hK K)) | ((fail_if_success (with_reducible intro _)); simp only [go_sem, k1]))))) | ((with_reducible apply evC_cond); rfl; rfl; all_goals (intro hc; first | (cases hc; done) | (try simp only at hc))))))
    all_goals (refine ⟨by simp, ⟨_, ?_, AV.le_refl _⟩, leH_get (by simp [leH, hget])⟩; simp only [Tryz.results63, resL, ldA, oneOf, go_sem])
end Go.Proofs.YtgdnmdnhkhpieaaGreat
namespace Go.Proofs.YtgdnmdnhkhpieaaGreat
open Go.RowKit
open Nat (reduceBEq)
set_option maxRecDepth 20000
set_option maxHeartbeats 2000000
theorem okTo_no {st : List Pr} {i : Nat} (h : okTo st i = false) : ∀ j, i ≤ j → okTo st j = false
  | 0, hj => by
    obtain rfl : i = 0 := by omega
    exact h
  | j + 1, hj => by
    by_cases e : i = j + 1
    · rw [← e]; exact h
    · have := okTo_no h j (by omega)
      show (okTo st j && okP st j) = false
      rw [this]; rfl
theorem right_fn (x : Ac) (hs : ∀ p ∈ x.store, p.ok) : Fn Tryz.prog 55 [acA x] [] (vb (okAc x)) [] := by
  obtain ⟨a, b, n, code, store⟩ := x
  dsimp only at hs
  unfold okAc
  dsimp only
  obtain ⟨p1, e1⟩ : ∃ p, decide (a ≠ 0) = p := ⟨_, rfl⟩
  obtain ⟨p2, e2⟩ : ∃ p, decide (code.length ≤ 200) = p := ⟨_, rfl⟩
  obtain ⟨p3, e3⟩ : ∃ p, decide (store.length ≤ 24) = p := ⟨_, rfl⟩
  have f1 : (a == 0) = !p1 := by rw [← e1]; by_cases h : a = 0 <;> simp [h]
  have f2 : decide ((code.length : Int) > 200) = !p2 := by
    rw [← e2]
    by_cases h : code.length ≤ 200
    · rw [decide_eq_true h, decide_eq_false (by omega)]; rfl
    · rw [decide_eq_false h, decide_eq_true (by omega)]; rfl
  have f3 : decide ((store.length : Int) > 24) = !p3 := by
    rw [← e3]
    by_cases h : store.length ≤ 24
    · rw [decide_eq_true h, decide_eq_false (by omega)]; rfl
    · rw [decide_eq_false h, decide_eq_true (by omega)]; rfl
  rw [e1, e2, e3]
  by_cases hp : (p1 && p2 && p3) = true
  · rw [hp, Bool.true_and]
    simp only [Bool.and_eq_true] at hp
    obtain ⟨⟨rfl, rfl⟩, rfl⟩ := hp
    have hl24 : store.length ≤ 24 := of_decide_eq_true e3
    simp only [Bool.not_true] at f1 f2 f3
    obtain ⟨rr, hrr⟩ : ∃ r, okTo store store.length = r := ⟨_, rfl⟩
    rw [hrr]
    (refine fn_of Tryz.func55 rfl (by rfl) ?_; simp only [Tryz.ntmps55, List.length_cons, List.length_nil, Nat.reduceAdd, Nat.reduceSub, List.replicate, List.cons_append, List.nil_append])
    (have W := ndI f1 (ndI f2 f3); (repeat (any_goals (first | ((with_reducible refine evL_one ?_ ?_); rfl; intro K hK; simp only [go_sem, W]; ((repeat (refine ndI (by first | assumption | omega | rfl) ?_)); refine hK _ ?_; clear hK K)) | (with_reducible first | (refine evL_nil ?_; refine hR _ ?_; clear hR R) | ((first | refine evC_seq ?_ | refine evC_block ?_); intro Ψ hΨ hΨ') | (refine evC_region ?_; intro R hR) | (refine hΨ _ ?_; clear hΨ hΨ' Ψ) | refine evC_skip ?_ | refine evC_ret ?_ | refine evC_exit ?_) | ((with_reducible refine hΨ' _ _ ?_ ?_); (focus (simp; done)); clear hΨ hΨ' Ψ) | ((with_reducible apply evL_unmet); rfl; rfl; rfl; (try simp only [go_sem, W])) | ((with_reducible apply evL_grd); rfl; rfl; rfl; all_goals (intro hb; first | (cases hb; done) | ((try simp only [Bool.not_true, Bool.not_false] at hb); (first | ((with_reducible intro K hK); simp only [go_sem, W]; ((repeat (refine ndI (by first | assumption | omega | rfl) ?_)); refine hK _ ?_; clear hK K)) | ((fail_if_success (with_reducible intro _)); simp only [go_sem, W]))))) | ((with_reducible apply evC_cond); rfl; rfl; all_goals (intro hc; first | (cases hc; done) | (try simp only at hc))) | ((with_reducible refine evD_nil ?_ ?_); kernel_rfl; (with_reducible refine hR _ ?_); clear hR R) | ((first | ((with_reducible apply evD_skip); rfl; rfl; rfl; rfl) | ((with_reducible apply evD_unmet); rfl; rfl; rfl) | ((first | ((with_reducible apply evD_any); rfl; rfl) | ((with_reducible apply evD_gany); rfl; rfl; rfl; rfl; rfl)); (simp only [rdE, rdOf, go_sem, W]; rfl); (intro τ hA hQ hN; ((try simp only [agree, Op.operands, Call.operands, go_sem, W, go_sem, List.mem_cons, List.not_mem_nil, forall_eq_or_imp, forall_eq, List.append_toArray, Option.toArray] at hA); (try simp only [go_sem, W, List.mem_cons, List.not_mem_nil, forall_eq_or_imp, forall_eq] at hQ hN); (first | (revert hA; intro hA) | have hA := trivial); (first | (revert hQ; intro hQ) | have hQ := trivial); (first | (revert hN; intro hN) | have hN := trivial); simp only [go_sem, W, go_sem, hA, hQ, hN]; (repeat (refine ndI (by first | assumption | omega | rfl) ?_)); (first | apply eff_rd | apply eff_st | apply eff_nw))))); (simp only [St.eff, setO, hputs, go_sem, W])) | ((with_reducible apply evD_split); rfl; rfl; rfl; all_goals intro hb; all_goals (simp only [St.eff, setO, hputs, go_sem, W])) | ((with_reducible refine evC_draw ?_ ?_ ?_ ?_); kernel_rfl; kernel_rfl; (first | kernel_rfl | simp [newNames, isNew, St.free, freeH, AV.refsL, AV.refs]); intro R hR)))))
    refine evC_loop (α := { i : Nat // i ≤ store.length ∧ okTo store i = true }) (fun x => ⟨[.any, .ptr 1 0, vb false, .any, .any, .any, .any, .any, .any, .any, .any, .any, .any, .any, .any, .any, .any, .any, .any, .any, .any, .c (psV store), vi .i64 store.length, vi .i64 (x.1 : Int), .any, .any, .any, .any, .any, .any, .any, .any, .any, .any, .any, .any, .any, .any, .any, .any, .any, .any, .any, .any, .any, .any, .any, .any, .any, .any], [(1, ac8 a b n (bsV code) (psV store))]⟩) (fun x => store.length - x.1) ⟨0, Nat.zero_le _, rfl⟩ (St.le_of (by simp [leT]) (by simp [leH, hget])) ?_
    rintro ⟨i, hi, hok⟩ Ψ hΨ hΨ'
    (try dsimp only at hΨ ⊢)
    have k7 : (i : Int) + 1 = ((i + 1 : Nat) : Int) := by omega
    rcases Nat.lt_or_ge i store.length with hlt | hge
    · obtain ⟨p, hp⟩ : ∃ p, store[i]? = some p := ⟨_, List.getElem?_eq_getElem hlt⟩
      have k1 : (decide ((i : Int) < (store.length : Int))) = true := decide_eq_true (by omega)
      have k2 := ps_at hp
      have hv := zero_dec (hs p (List.mem_of_getElem? hp)).2
      obtain ⟨q1, hq1⟩ : ∃ q, decide (p.v ≠ 0) = q := ⟨_, rfl⟩
      rw [hq1] at hv
      have hnx : okTo store (i + 1) = okP store i := by show (okTo store i && okP store i) = _; rw [hok, Bool.true_and]
      have hno : okP store i = false → rr = false := fun h => by
        rw [← hrr]
        exact okTo_no (by rw [hnx]; exact h) store.length hlt
      have hΨ1 := fun (h : okP store i = true) σ' => hΨ σ' ⟨i + 1, hlt, by rw [hnx]; exact h⟩ (by dsimp only; omega)
      dsimp only at hΨ1
      rcases Nat.eq_zero_or_pos i with h0 | h0
      · have n3 : (decide ((i : Int) > 0)) = false := by simp; omega
        have hok' : okP store i = q1 := by
          rw [h0] at hp ⊢
          rw [okP_zero hp, hq1]
        rw [hok'] at hno hΨ1
        cases q1
        all_goals simp only [Bool.not_true, Bool.not_false] at hv
        all_goals first | (have hrf := hno rfl; clear hΨ1) | skip
        all_goals (have W := ndI k1 (ndI k2 (ndI k7 (ndI n3 @wrI))); (repeat (any_goals (first | ((with_reducible refine evL_one ?_ ?_); rfl; intro K hK; simp (disch := omega) only [go_sem, W, hv]; ((repeat (refine ndI (by first | assumption | omega | rfl) ?_)); refine hK _ ?_; clear hK K)) | (with_reducible first | (refine evL_nil ?_; refine hR _ ?_; clear hR R) | ((first | refine evC_seq ?_ | refine evC_block ?_); intro Ψ hΨ hΨ') | (refine evC_region ?_; intro R hR) | (refine hΨ _ ?_; clear hΨ hΨ' Ψ) | refine evC_skip ?_ | refine evC_ret ?_ | refine evC_exit ?_) | ((with_reducible refine hΨ' _ _ ?_ ?_); (focus (simp; done)); clear hΨ hΨ' Ψ) | ((with_reducible apply evL_unmet); rfl; rfl; rfl; (try simp (disch := omega) only [go_sem, W, hv])) | ((with_reducible apply evL_grd); rfl; rfl; rfl; all_goals (intro hb; first | (cases hb; done) | ((try simp only [Bool.not_true, Bool.not_false] at hb); (first | ((with_reducible intro K hK); simp (disch := omega) only [go_sem, W, hv]; ((repeat (refine ndI (by first | assumption | omega | rfl) ?_)); refine hK _ ?_; clear hK K)) | ((fail_if_success (with_reducible intro _)); simp (disch := omega) only [go_sem, W, hv]))))) | ((with_reducible apply evC_cond); rfl; rfl; all_goals (intro hc; first | (cases hc; done) | (try simp only at hc))) | ((with_reducible refine evD_nil ?_ ?_); kernel_rfl; (with_reducible refine hR _ ?_); clear hR R) | ((first | ((with_reducible apply evD_skip); rfl; rfl; rfl; rfl) | ((with_reducible apply evD_unmet); rfl; rfl; rfl) | ((first | ((with_reducible apply evD_any); rfl; rfl) | ((with_reducible apply evD_gany); rfl; rfl; rfl; rfl; rfl)); (simp (disch := omega) only [rdE, rdOf, go_sem, W, hv]; rfl); (intro τ hA hQ hN; ((try simp only [agree, Op.operands, Call.operands, go_sem, W, hv, go_sem, List.mem_cons, List.not_mem_nil, forall_eq_or_imp, forall_eq, List.append_toArray, Option.toArray] at hA); (try simp only [go_sem, W, hv, List.mem_cons, List.not_mem_nil, forall_eq_or_imp, forall_eq] at hQ hN); (first | (revert hA; intro hA) | have hA := trivial); (first | (revert hQ; intro hQ) | have hQ := trivial); (first | (revert hN; intro hN) | have hN := trivial); simp (disch := omega) only [go_sem, W, hv, go_sem, hA, hQ, hN]; (repeat (refine ndI (by first | assumption | omega | rfl) ?_)); (first | apply eff_rd | apply eff_st | apply eff_nw))))); (simp (disch := omega) only [St.eff, setO, hputs, go_sem, W, hv])) | ((with_reducible apply evD_split); rfl; rfl; rfl; all_goals intro hb; all_goals (simp (disch := omega) only [St.eff, setO, hputs, go_sem, W, hv])) | ((with_reducible refine evC_draw ?_ ?_ ?_ ?_); kernel_rfl; kernel_rfl; (first | kernel_rfl | simp [newNames, isNew, St.free, freeH, AV.refsL, AV.refs]); intro R hR)))))
        all_goals first | exact hΨ1 rfl _ (St.le_of (by simp [leT]) (by simp [leH, hget])) | (rw [hrf]; (refine ⟨by simp, ⟨_, ?_, AV.le_refl _⟩, leH_get (by simp [leH, hget])⟩; simp only [Tryz.results55, resL, ldA, oneOf, go_sem]))
      · obtain ⟨j, hj⟩ : ∃ j, i = j + 1 := ⟨i - 1, by omega⟩
        obtain ⟨q, hq⟩ : ∃ q, store[j]? = some q := ⟨_, List.getElem?_eq_getElem (by omega)⟩
        have n3 : (decide ((i : Int) > 0)) = true := by simp; omega
        have n4 := ps_at hq
        have n5 : (i : Int) - 1 = (j : Int) := by omega
        have hjl : j < store.length := by omega
        have cm := refcmp_fn q.k p.k (hs q (List.mem_of_getElem? hq)).1 (hs p (List.mem_of_getElem? hp)).1
        obtain ⟨q2, hq2⟩ : ∃ c, decide (q.k < p.k) = c := ⟨_, rfl⟩
        have hok' : okP store i = (q1 && q2) := by
          rw [hj] at hp ⊢
          rw [okP_succ hq hp, hq1, hq2]
        rw [hok'] at hno hΨ1
        obtain ⟨cv, hcv, hcd⟩ : ∃ cv : Int, cmpN q.k p.k = cv ∧ decide (cv ≥ 0) = !q2 := by
          refine ⟨_, rfl, ?_⟩
          rw [← hq2]
          unfold cmpN
          by_cases h : q.k < p.k
          · rw [if_pos h, decide_eq_true h]; rfl
          · rw [if_neg h, decide_eq_false h]; split <;> rfl
        rw [hcv] at cm
        cases q1 <;> cases q2
        all_goals simp only [Bool.not_true, Bool.not_false] at hv hcd
        all_goals first | (have hrf := hno rfl; clear hΨ1) | skip
        all_goals (have W := ndI k1 (ndI k2 (ndI k7 (ndI n3 (ndI n4 (ndI n5 @wrI))))); (repeat (any_goals (first | ((with_reducible refine evL_one ?_ ?_); rfl; intro K hK; simp (disch := omega) only [go_sem, W, hv, hcd]; ((repeat (refine ndI (by first | assumption | omega | rfl) ?_)); refine hK _ ?_; clear hK K)) | (with_reducible first | (refine evL_nil ?_; refine hR _ ?_; clear hR R) | ((first | refine evC_seq ?_ | refine evC_block ?_); intro Ψ hΨ hΨ') | (refine evC_region ?_; intro R hR) | (refine hΨ _ ?_; clear hΨ hΨ' Ψ) | refine evC_skip ?_ | refine evC_ret ?_ | refine evC_exit ?_) | ((with_reducible refine hΨ' _ _ ?_ ?_); (focus (simp; done)); clear hΨ hΨ' Ψ) | ((with_reducible apply evL_unmet); rfl; rfl; rfl; (try simp (disch := omega) only [go_sem, W, hv, hcd])) | ((with_reducible apply evL_grd); rfl; rfl; rfl; all_goals (intro hb; first | (cases hb; done) | ((try simp only [Bool.not_true, Bool.not_false] at hb); (first | ((with_reducible intro K hK); simp (disch := omega) only [go_sem, W, hv, hcd]; ((repeat (refine ndI (by first | assumption | omega | rfl) ?_)); refine hK _ ?_; clear hK K)) | ((fail_if_success (with_reducible intro _)); simp (disch := omega) only [go_sem, W, hv, hcd]))))) | ((with_reducible apply evC_cond); rfl; rfl; all_goals (intro hc; first | (cases hc; done) | (try simp only at hc))) | ((with_reducible refine evD_nil ?_ ?_); kernel_rfl; (with_reducible refine hR _ ?_); clear hR R) | ((first | ((with_reducible apply evD_skip); rfl; rfl; rfl; rfl) | ((with_reducible apply evD_unmet); rfl; rfl; rfl) | ((first | ((with_reducible apply evD_fcall); rfl; rfl) | ((with_reducible apply evD_gcall); rfl; rfl; rfl; rfl; rfl)); ((apply opF_callB (cm); rfl; rfl; rfl; rfl; exact Tryz.func80); kernel_rfl; rfl; (simp (disch := omega) only [go_sem, W, hv, hcd]; rfl); (first | rfl | simp [AV.inNL, AV.inN]))) | ((first | ((with_reducible apply evD_any); rfl; rfl) | ((with_reducible apply evD_gany); rfl; rfl; rfl; rfl; rfl)); (simp (disch := omega) only [rdE, rdOf, go_sem, W, hv, hcd]; rfl); (intro τ hA hQ hN; ((try simp only [agree, Op.operands, Call.operands, go_sem, W, hv, hcd, go_sem, List.mem_cons, List.not_mem_nil, forall_eq_or_imp, forall_eq, List.append_toArray, Option.toArray] at hA); (try simp only [go_sem, W, hv, hcd, List.mem_cons, List.not_mem_nil, forall_eq_or_imp, forall_eq] at hQ hN); (first | (revert hA; intro hA) | have hA := trivial); (first | (revert hQ; intro hQ) | have hQ := trivial); (first | (revert hN; intro hN) | have hN := trivial); simp (disch := omega) only [go_sem, W, hv, hcd, go_sem, hA, hQ, hN]; (repeat (refine ndI (by first | assumption | omega | rfl) ?_)); (first | apply eff_rd | apply eff_st | apply eff_nw))))); (simp (disch := omega) only [St.eff, setO, hputs, go_sem, W, hv, hcd])) | ((with_reducible apply evD_split); rfl; rfl; rfl; all_goals intro hb; all_goals (simp (disch := omega) only [St.eff, setO, hputs, go_sem, W, hv, hcd])) | ((with_reducible refine evC_draw ?_ ?_ ?_ ?_); kernel_rfl; kernel_rfl; (first | kernel_rfl | simp [newNames, isNew, St.free, freeH, AV.refsL, AV.refs]); intro R hR)))))
        all_goals first | exact hΨ1 rfl _ (St.le_of (by simp [leT]) (by simp [leH, hget])) | (rw [hrf]; (refine ⟨by simp, ⟨_, ?_, AV.le_refl _⟩, leH_get (by simp [leH, hget])⟩; simp only [Tryz.results55, resL, ldA, oneOf, go_sem]))
    · have k1 : (decide ((i : Int) < (store.length : Int))) = false := decide_eq_false (by omega)
      have e : i = store.length := by omega
      have hrt : rr = true := by rw [← hrr, ← e]; exact hok
      (repeat (any_goals (first | ((with_reducible refine evL_one ?_ ?_); rfl; intro K hK; simp only [go_sem, k1]; ((repeat (refine ndI (by first | assumption | omega | rfl) ?_)); refine hK _ ?_; clear hK K)) | (with_reducible first | (refine evL_nil ?_; refine hR _ ?_; clear hR R) | ((first | refine evC_seq ?_ | refine evC_block ?_); intro Ψ hΨ hΨ') | (refine evC_region ?_; intro R hR) | (refine hΨ _ ?_; clear hΨ hΨ' Ψ) | refine evC_skip ?_ | refine evC_ret ?_ | refine evC_exit ?_) | ((with_reducible refine hΨ' _ _ ?_ ?_); (focus (simp; done)); clear hΨ hΨ' Ψ) | ((with_reducible apply evL_unmet); rfl; rfl; rfl; (try simp only [go_sem, k1])) | ((with_reducible apply evL_grd); rfl; rfl; rfl; all_goals (intro hb; first | (cases hb; done) | ((try simp only [Bool.not_true, Bool.not_false] at hb); (first | ((with_reducible intro K hK); simp only [go_sem, k1]; ((repeat (refine ndI (by first | assumption | omega | rfl) ?_)); refine hK _ ?_; clear hK K)) | ((fail_if_success (with_reducible intro _)); simp only [go_sem, k1]))))) | ((with_reducible apply evC_cond); rfl; rfl; all_goals (intro hc; first | (cases hc; done) | (try simp only at hc))) | ((with_reducible refine evD_nil ?_ ?_); kernel_rfl; (with_reducible refine hR _ ?_); clear hR R) | ((first | ((with_reducible apply evD_skip); rfl; rfl; rfl; rfl) | ((with_reducible apply evD_unmet); rfl; rfl; rfl) | ((first | ((with_reducible apply evD_any); rfl; rfl) | ((with_reducible apply evD_gany); rfl; rfl; rfl; rfl; rfl)); (simp only [rdE, rdOf, go_sem, k1]; rfl); (intro τ hA hQ hN; ((try simp only [agree, Op.operands, Call.operands, go_sem, k1, go_sem, List.mem_cons, List.not_mem_nil, forall_eq_or_imp, forall_eq, List.append_toArray, Option.toArray] at hA); (try simp only [go_sem, k1, List.mem_cons, List.not_mem_nil, forall_eq_or_imp, forall_eq] at hQ hN); (first | (revert hA; intro hA) | have hA := trivial); (first | (revert hQ; intro hQ) | have hQ := trivial); (first | (revert hN; intro hN) | have hN := trivial); simp only [go_sem, k1, go_sem, hA, hQ, hN]; (repeat (refine ndI (by first | assumption | omega | rfl) ?_)); (first | apply eff_rd | apply eff_st | apply eff_nw))))); (simp only [St.eff, setO, hputs, go_sem, k1])) | ((with_reducible apply evD_split); rfl; rfl; rfl; all_goals intro hb; all_goals (simp only [St.eff, setO, hputs, go_sem, k1])) | ((with_reducible refine evC_draw ?_ ?_ ?_ ?_); kernel_rfl; kernel_rfl; (first | kernel_rfl | simp [newNames, isNew, St.free, freeH, AV.refsL, AV.refs]); intro R hR))))
      all_goals rw [hrt]
      all_goals (refine ⟨by simp, ⟨_, ?_, AV.le_refl _⟩, leH_get (by simp [leH, hget])⟩; simp only [Tryz.results55, resL, ldA, oneOf, go_sem])
  · have hpf : (p1 && p2 && p3) = false := by simpa using hp
    rw [hpf, Bool.false_and]
    clear e1 e2 e3 hp
    cases p1 <;> cases p2 <;> cases p3
    all_goals first | (cases hpf; done) | skip
    all_goals simp only [Bool.not_true, Bool.not_false] at f1 f2 f3
    all_goals (refine fn_of Tryz.func55 rfl (by rfl) ?_; simp only [Tryz.ntmps55, List.length_cons, List.length_nil, Nat.reduceAdd, Nat.reduceSub, List.replicate, List.cons_append, List.nil_append])
    all_goals (have W := ndI f1 (ndI f2 f3); (repeat (any_goals (first | ((with_reducible refine evL_one ?_ ?_); rfl; intro K hK; simp only [go_sem, W]; ((repeat (refine ndI (by first | assumption | omega | rfl) ?_)); refine hK _ ?_; clear hK K)) | (with_reducible first | (refine evL_nil ?_; refine hR _ ?_; clear hR R) | ((first | refine evC_seq ?_ | refine evC_block ?_); intro Ψ hΨ hΨ') | (refine evC_region ?_; intro R hR) | (refine hΨ _ ?_; clear hΨ hΨ' Ψ) | refine evC_skip ?_ | refine evC_ret ?_ | refine evC_exit ?_) | ((with_reducible refine hΨ' _ _ ?_ ?_); (focus (simp; done)); clear hΨ hΨ' Ψ) | ((with_reducible apply evL_unmet); rfl; rfl; rfl; (try simp only [go_sem, W])) | ((with_reducible apply evL_grd); rfl; rfl; rfl; all_goals (intro hb; first | (cases hb; done) | ((try simp only [Bool.not_true, Bool.not_false] at hb); (first | ((with_reducible intro K hK); simp only [go_sem, W]; ((repeat (refine ndI (by first | assumption | omega | rfl) ?_)); refine hK _ ?_; clear hK K)) | ((fail_if_success (with_reducible intro _)); simp only [go_sem, W]))))) | ((with_reducible apply evC_cond); rfl; rfl; all_goals (intro hc; first | (cases hc; done) | (try simp only at hc))) | ((with_reducible refine evD_nil ?_ ?_); kernel_rfl; (with_reducible refine hR _ ?_); clear hR R) | ((first | ((with_reducible apply evD_skip); rfl; rfl; rfl; rfl) | ((with_reducible apply evD_unmet); rfl; rfl; rfl) | ((first | ((with_reducible apply evD_any); rfl; rfl) | ((with_reducible apply evD_gany); rfl; rfl; rfl; rfl; rfl)); (simp only [rdE, rdOf, go_sem, W]; rfl); (intro τ hA hQ hN; ((try simp only [agree, Op.operands, Call.operands, go_sem, W, go_sem, List.mem_cons, List.not_mem_nil, forall_eq_or_imp, forall_eq, List.append_toArray, Option.toArray] at hA); (try simp only [go_sem, W, List.mem_cons, List.not_mem_nil, forall_eq_or_imp, forall_eq] at hQ hN); (first | (revert hA; intro hA) | have hA := trivial); (first | (revert hQ; intro hQ) | have hQ := trivial); (first | (revert hN; intro hN) | have hN := trivial); simp only [go_sem, W, go_sem, hA, hQ, hN]; (repeat (refine ndI (by first | assumption | omega | rfl) ?_)); (first | apply eff_rd | apply eff_st | apply eff_nw))))); (simp only [St.eff, setO, hputs, go_sem, W])) | ((with_reducible apply evD_split); rfl; rfl; rfl; all_goals intro hb; all_goals (simp only [St.eff, setO, hputs, go_sem, W])) | ((with_reducible refine evC_draw ?_ ?_ ?_ ?_); kernel_rfl; kernel_rfl; (first | kernel_rfl | simp [newNames, isNew, St.free, freeH, AV.refsL, AV.refs]); intro R hR)))))
    all_goals (refine ⟨by simp, ⟨_, ?_, AV.le_refl _⟩, leH_get (by simp [leH, hget])⟩; simp only [Tryz.results55, resL, ldA, oneOf, go_sem])
end Go.Proofs.YtgdnmdnhkhpieaaGreat
namespace Go.Proofs.YtgdnmdnhkhpieaaGreat
open Go.RowKit
set_option maxRecDepth 20000
set_option maxHeartbeats 2000000
instance decPr : DecidableEq Pr := fun p q => decidable_of_iff (p.k = q.k ∧ p.v = q.v) ⟨fun h => by cases p; cases q; simp_all, fun h => by rw [h]; exact ⟨rfl, rfl⟩⟩
theorem pr_eq {p q : Pr} (hp : p.ok) (hq : q.ok) : (l0 p.k == l0 q.k && (l1 p.k == l1 q.k && (l2 p.k == l2 q.k && (l3 p.k == l3 q.k && (l0 p.v == l0 q.v && (l1 p.v == l1 q.v && (l2 p.v == l2 q.v && l3 p.v == l3 q.v))))))) = decide (p = q) := by
  have h1 := wN_eq hp.1 hq.1
  have h2 := wN_eq hp.2 hq.2
  have e : (l0 p.k == l0 q.k && (l1 p.k == l1 q.k && (l2 p.k == l2 q.k && (l3 p.k == l3 q.k && (l0 p.v == l0 q.v && (l1 p.v == l1 q.v && (l2 p.v == l2 q.v && l3 p.v == l3 q.v))))))) = ((l0 p.k == l0 q.k && (l1 p.k == l1 q.k && (l2 p.k == l2 q.k && l3 p.k == l3 q.k))) && (l0 p.v == l0 q.v && (l1 p.v == l1 q.v && (l2 p.v == l2 q.v && l3 p.v == l3 q.v)))) := by simp only [Bool.and_assoc]
  rw [e, h1, h2, ← Bool.decide_and]
  exact decide_eq_decide.2 ⟨fun h => by cases p; cases q; simp_all, fun h => by rw [h]; exact ⟨rfl, rfl⟩⟩
end Go.Proofs.YtgdnmdnhkhpieaaGreat
namespace Go.Proofs.YtgdnmdnhkhpieaaGreat
open Go.RowKit
set_option maxRecDepth 20000
set_option maxHeartbeats 2000000
theorem ac_ext {x y : Ac} (h : x.a = y.a ∧ x.b = y.b ∧ x.n = y.n ∧ x.code = y.code ∧ x.store = y.store) : x = y := by
  obtain ⟨a, b, n, c, s⟩ := x
  obtain ⟨a', b', n', c', s'⟩ := y
  obtain ⟨h1, h2, h3, h4, h5⟩ := h
  dsimp only at h1 h2 h3 h4 h5
  subst h1 h2 h3 h4 h5
  rfl
instance decAc : DecidableEq Ac := fun x y => decidable_of_iff (x.a = y.a ∧ x.b = y.b ∧ x.n = y.n ∧ x.code = y.code ∧ x.store = y.store) ⟨ac_ext, fun h => by rw [h]; exact ⟨rfl, rfl, rfl, rfl, rfl⟩⟩
def RisesS (L : List Ac) : Prop := L.Pairwise fun x y => x.a < y.a
theorem okS_every {q : Bool} {L : List Ac} : ∀ {i : Nat}, okS q L i = true → ∀ j, j < i → okS1 L j = true
  | 0, _, j, hj => by omega
  | i + 1, h, j, hj => by
    unfold okS at h
    rw [Bool.and_eq_true] at h
    by_cases e : j = i
    · rw [e]; exact h.2
    · exact okS_every h.1 j (by omega)
theorem okSt_full {L : List Ac} (h : okSt L = true) {y : Ac} (hy : y ∈ L) : emptyA y = false := by
  obtain ⟨j, hj⟩ := List.mem_iff_getElem?.1 hy
  have := okS_every h j (List.getElem?_eq_some_iff.1 hj).1
  unfold okS1 at this
  rw [hj] at this
  simp only [Bool.and_eq_true, Bool.not_eq_true'] at this
  exact this.1.2
theorem okSt_rises {L : List Ac} (h : okSt L = true) : RisesS L := by
  have step : ∀ j (hj : j + 1 < L.length), L[j].a < L[j + 1].a := fun j hj => by
    have := okS_every h (j + 1) hj
    rw [okS1_succ (List.getElem?_eq_getElem (by omega)) (List.getElem?_eq_getElem hj)] at this
    simp only [Bool.and_eq_true, decide_eq_true_eq] at this
    exact this.2
  have key : ∀ d i (hi : i + d + 1 < L.length), L[i].a < L[i + d + 1].a := fun d => by
    induction d with
    | zero => exact fun i hi => step i hi
    | succ d ih => exact fun i hi => Int.lt_trans (ih i (by omega)) (step (i + d + 1) hi)
  unfold RisesS
  rw [List.pairwise_iff_getElem]
  intro i j hi hj hij
  have := key (j - i - 1) i (by omega)
  simpa [show i + (j - i - 1) + 1 = j by omega] using this
theorem ltA_eq {L : List Ac} {a : Int} {i : Nat} (hi : i < L.length) : ltA L a i = decide (L[i].a < a) := by
  unfold ltA
  rw [List.getElem?_eq_getElem hi]
  refine decide_eq_decide.2 ?_
  unfold cmpI
  by_cases h : L[i].a < a
  · rw [if_pos h]; exact ⟨fun _ => h, fun _ => by decide⟩
  · rw [if_neg h]
    constructor
    · intro h2; split at h2 <;> omega
    · exact fun h2 => absurd h2 h
end Go.Proofs.YtgdnmdnhkhpieaaGreat
namespace Go.Proofs.YtgdnmdnhkhpieaaGreat
open Go.RowKit
theorem posS_parts {L : List Ac} (hr : RisesS L) (a : Int) : Parts Ac.a L a (posS L a) := bsr_parts (key := Ac.a) hr fun i h => ltA_eq h
theorem isS_fnd {L : List Ac} (hr : RisesS L) (a : Int) : isS L a = (fnd Ac.a a L).isSome := by
  rw [parts_fnd hr (posS_parts hr a)]
  unfold isS eqA
  cases L[posS L a]? with
  | none => rfl
  | some z =>
    simp only [Option.filter_some, decide_eq_true_eq]
    unfold cmpI
    by_cases h : z.a = a
    · rw [if_pos h, if_neg (by omega), if_neg (by omega)]; rfl
    · rw [if_neg h]
      by_cases h2 : z.a < a
      · rw [if_pos h2]; rfl
      · rw [if_neg h2, if_pos (by omega)]; rfl
theorem ofS_fnd {L : List Ac} (hr : RisesS L) (a : Int) : ofS L a = (fnd Ac.a a L).getD ⟨a, 0, 0, [], []⟩ := by
  have h := isS_fnd hr a
  unfold ofS
  cases hf : fnd Ac.a a L with
  | none => rw [hf] at h; rw [h]; rfl
  | some z =>
    rw [hf] at h
    rw [h]
    show (L[posS L a]?).getD _ = z
    rw [parts_fnd hr (posS_parts hr a)] at hf
    cases hz : L[posS L a]? with
    | none => rw [hz] at hf; cases hf
    | some w =>
      rw [hz] at hf
      rw [Option.filter_some] at hf
      split at hf
      · cases hf; rfl
      · cases hf
def FullS (L : List Ac) : Prop := ∀ x ∈ L, okAc x = true ∧ emptyA x = false
theorem okS_of {q : Bool} {L : List Ac} : ∀ {i : Nat}, q = true → (∀ j, j < i → okS1 L j = true) → okS q L i = true
  | 0, hq, _ => hq
  | i + 1, hq, h => by
    unfold okS
    rw [okS_of hq fun j hj => h j (by omega), h i (by omega)]; rfl
theorem okS_q {q : Bool} {L : List Ac} : ∀ {i : Nat}, okS q L i = true → q = true
  | 0, h => h
  | i + 1, h => by
    unfold okS at h
    rw [Bool.and_eq_true] at h
    exact okS_q h.1
theorem okSt_iff {L : List Ac} : okSt L = true ↔ RisesS L ∧ FullS L ∧ (L.map Ac.b).sum < WW ∧ manyL L ≤ 24 := by
  constructor
  · intro h
    have := okS_q h
    simp only [Bool.and_eq_true, Bool.not_eq_true', decide_eq_true_eq, decide_eq_false_iff_not] at this
    exact ⟨okSt_rises h, fun x hx => ⟨okSt_ac h x hx, okSt_full h hx⟩, by omega, this.2⟩
  · rintro ⟨h1, h2, h3, h4⟩
    refine okS_of (by simp only [Bool.and_eq_true, Bool.not_eq_true', decide_eq_true_eq, decide_eq_false_iff_not]; exact ⟨by omega, h4⟩) fun j hj => ?_
    have hp := List.pairwise_iff_getElem.1 h1
    have hf := h2 L[j] (List.getElem_mem hj)
    cases j with
    | zero => rw [okS1_zero (List.getElem?_eq_getElem hj), hf.1, hf.2]; rfl
    | succ j =>
      rw [okS1_succ (List.getElem?_eq_getElem (by omega)) (List.getElem?_eq_getElem hj), hf.1, hf.2]
      simpa using hp j (j + 1) (by omega) hj (by omega)
end Go.Proofs.YtgdnmdnhkhpieaaGreat
namespace Go.Proofs.YtgdnmdnhkhpieaaGreat
open Go.RowKit
open Nat (reduceBEq)
set_option maxRecDepth 20000
set_option maxHeartbeats 2000000
theorem rmany_fn (ex : Bool) (L : List Ac) (hL : L.length ≤ maxLen) : Fn Tryz.prog 57 [acS ex L] [] (vi .i64 (manyL L : Nat)) [] := by
  unfold manyL
  (refine fn_of Tryz.func57 rfl (by rfl) ?_; simp only [Tryz.ntmps57, List.length_cons, List.length_nil, Nat.reduceAdd, Nat.reduceSub, List.replicate, List.cons_append, List.nil_append])
  (repeat (any_goals (first | ((with_reducible refine evL_one ?_ ?_); rfl; intro K hK; simp only [go_sem]; ((repeat (refine ndI (by first | assumption | omega | rfl) ?_)); refine hK _ ?_; clear hK K)) | (with_reducible first | (refine evL_nil ?_; refine hR _ ?_; clear hR R) | ((first | refine evC_seq ?_ | refine evC_block ?_); intro Ψ hΨ hΨ') | (refine evC_region ?_; intro R hR) | (refine hΨ _ ?_; clear hΨ hΨ' Ψ) | refine evC_skip ?_ | refine evC_ret ?_ | refine evC_exit ?_) | ((with_reducible refine hΨ' _ _ ?_ ?_); (focus (simp; done)); clear hΨ hΨ' Ψ) | ((with_reducible apply evC_cond); rfl; rfl; all_goals (intro hc; first | (cases hc; done) | (try simp only at hc))))))
  refine evC_upto L.length (fun i => ⟨[.any, .any, .any, vi .i64 (((L.take i).filter fun x => decide (16 ≤ x.a)).length : Nat), .any, .any, acS ex L, vi .i64 L.length, vi .i64 (i : Int), .any, .any, .any, .any, .any, .any, .any, .any, .any, .any], []⟩) (St.le_of (by simp [leT]) (by simp [leH, hget])) ?_
  intro i hi Ψ hΨ hΨ'
  (try dsimp only at hΨ ⊢)
  have k8 : L.length < 9223372036854775808 := Nat.lt_succ_of_le hL
  rcases Nat.lt_or_ge i L.length with hlt | hge
  · obtain ⟨x, hx⟩ : ∃ x, L[i]? = some x := ⟨_, List.getElem?_eq_getElem hlt⟩
    have k1 : (decide ((i : Int) < (L.length : Int))) = true := decide_eq_true (by omega)
    have k2 := ac_at hx
    have k7 : (i : Int) + 1 = ((i + 1 : Nat) : Int) := by omega
    have k3 : ((L.take (i + 1)).filter fun x => decide (16 ≤ x.a)) = ((L.take i).filter fun x => decide (16 ≤ x.a)) ++ (if decide (16 ≤ x.a) then [x] else []) := by
      rw [List.take_add_one, hx, List.filter_append]; simp [List.filter_cons]
    have k5 : ((L.take i).filter fun x => decide (16 ≤ x.a)).length ≤ i := Nat.le_trans (List.length_filter_le _ _) (by rw [List.length_take]; omega)
    rw [k3, List.length_append] at hΨ
    generalize ((L.take i).filter fun x => decide (16 ≤ x.a)).length = c at hΨ k5 ⊢
    have k6 : (c : Int) + 1 = ((c + 1 : Nat) : Int) := by omega
    cases hq : decide (16 ≤ x.a)
    all_goals rw [hq] at hΨ
    all_goals (have W := ndI k1 (ndI k2 (ndI k6 (ndI k7 @wrI))); (repeat (any_goals (first | ((with_reducible refine evL_one ?_ ?_); rfl; intro K hK; simp (disch := omega) only [go_sem, W, hq]; ((repeat (refine ndI (by first | assumption | omega | rfl) ?_)); refine hK _ ?_; clear hK K)) | (with_reducible first | (refine evL_nil ?_; refine hR _ ?_; clear hR R) | ((first | refine evC_seq ?_ | refine evC_block ?_); intro Ψ hΨ hΨ') | (refine evC_region ?_; intro R hR) | (refine hΨ _ ?_; clear hΨ hΨ' Ψ) | refine evC_skip ?_ | refine evC_ret ?_ | refine evC_exit ?_) | ((with_reducible refine hΨ' _ _ ?_ ?_); (focus (simp; done)); clear hΨ hΨ' Ψ) | ((with_reducible apply evC_cond); rfl; rfl; all_goals (intro hc; first | (cases hc; done) | (try simp only at hc)))))))
    all_goals exact hΨ _ hlt (St.le_of (by simp [leT]) (by simp [leH, hget]))
  · have k1 : (decide ((i : Int) < (L.length : Int))) = false := decide_eq_false (by omega)
    rw [List.take_of_length_le hge]
    (repeat (any_goals (first | ((with_reducible refine evL_one ?_ ?_); rfl; intro K hK; simp only [go_sem, k1]; ((repeat (refine ndI (by first | assumption | omega | rfl) ?_)); refine hK _ ?_; clear hK K)) | (with_reducible first | (refine evL_nil ?_; refine hR _ ?_; clear hR R) | ((first | refine evC_seq ?_ | refine evC_block ?_); intro Ψ hΨ hΨ') | (refine evC_region ?_; intro R hR) | (refine hΨ _ ?_; clear hΨ hΨ' Ψ) | refine evC_skip ?_ | refine evC_ret ?_ | refine evC_exit ?_) | ((with_reducible refine hΨ' _ _ ?_ ?_); (focus (simp; done)); clear hΨ hΨ' Ψ) | ((with_reducible apply evC_cond); rfl; rfl; all_goals (intro hc; first | (cases hc; done) | (try simp only at hc))))))
    all_goals (refine ⟨by simp, ⟨_, ?_, AV.le_refl _⟩, leH_get (by simp [leH, hget])⟩; simp only [Tryz.results57, resL, ldA, oneOf, go_sem])
abbrev stO (ex : Bool) (L : List Ac) (r : Nat) (out : List Nat) (i : Int) : St := ⟨[.any, .any, .ptr 2 0, vb false, .row r 37 4 out.length, .any, .any, acS ex L, vi .i64 L.length, vi .i64 i, .any, .any, .any, .any, .any, .any, .any, .any, .any, .any, .any, .any, .any], [(2, [vi .u64 0, vi .u64 0, vi .u64 0, vi .u64 0]), (r, rcW out)]⟩
theorem stO_rn (ex : Bool) (L : List Ac) (out : List Nat) (i : Int) : (stO ex L 17 out i).to (stO ex L 500 out i) := by
  refine (St.to.rn (fun r => if r = 17 then 500 else r) (fun r => if r = 500 then 17 else r) [2, 17] (by simp [AV.inNL, AV.inN]) (by simp) (by simp [inH, AV.inNL, AV.inN, inNL_rcW]) (by simp) (by simp)).trans (St.to.of_le (St.le_of (by simp [leT, AV.renL, AV.ren]) (by simp [leH, hget, renH, AV.renL, AV.ren, renL_rcW])))
theorem rtotal_fn (ex : Bool) (L : List Ac) (hL : L.length ≤ 1000) (ok : ∀ x ∈ L, x.b < WW) : Fn Tryz.prog 30 [acS ex L] [] (.tup [wN ((L.map Ac.b).sum % WW), vb (decide (WW ≤ (L.map Ac.b).sum))]) [] := by
  have sm := refsum_fn false (L.map Ac.b) (by rw [List.length_map]; exact hL) (fun x hx => by obtain ⟨y, hy, rfl⟩ := List.mem_map.1 hx; exact ok y hy)
  obtain ⟨tn, htn⟩ : ∃ n, (L.map Ac.b).sum % WW = n := ⟨_, rfl⟩
  obtain ⟨tq, htq⟩ : ∃ q, decide (WW ≤ (L.map Ac.b).sum) = q := ⟨_, rfl⟩
  rw [htn, htq] at sm ⊢
  (refine fn_of Tryz.func30 rfl (by rfl) ?_; simp only [Tryz.ntmps30, List.length_cons, List.length_nil, Nat.reduceAdd, Nat.reduceSub, List.replicate, List.cons_append, List.nil_append])
  (repeat (any_goals (first | ((with_reducible refine evL_one ?_ ?_); rfl; intro K hK; simp only [go_sem]; ((repeat (refine ndI (by first | assumption | omega | rfl) ?_)); refine hK _ ?_; clear hK K)) | (with_reducible first | (refine evL_nil ?_; refine hR _ ?_; clear hR R) | ((first | refine evC_seq ?_ | refine evC_block ?_); intro Ψ hΨ hΨ') | (refine evC_region ?_; intro R hR) | (refine hΨ _ ?_; clear hΨ hΨ' Ψ) | refine evC_skip ?_ | refine evC_ret ?_ | refine evC_exit ?_) | ((with_reducible refine hΨ' _ _ ?_ ?_); (focus (simp; done)); clear hΨ hΨ' Ψ) | ((with_reducible apply evC_cond); rfl; rfl; all_goals (intro hc; first | (cases hc; done) | (try simp only at hc))))))
  refine evC_uptoT L.length (fun i => stO ex L 500 ((L.take i).map Ac.b) i) ?_ ?_
  · refine (St.to.nilrow 4 500 37 4 rfl (by simp) (by simp [St.free, freeH, AV.refs, AV.refsL]) (by omega)).trans (St.to.of_le (St.le_of (by simp [leT]) (by simp [leH, hget, hput, rcW])))
  · intro i hi Ψ hΨ hΨ'
    have k8 : L.length < 9223372036854775808 := by omega
    have ln : ((L.take i).map Ac.b).length ≤ 1000 := by rw [List.length_map, List.length_take]; omega
    rcases Nat.lt_or_ge i L.length with hlt | hge
    · obtain ⟨x, hx⟩ : ∃ x, L[i]? = some x := ⟨_, List.getElem?_eq_getElem hlt⟩
      have k1 : (decide ((i : Int) < (L.length : Int))) = true := decide_eq_true (by omega)
      have k2 := ac_at hx
      have k7 : (i : Int) + 1 = ((i + 1 : Nat) : Int) := by omega
      have k3 : (L.take (i + 1)).map Ac.b = (L.take i).map Ac.b ++ [x.b] := by rw [List.take_add_one, hx, List.map_append]; rfl
      (try dsimp only at hΨ ⊢)
      rw [k3] at hΨ
      generalize (L.take i).map Ac.b = out at hΨ ln ⊢
      have e1 := rcW_len out
      have e2 : rcW (out ++ [x.b]) = rcW out ++ (wpv x.b).map .c := by unfold rcW; rw [List.flatMap_append]; simp [List.flatMap_cons]
      have e3 : ∀ r, AV.refsL r (rcW out) = false := fun r => refsL_map r _
      (have W := ndI k1 (ndI k2 (ndI k7 (ndI e1 (ndI e3 @wrI)))); (repeat (any_goals (first | ((with_reducible refine evL_one ?_ ?_); rfl; intro K hK; simp (disch := omega) only [go_sem, W]; ((repeat (refine ndI (by first | assumption | omega | rfl) ?_)); refine hK _ ?_; clear hK K)) | (with_reducible first | (refine evL_nil ?_; refine hR _ ?_; clear hR R) | ((first | refine evC_seq ?_ | refine evC_block ?_); intro Ψ hΨ hΨ') | (refine evC_region ?_; intro R hR) | (refine hΨ _ ?_; clear hΨ hΨ' Ψ) | refine evC_skip ?_ | refine evC_ret ?_ | refine evC_exit ?_) | ((with_reducible refine hΨ' _ _ ?_ ?_); (focus (simp; done)); clear hΨ hΨ' Ψ) | ((with_reducible apply evC_cond); rfl; rfl; all_goals (intro hc; first | (cases hc; done) | (try simp only at hc)))))))
      all_goals exact hΨ _ hlt (St.to.trans (St.to.of_le (τ := stO ex L 17 (out ++ [x.b]) ((i + 1 : Nat) : Int)) (St.le_of (by simp [leT]) (by simp [leH, hget, e2, wpv]))) (stO_rn ex L _ _))
    · have k1 : (decide ((i : Int) < (L.length : Int))) = false := decide_eq_false (by omega)
      rw [List.take_of_length_le hge]
      (try dsimp only)
      (repeat (any_goals (first | ((with_reducible refine evL_one ?_ ?_); rfl; intro K hK; simp only [go_sem, k1]; ((repeat (refine ndI (by first | assumption | omega | rfl) ?_)); refine hK _ ?_; clear hK K)) | (with_reducible first | (refine evL_nil ?_; refine hR _ ?_; clear hR R) | ((first | refine evC_seq ?_ | refine evC_block ?_); intro Ψ hΨ hΨ') | (refine evC_region ?_; intro R hR) | (refine hΨ _ ?_; clear hΨ hΨ' Ψ) | refine evC_skip ?_ | refine evC_ret ?_ | refine evC_exit ?_) | ((with_reducible refine hΨ' _ _ ?_ ?_); (focus (simp; done)); clear hΨ hΨ' Ψ) | ((with_reducible apply evC_cond); rfl; rfl; all_goals (intro hc; first | (cases hc; done) | (try simp only at hc))))))
      refine evL_to rfl (St.to.frz 500 (pcs := (L.map Ac.b).flatMap wpv) (by simp [hget, rcW])) ?_
      have el : ((L.map Ac.b).flatMap wpv).length = (L.map Ac.b).length * 4 := flat_length wpv_len _
      simp only [St.frz, AV.frzL, AV.frz, frzH, el, if_true, eq_self, ↓reduceIte, Nat.reduceEqDiff]
      (repeat (any_goals (first | ((with_reducible refine evL_call ?_ ?_ ?_); rfl; rfl; intro K hK; ((apply opA_callB (sm); rfl; rfl; rfl; rfl; exact Tryz.func63); kernel_rfl; rfl; (simp only [go_sem]; rfl); (first | rfl | simp [AV.inNL, AV.inN])); (simp only [go_sem]; refine hK _ ?_; clear hK K)) | ((with_reducible refine evL_one ?_ ?_); rfl; intro K hK; simp only [go_sem]; ((repeat (refine ndI (by first | assumption | omega | rfl) ?_)); refine hK _ ?_; clear hK K)) | (with_reducible first | (refine evL_nil ?_; refine hR _ ?_; clear hR R) | ((first | refine evC_seq ?_ | refine evC_block ?_); intro Ψ hΨ hΨ') | (refine evC_region ?_; intro R hR) | (refine hΨ _ ?_; clear hΨ hΨ' Ψ) | refine evC_skip ?_ | refine evC_ret ?_ | refine evC_exit ?_) | ((with_reducible refine hΨ' _ _ ?_ ?_); (focus (simp; done)); clear hΨ hΨ' Ψ) | ((with_reducible apply evC_cond); rfl; rfl; all_goals (intro hc; first | (cases hc; done) | (try simp only at hc))))))
      all_goals (refine ⟨by simp, ⟨_, ?_, AV.le_refl _⟩, leH_get (by simp [leH, hget])⟩; simp only [Tryz.results30, resL, ldA, oneOf, go_sem])
end Go.Proofs.YtgdnmdnhkhpieaaGreat
namespace Go.Proofs.YtgdnmdnhkhpieaaGreat
open Go.RowKit
open Nat (reduceBEq)
set_option maxRecDepth 20000
set_option maxHeartbeats 2000000
theorem rfits_fn (ex : Bool) (L : List Ac) (hL : L.length ≤ 1000) (ok : ∀ x ∈ L, x.b < WW) : Fn Tryz.prog 58 [acS ex L] [] (vb (!decide (WW ≤ (L.map Ac.b).sum))) [] := by
  have tt := rtotal_fn ex L hL ok
  generalize (L.map Ac.b).sum % WW = n at tt
  generalize decide (WW ≤ (L.map Ac.b).sum) = q at tt ⊢
  (refine fn_of Tryz.func58 rfl (by rfl) ?_; simp only [Tryz.ntmps58, List.length_cons, List.length_nil, Nat.reduceAdd, Nat.reduceSub, List.replicate, List.cons_append, List.nil_append])
  (repeat (any_goals (first | ((with_reducible refine evL_call ?_ ?_ ?_); rfl; rfl; intro K hK; ((apply opA_callB (tt); rfl; rfl; rfl; rfl; exact Tryz.func30); kernel_rfl; rfl; (simp only [go_sem]; rfl); (first | rfl | simp [AV.inNL, AV.inN])); (simp only [go_sem]; refine hK _ ?_; clear hK K)) | ((with_reducible refine evL_one ?_ ?_); rfl; intro K hK; simp only [go_sem]; ((repeat (refine ndI (by first | assumption | omega | rfl) ?_)); refine hK _ ?_; clear hK K)) | (with_reducible first | (refine evL_nil ?_; refine hR _ ?_; clear hR R) | ((first | refine evC_seq ?_ | refine evC_block ?_); intro Ψ hΨ hΨ') | (refine evC_region ?_; intro R hR) | (refine hΨ _ ?_; clear hΨ hΨ' Ψ) | refine evC_skip ?_ | refine evC_ret ?_ | refine evC_exit ?_) | ((with_reducible refine hΨ' _ _ ?_ ?_); (focus (simp; done)); clear hΨ hΨ' Ψ) | ((with_reducible apply evC_cond); rfl; rfl; all_goals (intro hc; first | (cases hc; done) | (try simp only at hc))))))
  all_goals (refine ⟨by simp, ⟨_, ?_, AV.le_refl _⟩, leH_get (by simp [leH, hget])⟩; simp only [Tryz.results58, resL, ldA, oneOf, go_sem])
theorem rempty_fn (x : Ac) (hb : x.b < WW) : Fn Tryz.prog 56 [acA x] [] (vb (emptyA x)) [] := by
  obtain ⟨a, b, n, code, store⟩ := x
  dsimp only at hb
  unfold emptyA
  dsimp only
  obtain ⟨q1, e1⟩ : ∃ p, decide (b = 0) = p := ⟨_, rfl⟩
  obtain ⟨q2, e2⟩ : ∃ p, decide (n = 0) = p := ⟨_, rfl⟩
  obtain ⟨q3, e3⟩ : ∃ p, decide (code.length = 0) = p := ⟨_, rfl⟩
  obtain ⟨q4, e4⟩ : ∃ p, decide (store.length = 0) = p := ⟨_, rfl⟩
  have f1 : (l0 b == 0 && (l1 b == 0 && (l2 b == 0 && l3 b == 0))) = q1 := by rw [← e1, wN_zero hb]
  have f2 : (n == 0) = q2 := by rw [← e2]; by_cases h : n = 0 <;> simp [h]
  have f3 : ((code.length : Int) == 0) = q3 := by rw [← e3]; by_cases h : code.length = 0 <;> simp [h]
  have f4 : ((store.length : Int) == 0) = q4 := by rw [← e4]; by_cases h : store.length = 0 <;> simp [h]
  have f5 : decide (code.length + store.length = 0) = (q3 && q4) := by
    rw [← e3, ← e4, Bool.eq_iff_iff]
    simp only [Bool.and_eq_true, decide_eq_true_eq]
    omega
  rw [e1, e2, f5]
  clear e1 e2 e3 e4 f5
  cases q1 <;> cases q2 <;> cases q3 <;> cases q4
  all_goals (refine fn_of Tryz.func56 rfl (by rfl) ?_; simp only [Tryz.ntmps56, List.length_cons, List.length_nil, Nat.reduceAdd, Nat.reduceSub, List.replicate, List.cons_append, List.nil_append])
  all_goals (have W := ndI f1 (ndI f2 (ndI f3 f4)); (repeat (any_goals (first | ((with_reducible refine evL_one ?_ ?_); rfl; intro K hK; simp only [go_sem, W]; ((repeat (refine ndI (by first | assumption | omega | rfl) ?_)); refine hK _ ?_; clear hK K)) | (with_reducible first | (refine evL_nil ?_; refine hR _ ?_; clear hR R) | ((first | refine evC_seq ?_ | refine evC_block ?_); intro Ψ hΨ hΨ') | (refine evC_region ?_; intro R hR) | (refine hΨ _ ?_; clear hΨ hΨ' Ψ) | refine evC_skip ?_ | refine evC_ret ?_ | refine evC_exit ?_) | ((with_reducible refine hΨ' _ _ ?_ ?_); (focus (simp; done)); clear hΨ hΨ' Ψ) | ((with_reducible apply evL_unmet); rfl; rfl; rfl; (try simp only [go_sem, W])) | ((with_reducible apply evL_grd); rfl; rfl; rfl; all_goals (intro hb; first | (cases hb; done) | ((try simp only [Bool.not_true, Bool.not_false] at hb); (first | ((with_reducible intro K hK); simp only [go_sem, W]; ((repeat (refine ndI (by first | assumption | omega | rfl) ?_)); refine hK _ ?_; clear hK K)) | ((fail_if_success (with_reducible intro _)); simp only [go_sem, W]))))) | ((with_reducible apply evC_cond); rfl; rfl; all_goals (intro hc; first | (cases hc; done) | (try simp only at hc)))))))
  all_goals (refine ⟨by simp, ⟨_, ?_, AV.le_refl _⟩, leH_get (by simp [leH, hget])⟩; simp only [Tryz.results56, resL, ldA, oneOf, go_sem])
  all_goals rfl
theorem okS_eq {q : Bool} {L : List Ac} : ∀ i, okS q L i = (q && okS true L i)
  | 0 => by simp [okS]
  | i + 1 => by
    unfold okS
    rw [okS_eq i, Bool.and_assoc]
theorem rright_fn (ex : Bool) (L : List Ac) (hL : Okl L) : Fn Tryz.prog 25 [stA ex L] [] (vb (okSt L)) [] := by
  have hl := hL.1
  have mn := rmany_fn ex L (by unfold maxLen; omega)
  have ft := rfits_fn ex L (by omega) (fun x hx => (hL.2 x hx).1.2.1)
  unfold okSt
  rw [okS_eq]
  obtain ⟨q1, e1⟩ : ∃ p, decide (WW ≤ (L.map Ac.b).sum) = p := ⟨_, rfl⟩
  obtain ⟨q2, e2⟩ : ∃ p, decide (manyL L ≤ 24) = p := ⟨_, rfl⟩
  have e3 : decide (((manyL L : Nat) : Int) ≤ 24) = q2 := by rw [← e2]; exact decide_eq_decide.2 (by omega)
  rw [e1] at ft
  rw [e1, e2]
  clear e1 e2
  obtain ⟨rr, hrr⟩ : ∃ r, okS true L L.length = r := ⟨_, rfl⟩
  rw [hrr]
  (refine fn_of Tryz.func25 rfl (by rfl) ?_; simp only [Tryz.ntmps25, List.length_cons, List.length_nil, Nat.reduceAdd, Nat.reduceSub, List.replicate, List.cons_append, List.nil_append])
  (repeat (any_goals (first | ((with_reducible refine evL_one ?_ ?_); rfl; intro K hK; simp only [go_sem]; ((repeat (refine ndI (by first | assumption | omega | rfl) ?_)); refine hK _ ?_; clear hK K)) | (with_reducible first | (refine evL_nil ?_; refine hR _ ?_; clear hR R) | ((first | refine evC_seq ?_ | refine evC_block ?_); intro Ψ hΨ hΨ') | (refine evC_region ?_; intro R hR) | (refine hΨ _ ?_; clear hΨ hΨ' Ψ) | refine evC_skip ?_ | refine evC_ret ?_ | refine evC_exit ?_) | ((with_reducible refine hΨ' _ _ ?_ ?_); (focus (simp; done)); clear hΨ hΨ' Ψ) | ((with_reducible apply evL_unmet); rfl; rfl; rfl; (try simp only [go_sem])) | ((with_reducible apply evL_grd); rfl; rfl; rfl; all_goals (intro hb; first | (cases hb; done) | ((try simp only [Bool.not_true, Bool.not_false] at hb); (first | ((with_reducible intro K hK); simp only [go_sem]; ((repeat (refine ndI (by first | assumption | omega | rfl) ?_)); refine hK _ ?_; clear hK K)) | ((fail_if_success (with_reducible intro _)); simp only [go_sem]))))) | ((with_reducible apply evC_cond); rfl; rfl; all_goals (intro hc; first | (cases hc; done) | (try simp only at hc))) | ((with_reducible refine evD_nil ?_ ?_); kernel_rfl; (with_reducible refine hR _ ?_); clear hR R) | ((first | ((with_reducible apply evD_skip); rfl; rfl; rfl; rfl) | ((with_reducible apply evD_unmet); rfl; rfl; rfl) | ((first | ((with_reducible apply evD_any); rfl; rfl) | ((with_reducible apply evD_gany); rfl; rfl; rfl; rfl; rfl)); (simp only [rdE, rdOf, go_sem]; rfl); (intro τ hA hQ hN; ((try simp only [agree, Op.operands, Call.operands, go_sem, List.mem_cons, List.not_mem_nil, forall_eq_or_imp, forall_eq, List.append_toArray, Option.toArray] at hA); (try simp only [go_sem, List.mem_cons, List.not_mem_nil, forall_eq_or_imp, forall_eq] at hQ hN); (first | (revert hA; intro hA) | have hA := trivial); (first | (revert hQ; intro hQ) | have hQ := trivial); (first | (revert hN; intro hN) | have hN := trivial); simp only [go_sem, hA, hQ, hN]; (repeat (refine ndI (by first | assumption | omega | rfl) ?_)); (first | apply eff_rd | apply eff_st | apply eff_nw))))); (simp only [St.eff, setO, hputs, go_sem])) | ((with_reducible apply evD_split); rfl; rfl; rfl; all_goals intro hb; all_goals (simp only [St.eff, setO, hputs, go_sem])) | ((with_reducible refine evC_draw ?_ ?_ ?_ ?_); kernel_rfl; kernel_rfl; (first | kernel_rfl | simp [newNames, isNew, St.free, freeH, AV.refsL, AV.refs]); intro R hR))))
  refine evC_loop (α := { i : Nat // i ≤ L.length ∧ okS true L i = true }) (fun x => ⟨[.any, .ptr 1 0, vb false, .any, .any, .any, acS ex L, vi .i64 L.length, vi .i64 (x.1 : Int), .any, .any, .any, .any, .any, .any, .any, .any, .any, .any, .any, .any, .any, .any, .any, .any, .any, .any, .any, .any, .any, .any, .any, .any, .any, .any, .any, .any, .any, .any, .any, .any, .any, .any, .any, .any, .any], [(1, [acS ex L])]⟩) (fun x => L.length - x.1) ⟨0, Nat.zero_le _, rfl⟩ (St.le_of (by simp [leT]) (by simp [leH, hget])) ?_
  rintro ⟨i, hi, hok⟩ Ψ hΨ hΨ'
  (try dsimp only at hΨ ⊢)
  have k7 : (i : Int) + 1 = ((i + 1 : Nat) : Int) := by omega
  rcases Nat.lt_or_ge i L.length with hlt | hge
  · obtain ⟨x, hx⟩ : ∃ x, L[i]? = some x := ⟨_, List.getElem?_eq_getElem hlt⟩
    have k1 : (decide ((i : Int) < (L.length : Int))) = true := decide_eq_true (by omega)
    have k2 := ac_at hx
    have xo := hL.2 x (List.mem_of_getElem? hx)
    have ra := right_fn x xo.1.2.2.2.2.2
    have em := rempty_fn x xo.1.2.1
    obtain ⟨q3, hq3⟩ : ∃ q, okAc x = q := ⟨_, rfl⟩
    obtain ⟨q4, hq4⟩ : ∃ q, emptyA x = q := ⟨_, rfl⟩
    rw [hq3] at ra
    rw [hq4] at em
    have hnx : okS true L (i + 1) = okS1 L i := by show (okS true L i && okS1 L i) = _; rw [hok, Bool.true_and]
    have hno : okS1 L i = false → rr = false := fun h => by
      rw [← hrr]
      exact okS_no (by rw [hnx]; exact h) L.length hlt
    have hΨ1 := fun (h : okS1 L i = true) σ' => hΨ σ' ⟨i + 1, hlt, by rw [hnx]; exact h⟩ (by dsimp only; omega)
    dsimp only at hΨ1
    rcases Nat.eq_zero_or_pos i with h0 | h0
    · have n3 : (decide ((i : Int) > 0)) = false := by simp; omega
      have hok' : okS1 L i = (q3 && !q4) := by
        rw [h0] at hx ⊢
        rw [okS1_zero hx, hq3, hq4]
      rw [hok'] at hno hΨ1
      cases q3 <;> cases q4
      all_goals first | (have hrf := hno rfl; clear hΨ1) | skip
      all_goals (have W := ndI k1 (ndI k2 (ndI k7 (ndI n3 @wrI))); (repeat (any_goals (first | ((with_reducible refine evL_one ?_ ?_); rfl; intro K hK; simp (disch := omega) only [go_sem, W]; ((repeat (refine ndI (by first | assumption | omega | rfl) ?_)); refine hK _ ?_; clear hK K)) | (with_reducible first | (refine evL_nil ?_; refine hR _ ?_; clear hR R) | ((first | refine evC_seq ?_ | refine evC_block ?_); intro Ψ hΨ hΨ') | (refine evC_region ?_; intro R hR) | (refine hΨ _ ?_; clear hΨ hΨ' Ψ) | refine evC_skip ?_ | refine evC_ret ?_ | refine evC_exit ?_) | ((with_reducible refine hΨ' _ _ ?_ ?_); (focus (simp; done)); clear hΨ hΨ' Ψ) | ((with_reducible apply evL_unmet); rfl; rfl; rfl; (try simp (disch := omega) only [go_sem, W])) | ((with_reducible apply evL_grd); rfl; rfl; rfl; all_goals (intro hb; first | (cases hb; done) | ((try simp only [Bool.not_true, Bool.not_false] at hb); (first | ((with_reducible intro K hK); simp (disch := omega) only [go_sem, W]; ((repeat (refine ndI (by first | assumption | omega | rfl) ?_)); refine hK _ ?_; clear hK K)) | ((fail_if_success (with_reducible intro _)); simp (disch := omega) only [go_sem, W]))))) | ((with_reducible apply evC_cond); rfl; rfl; all_goals (intro hc; first | (cases hc; done) | (try simp only at hc))) | ((with_reducible refine evD_nil ?_ ?_); kernel_rfl; (with_reducible refine hR _ ?_); clear hR R) | ((first | ((with_reducible apply evD_skip); rfl; rfl; rfl; rfl) | ((with_reducible apply evD_unmet); rfl; rfl; rfl) | ((first | ((with_reducible apply evD_fcall); rfl; rfl) | ((with_reducible apply evD_gcall); rfl; rfl; rfl; rfl; rfl)); ((first | (apply opF_callB (ra); rfl; rfl; rfl; rfl; exact Tryz.func55) | (apply opF_callB (em); rfl; rfl; rfl; rfl; exact Tryz.func56)); kernel_rfl; rfl; (simp (disch := omega) only [go_sem, W]; rfl); (first | rfl | simp [AV.inNL, AV.inN]))) | ((first | ((with_reducible apply evD_any); rfl; rfl) | ((with_reducible apply evD_gany); rfl; rfl; rfl; rfl; rfl)); (simp (disch := omega) only [rdE, rdOf, go_sem, W]; rfl); (intro τ hA hQ hN; ((try simp only [agree, Op.operands, Call.operands, go_sem, W, go_sem, List.mem_cons, List.not_mem_nil, forall_eq_or_imp, forall_eq, List.append_toArray, Option.toArray] at hA); (try simp only [go_sem, W, List.mem_cons, List.not_mem_nil, forall_eq_or_imp, forall_eq] at hQ hN); (first | (revert hA; intro hA) | have hA := trivial); (first | (revert hQ; intro hQ) | have hQ := trivial); (first | (revert hN; intro hN) | have hN := trivial); simp (disch := omega) only [go_sem, W, go_sem, hA, hQ, hN]; (repeat (refine ndI (by first | assumption | omega | rfl) ?_)); (first | apply eff_rd | apply eff_st | apply eff_nw))))); (simp (disch := omega) only [St.eff, setO, hputs, go_sem, W])) | ((with_reducible apply evD_split); rfl; rfl; rfl; all_goals intro hb; all_goals (simp (disch := omega) only [St.eff, setO, hputs, go_sem, W])) | ((with_reducible refine evC_draw ?_ ?_ ?_ ?_); kernel_rfl; kernel_rfl; (first | kernel_rfl | simp [newNames, isNew, St.free, freeH, AV.refsL, AV.refs]); intro R hR)))))
      all_goals first | exact hΨ1 rfl _ (St.le_of (by simp [leT]) (by simp [leH, hget])) | (rw [hrf]; (refine ⟨by simp, ⟨_, ?_, AV.le_refl _⟩, leH_get (by simp [leH, hget])⟩; simp only [Tryz.results25, resL, ldA, oneOf, go_sem]); simp)
    · obtain ⟨j, hj⟩ : ∃ j, i = j + 1 := ⟨i - 1, by omega⟩
      obtain ⟨q, hq⟩ : ∃ q, L[j]? = some q := ⟨_, List.getElem?_eq_getElem (by omega)⟩
      have n3 : (decide ((i : Int) > 0)) = true := by simp; omega
      have n4 := ac_at hq
      have n5 : (i : Int) - 1 = (j : Int) := by omega
      have hjl : j < L.length := by omega
      obtain ⟨q5, hq5⟩ : ∃ c, decide (q.a < x.a) = c := ⟨_, rfl⟩
      have hge : decide (q.a ≥ x.a) = !q5 := by
        rw [← hq5]
        by_cases h : q.a < x.a
        · rw [decide_eq_true h, decide_eq_false (by omega)]; rfl
        · rw [decide_eq_false h, decide_eq_true (by omega)]; rfl
      have hok' : okS1 L i = (q3 && !q4 && q5) := by
        rw [hj] at hx ⊢
        rw [okS1_succ hq hx, hq3, hq4, hq5]
      rw [hok'] at hno hΨ1
      cases q3 <;> cases q4 <;> cases q5
      all_goals simp only [Bool.not_true, Bool.not_false] at hge
      all_goals first | (have hrf := hno rfl; clear hΨ1) | skip
      all_goals (have W := ndI k1 (ndI k2 (ndI k7 (ndI n3 (ndI n4 (ndI n5 @wrI))))); (repeat (any_goals (first | ((with_reducible refine evL_one ?_ ?_); rfl; intro K hK; simp (disch := omega) only [go_sem, W, hge]; ((repeat (refine ndI (by first | assumption | omega | rfl) ?_)); refine hK _ ?_; clear hK K)) | (with_reducible first | (refine evL_nil ?_; refine hR _ ?_; clear hR R) | ((first | refine evC_seq ?_ | refine evC_block ?_); intro Ψ hΨ hΨ') | (refine evC_region ?_; intro R hR) | (refine hΨ _ ?_; clear hΨ hΨ' Ψ) | refine evC_skip ?_ | refine evC_ret ?_ | refine evC_exit ?_) | ((with_reducible refine hΨ' _ _ ?_ ?_); (focus (simp; done)); clear hΨ hΨ' Ψ) | ((with_reducible apply evL_unmet); rfl; rfl; rfl; (try simp (disch := omega) only [go_sem, W, hge])) | ((with_reducible apply evL_grd); rfl; rfl; rfl; all_goals (intro hb; first | (cases hb; done) | ((try simp only [Bool.not_true, Bool.not_false] at hb); (first | ((with_reducible intro K hK); simp (disch := omega) only [go_sem, W, hge]; ((repeat (refine ndI (by first | assumption | omega | rfl) ?_)); refine hK _ ?_; clear hK K)) | ((fail_if_success (with_reducible intro _)); simp (disch := omega) only [go_sem, W, hge]))))) | ((with_reducible apply evC_cond); rfl; rfl; all_goals (intro hc; first | (cases hc; done) | (try simp only at hc))) | ((with_reducible refine evD_nil ?_ ?_); kernel_rfl; (with_reducible refine hR _ ?_); clear hR R) | ((first | ((with_reducible apply evD_skip); rfl; rfl; rfl; rfl) | ((with_reducible apply evD_unmet); rfl; rfl; rfl) | ((first | ((with_reducible apply evD_fcall); rfl; rfl) | ((with_reducible apply evD_gcall); rfl; rfl; rfl; rfl; rfl)); ((first | (apply opF_callB (ra); rfl; rfl; rfl; rfl; exact Tryz.func55) | (apply opF_callB (em); rfl; rfl; rfl; rfl; exact Tryz.func56)); kernel_rfl; rfl; (simp (disch := omega) only [go_sem, W, hge]; rfl); (first | rfl | simp [AV.inNL, AV.inN]))) | ((first | ((with_reducible apply evD_any); rfl; rfl) | ((with_reducible apply evD_gany); rfl; rfl; rfl; rfl; rfl)); (simp (disch := omega) only [rdE, rdOf, go_sem, W, hge]; rfl); (intro τ hA hQ hN; ((try simp only [agree, Op.operands, Call.operands, go_sem, W, hge, go_sem, List.mem_cons, List.not_mem_nil, forall_eq_or_imp, forall_eq, List.append_toArray, Option.toArray] at hA); (try simp only [go_sem, W, hge, List.mem_cons, List.not_mem_nil, forall_eq_or_imp, forall_eq] at hQ hN); (first | (revert hA; intro hA) | have hA := trivial); (first | (revert hQ; intro hQ) | have hQ := trivial); (first | (revert hN; intro hN) | have hN := trivial); simp (disch := omega) only [go_sem, W, hge, go_sem, hA, hQ, hN]; (repeat (refine ndI (by first | assumption | omega | rfl) ?_)); (first | apply eff_rd | apply eff_st | apply eff_nw))))); (simp (disch := omega) only [St.eff, setO, hputs, go_sem, W, hge])) | ((with_reducible apply evD_split); rfl; rfl; rfl; all_goals intro hb; all_goals (simp (disch := omega) only [St.eff, setO, hputs, go_sem, W, hge])) | ((with_reducible refine evC_draw ?_ ?_ ?_ ?_); kernel_rfl; kernel_rfl; (first | kernel_rfl | simp [newNames, isNew, St.free, freeH, AV.refsL, AV.refs]); intro R hR)))))
      all_goals first | exact hΨ1 rfl _ (St.le_of (by simp [leT]) (by simp [leH, hget])) | (rw [hrf]; (refine ⟨by simp, ⟨_, ?_, AV.le_refl _⟩, leH_get (by simp [leH, hget])⟩; simp only [Tryz.results25, resL, ldA, oneOf, go_sem]); simp)
  · have k1 : (decide ((i : Int) < (L.length : Int))) = false := decide_eq_false (by omega)
    have e : i = L.length := by omega
    have hrt : rr = true := by rw [← hrr, ← e]; exact hok
    (repeat (any_goals (first | ((with_reducible refine evL_call ?_ ?_ ?_); rfl; rfl; intro K hK; ((apply opA_callB (mn); rfl; rfl; rfl; rfl; exact Tryz.func57); kernel_rfl; rfl; (simp only [go_sem, k1, e3]; rfl); (first | rfl | simp [AV.inNL, AV.inN])); (simp only [go_sem, k1, e3]; refine hK _ ?_; clear hK K)) | ((with_reducible refine evL_one ?_ ?_); rfl; intro K hK; simp only [go_sem, k1, e3]; ((repeat (refine ndI (by first | assumption | omega | rfl) ?_)); refine hK _ ?_; clear hK K)) | (with_reducible first | (refine evL_nil ?_; refine hR _ ?_; clear hR R) | ((first | refine evC_seq ?_ | refine evC_block ?_); intro Ψ hΨ hΨ') | (refine evC_region ?_; intro R hR) | (refine hΨ _ ?_; clear hΨ hΨ' Ψ) | refine evC_skip ?_ | refine evC_ret ?_ | refine evC_exit ?_) | ((with_reducible refine hΨ' _ _ ?_ ?_); (focus (simp; done)); clear hΨ hΨ' Ψ) | ((with_reducible apply evL_unmet); rfl; rfl; rfl; (try simp only [go_sem, k1, e3])) | ((with_reducible apply evL_grd); rfl; rfl; rfl; all_goals (intro hb; first | (cases hb; done) | ((try simp only [Bool.not_true, Bool.not_false] at hb); (first | ((with_reducible intro K hK); (first | ((apply opA_callB (ft); rfl; rfl; rfl; rfl; exact Tryz.func58); kernel_rfl; rfl; (simp only [go_sem, k1, e3]; rfl); (first | rfl | simp [AV.inNL, AV.inN])) | skip); simp only [go_sem, k1, e3]; ((repeat (refine ndI (by first | assumption | omega | rfl) ?_)); refine hK _ ?_; clear hK K)) | ((fail_if_success (with_reducible intro _)); simp only [go_sem, k1, e3]))))) | ((with_reducible apply evC_cond); rfl; rfl; all_goals (intro hc; first | (cases hc; done) | (try simp only at hc))) | ((with_reducible refine evD_nil ?_ ?_); kernel_rfl; (with_reducible refine hR _ ?_); clear hR R) | ((first | ((with_reducible apply evD_skip); rfl; rfl; rfl; rfl) | ((with_reducible apply evD_unmet); rfl; rfl; rfl) | ((first | ((with_reducible apply evD_any); rfl; rfl) | ((with_reducible apply evD_gany); rfl; rfl; rfl; rfl; rfl)); (simp only [rdE, rdOf, go_sem, k1, e3]; rfl); (intro τ hA hQ hN; ((try simp only [agree, Op.operands, Call.operands, go_sem, k1, e3, go_sem, List.mem_cons, List.not_mem_nil, forall_eq_or_imp, forall_eq, List.append_toArray, Option.toArray] at hA); (try simp only [go_sem, k1, e3, List.mem_cons, List.not_mem_nil, forall_eq_or_imp, forall_eq] at hQ hN); (first | (revert hA; intro hA) | have hA := trivial); (first | (revert hQ; intro hQ) | have hQ := trivial); (first | (revert hN; intro hN) | have hN := trivial); simp only [go_sem, k1, e3, go_sem, hA, hQ, hN]; (repeat (refine ndI (by first | assumption | omega | rfl) ?_)); (first | apply eff_rd | apply eff_st | apply eff_nw))))); (simp only [St.eff, setO, hputs, go_sem, k1, e3])) | ((with_reducible apply evD_split); rfl; rfl; rfl; all_goals intro hb; all_goals (simp only [St.eff, setO, hputs, go_sem, k1, e3])) | ((with_reducible refine evC_draw ?_ ?_ ?_ ?_); kernel_rfl; kernel_rfl; (first | kernel_rfl | simp [newNames, isNew, St.free, freeH, AV.refsL, AV.refs]); intro R hR))))
    all_goals rw [hrt]
    all_goals (refine ⟨by simp, ⟨_, ?_, AV.le_refl _⟩, leH_get (by simp [leH, hget])⟩; simp only [Tryz.results25, resL, ldA, oneOf, go_sem])
    all_goals simp_all
def findS (L : List Ac) (a : Int) : Ac := (fnd Ac.a a L).getD ⟨a, 0, 0, [], []⟩
theorem fnd_drop {α : Type} {key : α → Int} {k : Int} {L : List α} {i : Nat} {x : α} (hx : L[i]? = some x) : fnd key k (L.drop i) = if key x = k then some x else fnd key k (L.drop (i + 1)) := by
  obtain ⟨h, rfl⟩ := List.getElem?_eq_some_iff.1 hx
  rw [List.drop_eq_getElem_cons h]; rfl
theorem rof_fn (ex : Bool) (L : List Ac) (hL : Okl L) (a : Int) : Fn Tryz.prog 28 [stA ex L, vi .u64 a] [] (acA (findS L a)) [] := by
  have hl := hL.1
  have z0 := AV.le_agg (a := [vi .u64 a, vi .u64 0, vi .u64 0, vi .u64 0, vi .u64 0, vi .u64 0, .c (.v (.slice none 0 0)), .c (.v (.slice none 0 0))]) (b := ac8 a 0 0 (bsV []) (psV [])) ⟨AV.le_refl _, AV.le_of (by rw [l0_zero]), AV.le_of (by rw [l1_zero]), AV.le_of (by rw [l2_zero]), AV.le_of (by rw [l3_zero]), AV.le_refl _, AV.le_nil _ _, AV.le_nil _ _, trivial⟩
  obtain ⟨r, hr⟩ : ∃ r, findS L a = r := ⟨_, rfl⟩
  rw [hr]
  (refine fn_of Tryz.func28 rfl (by rfl) ?_; simp only [Tryz.ntmps28, List.length_cons, List.length_nil, Nat.reduceAdd, Nat.reduceSub, List.replicate, List.cons_append, List.nil_append])
  (repeat (any_goals (first | ((with_reducible refine evL_one ?_ ?_); rfl; intro K hK; simp only [go_sem]; ((repeat (refine ndI (by first | assumption | omega | rfl) ?_)); refine hK _ ?_; clear hK K)) | (with_reducible first | (refine evL_nil ?_; refine hR _ ?_; clear hR R) | ((first | refine evC_seq ?_ | refine evC_block ?_); intro Ψ hΨ hΨ') | (refine evC_region ?_; intro R hR) | (refine hΨ _ ?_; clear hΨ hΨ' Ψ) | refine evC_skip ?_ | refine evC_ret ?_ | refine evC_exit ?_) | ((with_reducible refine hΨ' _ _ ?_ ?_); (focus (simp; done)); clear hΨ hΨ' Ψ) | ((with_reducible apply evC_cond); rfl; rfl; all_goals (intro hc; first | (cases hc; done) | (try simp only at hc))))))
  refine evC_loop (α := { i : Nat // i ≤ L.length ∧ findS (L.drop i) a = r }) (fun x => ⟨[.any, vi .u64 a, .ptr 2 0, .any, .ptr 4 0, .any, .any, .any, acS ex L, vi .i64 L.length, vi .i64 (x.1 : Int), .any, .any, .any, .any, .any, .any, .any, .any, .any, .any, .any], [(4, [vi .u64 0, vi .u64 0, vi .u64 0, vi .u64 0, vi .u64 0, vi .u64 0, .c (.v (.slice none 0 0)), .c (.v (.slice none 0 0))])]⟩) (fun x => L.length - x.1) ⟨0, Nat.zero_le _, hr⟩ (St.le_of (by simp [leT]) (by simp [leH, hget])) ?_
  rintro ⟨i, hi, hok⟩ Ψ hΨ hΨ'
  (try dsimp only at hΨ ⊢)
  have k7 : (i : Int) + 1 = ((i + 1 : Nat) : Int) := by omega
  rcases Nat.lt_or_ge i L.length with hlt | hge
  · obtain ⟨x, hx⟩ : ∃ x, L[i]? = some x := ⟨_, List.getElem?_eq_getElem hlt⟩
    have k1 : (decide ((i : Int) < (L.length : Int))) = true := decide_eq_true (by omega)
    have k2 := ac_at hx
    unfold findS at hok
    rw [fnd_drop hx] at hok
    by_cases he : x.a = a
    · rw [if_pos he] at hok
      have k3 : (x.a == a) = true := by simpa using he
      have e : r = x := hok.symm
      (have W := ndI k1 (ndI k2 k3); (repeat (any_goals (first | ((with_reducible refine evL_one ?_ ?_); rfl; intro K hK; simp only [go_sem, W]; ((repeat (refine ndI (by first | assumption | omega | rfl) ?_)); refine hK _ ?_; clear hK K)) | (with_reducible first | (refine evL_nil ?_; refine hR _ ?_; clear hR R) | ((first | refine evC_seq ?_ | refine evC_block ?_); intro Ψ hΨ hΨ') | (refine evC_region ?_; intro R hR) | (refine hΨ _ ?_; clear hΨ hΨ' Ψ) | refine evC_skip ?_ | refine evC_ret ?_ | refine evC_exit ?_) | ((with_reducible refine hΨ' _ _ ?_ ?_); (focus (simp; done)); clear hΨ hΨ' Ψ) | ((with_reducible apply evC_cond); rfl; rfl; all_goals (intro hc; first | (cases hc; done) | (try simp only at hc)))))))
      all_goals rw [e]
      all_goals (refine ⟨by simp, ⟨_, ?_, AV.le_refl _⟩, leH_get (by simp [leH, hget])⟩; simp only [Tryz.results28, resL, ldA, oneOf, go_sem])
    · rw [if_neg he] at hok
      have k3 : (x.a == a) = false := by simpa using he
      (have W := ndI k1 (ndI k2 (ndI k3 (ndI k7 @wrI))); (repeat (any_goals (first | ((with_reducible refine evL_one ?_ ?_); rfl; intro K hK; simp (disch := omega) only [go_sem, W]; ((repeat (refine ndI (by first | assumption | omega | rfl) ?_)); refine hK _ ?_; clear hK K)) | (with_reducible first | (refine evL_nil ?_; refine hR _ ?_; clear hR R) | ((first | refine evC_seq ?_ | refine evC_block ?_); intro Ψ hΨ hΨ') | (refine evC_region ?_; intro R hR) | (refine hΨ _ ?_; clear hΨ hΨ' Ψ) | refine evC_skip ?_ | refine evC_ret ?_ | refine evC_exit ?_) | ((with_reducible refine hΨ' _ _ ?_ ?_); (focus (simp; done)); clear hΨ hΨ' Ψ) | ((with_reducible apply evC_cond); rfl; rfl; all_goals (intro hc; first | (cases hc; done) | (try simp only at hc)))))))
      exact hΨ _ ⟨i + 1, hlt, hok⟩ (by dsimp only; omega) (St.le_of (by simp [leT]) (by simp [leH, hget]))
  · have k1 : (decide ((i : Int) < (L.length : Int))) = false := decide_eq_false (by omega)
    rw [List.drop_eq_nil_of_le hge] at hok
    have e : r = ⟨a, 0, 0, [], []⟩ := hok.symm
    (repeat (any_goals (first | ((with_reducible refine evL_one ?_ ?_); rfl; intro K hK; simp only [go_sem, k1]; ((repeat (refine ndI (by first | assumption | omega | rfl) ?_)); refine hK _ ?_; clear hK K)) | (with_reducible first | (refine evL_nil ?_; refine hR _ ?_; clear hR R) | ((first | refine evC_seq ?_ | refine evC_block ?_); intro Ψ hΨ hΨ') | (refine evC_region ?_; intro R hR) | (refine hΨ _ ?_; clear hΨ hΨ' Ψ) | refine evC_skip ?_ | refine evC_ret ?_ | refine evC_exit ?_) | ((with_reducible refine hΨ' _ _ ?_ ?_); (focus (simp; done)); clear hΨ hΨ' Ψ) | ((with_reducible apply evC_cond); rfl; rfl; all_goals (intro hc; first | (cases hc; done) | (try simp only at hc))))))
    all_goals rw [e]
    all_goals (refine ⟨by simp, ⟨_, ?_, z0⟩, leH_get (by simp [leH, hget])⟩; simp only [Tryz.results28, resL, ldA, oneOf, go_sem])
def findP (l : List Pr) (k : Nat) : Nat := ((l.find? fun p => decide (p.k = k)).map Pr.v).getD 0
end Go.Proofs.YtgdnmdnhkhpieaaGreat
