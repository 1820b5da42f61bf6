/-
  Words held against one another bit by bit, reckoned.
-/
import Derived.Test.YtlkogofgemclfaaNf
import Derived.Test.YtlkogofgemclfaaAvW
namespace Go.Proofs.Ytlkogofgemclfaa
open Go.RowKit
open Nat (reduceBEq)
set_option linter.unusedVariables false
set_option linter.unusedSimpArgs false
set_option maxRecDepth 20000
set_option maxHeartbeats 1000000
/-- a limb's bit -/
def lbit (x : Int) (k : Nat) : Int := x / 2 ^ k % 2
theorem lbit_eq {x : Int} (h : U x) (k : Nat) (hk : k < 64) : IntKind.i64.wrap (IntKind.u64.wrap ((BitVec.ofInt IntKind.u64.bits (x.fdiv (2 ^ (min k IntKind.u64.bits))) &&& BitVec.ofInt IntKind.u64.bits 1).toNat : Nat)) = lbit x k := by
  obtain ⟨h1, h2⟩ := h
  obtain ⟨N, rfl⟩ := Int.eq_ofNat_of_zero_le h1
  have hm : min k IntKind.u64.bits = k := Nat.min_eq_left (show k ≤ 64 by omega)
  have hd : ((N : Int)).fdiv (2 ^ k) = ((N / 2 ^ k : Nat) : Int) := by
    rw [Int.fdiv_eq_ediv_of_nonneg _ (Int.le_of_lt (Int.pow_pos (by decide)))]
    simp
  rw [hm, hd]
  have hle : N / 2 ^ k ≤ N := Nat.div_le_self _ _
  generalize hq : N / 2 ^ k = q at hle
  have e : (BitVec.ofInt IntKind.u64.bits (q : Int) &&& BitVec.ofInt IntKind.u64.bits 1).toNat = q % 2 := by
    show (BitVec.ofInt 64 (q : Int) &&& BitVec.ofInt 64 1).toNat = q % 2
    rw [BitVec.toNat_and]
    have e1 : (BitVec.ofInt 64 (q : Int)).toNat = q := by rw [BitVec.toNat_ofInt]; omega
    have e2 : (BitVec.ofInt 64 1).toNat = 1 := by decide
    rw [e1, e2, Nat.and_one_is_mod]
  rw [e, wrU (by omega) (by omega), wrI (by omega) (by omega)]
  unfold lbit
  have : (N : Int) / 2 ^ k = (q : Int) := by rw [← hq]; simp
  rw [this]; omega
def bitW (a b c d : Int) (n : Nat) : Int := if n < 64 then lbit a n else if n < 128 then lbit b (n - 64) else if n < 192 then lbit c (n - 128) else lbit d (n - 192)
theorem bit_fn (a b c d : Int) (u1 : U a) (u2 : U b) (u3 : U c) (u4 : U d) (n : Nat) (hn : n ≤ 255) : Fn Try.prog 58 [w4 a b c d, vi .i64 n] [] (vi .i64 (bitW a b c d n)) [] := by
  have e1 : (decide ((n : Int) < 0)) = false := by simp
  have e2 : (decide ((n : Int) > 255)) = false := by simp; omega
  have e3 : (n : Int).tdiv 64 = ((n / 64 : Nat) : Int) := rfl
  have e4 : (n : Int).tmod 64 = ((n % 64 : Nat) : Int) := rfl
  have hq : n / 64 = 0 ∨ n / 64 = 1 ∨ n / 64 = 2 ∨ n / 64 = 3 := by omega
  rcases hq with hq | hq | hq | hq
  · (refine fn_of Try.func58 rfl (by rfl) ?_; simp only [Try.ntmps58, List.length_cons, List.length_nil, Nat.reduceAdd, Nat.reduceSub, List.replicate, List.cons_append, List.nil_append])
    (have W := ndI e1 (ndI e2 (ndI e3 (ndI e4 @wrI))); (repeat (any_goals (first | ((with_reducible refine evL_one ?_ ?_); rfl; intro K hK; simp (disch := omega) only [go_sem, W, hq, Int.cast_ofNat_Int, Int.reduceEq, Int.toNat_natCast, Int.natCast_nonneg]; ((repeat (refine ndI (by first | assumption | omega | rfl) ?_)); refine hK _ ?_; clear hK K)) | (with_reducible first | (refine evL_nil ?_; refine hR _ ?_; clear hR R) | ((first | refine evC_seq ?_ | refine evC_block ?_); intro Ψ hΨ hΨ') | (refine evC_region ?_; intro R hR) | (refine hΨ _ ?_; clear hΨ hΨ' Ψ) | refine evC_skip ?_ | refine evC_ret ?_ | refine evC_exit ?_) | ((with_reducible refine hΨ' _ _ ?_ ?_); (focus (simp; done)); clear hΨ hΨ' Ψ) | ((with_reducible apply evL_unmet); rfl; rfl; rfl; (try simp (disch := omega) only [go_sem, W, hq, Int.cast_ofNat_Int, Int.reduceEq, Int.toNat_natCast, Int.natCast_nonneg])) | ((with_reducible apply evL_grd); rfl; rfl; rfl; all_goals (intro hb; first | (cases hb; done) | ((try simp only [Bool.not_true, Bool.not_false] at hb); (first | ((with_reducible intro K hK); simp (disch := omega) only [go_sem, W, hq, Int.cast_ofNat_Int, Int.reduceEq, Int.toNat_natCast, Int.natCast_nonneg]; ((repeat (refine ndI (by first | assumption | omega | rfl) ?_)); refine hK _ ?_; clear hK K)) | ((fail_if_success (with_reducible intro _)); simp (disch := omega) only [go_sem, W, hq, Int.cast_ofNat_Int, Int.reduceEq, Int.toNat_natCast, Int.natCast_nonneg]))))) | ((with_reducible apply evC_cond); rfl; rfl; all_goals (intro hc; first | (cases hc; done) | (try simp only at hc)))))))
    all_goals (refine ⟨by simp, ⟨_, ?_, AV.le_refl _⟩, leH_get (by simp [leH, hget])⟩; simp only [Try.results58, resL, ldA, oneOf, go_sem])
    show vi .i64 (IntKind.i64.wrap (IntKind.u64.wrap ((BitVec.ofInt IntKind.u64.bits (a.fdiv (2 ^ (min (n % 64) IntKind.u64.bits))) &&& BitVec.ofInt IntKind.u64.bits 1).toNat : Nat))) = _
    rw [lbit_eq u1 _ (Nat.mod_lt _ (by decide))]
    simp only [bitW, if_pos (show n < 64 by omega), Nat.mod_eq_of_lt (show n < 64 by omega)]
  · (refine fn_of Try.func58 rfl (by rfl) ?_; simp only [Try.ntmps58, List.length_cons, List.length_nil, Nat.reduceAdd, Nat.reduceSub, List.replicate, List.cons_append, List.nil_append])
    (have W := ndI e1 (ndI e2 (ndI e3 (ndI e4 @wrI))); (repeat (any_goals (first | ((with_reducible refine evL_one ?_ ?_); rfl; intro K hK; simp (disch := omega) only [go_sem, W, hq, Int.cast_ofNat_Int, Int.natCast_one, Int.reduceEq, Int.toNat_natCast, Int.natCast_nonneg]; ((repeat (refine ndI (by first | assumption | omega | rfl) ?_)); refine hK _ ?_; clear hK K)) | (with_reducible first | (refine evL_nil ?_; refine hR _ ?_; clear hR R) | ((first | refine evC_seq ?_ | refine evC_block ?_); intro Ψ hΨ hΨ') | (refine evC_region ?_; intro R hR) | (refine hΨ _ ?_; clear hΨ hΨ' Ψ) | refine evC_skip ?_ | refine evC_ret ?_ | refine evC_exit ?_) | ((with_reducible refine hΨ' _ _ ?_ ?_); (focus (simp; done)); clear hΨ hΨ' Ψ) | ((with_reducible apply evL_unmet); rfl; rfl; rfl; (try simp (disch := omega) only [go_sem, W, hq, Int.cast_ofNat_Int, Int.natCast_one, Int.reduceEq, Int.toNat_natCast, Int.natCast_nonneg])) | ((with_reducible apply evL_grd); rfl; rfl; rfl; all_goals (intro hb; first | (cases hb; done) | ((try simp only [Bool.not_true, Bool.not_false] at hb); (first | ((with_reducible intro K hK); simp (disch := omega) only [go_sem, W, hq, Int.cast_ofNat_Int, Int.natCast_one, Int.reduceEq, Int.toNat_natCast, Int.natCast_nonneg]; ((repeat (refine ndI (by first | assumption | omega | rfl) ?_)); refine hK _ ?_; clear hK K)) | ((fail_if_success (with_reducible intro _)); simp (disch := omega) only [go_sem, W, hq, Int.cast_ofNat_Int, Int.natCast_one, Int.reduceEq, Int.toNat_natCast, Int.natCast_nonneg]))))) | ((with_reducible apply evC_cond); rfl; rfl; all_goals (intro hc; first | (cases hc; done) | (try simp only at hc)))))))
    all_goals (refine ⟨by simp, ⟨_, ?_, AV.le_refl _⟩, leH_get (by simp [leH, hget])⟩; simp only [Try.results58, resL, ldA, oneOf, go_sem])
    show vi .i64 (IntKind.i64.wrap (IntKind.u64.wrap ((BitVec.ofInt IntKind.u64.bits (b.fdiv (2 ^ (min (n % 64) IntKind.u64.bits))) &&& BitVec.ofInt IntKind.u64.bits 1).toNat : Nat))) = _
    rw [lbit_eq u2 _ (Nat.mod_lt _ (by decide)), show n % 64 = n - 64 by omega]
    simp only [bitW, if_neg (show ¬ n < 64 by omega), if_pos (show n < 128 by omega)]
  · (refine fn_of Try.func58 rfl (by rfl) ?_; simp only [Try.ntmps58, List.length_cons, List.length_nil, Nat.reduceAdd, Nat.reduceSub, List.replicate, List.cons_append, List.nil_append])
    (have W := ndI e1 (ndI e2 (ndI e3 (ndI e4 @wrI))); (repeat (any_goals (first | ((with_reducible refine evL_one ?_ ?_); rfl; intro K hK; simp (disch := omega) only [go_sem, W, hq, Int.cast_ofNat_Int, Int.natCast_one, Int.reduceEq, Int.toNat_natCast, Int.natCast_nonneg]; ((repeat (refine ndI (by first | assumption | omega | rfl) ?_)); refine hK _ ?_; clear hK K)) | (with_reducible first | (refine evL_nil ?_; refine hR _ ?_; clear hR R) | ((first | refine evC_seq ?_ | refine evC_block ?_); intro Ψ hΨ hΨ') | (refine evC_region ?_; intro R hR) | (refine hΨ _ ?_; clear hΨ hΨ' Ψ) | refine evC_skip ?_ | refine evC_ret ?_ | refine evC_exit ?_) | ((with_reducible refine hΨ' _ _ ?_ ?_); (focus (simp; done)); clear hΨ hΨ' Ψ) | ((with_reducible apply evL_unmet); rfl; rfl; rfl; (try simp (disch := omega) only [go_sem, W, hq, Int.cast_ofNat_Int, Int.natCast_one, Int.reduceEq, Int.toNat_natCast, Int.natCast_nonneg])) | ((with_reducible apply evL_grd); rfl; rfl; rfl; all_goals (intro hb; first | (cases hb; done) | ((try simp only [Bool.not_true, Bool.not_false] at hb); (first | ((with_reducible intro K hK); simp (disch := omega) only [go_sem, W, hq, Int.cast_ofNat_Int, Int.natCast_one, Int.reduceEq, Int.toNat_natCast, Int.natCast_nonneg]; ((repeat (refine ndI (by first | assumption | omega | rfl) ?_)); refine hK _ ?_; clear hK K)) | ((fail_if_success (with_reducible intro _)); simp (disch := omega) only [go_sem, W, hq, Int.cast_ofNat_Int, Int.natCast_one, Int.reduceEq, Int.toNat_natCast, Int.natCast_nonneg]))))) | ((with_reducible apply evC_cond); rfl; rfl; all_goals (intro hc; first | (cases hc; done) | (try simp only at hc)))))))
    all_goals (refine ⟨by simp, ⟨_, ?_, AV.le_refl _⟩, leH_get (by simp [leH, hget])⟩; simp only [Try.results58, resL, ldA, oneOf, go_sem])
    show vi .i64 (IntKind.i64.wrap (IntKind.u64.wrap ((BitVec.ofInt IntKind.u64.bits (c.fdiv (2 ^ (min (n % 64) IntKind.u64.bits))) &&& BitVec.ofInt IntKind.u64.bits 1).toNat : Nat))) = _
    rw [lbit_eq u3 _ (Nat.mod_lt _ (by decide)), show n % 64 = n - 128 by omega]
    simp only [bitW, if_neg (show ¬ n < 64 by omega), if_neg (show ¬ n < 128 by omega), if_pos (show n < 192 by omega)]
  · (refine fn_of Try.func58 rfl (by rfl) ?_; simp only [Try.ntmps58, List.length_cons, List.length_nil, Nat.reduceAdd, Nat.reduceSub, List.replicate, List.cons_append, List.nil_append])
    (have W := ndI e1 (ndI e2 (ndI e3 (ndI e4 @wrI))); (repeat (any_goals (first | ((with_reducible refine evL_one ?_ ?_); rfl; intro K hK; simp (disch := omega) only [go_sem, W, hq, Int.cast_ofNat_Int, Int.natCast_one, Int.reduceEq, Int.toNat_natCast, Int.natCast_nonneg]; ((repeat (refine ndI (by first | assumption | omega | rfl) ?_)); refine hK _ ?_; clear hK K)) | (with_reducible first | (refine evL_nil ?_; refine hR _ ?_; clear hR R) | ((first | refine evC_seq ?_ | refine evC_block ?_); intro Ψ hΨ hΨ') | (refine evC_region ?_; intro R hR) | (refine hΨ _ ?_; clear hΨ hΨ' Ψ) | refine evC_skip ?_ | refine evC_ret ?_ | refine evC_exit ?_) | ((with_reducible refine hΨ' _ _ ?_ ?_); (focus (simp; done)); clear hΨ hΨ' Ψ) | ((with_reducible apply evL_unmet); rfl; rfl; rfl; (try simp (disch := omega) only [go_sem, W, hq, Int.cast_ofNat_Int, Int.natCast_one, Int.reduceEq, Int.toNat_natCast, Int.natCast_nonneg])) | ((with_reducible apply evL_grd); rfl; rfl; rfl; all_goals (intro hb; first | (cases hb; done) | ((try simp only [Bool.not_true, Bool.not_false] at hb); (first | ((with_reducible intro K hK); simp (disch := omega) only [go_sem, W, hq, Int.cast_ofNat_Int, Int.natCast_one, Int.reduceEq, Int.toNat_natCast, Int.natCast_nonneg]; ((repeat (refine ndI (by first | assumption | omega | rfl) ?_)); refine hK _ ?_; clear hK K)) | ((fail_if_success (with_reducible intro _)); simp (disch := omega) only [go_sem, W, hq, Int.cast_ofNat_Int, Int.natCast_one, Int.reduceEq, Int.toNat_natCast, Int.natCast_nonneg]))))) | ((with_reducible apply evC_cond); rfl; rfl; all_goals (intro hc; first | (cases hc; done) | (try simp only at hc)))))))
    all_goals (refine ⟨by simp, ⟨_, ?_, AV.le_refl _⟩, leH_get (by simp [leH, hget])⟩; simp only [Try.results58, resL, ldA, oneOf, go_sem])
    show vi .i64 (IntKind.i64.wrap (IntKind.u64.wrap ((BitVec.ofInt IntKind.u64.bits (d.fdiv (2 ^ (min (n % 64) IntKind.u64.bits))) &&& BitVec.ofInt IntKind.u64.bits 1).toNat : Nat))) = _
    rw [lbit_eq u4 _ (Nat.mod_lt _ (by decide)), show n % 64 = n - 192 by omega]
    simp only [bitW, if_neg (show ¬ n < 64 by omega), if_neg (show ¬ n < 128 by omega), if_neg (show ¬ n < 192 by omega)]
/-! a word as a number -/
def VW (a b c d : Int) : Nat := a.toNat + 18446744073709551616 * (b.toNat + 18446744073709551616 * (c.toNat + 18446744073709551616 * d.toNat))
theorem bit_lo (A R k : Nat) (hk : k < 64) : (A + 18446744073709551616 * R) / 2 ^ k % 2 = A / 2 ^ k % 2 := by
  have e : (18446744073709551616 : Nat) = 2 ^ k * (2 * 2 ^ (63 - k)) := by
    rw [← Nat.pow_succ', ← Nat.pow_add, show k + (63 - k).succ = 64 by omega]
  rw [e, Nat.mul_assoc, Nat.add_mul_div_left _ _ (Nat.pos_of_ne_zero (by simp)), Nat.mul_assoc 2, Nat.add_mul_mod_self_left]
theorem bit_hi (A R k : Nat) (hA : A < 18446744073709551616) (hk : 64 ≤ k) : (A + 18446744073709551616 * R) / 2 ^ k = R / 2 ^ (k - 64) := by
  have e : (2 : Nat) ^ k = 18446744073709551616 * 2 ^ (k - 64) := by
    rw [show (18446744073709551616 : Nat) = 2 ^ 64 by decide, ← Nat.pow_add, show 64 + (k - 64) = k by omega]
  rw [e, ← Nat.div_div_eq_div_mul, Nat.add_mul_div_left _ _ (by decide), Nat.div_eq_of_lt hA, Nat.zero_add]
theorem lbit_nat {x : Int} (h : U x) (k : Nat) : lbit x k = ((x.toNat / 2 ^ k % 2 : Nat) : Int) := by
  obtain ⟨N, rfl⟩ := Int.eq_ofNat_of_zero_le h.1
  unfold lbit
  have : (N : Int) / 2 ^ k = ((N / 2 ^ k : Nat) : Int) := by simp
  rw [this]; simp
theorem bitW_val {a b c d : Int} (u1 : U a) (u2 : U b) (u3 : U c) (u4 : U d) (n : Nat) (hn : n ≤ 255) : bitW a b c d n = ((VW a b c d / 2 ^ n % 2 : Nat) : Int) := by
  unfold bitW VW
  have h1 : a.toNat < 18446744073709551616 := by have := u1.2; omega
  have h2 : b.toNat < 18446744073709551616 := by have := u2.2; omega
  have h3 : c.toNat < 18446744073709551616 := by have := u3.2; omega
  split
  · rw [lbit_nat u1, bit_lo _ _ _ (by omega)]
  · rw [bit_hi _ _ _ h1 (by omega)]
    split
    · rw [lbit_nat u2, bit_lo _ _ _ (by omega)]
    · rw [bit_hi _ _ _ h2 (by omega)]
      split
      · rw [lbit_nat u3, show n - 64 - 64 = n - 128 by omega, bit_lo _ _ _ (by omega)]
      · rw [show n - 64 - 64 = n - 128 by omega, bit_hi _ _ _ h3 (by omega), lbit_nat u4, show n - 128 - 64 = n - 192 by omega]
/-- -1, 0, 1 -/
def cmpN (x y : Nat) : Int := if x < y then -1 else if y < x then 1 else 0
theorem cmpN_lt {x y n : Nat} (h1 : x / 2 ^ (n + 1) = y / 2 ^ (n + 1)) (h2 : x / 2 ^ n % 2 < y / 2 ^ n % 2) : x < y := by
  rw [Nat.pow_succ, ← Nat.div_div_eq_div_mul, ← Nat.div_div_eq_div_mul] at h1
  rcases Nat.lt_or_ge x y with h | h
  · exact h
  · have := Nat.div_le_div_right (c := 2 ^ n) h; omega
theorem cmpN_eq {x y n : Nat} (h1 : x / 2 ^ (n + 1) = y / 2 ^ (n + 1)) (h2 : x / 2 ^ n % 2 = y / 2 ^ n % 2) : x / 2 ^ n = y / 2 ^ n := by
  rw [Nat.pow_succ, ← Nat.div_div_eq_div_mul, ← Nat.div_div_eq_div_mul] at h1
  omega
theorem VW_lt {a b c d : Int} (u1 : U a) (u2 : U b) (u3 : U c) (u4 : U d) : VW a b c d < 2 ^ 256 := by
  unfold VW
  have h1 := u1.2; have h2 := u2.2; have h3 := u3.2; have h4 := u4.2
  simp only [show (2 : Nat) ^ 256 = 115792089237316195423570985008687907853269984665640564039457584007913129639936 by decide]
  omega
theorem refcmp_fn (a b c d e f g h : Int) (u1 : U a) (u2 : U b) (u3 : U c) (u4 : U d) (u5 : U e) (u6 : U f) (u7 : U g) (u8 : U h) : Fn Try.prog 50 [w4 a b c d, w4 e f g h] [] (vi .i64 (cmpN (VW a b c d) (VW e f g h))) [] := by
  (refine fn_of Try.func50 rfl (by rfl) ?_; simp only [Try.ntmps50, List.length_cons, List.length_nil, Nat.reduceAdd, Nat.reduceSub, List.replicate, List.cons_append, List.nil_append])
  (repeat (any_goals (first | ((with_reducible refine evL_one ?_ ?_); rfl; intro K hK; simp only [go_sem]; ((repeat (refine ndI (by first | assumption | omega | rfl) ?_)); refine hK _ ?_; clear hK K)) | (with_reducible first | (refine evL_nil ?_; refine hR _ ?_; clear hR R) | ((first | refine evC_seq ?_ | refine evC_block ?_); intro Ψ hΨ hΨ') | (refine evC_region ?_; intro R hR) | (refine hΨ _ ?_; clear hΨ hΨ' Ψ) | refine evC_skip ?_ | refine evC_ret ?_ | refine evC_exit ?_) | ((with_reducible refine hΨ' _ _ ?_ ?_); (focus (simp; done)); clear hΨ hΨ' Ψ) | ((with_reducible apply evC_cond); rfl; rfl; all_goals (intro hc; first | (cases hc; done) | (try simp only at hc))) | ((with_reducible refine evD_nil ?_ ?_); kernel_rfl; (with_reducible refine hR _ ?_); clear hR R) | (((with_reducible apply evD_any); rfl; rfl; (simp only [rdE, rdOf, go_sem]; rfl); (intro τ hA hQ hN; ((try simp only [agree, Op.operands, Call.operands, go_sem, List.mem_cons, List.not_mem_nil, forall_eq_or_imp, forall_eq, List.append_toArray, Option.toArray] at hA); (try simp only [go_sem, List.mem_cons, List.not_mem_nil, forall_eq_or_imp, forall_eq] at hQ hN); (first | (revert hA; intro hA) | have hA := trivial); (first | (revert hQ; intro hQ) | have hQ := trivial); (first | (revert hN; intro hN) | have hN := trivial); simp only [go_sem, hA, hQ, hN]; (repeat (refine ndI (by first | assumption | omega | rfl) ?_)); (first | apply eff_rd | apply eff_st | apply eff_nw)))); (simp only [St.eff, setO, hputs, go_sem])) | ((with_reducible refine evC_draw ?_ ?_ ?_ ?_); kernel_rfl; kernel_rfl; (first | kernel_rfl | simp [newNames, isNew, St.free, freeH, AV.refsL, AV.refs]); intro R hR))))
  obtain ⟨x, hx⟩ : ∃ x, VW a b c d = x := ⟨_, rfl⟩
  obtain ⟨y, hy⟩ : ∃ y, VW e f g h = y := ⟨_, rfl⟩
  have lx := VW_lt u1 u2 u3 u4
  have ly := VW_lt u5 u6 u7 u8
  rw [hx] at lx
  rw [hy] at ly
  refine evC_loop (α := { i : Nat // i ≤ 256 ∧ x / 2 ^ i = y / 2 ^ i }) (fun p => ⟨[.any, .any, .ptr 2 0, .ptr 3 0, vi .i64 0, vi .i64 ((p.1 : Int) - 1), .any, .any, .any, .any, .any, .any, .any, .any, .any, .any, .any, .any, .any, .any, .any, .any, .any, .any], [(2, [vi .u64 a, vi .u64 b, vi .u64 c, vi .u64 d]), (3, [vi .u64 e, vi .u64 f, vi .u64 g, vi .u64 h])]⟩) (fun p => p.1) ⟨256, Nat.le_refl _, by rw [Nat.div_eq_of_lt lx, Nat.div_eq_of_lt ly]⟩ (St.le_of (by simp [leT]) (by simp [leH, hget])) ?_
  rintro ⟨i, h1, h2⟩ Ψ hΨ hΨ'
  dsimp only at hΨ ⊢
  rcases i with _ | n
  · simp only [Nat.pow_zero, Nat.div_one] at h2
    subst h2
    have e1 : (decide (((0 : Nat) : Int) - 1 ≥ 0)) = false := by decide
    (repeat (any_goals (first | ((with_reducible refine evL_one ?_ ?_); rfl; intro K hK; simp only [go_sem, e1]; ((repeat (refine ndI (by first | assumption | omega | rfl) ?_)); refine hK _ ?_; clear hK K)) | (with_reducible first | (refine evL_nil ?_; refine hR _ ?_; clear hR R) | ((first | refine evC_seq ?_ | refine evC_block ?_); intro Ψ hΨ hΨ') | (refine evC_region ?_; intro R hR) | (refine hΨ _ ?_; clear hΨ hΨ' Ψ) | refine evC_skip ?_ | refine evC_ret ?_ | refine evC_exit ?_) | ((with_reducible refine hΨ' _ _ ?_ ?_); (focus (simp; done)); clear hΨ hΨ' Ψ) | ((with_reducible apply evC_cond); rfl; rfl; all_goals (intro hc; first | (cases hc; done) | (try simp only at hc))) | ((with_reducible refine evD_nil ?_ ?_); kernel_rfl; (with_reducible refine hR _ ?_); clear hR R) | (((with_reducible apply evD_any); rfl; rfl; (simp only [rdE, rdOf, go_sem, e1]; rfl); (intro τ hA hQ hN; ((try simp only [agree, Op.operands, Call.operands, go_sem, e1, go_sem, List.mem_cons, List.not_mem_nil, forall_eq_or_imp, forall_eq, List.append_toArray, Option.toArray] at hA); (try simp only [go_sem, e1, List.mem_cons, List.not_mem_nil, forall_eq_or_imp, forall_eq] at hQ hN); (first | (revert hA; intro hA) | have hA := trivial); (first | (revert hQ; intro hQ) | have hQ := trivial); (first | (revert hN; intro hN) | have hN := trivial); simp only [go_sem, e1, go_sem, hA, hQ, hN]; (repeat (refine ndI (by first | assumption | omega | rfl) ?_)); (first | apply eff_rd | apply eff_st | apply eff_nw)))); (simp only [St.eff, setO, hputs, go_sem, e1])) | ((with_reducible refine evC_draw ?_ ?_ ?_ ?_); kernel_rfl; kernel_rfl; (first | kernel_rfl | simp [newNames, isNew, St.free, freeH, AV.refsL, AV.refs]); intro R hR))))
    all_goals (refine ⟨by simp, ⟨_, ?_, AV.le_refl _⟩, leH_get (by simp [leH, hget])⟩; simp only [Try.results50, resL, ldA, oneOf, go_sem])
    all_goals simp [cmpN, hx, hy]
  · have e0 : ((n + 1 : Nat) : Int) - 1 = (n : Int) := by omega
    have e1 : (decide ((n : Int) ≥ 0)) = true := by simp
    have b1 := bitW_val u1 u2 u3 u4 n (by omega)
    have b2 := bitW_val u5 u6 u7 u8 n (by omega)
    rw [hx] at b1
    rw [hy] at b2
    obtain ⟨p, hp⟩ : ∃ p, x / 2 ^ n % 2 = p := ⟨_, rfl⟩
    obtain ⟨q, hq⟩ : ∃ q, y / 2 ^ n % 2 = q := ⟨_, rfl⟩
    rw [hp] at b1
    rw [hq] at b2
    rw [e0]
    (have W := ndI e1 (ndI b1 (ndI b2 @wrI)); (repeat (any_goals (first | ((with_reducible refine evL_one ?_ ?_); rfl; intro K hK; simp (disch := omega) only [go_sem, W]; ((repeat (refine ndI (by first | assumption | omega | rfl) ?_)); refine hK _ ?_; clear hK K)) | (with_reducible first | (refine evL_nil ?_; refine hR _ ?_; clear hR R) | ((first | refine evC_seq ?_ | refine evC_block ?_); intro Ψ hΨ hΨ') | (refine evC_region ?_; intro R hR) | (refine hΨ _ ?_; clear hΨ hΨ' Ψ) | refine evC_skip ?_ | refine evC_ret ?_ | refine evC_exit ?_) | ((with_reducible refine hΨ' _ _ ?_ ?_); (focus (simp; done)); clear hΨ hΨ' Ψ) | ((with_reducible apply evC_cond); rfl; rfl; all_goals (intro hc; first | (cases hc; done) | (try simp only at hc))) | ((with_reducible refine evD_nil ?_ ?_); kernel_rfl; (with_reducible refine hR _ ?_); clear hR R) | ((first | ((with_reducible apply evD_fcall); rfl; rfl; (first | ((apply opF_callB (bit_fn a b c d u1 u2 u3 u4 n (by omega)); rfl; rfl; rfl; rfl; exact Try.func58); kernel_rfl; rfl; (simp (disch := omega) only [go_sem, W]; rfl); (first | rfl | simp [AV.inNL, AV.inN])) | ((apply opF_callB (bit_fn e f g h u5 u6 u7 u8 n (by omega)); rfl; rfl; rfl; rfl; exact Try.func58); kernel_rfl; rfl; (simp (disch := omega) only [go_sem, W]; rfl); (first | rfl | simp [AV.inNL, AV.inN])))) | ((with_reducible apply evD_any); rfl; rfl; (simp (disch := omega) only [rdE, rdOf, go_sem, W]; rfl); (intro τ hA hQ hN; ((try simp only [agree, Op.operands, Call.operands, go_sem, W, go_sem, List.mem_cons, List.not_mem_nil, forall_eq_or_imp, forall_eq, List.append_toArray, Option.toArray] at hA); (try simp only [go_sem, W, List.mem_cons, List.not_mem_nil, forall_eq_or_imp, forall_eq] at hQ hN); (first | (revert hA; intro hA) | have hA := trivial); (first | (revert hQ; intro hQ) | have hQ := trivial); (first | (revert hN; intro hN) | have hN := trivial); simp (disch := omega) only [go_sem, W, go_sem, hA, hQ, hN]; (repeat (refine ndI (by first | assumption | omega | rfl) ?_)); (first | apply eff_rd | apply eff_st | apply eff_nw))))); (simp (disch := omega) only [St.eff, setO, hputs, go_sem, W])) | ((with_reducible refine evC_draw ?_ ?_ ?_ ?_); kernel_rfl; kernel_rfl; (first | kernel_rfl | simp [newNames, isNew, St.free, freeH, AV.refsL, AV.refs]); intro R hR)))))
    · (refine ⟨by simp, ⟨_, ?_, AV.le_refl _⟩, leH_get (by simp [leH, hget])⟩; simp only [Try.results50, resL, ldA, oneOf, go_sem])
      have hlt := cmpN_lt h2 (by rw [hp, hq]; simpa using hc)
      simp [cmpN, hx, hy, hlt]
    · (refine ⟨by simp, ⟨_, ?_, AV.le_refl _⟩, leH_get (by simp [leH, hget])⟩; simp only [Try.results50, resL, ldA, oneOf, go_sem])
      have hlt := cmpN_lt h2.symm (by rw [hp, hq]; simpa using hc)
      simp [cmpN, hx, hy, hlt, Nat.lt_asymm hlt]
    · refine hΨ _ ⟨n, by omega, cmpN_eq h2 (by rw [hp, hq]; simp at hc; simp_all; omega)⟩ (by simp) (St.le_of (by simp [leT]) (by simp [leH, hget]))
end Go.Proofs.Ytlkogofgemclfaa
