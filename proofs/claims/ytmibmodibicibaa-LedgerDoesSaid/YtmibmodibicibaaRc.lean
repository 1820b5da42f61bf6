/-
  The word of bits; sums and differences as the document has them; reckoned.
-/
import Derived.Test.YtmibmodibicibaaRb
namespace Go.Proofs.Ytmibmodibicibaa
open Go.RowKit
open Nat (reduceBEq)
set_option linter.unusedVariables false
set_option linter.unusedSimpArgs false
set_option maxRecDepth 20000
set_option maxHeartbeats 2000000
theorem orN {a b : Nat} (ha : a < 18446744073709551616) (hb : b < 18446744073709551616) : IntKind.u64.wrap (BitVec.ofInt IntKind.u64.bits (a : Int) ||| BitVec.ofInt IntKind.u64.bits (b : Int)).toNat = ((a ||| b : Nat) : Int) := by
  have e : (BitVec.ofInt IntKind.u64.bits (a : Int) ||| BitVec.ofInt IntKind.u64.bits (b : Int)).toNat = a ||| b := by
    show (BitVec.ofInt 64 (a : Int) ||| BitVec.ofInt 64 (b : Int)).toNat = _
    rw [BitVec.toNat_or, BitVec.ofInt_natCast, BitVec.ofInt_natCast, BitVec.toNat_ofNat, BitVec.toNat_ofNat, Nat.mod_eq_of_lt ha, Nat.mod_eq_of_lt hb]
  rw [e]
  have h : a ||| b < 2 ^ 64 := Nat.or_lt_two_pow ha hb
  exact wrU (by omega) (by omega)
theorem orR {a r : Nat} (hr : r < 64) (ha : a < 2 ^ r) : IntKind.u64.wrap (BitVec.ofInt IntKind.u64.bits (a : Int) ||| BitVec.ofInt IntKind.u64.bits ((2 ^ r : Nat) : Int)).toNat = ((a + 2 ^ r : Nat) : Int) := by
  have h2 : 2 ^ r ≤ 9223372036854775808 := Nat.pow_le_pow_right (n := 2) (by omega) (show r ≤ 63 by omega)
  rw [orN (by omega) (by omega), Nat.or_comm]
  have h3 := Nat.two_pow_add_eq_or_of_lt (i := r) (b := a) ha 1
  rw [Nat.mul_one] at h3
  rw [← h3, Nat.add_comm]
theorem shl1 {r : Nat} (hr : r < 64) : IntKind.u64.wrap (1 * 2 ^ (min r IntKind.u64.bits)) = ((2 ^ r : Nat) : Int) := by
  have hm : min r IntKind.u64.bits = r := Nat.min_eq_left (show r ≤ 64 by omega)
  have h2 : 2 ^ r ≤ 9223372036854775808 := Nat.pow_le_pow_right (n := 2) (by omega) (show r ≤ 63 by omega)
  rw [hm, Int.one_mul, show ((2 : Int) ^ r) = ((2 ^ r : Nat) : Int) by simp]
  generalize 2 ^ r = R at h2 ⊢
  exact wrU (by omega) (by omega)
/-- a bit set in the limb that it is of -/
theorem limb0 {w R : Nat} (hw : w < R) (hR : R ≤ 9223372036854775808) : l0 w = (w : Int) ∧ l0 (w + R) = ((w + R : Nat) : Int) ∧ l1 (w + R) = l1 w ∧ l2 (w + R) = l2 w ∧ l3 (w + R) = l3 w := by
  unfold l0 l1 l2 l3
  refine ⟨?_, ?_, ?_, ?_, ?_⟩ <;> congr 1 <;> omega
theorem limb1 {w R : Nat} (hw : w < 18446744073709551616 * R) (hR : R ≤ 9223372036854775808) : l1 w = ((w / 18446744073709551616 : Nat) : Int) ∧ w / 18446744073709551616 < R ∧ l0 (w + 18446744073709551616 * R) = l0 w ∧ l1 (w + 18446744073709551616 * R) = ((w / 18446744073709551616 + R : Nat) : Int) ∧ l2 (w + 18446744073709551616 * R) = l2 w ∧ l3 (w + 18446744073709551616 * R) = l3 w := by
  unfold l0 l1 l2 l3
  refine ⟨?_, ?_, ?_, ?_, ?_, ?_⟩ <;> (try congr 1) <;> omega
theorem limb2 {w R : Nat} (hw : w < 18446744073709551616 * (18446744073709551616 * R)) (hR : R ≤ 9223372036854775808) : l2 w = ((w / 18446744073709551616 / 18446744073709551616 : Nat) : Int) ∧ w / 18446744073709551616 / 18446744073709551616 < R ∧ l0 (w + 18446744073709551616 * (18446744073709551616 * R)) = l0 w ∧ l1 (w + 18446744073709551616 * (18446744073709551616 * R)) = l1 w ∧ l2 (w + 18446744073709551616 * (18446744073709551616 * R)) = ((w / 18446744073709551616 / 18446744073709551616 + R : Nat) : Int) ∧ l3 (w + 18446744073709551616 * (18446744073709551616 * R)) = l3 w := by
  unfold l0 l1 l2 l3
  have e : (w + 18446744073709551616 * (18446744073709551616 * R)) / 18446744073709551616 = w / 18446744073709551616 + 18446744073709551616 * R := by omega
  rw [e]
  have hw1 : w / 18446744073709551616 < 18446744073709551616 * R := by omega
  have e0 : (w + 18446744073709551616 * (18446744073709551616 * R)) % 18446744073709551616 = w % 18446744073709551616 := by omega
  rw [e0]
  generalize w / 18446744073709551616 = v at hw1
  refine ⟨?_, ?_, rfl, ?_, ?_, ?_⟩ <;> (try congr 1) <;> omega
theorem limb3 {w R : Nat} (hw : w < 18446744073709551616 * (18446744073709551616 * (18446744073709551616 * R))) (hR : R ≤ 9223372036854775808) : l3 w = ((w / 18446744073709551616 / 18446744073709551616 / 18446744073709551616 : Nat) : Int) ∧ w / 18446744073709551616 / 18446744073709551616 / 18446744073709551616 < R ∧ l0 (w + 18446744073709551616 * (18446744073709551616 * (18446744073709551616 * R))) = l0 w ∧ l1 (w + 18446744073709551616 * (18446744073709551616 * (18446744073709551616 * R))) = l1 w ∧ l2 (w + 18446744073709551616 * (18446744073709551616 * (18446744073709551616 * R))) = l2 w ∧ l3 (w + 18446744073709551616 * (18446744073709551616 * (18446744073709551616 * R))) = ((w / 18446744073709551616 / 18446744073709551616 / 18446744073709551616 + R : Nat) : Int) := by
  unfold l0 l1 l2 l3
  have e : (w + 18446744073709551616 * (18446744073709551616 * (18446744073709551616 * R))) / 18446744073709551616 = w / 18446744073709551616 + 18446744073709551616 * (18446744073709551616 * R) := by omega
  have e0 : (w + 18446744073709551616 * (18446744073709551616 * (18446744073709551616 * R))) % 18446744073709551616 = w % 18446744073709551616 := by omega
  have hw1 : w / 18446744073709551616 < 18446744073709551616 * (18446744073709551616 * R) := by omega
  rw [e, e0]
  generalize w / 18446744073709551616 = v at hw1
  have e2 : (v + 18446744073709551616 * (18446744073709551616 * R)) / 18446744073709551616 = v / 18446744073709551616 + 18446744073709551616 * R := by omega
  have e3 : (v + 18446744073709551616 * (18446744073709551616 * R)) % 18446744073709551616 = v % 18446744073709551616 := by omega
  have hw2 : v / 18446744073709551616 < 18446744073709551616 * R := by omega
  rw [e2, e3]
  generalize v / 18446744073709551616 = u at hw2
  refine ⟨?_, ?_, rfl, rfl, ?_, ?_⟩ <;> (try congr 1) <;> omega
theorem set_bit {z i : Nat} (hb : bitN z i = 1) : z % 2 ^ (i + 1) = z % 2 ^ i + 2 ^ i := by
  rw [Nat.mod_pow_succ]
  have : z / 2 ^ i % 2 = 1 := hb
  rw [this, Nat.mul_one]
theorem unset_bit {z i : Nat} (hb : bitN z i = 0) : z % 2 ^ (i + 1) = z % 2 ^ i := by
  rw [Nat.mod_pow_succ]
  have : z / 2 ^ i % 2 = 0 := hb
  rw [this, Nat.mul_zero, Nat.add_zero]
/-- what setting a bit does to the limbs -/
theorem of_step {z i : Nat} (hi : i < 256) (hb : bitN z i = 1) :
    (i / 64 = 0 ∧ IntKind.u64.wrap (BitVec.ofInt IntKind.u64.bits (l0 (z % 2 ^ i)) ||| BitVec.ofInt IntKind.u64.bits ((2 ^ (i % 64) : Nat) : Int)).toNat = l0 (z % 2 ^ (i + 1)) ∧ l1 (z % 2 ^ (i + 1)) = l1 (z % 2 ^ i) ∧ l2 (z % 2 ^ (i + 1)) = l2 (z % 2 ^ i) ∧ l3 (z % 2 ^ (i + 1)) = l3 (z % 2 ^ i)) ∨
    (i / 64 = 1 ∧ IntKind.u64.wrap (BitVec.ofInt IntKind.u64.bits (l1 (z % 2 ^ i)) ||| BitVec.ofInt IntKind.u64.bits ((2 ^ (i % 64) : Nat) : Int)).toNat = l1 (z % 2 ^ (i + 1)) ∧ l0 (z % 2 ^ (i + 1)) = l0 (z % 2 ^ i) ∧ l2 (z % 2 ^ (i + 1)) = l2 (z % 2 ^ i) ∧ l3 (z % 2 ^ (i + 1)) = l3 (z % 2 ^ i)) ∨
    (i / 64 = 2 ∧ IntKind.u64.wrap (BitVec.ofInt IntKind.u64.bits (l2 (z % 2 ^ i)) ||| BitVec.ofInt IntKind.u64.bits ((2 ^ (i % 64) : Nat) : Int)).toNat = l2 (z % 2 ^ (i + 1)) ∧ l0 (z % 2 ^ (i + 1)) = l0 (z % 2 ^ i) ∧ l1 (z % 2 ^ (i + 1)) = l1 (z % 2 ^ i) ∧ l3 (z % 2 ^ (i + 1)) = l3 (z % 2 ^ i)) ∨
    (i / 64 = 3 ∧ IntKind.u64.wrap (BitVec.ofInt IntKind.u64.bits (l3 (z % 2 ^ i)) ||| BitVec.ofInt IntKind.u64.bits ((2 ^ (i % 64) : Nat) : Int)).toNat = l3 (z % 2 ^ (i + 1)) ∧ l0 (z % 2 ^ (i + 1)) = l0 (z % 2 ^ i) ∧ l1 (z % 2 ^ (i + 1)) = l1 (z % 2 ^ i) ∧ l2 (z % 2 ^ (i + 1)) = l2 (z % 2 ^ i)) := by
  have hr : i % 64 < 64 := Nat.mod_lt _ (by decide)
  have hR : 2 ^ (i % 64) ≤ 9223372036854775808 := Nat.pow_le_pow_right (n := 2) (by omega) (show i % 64 ≤ 63 by omega)
  have hw : z % 2 ^ i < 2 ^ i := Nat.mod_lt _ (Nat.pos_of_ne_zero (by simp))
  have hpow : 2 ^ i = 2 ^ (64 * (i / 64)) * 2 ^ (i % 64) := by rw [← Nat.pow_add, Nat.div_add_mod]
  rw [set_bit hb]
  generalize z % 2 ^ i = w at hw ⊢
  have hor : ∀ a : Nat, a < 2 ^ (i % 64) → _ := fun a ha => orR hr ha
  generalize 2 ^ (i % 64) = R at *
  have hq : i / 64 = 0 ∨ i / 64 = 1 ∨ i / 64 = 2 ∨ i / 64 = 3 := by omega
  rcases hq with hq | hq | hq | hq
  · rw [hq] at hpow
    rw [show 2 ^ (64 * 0) = 1 from rfl, Nat.one_mul] at hpow
    rw [hpow] at hw ⊢
    obtain ⟨h0, h1, h2, h3, h4⟩ := limb0 hw hR
    exact .inl ⟨hq, by rw [h0, h1]; exact hor w hw, h2, h3, h4⟩
  · rw [hq] at hpow
    rw [show 2 ^ (64 * 1) = 18446744073709551616 from rfl] at hpow
    rw [hpow] at hw ⊢
    obtain ⟨h0, h1, h2, h3, h4, h5⟩ := limb1 hw hR
    exact .inr (.inl ⟨hq, by rw [h0, h3]; exact hor _ h1, h2, h4, h5⟩)
  · rw [hq] at hpow
    rw [show 2 ^ (64 * 2) = 18446744073709551616 * 18446744073709551616 from rfl, Nat.mul_assoc] at hpow
    rw [hpow] at hw ⊢
    obtain ⟨h0, h1, h2, h3, h4, h5⟩ := limb2 hw hR
    exact .inr (.inr (.inl ⟨hq, by rw [h0, h4]; exact hor _ h1, h2, h3, h5⟩))
  · rw [hq] at hpow
    rw [show 2 ^ (64 * 3) = 18446744073709551616 * (18446744073709551616 * 18446744073709551616) from rfl, Nat.mul_assoc, Nat.mul_assoc] at hpow
    rw [hpow] at hw ⊢
    obtain ⟨h0, h1, h2, h3, h4, h5⟩ := limb3 hw hR
    exact .inr (.inr (.inr ⟨hq, by rw [h0, h5]; exact hor _ h1, h2, h3, h4⟩))
theorem ofb_fn (ex : Bool) (z k : Nat) (hk : 256 ≤ k) (hk2 : k ≤ 257) : Fn Try.prog 60 [isl ex (bitsL z k)] [] (wN (z % WW)) [] := by
  have hlen := bitsL_len z k
  have hbit : ∀ i, i < k → ((((bitsL z k).flatMap ipv).drop i).take 1 = [.v (.int .i64 (bitN z i : Nat))]) := fun i hi => isl_at (bitsL_at hi)
  generalize bitsL z k = bl at hlen hbit ⊢
  (refine fn_of Try.func60 rfl (by rfl) ?_; simp only [Try.ntmps60, List.length_cons, List.length_nil, Nat.reduceAdd, Nat.reduceSub, List.replicate, List.cons_append, List.nil_append])
  (repeat (any_goals (first | ((with_reducible refine evL_one ?_ ?_); rfl; intro K hK; simp only [go_sem, hlen]; ((repeat (refine ndI (by first | assumption | omega | rfl) ?_)); refine hK _ ?_; clear hK K)) | (with_reducible first | (refine evL_nil ?_; refine hR _ ?_; clear hR R) | ((first | refine evC_seq ?_ | refine evC_block ?_); intro Ψ hΨ hΨ') | (refine evC_region ?_; intro R hR) | (refine hΨ _ ?_; clear hΨ hΨ' Ψ) | refine evC_skip ?_ | refine evC_ret ?_ | refine evC_exit ?_) | ((with_reducible refine hΨ' _ _ ?_ ?_); (focus (simp; done)); clear hΨ hΨ' Ψ) | ((with_reducible apply evL_unmet); rfl; rfl; rfl; (try simp only [go_sem, hlen])) | ((with_reducible apply evL_grd); rfl; rfl; rfl; all_goals (intro hb; first | (cases hb; done) | ((try simp only [Bool.not_true, Bool.not_false] at hb); (first | ((with_reducible intro K hK); simp only [go_sem, hlen]; ((repeat (refine ndI (by first | assumption | omega | rfl) ?_)); refine hK _ ?_; clear hK K)) | ((fail_if_success (with_reducible intro _)); simp only [go_sem, hlen]))))) | ((with_reducible apply evC_cond); rfl; rfl; all_goals (intro hc; first | (cases hc; done) | (try simp only at hc))) | ((with_reducible refine evD_nil ?_ ?_); kernel_rfl; (with_reducible refine hR _ ?_); clear hR R) | (((with_reducible apply evD_any); rfl; rfl; (simp only [rdE, rdOf, go_sem, hlen]; rfl); (intro τ hA hQ hN; ((try simp only [agree, Op.operands, Call.operands, go_sem, hlen, go_sem, List.mem_cons, List.not_mem_nil, forall_eq_or_imp, forall_eq, List.append_toArray, Option.toArray] at hA); (try simp only [go_sem, hlen, List.mem_cons, List.not_mem_nil, forall_eq_or_imp, forall_eq] at hQ hN); (first | (revert hA; intro hA) | have hA := trivial); (first | (revert hQ; intro hQ) | have hQ := trivial); (first | (revert hN; intro hN) | have hN := trivial); simp only [go_sem, hlen, go_sem, hA, hQ, hN]; (repeat (refine ndI (by first | assumption | omega | rfl) ?_)); (first | apply eff_rd | apply eff_st | apply eff_nw)))); (simp only [St.eff, setO, hputs, go_sem, hlen])) | ((with_reducible refine evC_draw ?_ ?_ ?_ ?_); kernel_rfl; kernel_rfl; (first | kernel_rfl | simp [newNames, isNew, St.free, freeH, AV.refsL, AV.refs]); intro R hR))))
  refine evC_upto k (fun i => ⟨[.any, .any, .ptr 2 0, .ptr 3 0, .any, .any, isl ex bl, vi .i64 k, vi .i64 i, .any, .any, .any, .any, .any, .any, .any, .any, .any, .any, .any, .any, .any, .any, .any, .any, .any, .any, .any, .any, .any], [(2, [vi .u64 0, vi .u64 0, vi .u64 0, vi .u64 0]), (3, [vi .u64 (l0 (z % 2 ^ min i 256)), vi .u64 (l1 (z % 2 ^ min i 256)), vi .u64 (l2 (z % 2 ^ min i 256)), vi .u64 (l3 (z % 2 ^ min i 256))])]⟩) (St.le_of (by simp [leT, hlen]) (by simp [leH, hget, Nat.mod_one, l0_zero, l1_zero, l2_zero, l3_zero])) ?_
  intro i hi Ψ hΨ hΨ'
  (try dsimp only at hΨ ⊢)
  rcases Nat.lt_or_ge i k with hlt | hge
  · have k1 : (decide ((i : Int) < (k : Int))) = true := by simp; omega
    have k7 : (i : Int) + 1 = ((i + 1 : Nat) : Int) := by omega
    have k2 := hbit i hlt
    have hil : i < bl.length := by omega
    have b1 := bitN_lt z i
    rcases Nat.lt_or_ge i 256 with h256 | h256
    · have k3 : (decide ((i : Int) < 256)) = true := by simp; omega
      rw [Nat.min_eq_left (by omega : i ≤ 256)] at *
      rw [Nat.min_eq_left (by omega : i + 1 ≤ 256)] at hΨ
      rcases (by omega : bitN z i = 0 ∨ bitN z i = 1) with hb | hb
      · have k4 : ((bitN z i : Nat) : Int) = 0 := by rw [hb]; rfl
        rw [unset_bit hb] at hΨ
        (have W := ndI k1 (ndI k2 (ndI k3 (ndI k4 (ndI k7 @wrI)))); (repeat (any_goals (first | ((with_reducible refine evL_one ?_ ?_); rfl; intro K hK; simp (disch := omega) only [go_sem, W, Nat.mul_one, Int.reduceBEq]; ((repeat (refine ndI (by first | assumption | omega | rfl) ?_)); refine hK _ ?_; clear hK K)) | (with_reducible first | (refine evL_nil ?_; refine hR _ ?_; clear hR R) | ((first | refine evC_seq ?_ | refine evC_block ?_); intro Ψ hΨ hΨ') | (refine evC_region ?_; intro R hR) | (refine hΨ _ ?_; clear hΨ hΨ' Ψ) | refine evC_skip ?_ | refine evC_ret ?_ | refine evC_exit ?_) | ((with_reducible refine hΨ' _ _ ?_ ?_); (focus (simp; done)); clear hΨ hΨ' Ψ) | ((with_reducible apply evL_unmet); rfl; rfl; rfl; (try simp (disch := omega) only [go_sem, W, Nat.mul_one, Int.reduceBEq])) | ((with_reducible apply evL_grd); rfl; rfl; rfl; all_goals (intro hb; first | (cases hb; done) | ((try simp only [Bool.not_true, Bool.not_false] at hb); (first | ((with_reducible intro K hK); simp (disch := omega) only [go_sem, W, Nat.mul_one, Int.reduceBEq]; ((repeat (refine ndI (by first | assumption | omega | rfl) ?_)); refine hK _ ?_; clear hK K)) | ((fail_if_success (with_reducible intro _)); simp (disch := omega) only [go_sem, W, Nat.mul_one, Int.reduceBEq]))))) | ((with_reducible apply evC_cond); rfl; rfl; all_goals (intro hc; first | (cases hc; done) | (try simp only at hc))) | ((with_reducible refine evD_nil ?_ ?_); kernel_rfl; (with_reducible refine hR _ ?_); clear hR R) | (((with_reducible apply evD_any); rfl; rfl; (simp (disch := omega) only [rdE, rdOf, go_sem, W, Nat.mul_one, Int.reduceBEq]; rfl); (intro τ hA hQ hN; ((try simp only [agree, Op.operands, Call.operands, go_sem, W, Nat.mul_one, Int.reduceBEq, go_sem, List.mem_cons, List.not_mem_nil, forall_eq_or_imp, forall_eq, List.append_toArray, Option.toArray] at hA); (try simp only [go_sem, W, Nat.mul_one, Int.reduceBEq, List.mem_cons, List.not_mem_nil, forall_eq_or_imp, forall_eq] at hQ hN); (first | (revert hA; intro hA) | have hA := trivial); (first | (revert hQ; intro hQ) | have hQ := trivial); (first | (revert hN; intro hN) | have hN := trivial); simp (disch := omega) only [go_sem, W, Nat.mul_one, Int.reduceBEq, go_sem, hA, hQ, hN]; (repeat (refine ndI (by first | assumption | omega | rfl) ?_)); (first | apply eff_rd | apply eff_st | apply eff_nw)))); (simp (disch := omega) only [St.eff, setO, hputs, go_sem, W, Nat.mul_one, Int.reduceBEq])) | ((with_reducible refine evC_draw ?_ ?_ ?_ ?_); kernel_rfl; kernel_rfl; (first | kernel_rfl | simp [newNames, isNew, St.free, freeH, AV.refsL, AV.refs]); intro R hR)))))
        all_goals exact hΨ _ hlt (St.le_of (by simp [leT]) (by simp [leH, hget]))
      · have k4 : ((bitN z i : Nat) : Int) = 1 := by rw [hb]; rfl
        have e3 : (i : Int).tdiv 64 = ((i / 64 : Nat) : Int) := rfl
        have e4 : (i : Int).tmod 64 = ((i % 64 : Nat) : Int) := rfl
        have e5 := shl1 (Nat.mod_lt i (show 0 < 64 by decide))
        have os := of_step h256 hb
        generalize ((2 ^ (i % 64) : Nat) : Int) = R at e5 os
        generalize z % 2 ^ (i + 1) = w2 at os hΨ
        generalize z % 2 ^ i = w at os ⊢
        rcases os with ⟨hq, o1, o2, o3, o4⟩ | ⟨hq, o1, o2, o3, o4⟩ | ⟨hq, o1, o2, o3, o4⟩ | ⟨hq, o1, o2, o3, o4⟩
        all_goals rw [o2, o3, o4] at hΨ
        all_goals (have W := ndI k1 (ndI k2 (ndI k3 (ndI k4 (ndI k7 (ndI e3 (ndI e4 (ndI e5 (ndI o1 @wrI)))))))); (repeat (any_goals (first | ((with_reducible refine evL_one ?_ ?_); rfl; intro K hK; simp (disch := omega) only [St.free, freeH, reduceCtorEq, Nat.reduceMod, Nat.reduceDiv, Nat.reduceSub, Nat.reduceMul, Int.reduceToNat, Int.reduceLT, Int.reduceLE, Nat.reduceEqDiff, ↓reduceIte, Nat.reduceLeDiff, Nat.reduceLT, Nat.reduceAdd, Nat.reduceBNe, Nat.reduceBEq, forall_const, evz, pickAV, AV.cells, ofV, evO, W, hq, Nat.mul_one, Int.reduceBEq, Int.cast_ofNat_Int, Int.natCast_one, Int.reduceEq, Int.toNat_natCast, Int.natCast_nonneg, ty3, ty28, ty31, ty77]; ((repeat (refine ndI (by first | assumption | omega | rfl) ?_)); refine hK _ ?_; clear hK K)) | (with_reducible first | (refine evL_nil ?_; refine hR _ ?_; clear hR R) | ((first | refine evC_seq ?_ | refine evC_block ?_); intro Ψ hΨ hΨ') | (refine evC_region ?_; intro R hR) | (refine hΨ _ ?_; clear hΨ hΨ' Ψ) | refine evC_skip ?_ | refine evC_ret ?_ | refine evC_exit ?_) | ((with_reducible refine hΨ' _ _ ?_ ?_); (focus (simp; done)); clear hΨ hΨ' Ψ) | ((with_reducible apply evL_unmet); rfl; rfl; rfl; (try simp (disch := omega) only [St.free, freeH, reduceCtorEq, Nat.reduceMod, Nat.reduceDiv, Nat.reduceSub, Nat.reduceMul, Int.reduceToNat, Int.reduceLT, Int.reduceLE, Nat.reduceEqDiff, ↓reduceIte, Nat.reduceLeDiff, Nat.reduceLT, Nat.reduceAdd, Nat.reduceBNe, Nat.reduceBEq, forall_const, evz, pickAV, AV.cells, ofV, evO, W, hq, Nat.mul_one, Int.reduceBEq, Int.cast_ofNat_Int, Int.natCast_one, Int.reduceEq, Int.toNat_natCast, Int.natCast_nonneg, ty3, ty28, ty31, ty77])) | ((with_reducible apply evL_grd); rfl; rfl; rfl; all_goals (intro hb; first | (cases hb; done) | ((try simp only [Bool.not_true, Bool.not_false] at hb); (first | ((with_reducible intro K hK); simp (disch := omega) only [St.free, freeH, reduceCtorEq, Nat.reduceMod, Nat.reduceDiv, Nat.reduceSub, Nat.reduceMul, Int.reduceToNat, Int.reduceLT, Int.reduceLE, Nat.reduceEqDiff, ↓reduceIte, Nat.reduceLeDiff, Nat.reduceLT, Nat.reduceAdd, Nat.reduceBNe, Nat.reduceBEq, forall_const, evz, pickAV, AV.cells, ofV, evO, W, hq, Nat.mul_one, Int.reduceBEq, Int.cast_ofNat_Int, Int.natCast_one, Int.reduceEq, Int.toNat_natCast, Int.natCast_nonneg, ty3, ty28, ty31, ty77]; ((repeat (refine ndI (by first | assumption | omega | rfl) ?_)); refine hK _ ?_; clear hK K)) | ((fail_if_success (with_reducible intro _)); simp (disch := omega) only [St.free, freeH, reduceCtorEq, Nat.reduceMod, Nat.reduceDiv, Nat.reduceSub, Nat.reduceMul, Int.reduceToNat, Int.reduceLT, Int.reduceLE, Nat.reduceEqDiff, ↓reduceIte, Nat.reduceLeDiff, Nat.reduceLT, Nat.reduceAdd, Nat.reduceBNe, Nat.reduceBEq, forall_const, evz, pickAV, AV.cells, ofV, evO, W, hq, Nat.mul_one, Int.reduceBEq, Int.cast_ofNat_Int, Int.natCast_one, Int.reduceEq, Int.toNat_natCast, Int.natCast_nonneg, ty3, ty28, ty31, ty77]))))) | ((with_reducible apply evC_cond); rfl; rfl; all_goals (intro hc; first | (cases hc; done) | (try simp only at hc))) | ((with_reducible refine evD_nil ?_ ?_); kernel_rfl; (with_reducible refine hR _ ?_); clear hR R) | (((with_reducible apply evD_any); rfl; rfl; (simp (disch := omega) only [rdE, rdOf, St.free, freeH, reduceCtorEq, Nat.reduceMod, Nat.reduceDiv, Nat.reduceSub, Nat.reduceMul, Int.reduceToNat, Int.reduceLT, Int.reduceLE, Nat.reduceEqDiff, ↓reduceIte, Nat.reduceLeDiff, Nat.reduceLT, Nat.reduceAdd, Nat.reduceBNe, Nat.reduceBEq, forall_const, evz, pickAV, AV.cells, ofV, evO, W, hq, Nat.mul_one, Int.reduceBEq, Int.cast_ofNat_Int, Int.natCast_one, Int.reduceEq, Int.toNat_natCast, Int.natCast_nonneg]; rfl); (intro τ hA hQ hN; ((try simp only [agree, Op.operands, Call.operands, reduceCtorEq, Nat.reduceMod, Nat.reduceDiv, Nat.reduceSub, Nat.reduceMul, Int.reduceToNat, Int.reduceLT, Int.reduceLE, Nat.reduceEqDiff, ↓reduceIte, Nat.reduceLeDiff, Nat.reduceLT, Nat.reduceAdd, Nat.reduceBNe, Nat.reduceBEq, forall_const, evz, pickAV, AV.cells, ofV, evO, W, hq, Nat.mul_one, Int.reduceBEq, Int.cast_ofNat_Int, Int.natCast_one, Int.reduceEq, Int.toNat_natCast, Int.natCast_nonneg, ty3, ty28, ty31, ty77, List.mem_cons, List.not_mem_nil, forall_eq_or_imp, forall_eq, List.append_toArray, Option.toArray] at hA); (try simp only [reduceCtorEq, Nat.reduceMod, Nat.reduceDiv, Nat.reduceSub, Nat.reduceMul, Int.reduceToNat, Int.reduceLT, Int.reduceLE, Nat.reduceEqDiff, ↓reduceIte, Nat.reduceLeDiff, Nat.reduceLT, Nat.reduceAdd, Nat.reduceBNe, Nat.reduceBEq, forall_const, evz, pickAV, AV.cells, ofV, evO, W, hq, Nat.mul_one, Int.reduceBEq, Int.cast_ofNat_Int, Int.natCast_one, Int.reduceEq, Int.toNat_natCast, Int.natCast_nonneg, List.mem_cons, List.not_mem_nil, forall_eq_or_imp, forall_eq] at hQ hN); (first | (revert hA; intro hA) | have hA := trivial); (first | (revert hQ; intro hQ) | have hQ := trivial); (first | (revert hN; intro hN) | have hN := trivial); simp (disch := omega) only [reduceCtorEq, Nat.reduceMod, Nat.reduceDiv, Nat.reduceSub, Nat.reduceMul, Int.reduceToNat, Int.reduceLT, Int.reduceLE, Nat.reduceEqDiff, ↓reduceIte, Nat.reduceLeDiff, Nat.reduceLT, Nat.reduceAdd, Nat.reduceBNe, Nat.reduceBEq, forall_const, evz, pickAV, AV.cells, ofV, evO, W, hq, Nat.mul_one, Int.reduceBEq, Int.cast_ofNat_Int, Int.natCast_one, Int.reduceEq, Int.toNat_natCast, Int.natCast_nonneg, ty3, ty28, ty31, ty77, hA, hQ, hN]; (repeat (refine ndI (by first | assumption | omega | rfl) ?_)); (first | apply eff_rd | apply eff_st | apply eff_nw)))); (simp (disch := omega) only [St.eff, setO, hputs, St.free, freeH, reduceCtorEq, Nat.reduceMod, Nat.reduceDiv, Nat.reduceSub, Nat.reduceMul, Int.reduceToNat, Int.reduceLT, Int.reduceLE, Nat.reduceEqDiff, ↓reduceIte, Nat.reduceLeDiff, Nat.reduceLT, Nat.reduceAdd, Nat.reduceBNe, Nat.reduceBEq, forall_const, evz, pickAV, AV.cells, ofV, evO, W, hq, Nat.mul_one, Int.reduceBEq, Int.cast_ofNat_Int, Int.natCast_one, Int.reduceEq, Int.toNat_natCast, Int.natCast_nonneg])) | ((with_reducible refine evC_draw ?_ ?_ ?_ ?_); kernel_rfl; kernel_rfl; (first | kernel_rfl | simp [newNames, isNew, St.free, freeH, AV.refsL, AV.refs]); intro R hR)))))
        all_goals exact hΨ _ hlt (St.le_of (by simp [leT]) (by simp [leH, hget]))
    · have k3 : (decide ((i : Int) < 256)) = false := by simp; omega
      rw [Nat.min_eq_right (by omega : 256 ≤ i)] at *
      rw [Nat.min_eq_right (by omega : 256 ≤ i + 1)] at hΨ
      (have W := ndI k1 (ndI k2 (ndI k3 (ndI k7 @wrI))); (repeat (any_goals (first | ((with_reducible refine evL_one ?_ ?_); rfl; intro K hK; simp (disch := omega) only [go_sem, W, Nat.mul_one]; ((repeat (refine ndI (by first | assumption | omega | rfl) ?_)); refine hK _ ?_; clear hK K)) | (with_reducible first | (refine evL_nil ?_; refine hR _ ?_; clear hR R) | ((first | refine evC_seq ?_ | refine evC_block ?_); intro Ψ hΨ hΨ') | (refine evC_region ?_; intro R hR) | (refine hΨ _ ?_; clear hΨ hΨ' Ψ) | refine evC_skip ?_ | refine evC_ret ?_ | refine evC_exit ?_) | ((with_reducible refine hΨ' _ _ ?_ ?_); (focus (simp; done)); clear hΨ hΨ' Ψ) | ((with_reducible apply evL_unmet); rfl; rfl; rfl; (try simp (disch := omega) only [go_sem, W, Nat.mul_one])) | ((with_reducible apply evL_grd); rfl; rfl; rfl; all_goals (intro hb; first | (cases hb; done) | ((try simp only [Bool.not_true, Bool.not_false] at hb); (first | ((with_reducible intro K hK); simp (disch := omega) only [go_sem, W, Nat.mul_one]; ((repeat (refine ndI (by first | assumption | omega | rfl) ?_)); refine hK _ ?_; clear hK K)) | ((fail_if_success (with_reducible intro _)); simp (disch := omega) only [go_sem, W, Nat.mul_one]))))) | ((with_reducible apply evC_cond); rfl; rfl; all_goals (intro hc; first | (cases hc; done) | (try simp only at hc))) | ((with_reducible refine evD_nil ?_ ?_); kernel_rfl; (with_reducible refine hR _ ?_); clear hR R) | (((with_reducible apply evD_any); rfl; rfl; (simp (disch := omega) only [rdE, rdOf, go_sem, W, Nat.mul_one]; rfl); (intro τ hA hQ hN; ((try simp only [agree, Op.operands, Call.operands, go_sem, W, Nat.mul_one, go_sem, List.mem_cons, List.not_mem_nil, forall_eq_or_imp, forall_eq, List.append_toArray, Option.toArray] at hA); (try simp only [go_sem, W, Nat.mul_one, List.mem_cons, List.not_mem_nil, forall_eq_or_imp, forall_eq] at hQ hN); (first | (revert hA; intro hA) | have hA := trivial); (first | (revert hQ; intro hQ) | have hQ := trivial); (first | (revert hN; intro hN) | have hN := trivial); simp (disch := omega) only [go_sem, W, Nat.mul_one, go_sem, hA, hQ, hN]; (repeat (refine ndI (by first | assumption | omega | rfl) ?_)); (first | apply eff_rd | apply eff_st | apply eff_nw)))); (simp (disch := omega) only [St.eff, setO, hputs, go_sem, W, Nat.mul_one])) | ((with_reducible refine evC_draw ?_ ?_ ?_ ?_); kernel_rfl; kernel_rfl; (first | kernel_rfl | simp [newNames, isNew, St.free, freeH, AV.refsL, AV.refs]); intro R hR)))))
      all_goals exact hΨ _ hlt (St.le_of (by simp [leT]) (by simp [leH, hget]))
  · have k1 : (decide ((i : Int) < (k : Int))) = false := by simp; omega
    rw [Nat.min_eq_right (by omega : 256 ≤ i)]
    (repeat (any_goals (first | ((with_reducible refine evL_one ?_ ?_); rfl; intro K hK; simp only [go_sem, k1]; ((repeat (refine ndI (by first | assumption | omega | rfl) ?_)); refine hK _ ?_; clear hK K)) | (with_reducible first | (refine evL_nil ?_; refine hR _ ?_; clear hR R) | ((first | refine evC_seq ?_ | refine evC_block ?_); intro Ψ hΨ hΨ') | (refine evC_region ?_; intro R hR) | (refine hΨ _ ?_; clear hΨ hΨ' Ψ) | refine evC_skip ?_ | refine evC_ret ?_ | refine evC_exit ?_) | ((with_reducible refine hΨ' _ _ ?_ ?_); (focus (simp; done)); clear hΨ hΨ' Ψ) | ((with_reducible apply evL_unmet); rfl; rfl; rfl; (try simp only [go_sem, k1])) | ((with_reducible apply evL_grd); rfl; rfl; rfl; all_goals (intro hb; first | (cases hb; done) | ((try simp only [Bool.not_true, Bool.not_false] at hb); (first | ((with_reducible intro K hK); simp only [go_sem, k1]; ((repeat (refine ndI (by first | assumption | omega | rfl) ?_)); refine hK _ ?_; clear hK K)) | ((fail_if_success (with_reducible intro _)); simp only [go_sem, k1]))))) | ((with_reducible apply evC_cond); rfl; rfl; all_goals (intro hc; first | (cases hc; done) | (try simp only at hc))) | ((with_reducible refine evD_nil ?_ ?_); kernel_rfl; (with_reducible refine hR _ ?_); clear hR R) | (((with_reducible apply evD_any); rfl; rfl; (simp only [rdE, rdOf, go_sem, k1]; rfl); (intro τ hA hQ hN; ((try simp only [agree, Op.operands, Call.operands, go_sem, k1, go_sem, List.mem_cons, List.not_mem_nil, forall_eq_or_imp, forall_eq, List.append_toArray, Option.toArray] at hA); (try simp only [go_sem, k1, List.mem_cons, List.not_mem_nil, forall_eq_or_imp, forall_eq] at hQ hN); (first | (revert hA; intro hA) | have hA := trivial); (first | (revert hQ; intro hQ) | have hQ := trivial); (first | (revert hN; intro hN) | have hN := trivial); simp only [go_sem, k1, go_sem, hA, hQ, hN]; (repeat (refine ndI (by first | assumption | omega | rfl) ?_)); (first | apply eff_rd | apply eff_st | apply eff_nw)))); (simp only [St.eff, setO, hputs, go_sem, k1])) | ((with_reducible refine evC_draw ?_ ?_ ?_ ?_); kernel_rfl; kernel_rfl; (first | kernel_rfl | simp [newNames, isNew, St.free, freeH, AV.refsL, AV.refs]); intro R hR))))
    all_goals (refine ⟨by simp, ⟨_, ?_, AV.le_refl _⟩, leH_get (by simp [leH, hget])⟩; simp only [Try.results60, resL, ldA, oneOf, go_sem])
end Go.Proofs.Ytmibmodibicibaa
