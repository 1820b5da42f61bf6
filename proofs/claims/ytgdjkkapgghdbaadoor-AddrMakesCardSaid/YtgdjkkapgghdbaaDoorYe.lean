/-
  Mix and Rows of the document: what they compute. Reckoned.
-/
import Derived.Test.YtgdjkkapgghdbaaDoorYd
namespace Go.Proofs.YtgdjkkapgghdbaaDoor
open Go.RowKit
open Nat (reduceBEq)
set_option linter.unusedVariables false
set_option linter.unusedSimpArgs false
set_option maxRecDepth 20000
set_option maxHeartbeats 2000000
attribute [local simp] inNL_rcV refsL_rcV renL_rcV
theorem rotU_zero (x : UInt64) : rotU x 0 = x := by
  have hx := x.toNat_lt
  unfold rotU
  rw [Nat.pow_zero, Nat.mul_one, Nat.mod_eq_of_lt hx, show x.toNat / 2 ^ (64 - 0) = 0 from Nat.div_eq_of_lt hx]
  simp
theorem left_fn (x : UInt64) (n : Nat) (hn : n < 1000) : Fn Tryd.prog 72 [lvA x, vi .i64 (n : Int)] [] (lvA (rotU x (n % 64))) [] := by
  have k1 : Int.tmod (n : Int) 64 = ((n % 64 : Nat) : Int) := by rw [Int.tmod_eq_emod_of_nonneg (by omega)]; omega
  have hm : n % 64 < 64 := Nat.mod_lt _ (by decide)
  by_cases h0 : n % 64 = 0
  · rw [h0] at k1
    rw [h0, rotU_zero]
    (refine fn_of Tryd.func72 rfl (by rfl) ?_; simp only [Tryd.ntmps72, List.length_cons, List.length_nil, Nat.reduceAdd, Nat.reduceSub, List.replicate, List.cons_append, List.nil_append])
    (repeat (any_goals (first | ((with_reducible refine evL_one ?_ ?_); rfl; intro K hK; simp (disch := omega) only [go_sem, k1, wrI]; ((repeat (refine ndI (by first | assumption | omega | rfl) ?_)); refine hK _ ?_; clear hK K)) | (with_reducible first | (refine evL_nil ?_; refine hR _ ?_; clear hR R) | ((first | refine evC_seq ?_ | refine evC_block ?_); intro Ψ hΨ hΨ') | (refine evC_region ?_; intro R hR) | (refine hΨ _ ?_; clear hΨ hΨ' Ψ) | refine evC_skip ?_ | refine evC_ret ?_ | refine evC_exit ?_) | ((with_reducible refine hΨ' _ _ ?_ ?_); (focus (simp; done)); clear hΨ hΨ' Ψ) | ((with_reducible apply evC_cond); rfl; rfl; all_goals (intro hc; first | (cases hc; done) | (try simp only at hc))) | ((with_reducible refine evD_nil ?_ ?_); kernel_rfl; (with_reducible refine hR _ ?_); clear hR R) | (((with_reducible apply evD_any); rfl; rfl; (simp (disch := omega) only [rdE, rdOf, go_sem, k1, wrI]; rfl); (intro τ hA hQ hN; ((try simp only [agree, Op.operands, Call.operands, go_sem, k1, wrI, go_sem, List.mem_cons, List.not_mem_nil, forall_eq_or_imp, forall_eq, List.append_toArray, Option.toArray] at hA); (try simp only [go_sem, k1, wrI, List.mem_cons, List.not_mem_nil, forall_eq_or_imp, forall_eq] at hQ hN); (first | (revert hA; intro hA) | have hA := trivial); (first | (revert hQ; intro hQ) | have hQ := trivial); (first | (revert hN; intro hN) | have hN := trivial); simp (disch := omega) only [go_sem, k1, wrI, go_sem, hA, hQ, hN]; (repeat (refine ndI (by first | assumption | omega | rfl) ?_)); (first | apply eff_rd | apply eff_st | apply eff_nw)))); (simp (disch := omega) only [St.eff, setO, hputs, go_sem, k1, wrI])) | ((with_reducible refine evC_draw ?_ ?_ ?_ ?_); kernel_rfl; kernel_rfl; (first | kernel_rfl | simp [newNames, isNew, St.free, freeH, AV.refsL, AV.refs]); intro R hR))))
    all_goals (refine ⟨by simp, ⟨_, ?_, AV.le_refl _⟩, leH_get (by simp [leH, hget])⟩; simp only [Tryd.results72, resL, ldA, oneOf, go_sem])
  · generalize n % 64 = m at *
    have hx := x.toNat_lt
    have k2 : (64 - (m : Int)) = ((64 - m : Nat) : Int) := by omega
    have k3 : IntKind.u64.wrap ((x.toNat : Int) * 2 ^ min m 64) = ((UInt64.ofNat (x.toNat * 2 ^ m % 18446744073709551616)).toNat : Int) := by
      rw [Nat.min_eq_left (by omega), show ((x.toNat : Int) * 2 ^ m) = ((x.toNat * 2 ^ m : Nat) : Int) by push_cast; rfl, u64w, UInt64.toNat_ofNat_of_lt' (by exact Nat.mod_lt _ (by decide))]
    have k4 : Int.fdiv (x.toNat : Int) (2 ^ min (64 - m) 64) = ((UInt64.ofNat (x.toNat / 2 ^ (64 - m))).toNat : Int) := by
      rw [Nat.min_eq_left (by omega), UInt64.toNat_ofNat_of_lt' (by exact Nat.lt_of_le_of_lt (Nat.div_le_self _ _) hx), show ((2 : Int) ^ (64 - m)) = ((2 ^ (64 - m) : Nat) : Int) by push_cast; rfl]
      rw [Int.fdiv_eq_ediv_of_nonneg _ (Int.natCast_nonneg _)]
      rfl
    have k5 := u64_or (UInt64.ofNat (x.toNat * 2 ^ m % 18446744073709551616)) (UInt64.ofNat (x.toNat / 2 ^ (64 - m)))
    have kb : IntKind.u64.bits = 64 := rfl
    have k6 : ((m : Int) == 0) = false := by simp; omega
    have e : rotU x m = UInt64.ofNat (x.toNat * 2 ^ m % 18446744073709551616) ||| UInt64.ofNat (x.toNat / 2 ^ (64 - m)) := rfl
    rw [e]
    generalize UInt64.ofNat (x.toNat * 2 ^ m % 18446744073709551616) = p at *
    generalize UInt64.ofNat (x.toNat / 2 ^ (64 - m)) = q at *
    (refine fn_of Tryd.func72 rfl (by rfl) ?_; simp only [Tryd.ntmps72, List.length_cons, List.length_nil, Nat.reduceAdd, Nat.reduceSub, List.replicate, List.cons_append, List.nil_append])
    (have W := ndI k1 (ndI k2 (ndI k3 (ndI k4 (ndI k5 (ndI k6 (ndI kb @wrI)))))); (repeat (any_goals (first | ((with_reducible refine evL_one ?_ ?_); rfl; intro K hK; simp (disch := omega) only [go_sem, W]; ((repeat (refine ndI (by first | assumption | omega | rfl) ?_)); refine hK _ ?_; clear hK K)) | (with_reducible first | (refine evL_nil ?_; refine hR _ ?_; clear hR R) | ((first | refine evC_seq ?_ | refine evC_block ?_); intro Ψ hΨ hΨ') | (refine evC_region ?_; intro R hR) | (refine hΨ _ ?_; clear hΨ hΨ' Ψ) | refine evC_skip ?_ | refine evC_ret ?_ | refine evC_exit ?_) | ((with_reducible refine hΨ' _ _ ?_ ?_); (focus (simp; done)); clear hΨ hΨ' Ψ) | ((with_reducible apply evC_cond); rfl; rfl; all_goals (intro hc; first | (cases hc; done) | (try simp only at hc))) | ((with_reducible refine evD_nil ?_ ?_); kernel_rfl; (with_reducible refine hR _ ?_); clear hR R) | (((with_reducible apply evD_any); rfl; rfl; (simp (disch := omega) only [rdE, rdOf, go_sem, W]; rfl); (intro τ hA hQ hN; ((try simp only [agree, Op.operands, Call.operands, go_sem, W, go_sem, List.mem_cons, List.not_mem_nil, forall_eq_or_imp, forall_eq, List.append_toArray, Option.toArray] at hA); (try simp only [go_sem, W, List.mem_cons, List.not_mem_nil, forall_eq_or_imp, forall_eq] at hQ hN); (first | (revert hA; intro hA) | have hA := trivial); (first | (revert hQ; intro hQ) | have hQ := trivial); (first | (revert hN; intro hN) | have hN := trivial); simp (disch := omega) only [go_sem, W, go_sem, hA, hQ, hN]; (repeat (refine ndI (by first | assumption | omega | rfl) ?_)); (first | apply eff_rd | apply eff_st | apply eff_nw)))); (simp (disch := omega) only [St.eff, setO, hputs, go_sem, W])) | ((with_reducible refine evC_draw ?_ ?_ ?_ ?_); kernel_rfl; kernel_rfl; (first | kernel_rfl | simp [newNames, isNew, St.free, freeH, AV.refsL, AV.refs]); intro R hR)))))
    all_goals (refine ⟨by simp, ⟨_, ?_, AV.le_refl _⟩, leH_get (by simp [leH, hget])⟩; simp only [Tryd.results72, resL, ldA, oneOf, go_sem])
def dA (l c : List UInt64) : Nat → List UInt64
  | 0 => l
  | k + 1 => (dA l c k).set k ((dA l c k).getD k 0 ^^^ (c.getD ((k % 5 + 4) % 5) 0 ^^^ rotU (c.getD ((k % 5 + 1) % 5) 0) 1))
theorem dA_len (l c : List UInt64) : ∀ k, (dA l c k).length = l.length
  | 0 => rfl
  | k + 1 => by unfold dA; rw [List.length_set, dA_len l c k]
def pqA : Nat → Nat × Nat
  | 0 => (1, 0)
  | k + 1 => ((pqA k).2, (2 * (pqA k).1 + 3 * (pqA k).2) % 5)
theorem pqA_lt : ∀ k, (pqA k).1 < 5 ∧ (pqA k).2 < 5
  | 0 => by decide
  | k + 1 => by have := pqA_lt k; exact ⟨this.2, Nat.mod_lt _ (by decide)⟩
def ixA (k : Nat) : Nat := 5 * (pqA (k + 1)).2 + (pqA (k + 1)).1
theorem ixA_lt (k : Nat) : ixA k < 25 := by have := pqA_lt (k + 1); unfold ixA; omega
def tA (m : List UInt64) : Nat → UInt64 × List UInt64
  | 0 => (m.getD 1 0, m)
  | k + 1 => ((tA m k).2.getD (ixA k) 0, (tA m k).2.set (ixA k) (rotU (tA m k).1 ((k + 1) * (k + 2) / 2 % 64)))
theorem tA_len (m : List UInt64) : ∀ k, (tA m k).2.length = m.length
  | 0 => rfl
  | k + 1 => by unfold tA; rw [List.length_set, tA_len m k]
def mixR (l : List UInt64) : List UInt64 := (tA (dA l (cA l 25) 25) 24).2
theorem rmix_fnE (l : List UInt64) (C D : Nat → List UInt64) (U : Nat → UInt64) (V : Nat → List UInt64) (hl : l.length = 25)
    (C0 : C 0 = zer 5) (cl : ∀ k, (C k).length = 5) (cs : ∀ k, C (k + 1) = (C k).set (k % 5) ((C k).getD (k % 5) 0 ^^^ l.getD k 0))
    (D0 : D 0 = l) (dl : ∀ k, (D k).length = 25) (ds : ∀ k, D (k + 1) = (D k).set k ((D k).getD k 0 ^^^ ((C 25).getD ((k % 5 + 4) % 5) 0 ^^^ rotU ((C 25).getD ((k % 5 + 1) % 5) 0) 1)))
    (U0 : U 0 = (D 25).getD 1 0) (V0 : V 0 = D 25) (vl : ∀ k, (V k).length = 25) (us : ∀ k, U (k + 1) = (V k).getD (ixA k) 0) (vs : ∀ k, V (k + 1) = (V k).set (ixA k) (rotU (U k) ((k + 1) * (k + 2) / 2 % 64))) :
    Fn Tryd.prog 62 [lnA l] [] (lnA (V 24)) [] := by
  have r1 := fun d => refsL_rcV d l
  (refine fn_of Tryd.func62 rfl (by rfl) ?_; simp only [Tryd.ntmps62, List.length_cons, List.length_nil, Nat.reduceAdd, Nat.reduceSub, List.replicate, List.cons_append, List.nil_append])
  have b1 : List.take 25 (rcV l) = rcV l := rcV_take _ hl
  have b2 : (rcV l).length = 25 := by rw [rcV_len]; exact hl
  (have W := ndI r1 (ndI b1 b2); (repeat (any_goals (first | ((with_reducible refine evL_one ?_ ?_); rfl; intro K hK; simp (disch := omega) only [go_sem, W]; ((repeat (refine ndI (by first | assumption | omega | rfl) ?_)); refine hK _ ?_; clear hK K)) | (with_reducible first | (refine evL_nil ?_; refine hR _ ?_; clear hR R) | ((first | refine evC_seq ?_ | refine evC_block ?_); intro Ψ hΨ hΨ') | (refine evC_region ?_; intro R hR) | (refine hΨ _ ?_; clear hΨ hΨ' Ψ) | refine evC_skip ?_ | refine evC_ret ?_ | refine evC_exit ?_) | ((with_reducible refine hΨ' _ _ ?_ ?_); (focus (simp; done)); clear hΨ hΨ' Ψ) | ((with_reducible apply evC_cond); rfl; rfl; all_goals (intro hc; first | (cases hc; done) | (try simp only at hc))) | ((with_reducible refine evD_nil ?_ ?_); kernel_rfl; (with_reducible refine hR _ ?_); clear hR R) | (((with_reducible apply evD_any); rfl; rfl; (simp (disch := omega) only [rdE, rdOf, go_sem, W]; rfl); (intro τ hA hQ hN; ((try simp only [agree, Op.operands, Call.operands, go_sem, W, go_sem, List.mem_cons, List.not_mem_nil, forall_eq_or_imp, forall_eq, List.append_toArray, Option.toArray] at hA); (try simp only [go_sem, W, List.mem_cons, List.not_mem_nil, forall_eq_or_imp, forall_eq] at hQ hN); (first | (revert hA; intro hA) | have hA := trivial); (first | (revert hQ; intro hQ) | have hQ := trivial); (first | (revert hN; intro hN) | have hN := trivial); simp (disch := omega) only [go_sem, W, go_sem, hA, hQ, hN]; (repeat (refine ndI (by first | assumption | omega | rfl) ?_)); (first | apply eff_rd | apply eff_st | apply eff_nw)))); (simp (disch := omega) only [St.eff, setO, hputs, go_sem, W])) | ((with_reducible refine evC_draw ?_ ?_ ?_ ?_); kernel_rfl; kernel_rfl; (first | kernel_rfl | simp [newNames, isNew, St.free, freeH, AV.refsL, AV.refs]); intro R hR)))))
  clear r1 b1
  refine evC_upto 25 (fun i => ⟨[lnA l, .ptr 1 0, .ptr 2 0, .ptr 3 0, .any, .any, .any, .any, .any, .any, .any, .any, .agg (rcV l), vi .i64 (i : Int), .any, .any, .any, .any, .any, .any, .any, .any, .any, .any, .any, .any, .any, .any, .any, .any, .any, .any, .any, .any, .any, .any, .any, .any, .any, .any, .any, .any, .any, .any, .any, .any, .any, .any, .any, .any, .any, .any, .any, .any, .any, .any, .any, .any, .any, .any, .any, .any, .any, .any, .any, .any, .any, .any, .any, .any, .any, .any, .any, .any, .any, .any, .any, .any, .any, .any, .any], [(1, rcV l), (2, rcV (zer 25)), (3, rcV (C i))]⟩) (St.le_of (by simp [leT]) (by rw [C0, rcV_zer25, rcV_zer5]; simp [leH, hget])) ?_
  intro i hi Ψ hΨ hΨ'
  by_cases hlt : i < 25
  · obtain ⟨cx, hcx⟩ : ∃ c, (C i).getD (i % 5) 0 = c := ⟨_, rfl⟩
    obtain ⟨lk, hlk⟩ : ∃ c, l.getD i 0 = c := ⟨_, rfl⟩
    have k1 := rcV_getD (l := C i) (i := i % 5) (by rw [cl]; omega)
    have k2 := rcV_getD (l := l) (i := i) (by omega)
    have k3 := u64_xor cx lk
    have k4 := rcV_set (C i) (i % 5) (cx ^^^ lk) (by rw [cl]; omega)
    have k5 := cs i
    rw [hcx, hlk] at k5
    rw [← k5] at k4
    rw [hcx] at k1
    rw [hlk] at k2
    have j1 : Int.tmod (i : Int) 5 = ((i % 5 : Nat) : Int) := by rw [Int.tmod_eq_emod_of_nonneg (by omega)]; omega
    have k6 : (rcV (C i)).length = 5 := by rw [rcV_len, cl]
    have hd : decide ((i : Int) < 25) = true := by simp; omega
    have m1 : i % 5 < 5 := by omega
    clear k5 hcx hlk hl C0 cl cs D0 dl ds U0 V0 vl us vs
    (have W := ndI b2 (ndI k1 (ndI k2 (ndI k3 (ndI k4 (ndI k6 (ndI j1 @wrI)))))); (repeat (any_goals (first | ((with_reducible refine evL_one ?_ ?_); rfl; intro K hK; simp (disch := omega) only [go_sem, W, hd, Nat.mul_one, Int.toNat_natCast, Nat.zero_add]; ((repeat (refine ndI (by first | assumption | omega | rfl) ?_)); refine hK _ ?_; clear hK K)) | (with_reducible first | (refine evL_nil ?_; refine hR _ ?_; clear hR R) | ((first | refine evC_seq ?_ | refine evC_block ?_); intro Ψ hΨ hΨ') | (refine evC_region ?_; intro R hR) | (refine hΨ _ ?_; clear hΨ hΨ' Ψ) | refine evC_skip ?_ | refine evC_ret ?_ | refine evC_exit ?_) | ((with_reducible refine hΨ' _ _ ?_ ?_); (focus (simp; done)); clear hΨ hΨ' Ψ) | ((with_reducible apply evC_cond); rfl; rfl; all_goals (intro hc; first | (cases hc; done) | (try simp only at hc))) | ((with_reducible refine evD_nil ?_ ?_); kernel_rfl; (with_reducible refine hR _ ?_); clear hR R) | (((with_reducible apply evD_any); rfl; rfl; (simp (disch := omega) only [rdE, rdOf, go_sem, W, hd, Nat.mul_one, Int.toNat_natCast, Nat.zero_add]; rfl); (intro τ hA hQ hN; ((try simp only [agree, Op.operands, Call.operands, go_sem, W, hd, Nat.mul_one, Int.toNat_natCast, Nat.zero_add, go_sem, List.mem_cons, List.not_mem_nil, forall_eq_or_imp, forall_eq, List.append_toArray, Option.toArray] at hA); (try simp only [go_sem, W, hd, Nat.mul_one, Int.toNat_natCast, Nat.zero_add, List.mem_cons, List.not_mem_nil, forall_eq_or_imp, forall_eq] at hQ hN); (first | (revert hA; intro hA) | have hA := trivial); (first | (revert hQ; intro hQ) | have hQ := trivial); (first | (revert hN; intro hN) | have hN := trivial); simp (disch := omega) only [go_sem, W, hd, Nat.mul_one, Int.toNat_natCast, Nat.zero_add, go_sem, hA, hQ, hN]; (repeat (refine ndI (by first | assumption | omega | rfl) ?_)); (first | apply eff_rd | apply eff_st | apply eff_nw)))); (simp (disch := omega) only [St.eff, setO, hputs, go_sem, W, hd, Nat.mul_one, Int.toNat_natCast, Nat.zero_add])) | ((with_reducible refine evC_draw ?_ ?_ ?_ ?_); kernel_rfl; kernel_rfl; (first | kernel_rfl | simp [newNames, isNew, St.free, freeH, AV.refsL, AV.refs]); intro R hR)))))
    exact hΨ _ (by omega) (St.le_of (by simp [leT]) (by simp [leH, hget]))
  · have hi25 : i = 25 := by omega
    subst hi25
    have cl' := cl 25
    obtain ⟨c, hc⟩ : ∃ c, C 25 = c := ⟨_, rfl⟩
    rw [hc] at cl' ⊢
    simp only [hc] at ds
    clear C0 cs cl hlt
    (repeat (any_goals (first | ((with_reducible refine evL_one ?_ ?_); rfl; intro K hK; simp (disch := omega) only [go_sem]; ((repeat (refine ndI (by first | assumption | omega | rfl) ?_)); refine hK _ ?_; clear hK K)) | (with_reducible first | (refine evL_nil ?_; refine hR _ ?_; clear hR R) | ((first | refine evC_seq ?_ | refine evC_block ?_); intro Ψ hΨ hΨ') | (refine evC_region ?_; intro R hR) | (refine hΨ _ ?_; clear hΨ hΨ' Ψ) | refine evC_skip ?_ | refine evC_ret ?_ | refine evC_exit ?_) | ((with_reducible refine hΨ' _ _ ?_ ?_); (focus (simp; done)); clear hΨ hΨ' Ψ) | ((with_reducible apply evC_cond); rfl; rfl; all_goals (intro hc; first | (cases hc; done) | (try simp only at hc))) | ((with_reducible refine evD_nil ?_ ?_); kernel_rfl; (with_reducible refine hR _ ?_); clear hR R) | (((with_reducible apply evD_any); rfl; rfl; (simp (disch := omega) only [rdE, rdOf, go_sem]; rfl); (intro τ hA hQ hN; ((try simp only [agree, Op.operands, Call.operands, go_sem, List.mem_cons, List.not_mem_nil, forall_eq_or_imp, forall_eq, List.append_toArray, Option.toArray] at hA); (try simp only [go_sem, List.mem_cons, List.not_mem_nil, forall_eq_or_imp, forall_eq] at hQ hN); (first | (revert hA; intro hA) | have hA := trivial); (first | (revert hQ; intro hQ) | have hQ := trivial); (first | (revert hN; intro hN) | have hN := trivial); simp (disch := omega) only [go_sem, hA, hQ, hN]; (repeat (refine ndI (by first | assumption | omega | rfl) ?_)); (first | apply eff_rd | apply eff_st | apply eff_nw)))); (simp (disch := omega) only [St.eff, setO, hputs, go_sem])) | ((with_reducible refine evC_draw ?_ ?_ ?_ ?_); kernel_rfl; kernel_rfl; (first | kernel_rfl | simp [newNames, isNew, St.free, freeH, AV.refsL, AV.refs]); intro R hR))))
    refine evC_upto 25 (fun i => ⟨[lnA l, .ptr 1 0, .ptr 2 0, .ptr 3 0, .any, .any, .any, .any, .any, .any, .any, .any, .any, .any, .any, .any, .any, .any, .any, .any, .any, .any, .any, .any, .any, vi .i64 (i : Int), .any, .any, .any, .any, .any, .any, .any, .any, .any, .any, .any, .any, .any, .any, .any, .any, .any, .any, .any, .any, .any, .any, .any, .any, .any, .any, .any, .any, .any, .any, .any, .any, .any, .any, .any, .any, .any, .any, .any, .any, .any, .any, .any, .any, .any, .any, .any, .any, .any, .any, .any, .any, .any, .any, .any], [(1, rcV (D i)), (2, rcV (zer 25)), (3, rcV c)]⟩) (St.le_of (by simp [leT]) (by rw [D0]; simp [leH, hget])) ?_
    intro i hi Ψ hΨ hΨ'
    by_cases hlt : i < 25
    · obtain ⟨cx, hcx⟩ : ∃ q, c.getD ((i % 5 + 4) % 5) 0 = q := ⟨_, rfl⟩
      obtain ⟨cy, hcy⟩ : ∃ q, c.getD ((i % 5 + 1) % 5) 0 = q := ⟨_, rfl⟩
      obtain ⟨lk, hlk⟩ : ∃ q, (D i).getD i 0 = q := ⟨_, rfl⟩
      have lf := left_fn cy 1 (by omega)
      obtain ⟨ry, hry⟩ : ∃ q, rotU cy 1 = q := ⟨_, rfl⟩
      rw [show 1 % 64 = 1 from rfl, hry] at lf
      have k1 := rcV_getD (l := c) (i := (i % 5 + 4) % 5) (by omega)
      have k2 := rcV_getD (l := c) (i := (i % 5 + 1) % 5) (by omega)
      have k3 := rcV_getD (l := D i) (i := i) (by rw [dl]; omega)
      have k5 := ds i
      rw [hcx, hcy, hlk, hry] at k5
      rw [hcx] at k1
      rw [hcy] at k2
      rw [hlk] at k3
      have u1 := u64_xor cx ry
      have u2 := u64_xor lk (cx ^^^ ry)
      have k4 := rcV_set (D i) i (lk ^^^ (cx ^^^ ry)) (by rw [dl]; omega)
      rw [← k5] at k4
      have k6 : (rcV (D i)).length = 25 := by rw [rcV_len, dl]
      have k7 : (rcV c).length = 5 := by rw [rcV_len, cl']
      have j1 : Int.tmod (i : Int) 5 = ((i % 5 : Nat) : Int) := by rw [Int.tmod_eq_emod_of_nonneg (by omega)]; omega
      have j2 : ((i % 5 : Nat) : Int) + 4 = ((i % 5 + 4 : Nat) : Int) := by omega
      have j3 : ((i % 5 : Nat) : Int) + 1 = ((i % 5 + 1 : Nat) : Int) := by omega
      have j4 : Int.tmod ((i % 5 + 4 : Nat) : Int) 5 = (((i % 5 + 4) % 5 : Nat) : Int) := by rw [Int.tmod_eq_emod_of_nonneg (by omega)]; omega
      have j5 : Int.tmod ((i % 5 + 1 : Nat) : Int) 5 = (((i % 5 + 1) % 5 : Nat) : Int) := by rw [Int.tmod_eq_emod_of_nonneg (by omega)]; omega
      have hd : decide ((i : Int) < 25) = true := by simp; omega
      clear k5 hcx hcy hlk hry hl D0 dl ds U0 V0 vl us vs
      generalize lk ^^^ (cx ^^^ ry) = z at k4 u2
      generalize cx ^^^ ry = cr at u1 u2
      (have W := ndI k1 (ndI k2 (ndI k3 (ndI k4 (ndI k6 (ndI k7 (ndI j1 (ndI j2 (ndI j3 (ndI j4 (ndI j5 (ndI u1 (ndI u2 @wrI)))))))))))); (repeat (any_goals (first | ((with_reducible refine evL_call ?_ ?_ ?_); rfl; rfl; intro K hK; ((apply opA_callB (lf); rfl; rfl; rfl; rfl; exact Tryd.func72); kernel_rfl; rfl; (focus ((simp (disch := omega) only [go_sem, W, hd, Nat.mul_one, Int.toNat_natCast, Nat.zero_add]); (try rfl); done)); (first | rfl | simp [AV.inNL, AV.inN])); (simp (disch := omega) only [go_sem, W, hd, Nat.mul_one, Int.toNat_natCast, Nat.zero_add]; refine hK _ ?_; clear hK K)) | ((with_reducible refine evL_one ?_ ?_); rfl; intro K hK; simp (disch := omega) only [go_sem, W, hd, Nat.mul_one, Int.toNat_natCast, Nat.zero_add]; ((repeat (refine ndI (by first | assumption | omega | rfl) ?_)); refine hK _ ?_; clear hK K)) | (with_reducible first | (refine evL_nil ?_; refine hR _ ?_; clear hR R) | ((first | refine evC_seq ?_ | refine evC_block ?_); intro Ψ hΨ hΨ') | (refine evC_region ?_; intro R hR) | (refine hΨ _ ?_; clear hΨ hΨ' Ψ) | refine evC_skip ?_ | refine evC_ret ?_ | refine evC_exit ?_) | ((with_reducible refine hΨ' _ _ ?_ ?_); (focus (simp; done)); clear hΨ hΨ' Ψ) | ((with_reducible apply evC_cond); rfl; rfl; all_goals (intro hc; first | (cases hc; done) | (try simp only at hc))) | ((with_reducible refine evD_nil ?_ ?_); (apply drawOK_sim); (focus (repeat (first | exact Sims.nil | ((apply Sims.cons); (focus (first | ((apply Ef.sim_row); assumption) | exact Ef.sim_refl _)))))); kernel_rfl; (with_reducible refine hR _ ?_); clear hR R) | ((first | ((with_reducible apply evD_skip); rfl; rfl; rfl; rfl) | ((with_reducible apply evD_unmet); rfl; rfl; rfl) | ((first | ((with_reducible apply evD_fcall); rfl; rfl) | ((with_reducible apply evD_gcall); rfl; rfl; rfl; rfl; rfl)); ((apply opF_callB (lf); rfl; rfl; rfl; rfl; exact Tryd.func72); kernel_rfl; rfl; (focus ((simp (disch := omega) only [go_sem, W, hd, Nat.mul_one, Int.toNat_natCast, Nat.zero_add]); (try rfl); done)); (first | rfl | simp [AV.inNL, AV.inN]))) | ((first | ((with_reducible apply evD_any); rfl; rfl) | ((with_reducible apply evD_gany); rfl; rfl; rfl; rfl; rfl)); (simp (disch := omega) only [rdE, rdOf, go_sem, W, hd, Nat.mul_one, Int.toNat_natCast, Nat.zero_add]; rfl); (intro τ hA hQ hN; ((try simp only [agree, Op.operands, Call.operands, go_sem, W, hd, Nat.mul_one, Int.toNat_natCast, Nat.zero_add, go_sem, List.mem_cons, List.not_mem_nil, forall_eq_or_imp, forall_eq, List.append_toArray, Option.toArray] at hA); (try simp only [go_sem, W, hd, Nat.mul_one, Int.toNat_natCast, Nat.zero_add, List.mem_cons, List.not_mem_nil, forall_eq_or_imp, forall_eq] at hQ hN); (first | (revert hA; intro hA) | have hA := trivial); (first | (revert hQ; intro hQ) | have hQ := trivial); (first | (revert hN; intro hN) | have hN := trivial); simp (disch := omega) only [go_sem, W, hd, Nat.mul_one, Int.toNat_natCast, Nat.zero_add, go_sem, hA, hQ, hN]; (repeat (refine ndI (by first | assumption | omega | rfl) ?_)); (first | apply eff_rd | apply eff_st | apply eff_nw))))); (simp (disch := omega) only [St.eff, setO, hputs, go_sem, W, hd, Nat.mul_one, Int.toNat_natCast, Nat.zero_add])) | ((with_reducible apply evD_split); rfl; rfl; rfl; all_goals intro hb; all_goals (simp (disch := omega) only [St.eff, setO, hputs, go_sem, W, hd, Nat.mul_one, Int.toNat_natCast, Nat.zero_add])) | ((with_reducible refine evC_draw ?_ ?_ ?_ ?_); kernel_rfl; kernel_rfl; (simp [newNames, isNew, St.free, freeH, AV.refsL, AV.refs, refsL_rcV]); intro R hR)))))
      exact hΨ _ (by omega) (St.le_of (by simp [leT]) (by simp [leH, hget]))
    · have hi25 : i = 25 := by omega
      subst hi25
      have k1 := rcV_getD (l := V 0) (i := 1) (by rw [vl]; omega)
      have k6 : (rcV (V 0)).length = 25 := by rw [rcV_len, vl]
      rw [show (V 0).getD 1 0 = U 0 by rw [U0, V0]] at k1
      rw [← V0]
      clear D0 ds dl U0 V0 hlt
      (repeat (any_goals (first | ((with_reducible refine evL_one ?_ ?_); rfl; intro K hK; simp (disch := omega) only [go_sem, k1, k6]; ((repeat (refine ndI (by first | assumption | omega | rfl) ?_)); refine hK _ ?_; clear hK K)) | (with_reducible first | (refine evL_nil ?_; refine hR _ ?_; clear hR R) | ((first | refine evC_seq ?_ | refine evC_block ?_); intro Ψ hΨ hΨ') | (refine evC_region ?_; intro R hR) | (refine hΨ _ ?_; clear hΨ hΨ' Ψ) | refine evC_skip ?_ | refine evC_ret ?_ | refine evC_exit ?_) | ((with_reducible refine hΨ' _ _ ?_ ?_); (focus (simp; done)); clear hΨ hΨ' Ψ) | ((with_reducible apply evC_cond); rfl; rfl; all_goals (intro hc; first | (cases hc; done) | (try simp only at hc))) | ((with_reducible refine evD_nil ?_ ?_); kernel_rfl; (with_reducible refine hR _ ?_); clear hR R) | (((with_reducible apply evD_any); rfl; rfl; (simp (disch := omega) only [rdE, rdOf, go_sem, k1, k6]; rfl); (intro τ hA hQ hN; ((try simp only [agree, Op.operands, Call.operands, go_sem, k1, k6, go_sem, List.mem_cons, List.not_mem_nil, forall_eq_or_imp, forall_eq, List.append_toArray, Option.toArray] at hA); (try simp only [go_sem, k1, k6, List.mem_cons, List.not_mem_nil, forall_eq_or_imp, forall_eq] at hQ hN); (first | (revert hA; intro hA) | have hA := trivial); (first | (revert hQ; intro hQ) | have hQ := trivial); (first | (revert hN; intro hN) | have hN := trivial); simp (disch := omega) only [go_sem, k1, k6, go_sem, hA, hQ, hN]; (repeat (refine ndI (by first | assumption | omega | rfl) ?_)); (first | apply eff_rd | apply eff_st | apply eff_nw)))); (simp (disch := omega) only [St.eff, setO, hputs, go_sem, k1, k6])) | ((with_reducible refine evC_draw ?_ ?_ ?_ ?_); kernel_rfl; kernel_rfl; (first | kernel_rfl | simp [newNames, isNew, St.free, freeH, AV.refsL, AV.refs]); intro R hR))))
      clear k1 k6
      refine evC_upto 24 (fun i => ⟨[lnA l, .ptr 1 0, .ptr 2 0, .ptr 3 0, .any, .any, .any, .any, vi .i64 ((pqA i).1 : Int), vi .i64 ((pqA i).2 : Int), lvA (U i), .any, .any, .any, .any, .any, .any, .any, .any, .any, .any, .any, .any, .any, .any, .any, .any, .any, .any, .any, .any, .any, .any, .any, .any, .any, .any, .any, .any, .any, .any, .any, .any, .any, .any, .any, .any, .any, .any, .any, vi .i64 (i : Int), .any, .any, .any, .any, .any, .any, .any, .any, .any, .any, .any, .any, .any, .any, .any, .any, .any, .any, .any, .any, .any, .any, .any, .any, .any, .any, .any, .any, .any, .any], [(1, rcV (V i)), (2, rcV (zer 25)), (3, rcV c)]⟩) (St.le_of (by simp [leT, pqA]) (by simp [leH, hget])) ?_
      intro i hi Ψ hΨ hΨ'
      by_cases hlt : i < 24
      · obtain ⟨lx, ly⟩ := pqA_lt i
        have lz := ixA_lt i
        have i1 : (pqA (i + 1)).1 = (pqA i).2 := rfl
        have i2 : (pqA (i + 1)).2 = (2 * (pqA i).1 + 3 * (pqA i).2) % 5 := rfl
        have i3 : ixA i = 5 * ((2 * (pqA i).1 + 3 * (pqA i).2) % 5) + (pqA i).2 := rfl
        have hg : (i + 1) * (i + 2) ≤ 24 * 25 := Nat.mul_le_mul (by omega) (by omega)
        have g1 : ((i + 1 : Nat) : Int) * ((i + 2 : Nat) : Int) = (((i + 1) * (i + 2) : Nat) : Int) := by push_cast; rfl
        have lf := left_fn (U i) ((i + 1) * (i + 2) / 2) (by omega)
        have k5 := vs i
        have k2 := us i
        obtain ⟨g, hgv⟩ : ∃ q, (i + 1) * (i + 2) = q := ⟨_, rfl⟩
        rw [hgv] at hg g1 lf k5
        have k1 := rcV_getD (l := V i) (i := ixA i) (by rw [vl]; omega)
        rw [← k2] at k1
        have k4 := rcV_set (V i) (ixA i) (rotU (U i) (g / 2 % 64)) (by rw [vl]; omega)
        rw [← k5] at k4
        obtain ⟨z, hz⟩ : ∃ q, rotU (U i) (g / 2 % 64) = q := ⟨_, rfl⟩
        rw [hz] at lf k4
        have k6 : (rcV (V i)).length = 25 := by rw [rcV_len, vl]
        have hd : decide ((i : Int) < 24) = true := by simp; omega
        have j1 : (2 : Int) * ((pqA i).1 : Int) = ((2 * (pqA i).1 : Nat) : Int) := by omega
        have j2 : (3 : Int) * ((pqA i).2 : Int) = ((3 * (pqA i).2 : Nat) : Int) := by omega
        have j3 : ((2 * (pqA i).1 : Nat) : Int) + ((3 * (pqA i).2 : Nat) : Int) = ((2 * (pqA i).1 + 3 * (pqA i).2 : Nat) : Int) := by omega
        have j4 : Int.tmod ((2 * (pqA i).1 + 3 * (pqA i).2 : Nat) : Int) 5 = (((pqA (i + 1)).2 : Nat) : Int) := by rw [Int.tmod_eq_emod_of_nonneg (by omega), i2]; omega
        have j5 : (5 : Int) * (((pqA (i + 1)).2 : Nat) : Int) = ((5 * (pqA (i + 1)).2 : Nat) : Int) := by omega
        have j6 : ((5 * (pqA (i + 1)).2 : Nat) : Int) + ((pqA i).2 : Int) = ((ixA i : Nat) : Int) := by rw [i3, i2]; omega
        have j7 : (i : Int) + 1 = ((i + 1 : Nat) : Int) := by omega
        have j8 : (i : Int) + 2 = ((i + 2 : Nat) : Int) := by omega
        have j9 : Int.tdiv ((g : Nat) : Int) 2 = ((g / 2 : Nat) : Int) := by rw [Int.tdiv_eq_ediv_of_nonneg (by omega)]; omega
        have m2 : (pqA (i + 1)).2 < 5 := by rw [i2]; omega
        clear k5 k2 hz hgv i3 us vs vl hl
        (have W := ndI k1 (ndI k4 (ndI k6 (ndI j1 (ndI j2 (ndI j3 (ndI j4 (ndI j5 (ndI j6 (ndI j7 (ndI j8 (ndI j9 (ndI g1 @wrI)))))))))))); (repeat (any_goals (first | ((with_reducible refine evL_call ?_ ?_ ?_); rfl; rfl; intro K hK; ((apply opA_callB (lf); rfl; rfl; rfl; rfl; exact Tryd.func72); kernel_rfl; rfl; (focus ((simp (disch := omega) only [go_sem, W, hd, Nat.mul_one, Int.toNat_natCast, Nat.zero_add]); (try rfl); done)); (first | rfl | simp [AV.inNL, AV.inN])); (simp (disch := omega) only [go_sem, W, hd, Nat.mul_one, Int.toNat_natCast, Nat.zero_add]; refine hK _ ?_; clear hK K)) | ((with_reducible refine evL_one ?_ ?_); rfl; intro K hK; simp (disch := omega) only [go_sem, W, hd, Nat.mul_one, Int.toNat_natCast, Nat.zero_add]; ((repeat (refine ndI (by first | assumption | omega | rfl) ?_)); refine hK _ ?_; clear hK K)) | (with_reducible first | (refine evL_nil ?_; refine hR _ ?_; clear hR R) | ((first | refine evC_seq ?_ | refine evC_block ?_); intro Ψ hΨ hΨ') | (refine evC_region ?_; intro R hR) | (refine hΨ _ ?_; clear hΨ hΨ' Ψ) | refine evC_skip ?_ | refine evC_ret ?_ | refine evC_exit ?_) | ((with_reducible refine hΨ' _ _ ?_ ?_); (focus (simp; done)); clear hΨ hΨ' Ψ) | ((with_reducible apply evC_cond); rfl; rfl; all_goals (intro hc; first | (cases hc; done) | (try simp only at hc))) | ((with_reducible refine evD_nil ?_ ?_); (apply drawOK_sim); (focus (repeat (first | exact Sims.nil | ((apply Sims.cons); (focus (first | ((apply Ef.sim_row); assumption) | exact Ef.sim_refl _)))))); kernel_rfl; (with_reducible refine hR _ ?_); clear hR R) | ((first | ((with_reducible apply evD_skip); rfl; rfl; rfl; rfl) | ((with_reducible apply evD_unmet); rfl; rfl; rfl) | ((first | ((with_reducible apply evD_fcall); rfl; rfl) | ((with_reducible apply evD_gcall); rfl; rfl; rfl; rfl; rfl)); ((apply opF_callB (lf); rfl; rfl; rfl; rfl; exact Tryd.func72); kernel_rfl; rfl; (focus ((simp (disch := omega) only [go_sem, W, hd, Nat.mul_one, Int.toNat_natCast, Nat.zero_add]); (try rfl); done)); (first | rfl | simp [AV.inNL, AV.inN]))) | ((first | ((with_reducible apply evD_any); rfl; rfl) | ((with_reducible apply evD_gany); rfl; rfl; rfl; rfl; rfl)); (simp (disch := omega) only [rdE, rdOf, go_sem, W, hd, Nat.mul_one, Int.toNat_natCast, Nat.zero_add]; rfl); (intro τ hA hQ hN; ((try simp only [agree, Op.operands, Call.operands, go_sem, W, hd, Nat.mul_one, Int.toNat_natCast, Nat.zero_add, go_sem, List.mem_cons, List.not_mem_nil, forall_eq_or_imp, forall_eq, List.append_toArray, Option.toArray] at hA); (try simp only [go_sem, W, hd, Nat.mul_one, Int.toNat_natCast, Nat.zero_add, List.mem_cons, List.not_mem_nil, forall_eq_or_imp, forall_eq] at hQ hN); (first | (revert hA; intro hA) | have hA := trivial); (first | (revert hQ; intro hQ) | have hQ := trivial); (first | (revert hN; intro hN) | have hN := trivial); simp (disch := omega) only [go_sem, W, hd, Nat.mul_one, Int.toNat_natCast, Nat.zero_add, go_sem, hA, hQ, hN]; (repeat (refine ndI (by first | assumption | omega | rfl) ?_)); (first | apply eff_rd | apply eff_st | apply eff_nw))))); (simp (disch := omega) only [St.eff, setO, hputs, go_sem, W, hd, Nat.mul_one, Int.toNat_natCast, Nat.zero_add])) | ((with_reducible apply evD_split); rfl; rfl; rfl; all_goals intro hb; all_goals (simp (disch := omega) only [St.eff, setO, hputs, go_sem, W, hd, Nat.mul_one, Int.toNat_natCast, Nat.zero_add])) | ((with_reducible refine evC_draw ?_ ?_ ?_ ?_); kernel_rfl; kernel_rfl; (simp [newNames, isNew, St.free, freeH, AV.refsL, AV.refs, refsL_rcV]); intro R hR)))))
        exact hΨ _ (by omega) (St.le_of (by simp [leT, i1]) (by simp [leH, hget]))
      · have hi24 : i = 24 := by omega
        subst hi24
        have b1 : List.take 25 (rcV (V 24)) = rcV (V 24) := rcV_take _ (vl _)
        have b2 : (rcV (V 24)).length = 25 := by rw [rcV_len]; exact vl _
        have z1 : List.drop 25 (rcV (zer 25)) = [] := List.drop_eq_nil_of_le (by rw [rcV_len, zer_len]; omega)
        have z2 : (rcV (zer 25)).length = 25 := by rw [rcV_len, zer_len]
        clear us vs vl hl hlt
        obtain ⟨z, hz⟩ : ∃ q, zer 25 = q := ⟨_, rfl⟩
        rw [hz] at z1 z2 ⊢
        (have W := ndI b1 (ndI b2 (ndI z1 z2)); (repeat (any_goals (first | ((with_reducible refine evL_one ?_ ?_); rfl; intro K hK; simp (disch := omega) only [go_sem, W, refsL_rcV]; ((repeat (refine ndI (by first | assumption | omega | rfl) ?_)); refine hK _ ?_; clear hK K)) | (with_reducible first | (refine evL_nil ?_; refine hR _ ?_; clear hR R) | ((first | refine evC_seq ?_ | refine evC_block ?_); intro Ψ hΨ hΨ') | (refine evC_region ?_; intro R hR) | (refine hΨ _ ?_; clear hΨ hΨ' Ψ) | refine evC_skip ?_ | refine evC_ret ?_ | refine evC_exit ?_) | ((with_reducible refine hΨ' _ _ ?_ ?_); (focus (simp; done)); clear hΨ hΨ' Ψ) | ((with_reducible apply evC_cond); rfl; rfl; all_goals (intro hc; first | (cases hc; done) | (try simp only at hc))) | ((with_reducible refine evD_nil ?_ ?_); kernel_rfl; (with_reducible refine hR _ ?_); clear hR R) | (((with_reducible apply evD_any); rfl; rfl; (simp (disch := omega) only [rdE, rdOf, go_sem, W, refsL_rcV]; rfl); (intro τ hA hQ hN; ((try simp only [agree, Op.operands, Call.operands, go_sem, W, refsL_rcV, go_sem, List.mem_cons, List.not_mem_nil, forall_eq_or_imp, forall_eq, List.append_toArray, Option.toArray] at hA); (try simp only [go_sem, W, refsL_rcV, List.mem_cons, List.not_mem_nil, forall_eq_or_imp, forall_eq] at hQ hN); (first | (revert hA; intro hA) | have hA := trivial); (first | (revert hQ; intro hQ) | have hQ := trivial); (first | (revert hN; intro hN) | have hN := trivial); simp (disch := omega) only [go_sem, W, refsL_rcV, go_sem, hA, hQ, hN]; (repeat (refine ndI (by first | assumption | omega | rfl) ?_)); (first | apply eff_rd | apply eff_st | apply eff_nw)))); (simp (disch := omega) only [St.eff, setO, hputs, go_sem, W, refsL_rcV])) | ((with_reducible refine evC_draw ?_ ?_ ?_ ?_); kernel_rfl; kernel_rfl; (first | kernel_rfl | simp [newNames, isNew, St.free, freeH, AV.refsL, AV.refs]); intro R hR)))))
        all_goals (refine ⟨by simp, ⟨_, ?_, AV.le_refl _⟩, leH_get (by simp [leH, hget])⟩; simp only [Tryd.results62, resL, ldA, oneOf, go_sem, b1]; rw [if_pos (by omega)]; rfl)
theorem tA_0f (m : List UInt64) : (tA m 0).1 = m.getD 1 0 := rfl
theorem tA_0s (m : List UInt64) : (tA m 0).2 = m := rfl
theorem tA_sf (m : List UInt64) (k : Nat) : (tA m (k + 1)).1 = (tA m k).2.getD (ixA k) 0 := rfl
theorem tA_ss (m : List UInt64) (k : Nat) : (tA m (k + 1)).2 = (tA m k).2.set (ixA k) (rotU (tA m k).1 ((k + 1) * (k + 2) / 2 % 64)) := rfl
theorem cA_s (l : List UInt64) (k : Nat) : cA l (k + 1) = (cA l k).set (k % 5) ((cA l k).getD (k % 5) 0 ^^^ l.getD k 0) := rfl
theorem dA_s (l c : List UInt64) (k : Nat) : dA l c (k + 1) = (dA l c k).set k ((dA l c k).getD k 0 ^^^ (c.getD ((k % 5 + 4) % 5) 0 ^^^ rotU (c.getD ((k % 5 + 1) % 5) 0) 1)) := rfl
theorem mixR_eq (l : List UInt64) : mixR l = (tA (dA l (cA l 25) 25) 24).2 := rfl
theorem rmix_fn (l : List UInt64) (hl : l.length = 25) : Fn Tryd.prog 62 [lnA l] [] (lnA (mixR l)) [] := by
  rw [mixR_eq]
  have c0 : cA l 0 = zer 5 := rfl
  have cs := cA_s l
  have cl := cA_len l
  generalize cA l = C at *
  have d0 : dA l (C 25) 0 = l := rfl
  have ds := dA_s l (C 25)
  have dl := fun k => (dA_len l (C 25) k).trans hl
  generalize dA l (C 25) = D at *
  have u0 := tA_0f (D 25)
  have v0 := tA_0s (D 25)
  have us := tA_sf (D 25)
  have vs := tA_ss (D 25)
  have vl := fun k => (tA_len (D 25) k).trans (dl 25)
  generalize tA (D 25) = T at *
  exact rmix_fnE l C D (fun k => (T k).1) (fun k => (T k).2) hl c0 cl cs d0 dl ds u0 v0 vl us vs
end Go.Proofs.YtgdjkkapgghdbaaDoor

