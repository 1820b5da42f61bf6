/-
  Rows of the document: what they compute. Reckoned.
-/
import Derived.Test.YtgdjkkapgghdbaaDoorYe
namespace Go.Proofs.YtgdjkkapgghdbaaDoor
open Go.RowKit
open Nat (reduceBEq)
set_option linter.unusedVariables false
set_option linter.unusedSimpArgs false
set_option maxRecDepth 20000
set_option maxHeartbeats 2000000
attribute [local simp] inNL_rcV refsL_rcV renL_rcV
def eA (l : List UInt64) : Nat → List UInt64
  | 0 => l
  | k + 1 => (eA l k).set k (l.getD k 0 ^^^ (l.getD (5 * (k / 5) + (k % 5 + 2) % 5) 0 &&& ~~~ l.getD (5 * (k / 5) + (k % 5 + 1) % 5) 0))
theorem eA_len (l : List UInt64) : ∀ k, (eA l k).length = l.length
  | 0 => rfl
  | k + 1 => by unfold eA; rw [List.length_set, eA_len l k]
def rowsR (l : List UInt64) : List UInt64 := eA l 25
theorem u64_andNot (x y : UInt64) : IntKind.u64.wrap ((@HAnd.hAnd (BitVec 64) (BitVec 64) (BitVec 64) (@instHAndOfAndOp (BitVec IntKind.u64.bits) (@BitVec.instAndOp IntKind.u64.bits)) (BitVec.ofInt 64 (x.toNat : Int)) (@Complement.complement (BitVec 64) (@BitVec.instComplement IntKind.u64.bits) (BitVec.ofInt 64 (y.toNat : Int)))).toNat : Int) = ((x &&& ~~~ y).toNat : Int) := by
  show IntKind.u64.wrap ((BitVec.ofInt 64 (x.toNat : Int) &&& ~~~ BitVec.ofInt 64 (y.toNat : Int)).toNat : Int) = _
  rw [bvU, bvU, u64w, show (x.toBitVec &&& ~~~ y.toBitVec).toNat = (x &&& ~~~ y).toNat from rfl, Nat.mod_eq_of_lt (x &&& ~~~ y).toNat_lt]
theorem rrows_fnE (l : List UInt64) (B : Nat → List UInt64) (hl : l.length = 25) (B0 : B 0 = l) (bl : ∀ k, (B k).length = 25)
    (bs : ∀ k, B (k + 1) = (B k).set k (l.getD k 0 ^^^ (l.getD (5 * (k / 5) + (k % 5 + 2) % 5) 0 &&& ~~~ l.getD (5 * (k / 5) + (k % 5 + 1) % 5) 0))) :
    Fn Tryd.prog 61 [lnA l] [] (lnA (B 25)) [] := by
  have r1 := fun d => refsL_rcV d l
  (refine fn_of Tryd.func61 rfl (by rfl) ?_; simp only [Tryd.ntmps61, List.length_cons, List.length_nil, Nat.reduceAdd, Nat.reduceSub, List.replicate, List.cons_append, List.nil_append])
  have b1 : List.take 25 (rcV l) = rcV l := rcV_take _ hl
  have b2 : (rcV l).length = 25 := by rw [rcV_len]; exact hl
  have b3 : List.drop 25 (rcV l) = [] := List.drop_eq_nil_of_le (by omega)
  (have W := ndI r1 (ndI b1 (ndI b2 b3)); (repeat (any_goals (first | ((with_reducible refine evL_one ?_ ?_); rfl; intro K hK; simp (disch := omega) only [go_sem, W]; ((repeat (refine ndI (by first | assumption | omega | rfl) ?_)); refine hK _ ?_; clear hK K)) | (with_reducible first | (refine evL_nil ?_; refine hR _ ?_; clear hR R) | ((first | refine evC_seq ?_ | refine evC_block ?_); intro Ψ hΨ hΨ') | (refine evC_region ?_; intro R hR) | (refine hΨ _ ?_; clear hΨ hΨ' Ψ) | refine evC_skip ?_ | refine evC_ret ?_ | refine evC_exit ?_) | ((with_reducible refine hΨ' _ _ ?_ ?_); (focus (simp; done)); clear hΨ hΨ' Ψ) | ((with_reducible apply evC_cond); rfl; rfl; all_goals (intro hc; first | (cases hc; done) | (try simp only at hc))) | ((with_reducible refine evD_nil ?_ ?_); kernel_rfl; (with_reducible refine hR _ ?_); clear hR R) | (((with_reducible apply evD_any); rfl; rfl; (simp (disch := omega) only [rdE, rdOf, go_sem, W]; rfl); (intro τ hA hQ hN; ((try simp only [agree, Op.operands, Call.operands, go_sem, W, go_sem, List.mem_cons, List.not_mem_nil, forall_eq_or_imp, forall_eq, List.append_toArray, Option.toArray] at hA); (try simp only [go_sem, W, List.mem_cons, List.not_mem_nil, forall_eq_or_imp, forall_eq] at hQ hN); (first | (revert hA; intro hA) | have hA := trivial); (first | (revert hQ; intro hQ) | have hQ := trivial); (first | (revert hN; intro hN) | have hN := trivial); simp (disch := omega) only [go_sem, W, go_sem, hA, hQ, hN]; (repeat (refine ndI (by first | assumption | omega | rfl) ?_)); (first | apply eff_rd | apply eff_st | apply eff_nw)))); (simp (disch := omega) only [St.eff, setO, hputs, go_sem, W])) | ((with_reducible refine evC_draw ?_ ?_ ?_ ?_); kernel_rfl; kernel_rfl; (first | kernel_rfl | simp [newNames, isNew, St.free, freeH, AV.refsL, AV.refs]); intro R hR)))))
  clear r1 b1 b3
  refine evC_upto 5 (fun y => ⟨[lnA l, .ptr 1 0, .ptr 2 0, .ptr 3 0, .any, .any, .any, vi .i64 (y : Int), .any, .any, .any, .any, .any, .any, .any, .any, .any, .any, .any, .any, .any, .any, .any, .any, .any, .any, .any, .any, .any, .any, .any, .any, .any, .any, .any, .any, .any, .any, .any, .any, .any, .any, .any, .any, .any], [(1, rcV (B (5 * y))), (2, rcV (zer 25)), (3, rcV l)]⟩) (St.le_of (by simp [leT]) (by rw [Nat.mul_zero, B0, rcV_zer25]; simp [leH, hget])) ?_
  intro y hy Ψ hΨ hΨ'
  by_cases hlt : y < 5
  · have hd : decide ((y : Int) < 5) = true := by simp; omega
    (repeat (any_goals (first | ((with_reducible refine evL_one ?_ ?_); rfl; intro K hK; simp (disch := omega) only [go_sem, hd]; ((repeat (refine ndI (by first | assumption | omega | rfl) ?_)); refine hK _ ?_; clear hK K)) | (with_reducible first | (refine evL_nil ?_; refine hR _ ?_; clear hR R) | ((first | refine evC_seq ?_ | refine evC_block ?_); intro Ψ hΨ hΨ') | (refine evC_region ?_; intro R hR) | (refine hΨ _ ?_; clear hΨ hΨ' Ψ) | refine evC_skip ?_ | refine evC_ret ?_ | refine evC_exit ?_) | ((with_reducible refine hΨ' _ _ ?_ ?_); (focus (simp; done)); clear hΨ hΨ' Ψ) | ((with_reducible apply evC_cond); rfl; rfl; all_goals (intro hc; first | (cases hc; done) | (try simp only at hc))) | ((with_reducible refine evD_nil ?_ ?_); kernel_rfl; (with_reducible refine hR _ ?_); clear hR R) | (((with_reducible apply evD_any); rfl; rfl; (simp (disch := omega) only [rdE, rdOf, go_sem, hd]; rfl); (intro τ hA hQ hN; ((try simp only [agree, Op.operands, Call.operands, go_sem, hd, go_sem, List.mem_cons, List.not_mem_nil, forall_eq_or_imp, forall_eq, List.append_toArray, Option.toArray] at hA); (try simp only [go_sem, hd, List.mem_cons, List.not_mem_nil, forall_eq_or_imp, forall_eq] at hQ hN); (first | (revert hA; intro hA) | have hA := trivial); (first | (revert hQ; intro hQ) | have hQ := trivial); (first | (revert hN; intro hN) | have hN := trivial); simp (disch := omega) only [go_sem, hd, go_sem, hA, hQ, hN]; (repeat (refine ndI (by first | assumption | omega | rfl) ?_)); (first | apply eff_rd | apply eff_st | apply eff_nw)))); (simp (disch := omega) only [St.eff, setO, hputs, go_sem, hd])) | ((with_reducible refine evC_draw ?_ ?_ ?_ ?_); kernel_rfl; kernel_rfl; (first | kernel_rfl | simp [newNames, isNew, St.free, freeH, AV.refsL, AV.refs]); intro R hR))))
    refine evC_upto 5 (fun x => ⟨[lnA l, .ptr 1 0, .ptr 2 0, .ptr 3 0, vi .i64 (y : Int), .any, .any, vi .i64 (y : Int), .any, .any, vi .i64 (x : Int), .any, .any, .any, .any, .any, .any, .any, .any, .any, .any, .any, .any, .any, .any, .any, .any, .any, .any, .any, .any, .any, .any, .any, .any, .any, .any, .any, .any, .any, .any, .any, .any, .any, .any], [(1, rcV (B (5 * y + x))), (2, rcV (zer 25)), (3, rcV l)]⟩) (St.le_of (by simp [leT]) (by simp [leH, hget])) ?_
    intro x hx Ψ hΨ hΨ'
    by_cases hlx : x < 5
    · have e1 : (5 * y + x) / 5 = y := by omega
      have e2 : (5 * y + x) % 5 = x := by omega
      have k5 := bs (5 * y + x)
      rw [e1, e2] at k5
      obtain ⟨lk, hlk⟩ : ∃ q, l.getD (5 * y + x) 0 = q := ⟨_, rfl⟩
      obtain ⟨lp, hlp⟩ : ∃ q, l.getD (5 * y + (x + 2) % 5) 0 = q := ⟨_, rfl⟩
      obtain ⟨lq, hlq⟩ : ∃ q, l.getD (5 * y + (x + 1) % 5) 0 = q := ⟨_, rfl⟩
      have k1 := rcV_getD (l := l) (i := 5 * y + x) (by omega)
      have k2 := rcV_getD (l := l) (i := 5 * y + (x + 2) % 5) (by omega)
      have k3 := rcV_getD (l := l) (i := 5 * y + (x + 1) % 5) (by omega)
      rw [hlk] at k1
      rw [hlp] at k2
      rw [hlq] at k3
      rw [hlk, hlp, hlq] at k5
      have u1 := u64_andNot lp lq
      have u2 := u64_xor lk (lp &&& ~~~ lq)
      have k4 := rcV_set (B (5 * y + x)) (5 * y + x) (lk ^^^ (lp &&& ~~~ lq)) (by rw [bl]; omega)
      rw [← k5] at k4
      have k6 : (rcV (B (5 * y + x))).length = 25 := by rw [rcV_len, bl]
      have hd : decide ((x : Int) < 5) = true := by simp; omega
      have j1 : (5 : Int) * (y : Int) = ((5 * y : Nat) : Int) := by omega
      have j2 : ((5 * y : Nat) : Int) + (x : Int) = ((5 * y + x : Nat) : Int) := by omega
      have j3 : (x : Int) + 2 = ((x + 2 : Nat) : Int) := by omega
      have j4 : (x : Int) + 1 = ((x + 1 : Nat) : Int) := by omega
      have j5 : Int.tmod ((x + 2 : Nat) : Int) 5 = (((x + 2) % 5 : Nat) : Int) := by rw [Int.tmod_eq_emod_of_nonneg (by omega)]; omega
      have j6 : Int.tmod ((x + 1 : Nat) : Int) 5 = (((x + 1) % 5 : Nat) : Int) := by rw [Int.tmod_eq_emod_of_nonneg (by omega)]; omega
      have j7 : ((5 * y : Nat) : Int) + (((x + 2) % 5 : Nat) : Int) = ((5 * y + (x + 2) % 5 : Nat) : Int) := by omega
      have j8 : ((5 * y : Nat) : Int) + (((x + 1) % 5 : Nat) : Int) = ((5 * y + (x + 1) % 5 : Nat) : Int) := by omega
      have m1 : 5 * y + (x + 1) % 5 < 25 := by omega
      have m2 : 5 * y + (x + 2) % 5 < 25 := by omega
      have m3 : 5 * y + x < 25 := by omega
      clear k5 hlk hlp hlq e1 e2 bs B0 bl hl
      generalize lk ^^^ (lp &&& ~~~ lq) = z at k4 u2
      generalize lp &&& ~~~ lq = cr at u1 u2
      (have W := ndI b2 (ndI k1 (ndI k2 (ndI k3 (ndI k4 (ndI k6 (ndI j1 (ndI j2 (ndI j3 (ndI j4 (ndI j5 (ndI j6 (ndI j7 (ndI j8 (ndI u1 (ndI u2 @wrI))))))))))))))); (repeat (any_goals (first | ((with_reducible refine evL_one ?_ ?_); rfl; intro K hK; simp (disch := omega) only [go_sem, W, hd, Nat.mul_one, Int.toNat_natCast, Nat.zero_add]; ((repeat (refine ndI (by first | assumption | omega | rfl) ?_)); refine hK _ ?_; clear hK K)) | (with_reducible first | (refine evL_nil ?_; refine hR _ ?_; clear hR R) | ((first | refine evC_seq ?_ | refine evC_block ?_); intro Ψ hΨ hΨ') | (refine evC_region ?_; intro R hR) | (refine hΨ _ ?_; clear hΨ hΨ' Ψ) | refine evC_skip ?_ | refine evC_ret ?_ | refine evC_exit ?_) | ((with_reducible refine hΨ' _ _ ?_ ?_); (focus (simp; done)); clear hΨ hΨ' Ψ) | ((with_reducible apply evC_cond); rfl; rfl; all_goals (intro hc; first | (cases hc; done) | (try simp only at hc))) | ((with_reducible refine evD_nil ?_ ?_); (apply drawOK_sim); (focus (repeat (first | exact Sims.nil | ((apply Sims.cons); (focus (first | ((apply Ef.sim_row); assumption) | exact Ef.sim_refl _)))))); kernel_rfl; (with_reducible refine hR _ ?_); clear hR R) | ((first | ((with_reducible apply evD_skip); rfl; rfl; rfl; rfl) | ((with_reducible apply evD_unmet); rfl; rfl; rfl) | ((first | ((with_reducible apply evD_any); rfl; rfl) | ((with_reducible apply evD_gany); rfl; rfl; rfl; rfl; rfl)); (simp (disch := omega) only [rdE, rdOf, go_sem, W, hd, Nat.mul_one, Int.toNat_natCast, Nat.zero_add]; rfl); (intro τ hA hQ hN; ((try simp only [agree, Op.operands, Call.operands, go_sem, W, hd, Nat.mul_one, Int.toNat_natCast, Nat.zero_add, go_sem, List.mem_cons, List.not_mem_nil, forall_eq_or_imp, forall_eq, List.append_toArray, Option.toArray] at hA); (try simp only [go_sem, W, hd, Nat.mul_one, Int.toNat_natCast, Nat.zero_add, List.mem_cons, List.not_mem_nil, forall_eq_or_imp, forall_eq] at hQ hN); (first | (revert hA; intro hA) | have hA := trivial); (first | (revert hQ; intro hQ) | have hQ := trivial); (first | (revert hN; intro hN) | have hN := trivial); simp (disch := omega) only [go_sem, W, hd, Nat.mul_one, Int.toNat_natCast, Nat.zero_add, go_sem, hA, hQ, hN]; (repeat (refine ndI (by first | assumption | omega | rfl) ?_)); (first | apply eff_rd | apply eff_st | apply eff_nw))))); (simp (disch := omega) only [St.eff, setO, hputs, go_sem, W, hd, Nat.mul_one, Int.toNat_natCast, Nat.zero_add])) | ((with_reducible apply evD_split); rfl; rfl; rfl; all_goals intro hb; all_goals (simp (disch := omega) only [St.eff, setO, hputs, go_sem, W, hd, Nat.mul_one, Int.toNat_natCast, Nat.zero_add])) | ((with_reducible refine evC_draw ?_ ?_ ?_ ?_); kernel_rfl; kernel_rfl; (simp [newNames, isNew, St.free, freeH, AV.refsL, AV.refs, refsL_rcV]); intro R hR)))))
      exact hΨ _ (by omega) (St.le_of (by simp [leT]) (by simp [leH, hget]; rfl))
    · have hx5 : x = 5 := by omega
      subst hx5
      (repeat (any_goals (first | ((with_reducible refine evL_one ?_ ?_); rfl; intro K hK; simp (disch := omega) only [go_sem, wrI]; ((repeat (refine ndI (by first | assumption | omega | rfl) ?_)); refine hK _ ?_; clear hK K)) | (with_reducible first | (refine evL_nil ?_; refine hR _ ?_; clear hR R) | ((first | refine evC_seq ?_ | refine evC_block ?_); intro Ψ hΨ hΨ') | (refine evC_region ?_; intro R hR) | (refine hΨ _ ?_; clear hΨ hΨ' Ψ) | refine evC_skip ?_ | refine evC_ret ?_ | refine evC_exit ?_) | ((with_reducible refine hΨ' _ _ ?_ ?_); (focus (simp; done)); clear hΨ hΨ' Ψ) | ((with_reducible apply evC_cond); rfl; rfl; all_goals (intro hc; first | (cases hc; done) | (try simp only at hc))) | ((with_reducible refine evD_nil ?_ ?_); kernel_rfl; (with_reducible refine hR _ ?_); clear hR R) | (((with_reducible apply evD_any); rfl; rfl; (simp (disch := omega) only [rdE, rdOf, go_sem, wrI]; rfl); (intro τ hA hQ hN; ((try simp only [agree, Op.operands, Call.operands, go_sem, wrI, go_sem, List.mem_cons, List.not_mem_nil, forall_eq_or_imp, forall_eq, List.append_toArray, Option.toArray] at hA); (try simp only [go_sem, wrI, List.mem_cons, List.not_mem_nil, forall_eq_or_imp, forall_eq] at hQ hN); (first | (revert hA; intro hA) | have hA := trivial); (first | (revert hQ; intro hQ) | have hQ := trivial); (first | (revert hN; intro hN) | have hN := trivial); simp (disch := omega) only [go_sem, wrI, go_sem, hA, hQ, hN]; (repeat (refine ndI (by first | assumption | omega | rfl) ?_)); (first | apply eff_rd | apply eff_st | apply eff_nw)))); (simp (disch := omega) only [St.eff, setO, hputs, go_sem, wrI])) | ((with_reducible refine evC_draw ?_ ?_ ?_ ?_); kernel_rfl; kernel_rfl; (first | kernel_rfl | simp [newNames, isNew, St.free, freeH, AV.refsL, AV.refs]); intro R hR))))
      exact hΨ _ (by omega) (St.le_of (by simp [leT]) (by simp [leH, hget, Nat.mul_add]))
  · have hi5 : y = 5 := by omega
    subst hi5
    rw [show 5 * 5 = 25 from rfl]
    have b1 : List.take 25 (rcV (B 25)) = rcV (B 25) := rcV_take _ (bl _)
    have b4 : (rcV (B 25)).length = 25 := by rw [rcV_len]; exact bl _
    have z1 : List.drop 25 (rcV (zer 25)) = [] := List.drop_eq_nil_of_le (by rw [rcV_len, zer_len]; omega)
    have z2 : (rcV (zer 25)).length = 25 := by rw [rcV_len, zer_len]
    clear bs bl hl hlt
    obtain ⟨z, hz⟩ : ∃ q, zer 25 = q := ⟨_, rfl⟩
    rw [hz] at z1 z2 ⊢
    (have W := ndI b1 (ndI b4 (ndI z1 z2)); (repeat (any_goals (first | ((with_reducible refine evL_one ?_ ?_); rfl; intro K hK; simp (disch := omega) only [go_sem, W, refsL_rcV]; ((repeat (refine ndI (by first | assumption | omega | rfl) ?_)); refine hK _ ?_; clear hK K)) | (with_reducible first | (refine evL_nil ?_; refine hR _ ?_; clear hR R) | ((first | refine evC_seq ?_ | refine evC_block ?_); intro Ψ hΨ hΨ') | (refine evC_region ?_; intro R hR) | (refine hΨ _ ?_; clear hΨ hΨ' Ψ) | refine evC_skip ?_ | refine evC_ret ?_ | refine evC_exit ?_) | ((with_reducible refine hΨ' _ _ ?_ ?_); (focus (simp; done)); clear hΨ hΨ' Ψ) | ((with_reducible apply evC_cond); rfl; rfl; all_goals (intro hc; first | (cases hc; done) | (try simp only at hc))) | ((with_reducible refine evD_nil ?_ ?_); kernel_rfl; (with_reducible refine hR _ ?_); clear hR R) | (((with_reducible apply evD_any); rfl; rfl; (simp (disch := omega) only [rdE, rdOf, go_sem, W, refsL_rcV]; rfl); (intro τ hA hQ hN; ((try simp only [agree, Op.operands, Call.operands, go_sem, W, refsL_rcV, go_sem, List.mem_cons, List.not_mem_nil, forall_eq_or_imp, forall_eq, List.append_toArray, Option.toArray] at hA); (try simp only [go_sem, W, refsL_rcV, List.mem_cons, List.not_mem_nil, forall_eq_or_imp, forall_eq] at hQ hN); (first | (revert hA; intro hA) | have hA := trivial); (first | (revert hQ; intro hQ) | have hQ := trivial); (first | (revert hN; intro hN) | have hN := trivial); simp (disch := omega) only [go_sem, W, refsL_rcV, go_sem, hA, hQ, hN]; (repeat (refine ndI (by first | assumption | omega | rfl) ?_)); (first | apply eff_rd | apply eff_st | apply eff_nw)))); (simp (disch := omega) only [St.eff, setO, hputs, go_sem, W, refsL_rcV])) | ((with_reducible refine evC_draw ?_ ?_ ?_ ?_); kernel_rfl; kernel_rfl; (first | kernel_rfl | simp [newNames, isNew, St.free, freeH, AV.refsL, AV.refs]); intro R hR)))))
    all_goals (refine ⟨by simp, ⟨_, ?_, AV.le_refl _⟩, leH_get (by simp [leH, hget])⟩; simp only [Tryd.results61, resL, ldA, oneOf, go_sem, b1]; rw [if_pos (by omega)]; rfl)
theorem eA_s (l : List UInt64) (k : Nat) : eA l (k + 1) = (eA l k).set k (l.getD k 0 ^^^ (l.getD (5 * (k / 5) + (k % 5 + 2) % 5) 0 &&& ~~~ l.getD (5 * (k / 5) + (k % 5 + 1) % 5) 0)) := rfl
theorem rowsR_eq (l : List UInt64) : rowsR l = eA l 25 := rfl
theorem rrows_fn (l : List UInt64) (hl : l.length = 25) : Fn Tryd.prog 61 [lnA l] [] (lnA (rowsR l)) [] := by
  rw [rowsR_eq]
  have e0 : eA l 0 = l := rfl
  have es := eA_s l
  have el := fun k => (eA_len l k).trans hl
  generalize eA l = B at *
  exact rrows_fnE l B hl e0 el es
end Go.Proofs.YtgdjkkapgghdbaaDoor

