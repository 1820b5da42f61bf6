/-
  The bytes of a word; rows of bytes compared; the law AddrBack, walked.
-/
import Derived.Test.YtbfbcndphnlgoaaDm
import Derived.Test.YtbfbcndphnlgoaaDr
namespace Go.Proofs.Ytbfbcndphnlgoaa
open Go.RowKit
open Nat (reduceBEq)
set_option linter.unusedVariables false
set_option linter.unusedSimpArgs false
set_option maxRecDepth 20000
set_option maxHeartbeats 2000000
def wb (x : Nat) : List Nat := List.replicate 24 0 ++ be8 x
theorem wb_len (x : Nat) : (wb x).length = 32 := rfl
theorem rcB_app (l r : List Nat) : rcB (l ++ r) = rcB l ++ rcB r := by
  unfold rcB; rw [List.flatMap_append, List.map_append]
theorem rcB_take (l : List Nat) (k : Nat) : (rcB l).take k = rcB (l.take k) := by
  unfold rcB
  rw [bpv_map, bpv_map, List.map_map, List.map_map, List.map_take]
theorem rcB_drop (l : List Nat) (k : Nat) : (rcB l).drop k = rcB (l.drop k) := by
  unfold rcB
  rw [bpv_map, bpv_map, List.map_map, List.map_map, List.map_drop]
theorem rcB_set (l : List Nat) (k x : Nat) (h : k < l.length) : (rcB l).take k ++ [vi .u8 (x : Int)] ++ (rcB l).drop (k + 1) = rcB (l.set k x) := by
  rw [rcB_take, rcB_drop, List.set_eq_take_append_cons_drop, if_pos h, rcB_app, List.append_assoc]
  rfl
/-- a byte of a word whose upper limbs are nought -/
theorem wb_at (x : Nat) {i : Nat} (hi : i < 32) : ∃ (Q R : Nat) (X y : Int) (b : Nat), (IntKind.i64.wrap ((31 - (i : Int)).tdiv 8)) = (Q : Int) ∧ (31 - (i : Int)).tmod 8 = (R : Int) ∧ Q < 4 ∧ R < 8 ∧ ([vi .u64 (x : Int), vi .u64 0, vi .u64 0, vi .u64 0] : List AV)[Q]? = some (vi .u64 X) ∧
    IntKind.u8.wrap (X.fdiv (2 ^ (min (8 * (R : Int)).toNat IntKind.u64.bits))) = (b : Int) ∧ (wb x)[i]? = some b := by
  have e1 : (31 - (i : Int)).tdiv 8 = (((31 - i) / 8 : Nat) : Int) := by
    rw [show (31 : Int) - (i : Int) = ((31 - i : Nat) : Int) by omega]; rfl
  have e2 : (31 - (i : Int)).tmod 8 = (((31 - i) % 8 : Nat) : Int) := by
    rw [show (31 : Int) - (i : Int) = ((31 - i : Nat) : Int) by omega]; rfl
  rcases Nat.lt_or_ge i 24 with h | h
  · refine ⟨(31 - i) / 8, (31 - i) % 8, 0, 0, 0, by rw [e1]; exact wrI (by omega) (by omega), e2, by omega, by omega, ?_, ?_, ?_⟩
    · have c : (31 - i) / 8 = 1 ∨ (31 - i) / 8 = 2 ∨ (31 - i) / 8 = 3 := by omega
      rcases c with c | c | c <;> rw [c] <;> rfl
    · rw [Int.zero_fdiv]; rfl
    · unfold wb
      rw [List.getElem?_append_left (by simpa using h), List.getElem?_replicate, if_pos h]
  · obtain ⟨y, hy, hy2, hf⟩ := be8_at x (i := i - 24) (by omega)
    refine ⟨0, 31 - i, (x : Int), 0, y, by rw [e1, show (31 - i) / 8 = 0 by omega]; rfl, by rw [e2, show (31 - i) % 8 = 31 - i by omega], by omega, by omega, rfl, ?_, ?_⟩
    · rw [show (((31 - i : Nat) : Int)) = 7 - ((i - 24 : Nat) : Int) by omega]
      exact hf
    · unfold wb
      rw [List.getElem?_append_right (by simpa using h)]
      simpa using hy
abbrev wbS (x i : Nat) : List Nat := (wb x).take i ++ List.replicate (32 - i) 0
theorem wbS_len (x : Nat) {i : Nat} (hi : i ≤ 32) : (wbS x i).length = 32 := by
  rw [List.length_append, List.length_take, wb_len, List.length_replicate]; omega
theorem wbS_set (x : Nat) {i b : Nat} (hi : i < 32) (hb : (wb x)[i]? = some b) : (wbS x i).set i b = wbS x (i + 1) := by
  have h1 : ((wb x).take i).length = i := by rw [List.length_take, wb_len]; omega
  rw [List.set_append_right _ _ (by omega), h1, Nat.sub_self, show 32 - i = (32 - (i + 1)) + 1 by omega, List.replicate_succ, List.set_cons_zero]
  show _ = (wb x).take (i + 1) ++ _
  rw [List.take_add_one, hb, List.append_assoc]
  rfl
theorem wbytes_row (x : Nat) : Fn Try.prog 30 [w4 (x : Int) 0 0 0] [] (.row 6 5 1 32) [(6, rcB (wb x))] := by
  (refine fn_of Try.func30 rfl (by rfl) ?_; simp only [Try.ntmps30, List.length_cons, List.length_nil, Nat.reduceAdd, Nat.reduceSub, List.replicate, List.cons_append, List.nil_append])
  (repeat (any_goals (first | ((with_reducible refine evL_one ?_ ?_); rfl; intro K hK; simp only [evO, ofV, AV.cells, pickAV, St.free, freeH, evz, forall_const, Nat.reduceBEq, Nat.reduceBNe, Nat.reduceAdd, Nat.reduceLT, Nat.reduceLeDiff, ↓reduceIte, Nat.reduceEqDiff, Int.reduceLE, Int.reduceLT, Int.reduceToNat, Nat.reduceMul, Nat.reduceSub, Nat.reduceDiv, Nat.reduceMod, reduceCtorEq, ty3, ty5, ty22, ty24, ty39]; ((repeat (refine And.intro (by first | assumption | omega | rfl) ?_)); (with_reducible refine hK _ ?_); clear hK K)) | ((with_reducible refine evL_nil ?_); (with_reducible refine hR _ ?_); clear hR R) | ((with_reducible refine evC_seq ?_); intro Ψ hΨ hΨ') | ((with_reducible refine evC_region ?_); intro R hR) | ((with_reducible refine hΨ _ ?_); clear hΨ hΨ' Ψ) | ((with_reducible refine hΨ' _ _ ?_ ?_); (focus (first | ((intro hx; cases hx); done) | ((intro j hj; cases hj); done) | (intro j hj; cases hj; (decide); done))); clear hΨ hΨ' Ψ) | (with_reducible first | refine evC_skip ?_ | refine evC_ret ?_ | refine evC_exit ?_) | ((with_reducible refine evC_block ?_); intro Ψ hΨ hΨ') | ((with_reducible apply evC_cond); rfl; rfl; all_goals (intro hc; first | (exact absurd hc (by decide)) | (try simp only at hc))))))
  refine evL_op ?_ ?_
  rfl
  intro K hK
  refine opA_make (n := 32) (z := .int .u8 0) rfl rfl rfl (by (simp only [ty3, ty5, ty22, ty24, ty39]; rfl)) (by kernel_rfl) rfl rfl rfl rfl rfl rfl (by omega) (by omega) (by unfold maxLen; omega) rfl (by simp [St.free, freeH, AV.refs, AV.refsL]) (by omega) ?_
  simp only [evO, ofV, AV.cells, pickAV, St.free, freeH, evz, forall_const, Nat.reduceBEq, Nat.reduceBNe, Nat.reduceAdd, Nat.reduceLT, Nat.reduceLeDiff, ↓reduceIte, Nat.reduceEqDiff, Int.reduceLE, Int.reduceLT, Int.reduceToNat, Nat.reduceMul, Nat.reduceSub, Nat.reduceDiv, Nat.reduceMod, reduceCtorEq]
  refine hK _ ?_
  clear hK K
  (repeat (any_goals (first | ((with_reducible refine evL_one ?_ ?_); rfl; intro K hK; simp only [evO, ofV, AV.cells, pickAV, St.free, freeH, evz, forall_const, Nat.reduceBEq, Nat.reduceBNe, Nat.reduceAdd, Nat.reduceLT, Nat.reduceLeDiff, ↓reduceIte, Nat.reduceEqDiff, Int.reduceLE, Int.reduceLT, Int.reduceToNat, Nat.reduceMul, Nat.reduceSub, Nat.reduceDiv, Nat.reduceMod, reduceCtorEq, ty3, ty5, ty22, ty24, ty39]; ((repeat (refine And.intro (by first | assumption | omega | rfl) ?_)); (with_reducible refine hK _ ?_); clear hK K)) | ((with_reducible refine evL_nil ?_); (with_reducible refine hR _ ?_); clear hR R) | ((with_reducible refine evC_seq ?_); intro Ψ hΨ hΨ') | ((with_reducible refine evC_region ?_); intro R hR) | ((with_reducible refine hΨ _ ?_); clear hΨ hΨ' Ψ) | ((with_reducible refine hΨ' _ _ ?_ ?_); (focus (first | ((intro hx; cases hx); done) | ((intro j hj; cases hj); done) | (intro j hj; cases hj; (decide); done))); clear hΨ hΨ' Ψ) | (with_reducible first | refine evC_skip ?_ | refine evC_ret ?_ | refine evC_exit ?_) | ((with_reducible refine evC_block ?_); intro Ψ hΨ hΨ') | ((with_reducible apply evC_cond); rfl; rfl; all_goals (intro hc; first | (exact absurd hc (by decide)) | (try simp only at hc))))))
  refine evC_upto 32 (fun i => ⟨[.any, .ptr 1 0, .any, .row 6 5 1 32, .any, .any, .any, .any, vi .i64 32, vi .i64 (i : Int), .any, .any, .any, .any, .any, .any, .any, .any, .any, .any, .any, .any, .any, .any, .any, .any, .any, .any, .any, .any, .any], [(1, [vi .u64 (x : Int), vi .u64 0, vi .u64 0, vi .u64 0]), (6, rcB (wbS x i))]⟩) (St.le_of (by simp [leT]) (by simp [leH, hget]; rfl)) ?_
  intro i hi Ψ hΨ hΨ'
  (try dsimp only at hΨ ⊢)
  rcases Nat.lt_or_ge i 32 with hlt | hge
  · obtain ⟨Q, R, X, y, b, g1, g2, g3, g4, g5, g6, g7⟩ := wb_at x hlt
    have k1 : (decide ((i : Int) < 32)) = true := by simp; omega
    have k7 : (i : Int) + 1 = ((i + 1 : Nat) : Int) := by omega
    have k8 : (0 ≤ 8 * (R : Int)) = True := eq_true (by omega)
    have e32 : ((32 : Nat) : Int) = 32 := rfl
    have hml := wbS_len x hi
    have hm2 : (rcB (wbS x i)).length = 32 := by rw [rcB_len, hml]
    have hset := rcB_set (wbS x i) i b (by omega)
    rw [wbS_set x hlt g7] at hset
    generalize wbS x (i + 1) = m2 at hset hΨ
    generalize wbS x i = m1 at hset hm2 ⊢
    (repeat (any_goals (first | ((with_reducible refine evL_one ?_ ?_); rfl; intro K hK; simp (disch := omega) only [evO, ofV, AV.cells, pickAV, St.free, freeH, evz, forall_const, Nat.reduceBEq, Nat.reduceBNe, Nat.reduceAdd, Nat.reduceLT, Nat.reduceLeDiff, ↓reduceIte, Nat.reduceEqDiff, Int.reduceLE, Int.reduceLT, Int.reduceToNat, Nat.reduceMul, Nat.reduceSub, Nat.reduceDiv, Nat.reduceMod, reduceCtorEq, e32, k1, k7, k8, g1, g2, g5, g6, hm2, hset, wrI, Nat.mul_one, Int.reduceSub, Int.reduceEq, ty3, ty5, ty22, ty24, ty39]; ((repeat (refine And.intro (by first | assumption | omega | rfl) ?_)); (with_reducible refine hK _ ?_); clear hK K)) | ((with_reducible refine evL_nil ?_); (with_reducible refine hR _ ?_); clear hR R) | ((with_reducible refine evC_seq ?_); intro Ψ hΨ hΨ') | ((with_reducible refine evC_region ?_); intro R hR) | ((with_reducible refine hΨ _ ?_); clear hΨ hΨ' Ψ) | ((with_reducible refine hΨ' _ _ ?_ ?_); (focus (first | ((intro hx; cases hx); done) | ((intro j hj; cases hj); done) | (intro j hj; cases hj; (decide); done))); clear hΨ hΨ' Ψ) | (with_reducible first | refine evC_skip ?_ | refine evC_ret ?_ | refine evC_exit ?_) | ((with_reducible refine evC_block ?_); intro Ψ hΨ hΨ') | ((with_reducible apply evC_cond); rfl; rfl; all_goals (intro hc; first | (exact absurd hc (by decide)) | (try simp only at hc))))))
    all_goals exact hΨ _ hlt (St.le_of (by simp [leT]) (by simp [leH, hget]))
  · have k1 : (decide ((i : Int) < 32)) = false := by simp; omega
    obtain rfl : i = 32 := by omega
    have e : wbS x 32 = wb x := by
      show (wb x).take 32 ++ [] = _
      rw [List.append_nil]; rfl
    rw [e]
    (repeat (any_goals (first | ((with_reducible refine evL_one ?_ ?_); rfl; intro K hK; simp only [evO, ofV, AV.cells, pickAV, St.free, freeH, evz, forall_const, Nat.reduceBEq, Nat.reduceBNe, Nat.reduceAdd, Nat.reduceLT, Nat.reduceLeDiff, ↓reduceIte, Nat.reduceEqDiff, Int.reduceLE, Int.reduceLT, Int.reduceToNat, Nat.reduceMul, Nat.reduceSub, Nat.reduceDiv, Nat.reduceMod, reduceCtorEq, k1, ty3, ty5, ty22, ty24, ty39]; ((repeat (refine And.intro (by first | assumption | omega | rfl) ?_)); (with_reducible refine hK _ ?_); clear hK K)) | ((with_reducible refine evL_nil ?_); (with_reducible refine hR _ ?_); clear hR R) | ((with_reducible refine evC_seq ?_); intro Ψ hΨ hΨ') | ((with_reducible refine evC_region ?_); intro R hR) | ((with_reducible refine hΨ _ ?_); clear hΨ hΨ' Ψ) | ((with_reducible refine hΨ' _ _ ?_ ?_); (focus (first | ((intro hx; cases hx); done) | ((intro j hj; cases hj); done) | (intro j hj; cases hj; (decide); done))); clear hΨ hΨ' Ψ) | (with_reducible first | refine evC_skip ?_ | refine evC_ret ?_ | refine evC_exit ?_) | ((with_reducible refine evC_block ?_); intro Ψ hΨ hΨ') | ((with_reducible apply evC_cond); rfl; rfl; all_goals (intro hc; first | (exact absurd hc (by decide)) | (try simp only at hc))))))
    all_goals (refine ⟨by simp, ⟨_, ?_, AV.le_refl _⟩, leH_get (by simp [leH, hget])⟩; simp only [Try.results30, resL, ldA, oneOf, evO, ofV, AV.cells, pickAV, St.free, freeH, evz, forall_const, Nat.reduceBEq, Nat.reduceBNe, Nat.reduceAdd, Nat.reduceLT, Nat.reduceLeDiff, ↓reduceIte, Nat.reduceEqDiff, Int.reduceLE, Int.reduceLT, Int.reduceToNat, Nat.reduceMul, Nat.reduceSub, Nat.reduceDiv, Nat.reduceMod, reduceCtorEq, ty3, ty5, ty22, ty24, ty39])
end Go.Proofs.Ytbfbcndphnlgoaa
