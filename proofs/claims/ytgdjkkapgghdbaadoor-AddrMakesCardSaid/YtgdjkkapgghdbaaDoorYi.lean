/-
  Pad of the code. Reckoned.
-/
import Derived.Test.YtgdjkkapgghdbaaDoorDq
import Derived.Test.YtgdjkkapgghdbaaDoorDm
import Derived.Test.YtgdjkkapgghdbaaDoorYh
namespace Go.Proofs.YtgdjkkapgghdbaaDoor
open Go.RowKit
open Nat (reduceBEq)
set_option linter.unusedVariables false
set_option linter.unusedSimpArgs false
set_option maxRecDepth 20000
set_option maxHeartbeats 2000000
theorem rcB_app (l r : List Nat) : rcB (l ++ r) = rcB l ++ rcB r := by
  unfold rcB; rw [List.flatMap_append, List.map_append]
theorem rcB_take (l : List Nat) (k : Nat) : (rcB l).take k = rcB (l.take k) := by
  unfold rcB
  rw [bpv_map, bpv_map, List.map_map, List.map_map, List.map_take]
theorem rcB_drop (l : List Nat) (k : Nat) : (rcB l).drop k = rcB (l.drop k) := by
  unfold rcB
  rw [bpv_map, bpv_map, List.map_map, List.map_map, List.map_drop]
theorem rcB_len1 (l : List Nat) : (rcB l).length = l.length := by rw [rcB_len, Nat.mul_one]
theorem rcB_set (l : List Nat) (k x : Nat) (h : k < l.length) : (rcB l).take k ++ [vi .u8 (x : Int)] ++ (rcB l).drop (k + 1) = rcB (l.set k x) := by
  rw [rcB_take, rcB_drop, List.set_eq_take_append_cons_drop, if_pos h, rcB_app, List.append_assoc]
  rfl
theorem rcB_at {l : List Nat} {k x : Nat} (h : l[k]? = some x) : (rcB l)[k]? = some (vi .u8 (x : Int)) := by
  unfold rcB
  rw [bpv_map, List.map_map, List.getElem?_map, h]; rfl
theorem rcB_zeros (n : Nat) : List.replicate n (AV.c (.v (.int .u8 0))) = rcB (List.replicate n 0) := by
  unfold rcB
  rw [bpv_map, List.map_map, List.map_replicate]; rfl
def padT (k : Nat) : List Nat := if k = 0 then [129] else 1 :: (List.replicate (k - 1) 0 ++ [128])
def padL (l : List Nat) : List Nat := l ++ padT (135 - l.length % 136)
def padN (l : List Nat) : Nat := (l.length / 136 + 1) * 136
theorem padT_len (k : Nat) : (padT k).length = k + 1 := by
  unfold padT
  split
  · rename_i h; rw [h]; rfl
  · simp; omega
theorem padL_len (l : List Nat) : (padL l).length = padN l := by
  unfold padL padN; rw [List.length_append, padT_len]; omega
theorem pad_set (l : List Nat) : ∃ x, ((l ++ List.replicate (padN l - l.length) 0).set l.length 1)[padN l - 1]? = some x ∧ x < 2 ∧ ((l ++ List.replicate (padN l - l.length) 0).set l.length 1).set (padN l - 1) (x + 128) = padL l := by
  obtain ⟨k, hk⟩ : ∃ k, 135 - l.length % 136 = k := ⟨_, rfl⟩
  have hN : padN l = l.length + (k + 1) := by unfold padN; omega
  have e1 : padN l - l.length = k + 1 := by omega
  have e2 : padN l - 1 = l.length + k := by omega
  have e3 : (l ++ List.replicate (k + 1) 0).set l.length 1 = l ++ 1 :: List.replicate k 0 := by
    rw [List.set_append_right _ _ (Nat.le_refl _), Nat.sub_self, List.replicate_succ, List.set_cons_zero]
  unfold padL
  rw [hk, e1, e2, e3]
  have e4 : ∀ y : Nat, (l ++ 1 :: List.replicate k 0).set (l.length + k) y = l ++ (1 :: List.replicate k 0).set k y := fun y => by
    rw [List.set_append_right _ _ (by omega), Nat.add_sub_cancel_left]
  simp only [e4]
  rw [List.getElem?_append_right (by omega), Nat.add_sub_cancel_left]
  unfold padT
  cases k with
  | zero => exact ⟨1, rfl, by omega, by rw [if_pos rfl]; rfl⟩
  | succ k =>
    refine ⟨0, ?_, by omega, ?_⟩
    · rw [List.getElem?_cons_succ, List.getElem?_replicate, if_pos (by omega)]
    · rw [if_neg (by omega), List.set_cons_succ, Nat.zero_add, Nat.add_sub_cancel]
      congr 2
      rw [List.replicate_succ', List.set_append_right _ _ (by rw [List.length_replicate]; omega), List.length_replicate, Nat.sub_self]
      rfl
theorem u8_or128 (x : Nat) (h : x < 2) : IntKind.u8.wrap ((@HOr.hOr (BitVec 8) (BitVec 8) (BitVec 8) (@instHOrOfOrOp (BitVec IntKind.u8.bits) (@BitVec.instOrOp IntKind.u8.bits)) (BitVec.ofInt 8 (x : Int)) (BitVec.ofInt 8 128)).toNat : Int) = ((x + 128 : Nat) : Int) := by
  have c : x = 0 ∨ x = 1 := by omega
  rcases c with rfl | rfl <;> decide
theorem pad_row (ex : Bool) (l : List Nat) (hl : l.length ≤ 1000) : Fn Tryd.prog 34 [bsl ex l] [] (.row 9 5 1 (padN l)) [(9, rcB (padL l))] := by
  obtain ⟨x, px, hx, ps⟩ := pad_set l
  have hN : padN l = (l.length / 136 + 1) * 136 := rfl
  obtain ⟨N, hNv⟩ : ∃ q, padN l = q := ⟨_, rfl⟩
  have lN := padL_len l
  rw [hNv] at px ps hN lN ⊢
  have hN1 : l.length < N := by omega
  have hN2 : N ≤ 1200 := by omega
  have j1 : Int.tdiv (l.length : Int) 136 = ((l.length / 136 : Nat) : Int) := by rw [Int.tdiv_eq_ediv_of_nonneg (by omega)]; omega
  have j2 : ((l.length / 136 : Nat) : Int) + 1 = ((l.length / 136 + 1 : Nat) : Int) := by omega
  have j3 : ((l.length / 136 + 1 : Nat) : Int) * 136 = (N : Int) := by omega
  (refine fn_of Tryd.func34 rfl (by rfl) ?_; simp only [Tryd.ntmps34, List.length_cons, List.length_nil, Nat.reduceAdd, Nat.reduceSub, List.replicate, List.cons_append, List.nil_append])
  (have W := ndI j1 (ndI j2 (ndI j3 @wrI)); (repeat (any_goals (first | ((with_reducible refine evL_one ?_ ?_); rfl; intro K hK; simp (disch := omega) only [go_sem, W]; ((repeat (refine ndI (by first | assumption | omega | rfl) ?_)); refine hK _ ?_; clear hK K)) | ((with_reducible refine evL_one ?_ ?_); rfl; intro K hK; (try simp (disch := omega) only [go_sem, W]); (repeat (refine ndI (by first | assumption | omega | rfl) ?_)); apply opA_copy; rfl; rfl; rfl; (focus (simp only [go_sem]; try rfl)); (first | omega | (dsimp only; omega) | (simp (disch := omega) only [Option.isSome_some, Option.isSome_none]; omega) | (simp; omega) | (focus (simp; done))); rfl; rfl; rfl; rfl; (first | omega | (simp (disch := omega) only [go_sem, W, spl, List.length_append, List.length_map, List.length_take, List.length_drop, List.length_replicate]; omega) | (simp [spl]; omega) | (focus (simp [spl]; done))); (first | omega | (simp (disch := omega) only [go_sem, W, spl, List.length_append, List.length_map, List.length_take, List.length_drop, List.length_replicate]; omega) | (simp [spl]; omega) | (focus (simp [spl]; done))); (simp (disch := omega) only [go_sem, W]; refine hK _ ?_; clear hK K)) | (with_reducible first | (refine evL_nil ?_; refine hR _ ?_; clear hR R) | ((first | refine evC_seq ?_ | refine evC_block ?_); intro Ψ hΨ hΨ') | (refine evC_region ?_; intro R hR) | (refine hΨ _ ?_; clear hΨ hΨ' Ψ) | refine evC_skip ?_ | refine evC_ret ?_ | refine evC_exit ?_) | ((with_reducible refine hΨ' _ _ ?_ ?_); (focus (simp; done)); clear hΨ hΨ' Ψ) | ((with_reducible apply evC_cond); rfl; rfl; all_goals (intro hc; first | (cases hc; done) | (try simp only at hc)))))))
  refine evL_op ?_ ?_
  rfl
  intro K hK
  refine opA_make (n := N) (z := .int .u8 0) rfl rfl rfl (by (focus (simp  only [go_sem]; try rfl))) (by kernel_rfl) rfl rfl rfl rfl rfl rfl (by omega) (by omega) (by unfold maxLen; omega) rfl (by simp [St.free, freeH, AV.refs, AV.refsL]) (by omega) ?_
  simp only [go_sem]
  refine hK _ ?_
  clear hK K
  rw [rcB_zeros]
  have z1 : (rcB (List.replicate N 0)).length = N := by rw [rcB_len1, List.length_replicate]
  have b1 : (rcB l).length = l.length := rcB_len1 l
  have b2 : (rcB l).take l.length = rcB l := List.take_of_length_le (by omega)
  have c1 : spl (rcB (List.replicate N 0)) 0 (rcB l) = rcB (l ++ List.replicate (N - l.length) 0) := by
    unfold spl
    rw [List.take_zero, List.nil_append, rcB_drop, b1, Nat.zero_add, List.drop_replicate, rcB_app]
  have m0 : min l.length N = l.length := Nat.min_eq_left (by omega)
  have lA : (l ++ List.replicate (N - l.length) 0).length = N := by rw [List.length_append, List.length_replicate]; omega
  have k1 := rcB_set (l ++ List.replicate (N - l.length) 0) l.length 1 (by omega)
  rw [show ((1 : Nat) : Int) = 1 from rfl] at k1
  have lB : ((l ++ List.replicate (N - l.length) 0).set l.length 1).length = N := by rw [List.length_set]; exact lA
  have k2 := rcB_at px
  have k3 := rcB_set ((l ++ List.replicate (N - l.length) 0).set l.length 1) (N - 1) (x + 128) (by omega)
  rw [ps] at k3
  have u1 := u8_or128 x hx
  have a1 := rcB_len1 (l ++ List.replicate (N - l.length) 0)
  have a2 := rcB_len1 ((l ++ List.replicate (N - l.length) 0).set l.length 1)
  rw [lA] at a1
  rw [lB] at a2
  have j4 : (N : Int) - 1 = ((N - 1 : Nat) : Int) := by omega
  clear px ps lN
  generalize List.replicate N 0 = q0 at *
  generalize (l ++ List.replicate (N - l.length) 0).set l.length 1 = q2 at *
  generalize l ++ List.replicate (N - l.length) 0 = q1 at *
  have b3 : (List.flatMap bpv l).map AV.c = rcB l := rfl
  (repeat (any_goals (first | ((with_reducible refine evL_one ?_ ?_); rfl; intro K hK; simp only [go_sem]; ((repeat (refine ndI (by first | assumption | omega | rfl) ?_)); refine hK _ ?_; clear hK K)) | ((with_reducible refine evL_one ?_ ?_); rfl; intro K hK; (try simp only [go_sem]); (repeat (refine ndI (by first | assumption | omega | rfl) ?_)); apply opA_copy; rfl; rfl; rfl; (focus (simp only [go_sem]; try rfl)); (first | omega | (dsimp only; omega) | (simp only [Option.isSome_some, Option.isSome_none]; omega) | (simp; omega) | (focus (simp; done))); rfl; rfl; rfl; rfl; (first | omega | (simp only [go_sem, spl, List.length_append, List.length_map, List.length_take, List.length_drop, List.length_replicate]; omega) | (simp [spl]; omega) | (focus (simp [spl]; done))); (first | omega | (simp only [go_sem, spl, List.length_append, List.length_map, List.length_take, List.length_drop, List.length_replicate]; omega) | (simp [spl]; omega) | (focus (simp [spl]; done))); (simp only [go_sem]; refine hK _ ?_; clear hK K)) | (with_reducible first | (refine evL_nil ?_; refine hR _ ?_; clear hR R) | ((first | refine evC_seq ?_ | refine evC_block ?_); intro Ψ hΨ hΨ') | (refine evC_region ?_; intro R hR) | (refine hΨ _ ?_; clear hΨ hΨ' Ψ) | refine evC_skip ?_ | refine evC_ret ?_ | refine evC_exit ?_) | ((with_reducible refine hΨ' _ _ ?_ ?_); (focus (simp; done)); clear hΨ hΨ' Ψ) | ((with_reducible apply evC_cond); rfl; rfl; all_goals (intro hc; first | (cases hc; done) | (try simp only at hc))))))
  refine evL_op ?_ ?_
  rfl
  intro K hK
  refine opA_copy (sz := 1) (r := 9) (e := 5) (lo := 0) (n := N) (m := l.length) (cs := rcB q0) (ds := rcB l) rfl rfl rfl (by (focus (simp  only [go_sem]; try rfl))) (by omega) rfl rfl rfl rfl (by omega) (by omega) ?_
  simp only [go_sem, m0, b2, c1, Nat.mul_one, Nat.zero_mul]
  refine hK _ ?_
  clear hK K
  (have W := ndI b1 (ndI k1 (ndI k2 (ndI k3 (ndI u1 (ndI a1 (ndI a2 (ndI j4 @wrI))))))); (repeat (any_goals (first | ((with_reducible refine evL_one ?_ ?_); rfl; intro K hK; simp (disch := omega) only [go_sem, W, Nat.mul_one, Nat.zero_mul, Nat.zero_add, Int.toNat_natCast]; ((repeat (refine ndI (by first | assumption | omega | rfl) ?_)); refine hK _ ?_; clear hK K)) | ((with_reducible refine evL_one ?_ ?_); rfl; intro K hK; (try simp (disch := omega) only [go_sem, W, Nat.mul_one, Nat.zero_mul, Nat.zero_add, Int.toNat_natCast]); (repeat (refine ndI (by first | assumption | omega | rfl) ?_)); apply opA_copy; rfl; rfl; rfl; (focus (simp only [go_sem]; try rfl)); (first | omega | (dsimp only; omega) | (simp (disch := omega) only [Option.isSome_some, Option.isSome_none]; omega) | (simp; omega) | (focus (simp; done))); rfl; rfl; rfl; rfl; (first | omega | (simp (disch := omega) only [go_sem, W, Nat.mul_one, Nat.zero_mul, Nat.zero_add, Int.toNat_natCast, spl, List.length_append, List.length_map, List.length_take, List.length_drop, List.length_replicate]; omega) | (simp [spl]; omega) | (focus (simp [spl]; done))); (first | omega | (simp (disch := omega) only [go_sem, W, Nat.mul_one, Nat.zero_mul, Nat.zero_add, Int.toNat_natCast, spl, List.length_append, List.length_map, List.length_take, List.length_drop, List.length_replicate]; omega) | (simp [spl]; omega) | (focus (simp [spl]; done))); (simp (disch := omega) only [go_sem, W, Nat.mul_one, Nat.zero_mul, Nat.zero_add, Int.toNat_natCast]; refine hK _ ?_; clear hK K)) | (with_reducible first | (refine evL_nil ?_; refine hR _ ?_; clear hR R) | ((first | refine evC_seq ?_ | refine evC_block ?_); intro Ψ hΨ hΨ') | (refine evC_region ?_; intro R hR) | (refine hΨ _ ?_; clear hΨ hΨ' Ψ) | refine evC_skip ?_ | refine evC_ret ?_ | refine evC_exit ?_) | ((with_reducible refine hΨ' _ _ ?_ ?_); (focus (simp; done)); clear hΨ hΨ' Ψ) | ((with_reducible apply evC_cond); rfl; rfl; all_goals (intro hc; first | (cases hc; done) | (try simp only at hc)))))))
  all_goals (refine ⟨by simp, ⟨_, ?_, AV.le_refl _⟩, leH_get (by simp [leH, hget])⟩; simp only [Tryd.results34, resL, ldA, oneOf, go_sem])
theorem pad_fn (ex : Bool) (l : List Nat) (hl : l.length ≤ 1000) : Fn Tryd.prog 34 [bsl ex l] [] (bsl false (padL l)) [] := by
  have h := pad_row ex l hl
  rw [← padL_len] at h
  have h2 := Fn.frzG (d := 9) (pcs := (padL l).flatMap bpv) h
  simp only [AV.frz, beq_self_eq_true, if_true] at h2
  rw [if_pos (by rw [flat_length bpv_len])] at h2
  exact h2
end Go.Proofs.YtgdjkkapgghdbaaDoor

