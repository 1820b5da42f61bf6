/-
  Rounds and all of them: the code's. Reckoned.
-/
import Derived.Test.YtgdjkkapgghdbaaDoorYc
namespace Go.Proofs.YtgdjkkapgghdbaaDoor
open Go.RowKit
open Nat (reduceBEq)
set_option linter.unusedVariables false
set_option linter.unusedSimpArgs false
set_option maxRecDepth 20000
set_option maxHeartbeats 2000000
attribute [local simp] inNL_rcV refsL_rcV renL_rcV
theorem mixC_len (l : List UInt64) : (mixC l).length = 25 := bA_len _ _ _
theorem rowsC_len (l : List UInt64) : (rowsC l).length = 25 := rA_len _ _
def roundC (l : List UInt64) (n : UInt64) : List UInt64 := (rowsC (mixC l)).set 0 ((rowsC (mixC l)).getD 0 0 ^^^ n)
theorem roundC_len (l : List UInt64) (n : UInt64) : (roundC l n).length = 25 := by unfold roundC; rw [List.length_set, rowsC_len]
theorem round_fnE (l p m : List UInt64) (n : UInt64) (hl : l.length = 25) (pl : p.length = 25) (ml : m.length = 25)
    (mx : Fn Tryd.prog 60 [lnA l] [] (lnA p) []) (rw' : Fn Tryd.prog 59 [lnA p] [] (lnA m) []) :
    Fn Tryd.prog 46 [lnA l, lvA n] [] (lnA (m.set 0 (m.getD 0 0 ^^^ n))) [] := by
  have r1 := fun d => refsL_rcV d l
  have b1 : List.take 25 (rcV l) = rcV l := rcV_take l hl
  have b2 : List.drop 25 (rcV l) = [] := List.drop_eq_nil_of_le (by rw [rcV_len]; omega)
  have b3 : (rcV l).length = 25 := by rw [rcV_len]; exact hl
  have c1 : List.take 25 (rcV m) = rcV m := rcV_take m ml
  have c3 : (rcV m).length = 25 := by rw [rcV_len]; exact ml
  have k1 := rcV_getD (l := m) (i := 0) (by omega)
  have k4 := rcV_set m 0 (m.getD 0 0 ^^^ n) (by omega)
  have hs : (m.set 0 (m.getD 0 0 ^^^ n)).length = 25 := by rw [List.length_set]; exact ml
  generalize m.getD 0 0 = m0 at *
  have u1 := u64_xor m0 n
  generalize m0 ^^^ n = z at *
  generalize m.set 0 z = q at *
  have d1 : List.take 25 (rcV q) = rcV q := rcV_take q hs
  have d3 : (rcV q).length = 25 := by rw [rcV_len]; exact hs
  have d2 : List.drop 25 (rcV q) = [] := List.drop_eq_nil_of_le (by omega)
  (refine fn_of Tryd.func46 rfl (by rfl) ?_; simp only [Tryd.ntmps46, List.length_cons, List.length_nil, Nat.reduceAdd, Nat.reduceSub, List.replicate, List.cons_append, List.nil_append])
  (have W := ndI r1 (ndI b1 (ndI b2 (ndI b3 (ndI c1 (ndI c3 (ndI k1 (ndI k4 (ndI u1 (ndI d1 (ndI d2 d3)))))))))); (repeat (any_goals (first | ((with_reducible refine evL_call ?_ ?_ ?_); rfl; rfl; intro K hK; ((first | (apply opA_callB (mx); rfl; rfl; rfl; rfl; exact Tryd.func60) | (apply opA_callB (rw'); rfl; rfl; rfl; rfl; exact Tryd.func59)); kernel_rfl; rfl; (focus ((simp (disch := omega) only [go_sem, W, refsL_rcV]); (try rfl); done)); (first | rfl | simp [AV.inNL, AV.inN])); (simp (disch := omega) only [go_sem, W, refsL_rcV]; refine hK _ ?_; clear hK K)) | ((with_reducible refine evL_one ?_ ?_); rfl; intro K hK; simp (disch := omega) only [go_sem, W, refsL_rcV]; ((repeat (refine ndI (by first | assumption | omega | rfl) ?_)); refine hK _ ?_; clear hK K)) | (with_reducible first | (refine evL_nil ?_; refine hR _ ?_; clear hR R) | ((first | refine evC_seq ?_ | refine evC_block ?_); intro Ψ hΨ hΨ') | (refine evC_region ?_; intro R hR) | (refine hΨ _ ?_; clear hΨ hΨ' Ψ) | refine evC_skip ?_ | refine evC_ret ?_ | refine evC_exit ?_) | ((with_reducible refine hΨ' _ _ ?_ ?_); (focus (simp; done)); clear hΨ hΨ' Ψ) | ((with_reducible apply evC_cond); rfl; rfl; all_goals (intro hc; first | (cases hc; done) | (try simp only at hc)))))))
  all_goals (refine ⟨by simp, ⟨_, ?_, AV.le_refl _⟩, leH_get (by simp [leH, hget])⟩; simp only [Tryd.results46, resL, ldA, oneOf, go_sem, d1]; rw [if_pos (by omega)]; rfl)
theorem round_fn (l : List UInt64) (n : UInt64) (hl : l.length = 25) : Fn Tryd.prog 46 [lnA l, lvA n] [] (lnA (roundC l n)) [] :=
  round_fnE l (mixC l) (rowsC (mixC l)) n hl (mixC_len l) (rowsC_len _) (mix_fn l hl) (rows_fn _ (mixC_len l))
def numU (k : Nat) : UInt64 := UInt64.ofNat (numsL.getD k 0).toNat
def numsP : List PV := numsL.map fun n => .v (.int .u64 n)
theorem gev_nums : gev 0 = .ep numsP := rfl
def numsA : List AV := (numsP.take 24).map .c
theorem nums_at (k : Nat) (h : k < 24) : numsA[k]? = some (lvA (numU k)) := by
  have key : ∀ k : Fin 24, numsL[k.1]? = some ((numU k.1).toNat : Int) := by decide
  have h2 := key ⟨k, h⟩
  dsimp only at h2
  unfold numsA numsP
  rw [List.take_of_length_le (by decide), List.map_map, List.getElem?_map, h2]
  rfl
theorem numsP_len : numsP.length = 24 := rfl
def pC (l : List UInt64) : Nat → List UInt64
  | 0 => l
  | k + 1 => roundC (pC l k) (numU k)
theorem pC_len (l : List UInt64) (hl : l.length = 25) : ∀ k, (pC l k).length = 25
  | 0 => hl
  | k + 1 => roundC_len _ _
def permC (l : List UInt64) : List UInt64 := pC l 24
theorem refsL_numsA (d : Nat) : AV.refsL d numsA = false := refsL_map d _
theorem perm_fnE (P : Nat → List UInt64) (nu : Nat → UInt64) (A : List AV) (eA : (numsP.take 24).map .c = A) (rA' : ∀ d, AV.refsL d A = false) (nA : ∀ i, i < 24 → A[i]? = some (lvA (nu i))) (lP : ∀ k, (P k).length = 25)
    (rd : ∀ i, i < 24 → Fn Tryd.prog 46 [lnA (P i), lvA (nu i)] [] (lnA (P (i + 1))) []) : Fn Tryd.prog 35 [lnA (P 0)] [] (lnA (P 24)) [] := by
  have r1 := fun k d => refsL_rcV d (P k)
  have e2 := numsP_len
  (refine fn_of Tryd.func35 rfl (by rfl) ?_; simp only [Tryd.ntmps35, List.length_cons, List.length_nil, Nat.reduceAdd, Nat.reduceSub, List.replicate, List.cons_append, List.nil_append])
  (repeat (any_goals (first | ((with_reducible refine evL_one ?_ ?_); rfl; intro K hK; simp (disch := omega) only [go_sem, r1, eA, e2, gev_nums, refsL_rcV]; ((repeat (refine ndI (by first | assumption | omega | rfl) ?_)); refine hK _ ?_; clear hK K)) | (with_reducible first | (refine evL_nil ?_; refine hR _ ?_; clear hR R) | ((first | refine evC_seq ?_ | refine evC_block ?_); intro Ψ hΨ hΨ') | (refine evC_region ?_; intro R hR) | (refine hΨ _ ?_; clear hΨ hΨ' Ψ) | refine evC_skip ?_ | refine evC_ret ?_ | refine evC_exit ?_) | ((with_reducible refine hΨ' _ _ ?_ ?_); (focus (simp; done)); clear hΨ hΨ' Ψ) | ((with_reducible apply evC_cond); rfl; rfl; all_goals (intro hc; first | (cases hc; done) | (try simp only at hc))))))
  clear eA e2
  refine evC_upto 24 (fun i => ⟨[lnA (P 0), .ptr 1 0, .ptr 2 0, .any, .any, .agg A, vi .i64 (i : Int), .any, .any, .any, .any, .any, .any, .any], [(1, rcV (P i)), (2, rcV (zer 25))]⟩) (St.le_of (by simp [leT]) (by simp [leH, hget]; rfl)) ?_
  intro i hi Ψ hΨ hΨ'
  by_cases hlt : i < 24
  · have na := nA i hlt
    have rf := rd i hlt
    have b1 : List.take 25 (rcV (P (i + 1))) = rcV (P (i + 1)) := rcV_take _ (lP _)
    have b2 : (rcV (P (i + 1))).length = 25 := by rw [rcV_len]; exact lP _
    have b3 : List.drop 25 (rcV (P i)) = [] := List.drop_eq_nil_of_le (by rw [rcV_len, lP]; omega)
    have b4 : List.take 25 (rcV (P i)) = rcV (P i) := rcV_take _ (lP i)
    have b5 : (rcV (P i)).length = 25 := by rw [rcV_len]; exact lP i
    clear rd nA lP r1
    have hd : decide ((i : Int) < 24) = true := by simp; omega
    (have W := ndI b1 (ndI b2 (ndI b3 (ndI b4 (ndI b5 @wrI)))); (repeat (any_goals (first | ((with_reducible refine evL_call ?_ ?_ ?_); rfl; rfl; intro K hK; ((apply opA_callB (rf); rfl; rfl; rfl; rfl; exact Tryd.func46); kernel_rfl; rfl; (focus ((simp (disch := omega) only [go_sem, W, hd, rA', na, refsL_rcV, Nat.mul_one, Int.toNat_natCast]); (try rfl); done)); (first | rfl | simp [AV.inNL, AV.inN])); (simp (disch := omega) only [go_sem, W, hd, rA', na, refsL_rcV, Nat.mul_one, Int.toNat_natCast]; refine hK _ ?_; clear hK K)) | ((with_reducible refine evL_one ?_ ?_); rfl; intro K hK; simp (disch := omega) only [go_sem, W, hd, rA', na, refsL_rcV, Nat.mul_one, Int.toNat_natCast]; ((repeat (refine ndI (by first | assumption | omega | rfl) ?_)); refine hK _ ?_; clear hK K)) | (with_reducible first | (refine evL_nil ?_; refine hR _ ?_; clear hR R) | ((first | refine evC_seq ?_ | refine evC_block ?_); intro Ψ hΨ hΨ') | (refine evC_region ?_; intro R hR) | (refine hΨ _ ?_; clear hΨ hΨ' Ψ) | refine evC_skip ?_ | refine evC_ret ?_ | refine evC_exit ?_) | ((with_reducible refine hΨ' _ _ ?_ ?_); (focus (simp; done)); clear hΨ hΨ' Ψ) | ((with_reducible apply evC_cond); rfl; rfl; all_goals (intro hc; first | (cases hc; done) | (try simp only at hc)))))))
    exact hΨ _ (by omega) (St.le_of (by simp [leT]) (by simp [leH, hget]))
  · have hi24 : i = 24 := by omega
    subst hi24
    have b1 : List.take 25 (rcV (P 24)) = rcV (P 24) := rcV_take _ (lP _)
    have b2 : (rcV (P 24)).length = 25 := by rw [rcV_len]; exact lP _
    have z1 : List.drop 25 (rcV (zer 25)) = [] := List.drop_eq_nil_of_le (by rw [rcV_len, zer_len]; omega)
    have z2 : (rcV (zer 25)).length = 25 := by rw [rcV_len, zer_len]
    generalize zer 25 = z at *
    clear rd nA lP r1
    (have W := ndI b1 (ndI b2 (ndI z1 z2)); (repeat (any_goals (first | ((with_reducible refine evL_one ?_ ?_); rfl; intro K hK; simp (disch := omega) only [go_sem, W, refsL_rcV]; ((repeat (refine ndI (by first | assumption | omega | rfl) ?_)); refine hK _ ?_; clear hK K)) | (with_reducible first | (refine evL_nil ?_; refine hR _ ?_; clear hR R) | ((first | refine evC_seq ?_ | refine evC_block ?_); intro Ψ hΨ hΨ') | (refine evC_region ?_; intro R hR) | (refine hΨ _ ?_; clear hΨ hΨ' Ψ) | refine evC_skip ?_ | refine evC_ret ?_ | refine evC_exit ?_) | ((with_reducible refine hΨ' _ _ ?_ ?_); (focus (simp; done)); clear hΨ hΨ' Ψ) | ((with_reducible apply evC_cond); rfl; rfl; all_goals (intro hc; first | (cases hc; done) | (try simp only at hc)))))))
    all_goals (refine ⟨by simp, ⟨_, ?_, AV.le_refl _⟩, leH_get (by simp [leH, hget])⟩; simp only [Tryd.results35, resL, ldA, oneOf, go_sem, b1]; rw [if_pos (by omega)]; rfl)
theorem perm_fn (l : List UInt64) (hl : l.length = 25) : Fn Tryd.prog 35 [lnA l] [] (lnA (permC l)) [] :=
  perm_fnE (pC l) numU numsA rfl refsL_numsA nums_at (pC_len l hl) fun i _ => round_fn _ _ (pC_len l hl i)
end Go.Proofs.YtgdjkkapgghdbaaDoor

