/-
  The rounds' numbers of the document, its rounds, all of them. Reckoned.
-/
import Derived.Test.YtgdjkkapgghdbaaDoorYf
namespace Go.Proofs.YtgdjkkapgghdbaaDoor
open Go.RowKit
open Nat (reduceBEq)
set_option linter.unusedVariables false
set_option linter.unusedSimpArgs false
set_option maxRecDepth 20000
set_option maxHeartbeats 2000000
attribute [local simp] inNL_rcV refsL_rcV renL_rcV
def rS (r : Nat) : Nat := if 255 < r * 2 then (r * 2 - 256) ^^^ 113 else r * 2
theorem rS_lt (r : Nat) (h : r < 256) : rS r < 256 := by
  have key : ∀ k : Fin 256, rS k.1 < 256 := by decide +kernel
  exact key ⟨r, h⟩
def rN : Nat → Nat
  | 0 => 1
  | k + 1 => rS (rN k)
theorem rN_lt : ∀ k, rN k < 256
  | 0 => by decide
  | k + 1 => rS_lt _ (rN_lt k)
def oneAt (j : Nat) : UInt64 := UInt64.ofNat (2 ^ (2 ^ j - 1))
def xN (i : Nat) : Nat → UInt64
  | 0 => 0
  | j + 1 => if rN (7 * i + j + 1) / 2 % 2 = 1 then xN i j ||| oneAt j else xN i j
theorem num_eq (n : Nat) (h : n < 24) : xN n 7 = numU n := by
  have key : ∀ k : Fin 24, xN k.1 7 = numU k.1 := by decide +kernel
  exact key ⟨n, h⟩
theorem i64_x113 (r : Nat) (h : r < 256) (h2 : 255 < r * 2) : IntKind.i64.wrap ((@HXor.hXor (BitVec 64) (BitVec 64) (BitVec 64) (@instHXorOfXorOp (BitVec IntKind.i64.bits) (@BitVec.instXorOp IntKind.i64.bits)) (BitVec.ofInt 64 ((r * 2 - 256 : Nat) : Int)) (BitVec.ofInt 64 113)).toNat : Int) = ((rS r : Nat) : Int) := by
  have key : ∀ k : Fin 256, 255 < k.1 * 2 → IntKind.i64.wrap ((BitVec.ofInt 64 ((k.1 * 2 - 256 : Nat) : Int) ^^^ BitVec.ofInt 64 113).toNat : Int) = ((rS k.1 : Nat) : Int) := by decide +kernel
  exact key ⟨r, h⟩ h2
theorem num_fnE (n : Nat) (hn : n < 24) (R : Nat → Nat) (X : Nat → Nat → UInt64) (R0 : R 0 = 1) (Rl : ∀ k, R k < 256) (Rs : ∀ k, R (k + 1) = rS (R k))
    (X0 : ∀ i, X i 0 = 0) (Xs : ∀ i j, X i (j + 1) = if R (7 * i + j + 1) / 2 % 2 = 1 then X i j ||| oneAt j else X i j) :
    Fn Tryd.prog 63 [vi .i64 (n : Int)] [] (lvA (X n 7)) [] := by
  (refine fn_of Tryd.func63 rfl (by rfl) ?_; simp only [Tryd.ntmps63, List.length_cons, List.length_nil, Nat.reduceAdd, Nat.reduceSub, List.replicate, List.cons_append, List.nil_append])
  (repeat (any_goals (first | ((with_reducible refine evL_one ?_ ?_); rfl; intro K hK; simp (disch := omega) only [go_sem, wrI]; ((repeat (refine ndI (by first | assumption | omega | rfl) ?_)); refine hK _ ?_; clear hK K)) | (with_reducible first | (refine evL_nil ?_; refine hR _ ?_; clear hR R) | ((first | refine evC_seq ?_ | refine evC_block ?_); intro Ψ hΨ hΨ') | (refine evC_region ?_; intro R hR) | (refine hΨ _ ?_; clear hΨ hΨ' Ψ) | refine evC_skip ?_ | refine evC_ret ?_ | refine evC_exit ?_) | ((with_reducible refine hΨ' _ _ ?_ ?_); (focus (simp; done)); clear hΨ hΨ' Ψ) | ((with_reducible apply evC_cond); rfl; rfl; all_goals (intro hc; first | (cases hc; done) | (try simp only at hc))))))
  refine evC_upto n (fun i => ⟨[vi .i64 (n : Int), .any, vi .u64 0, vi .i64 (R (7 * i) : Int), .any, .any, .any, .any, vi .i64 ((n : Int) + 1), vi .i64 (i : Int), .any, .any, .any, .any, .any, .any, .any, .any, .any, .any, .any, .any, .any, .any, .any, .any, .any, .any, .any, .any, .any, .any, .any, .any, .any, .any, .any, .any], []⟩) (St.le_of (by simp [leT, R0]) (by simp [leH, hget])) ?_
  intro i hi Ψ hΨ hΨ'
  have hd : decide ((i : Int) < (n : Int) + 1) = true := by simp; omega
  (repeat (any_goals (first | ((with_reducible refine evL_one ?_ ?_); rfl; intro K hK; simp (disch := omega) only [go_sem, hd]; ((repeat (refine ndI (by first | assumption | omega | rfl) ?_)); refine hK _ ?_; clear hK K)) | (with_reducible first | (refine evL_nil ?_; refine hR _ ?_; clear hR R) | ((first | refine evC_seq ?_ | refine evC_block ?_); intro Ψ hΨ hΨ') | (refine evC_region ?_; intro R hR) | (refine hΨ _ ?_; clear hΨ hΨ' Ψ) | refine evC_skip ?_ | refine evC_ret ?_ | refine evC_exit ?_) | ((with_reducible refine hΨ' _ _ ?_ ?_); (focus (simp; done)); clear hΨ hΨ' Ψ) | ((with_reducible apply evC_cond); rfl; rfl; all_goals (intro hc; first | (cases hc; done) | (try simp only at hc))))))
  refine evC_upto 7 (fun j => ⟨[vi .i64 (n : Int), .any, vi .u64 0, vi .i64 (R (7 * i + j) : Int), lvA (X i j), vi .i64 (i : Int), .any, .any, vi .i64 ((n : Int) + 1), vi .i64 (i : Int), .any, .any, vi .i64 (j : Int), .any, .any, .any, .any, .any, .any, .any, .any, .any, .any, .any, .any, .any, .any, .any, .any, .any, .any, .any, .any, .any, .any, .any, .any, .any], []⟩) (St.le_of (by simp [leT, X0]) (by simp [leH, hget])) ?_
  intro j hj Ψ hΨ hΨ'
  by_cases hlt : j < 7
  · have hr := Rl (7 * i + j)
    have hs := Rs (7 * i + j)
    have xs := Xs i j
    rw [hs] at xs
    have hr2 := rS_lt _ hr
    have hb := i64_x113 (R (7 * i + j)) hr
    have rd : 255 < R (7 * i + j) * 2 → rS (R (7 * i + j)) = (R (7 * i + j) * 2 - 256) ^^^ 113 := fun h => if_pos h
    have re : ¬ 255 < R (7 * i + j) * 2 → rS (R (7 * i + j)) = R (7 * i + j) * 2 := fun h => if_neg h
    have hd7 : decide ((j : Int) < 7) = true := by simp; omega
    obtain ⟨r, hrv⟩ : ∃ q, R (7 * i + j) = q := ⟨_, rfl⟩
    obtain ⟨s, hsv⟩ : ∃ q, rS r = q := ⟨_, rfl⟩
    rw [hrv] at hr hr2 hb rd re xs
    simp only [hrv, hsv] at hr2 hb rd re xs
    have j1 : (r : Int) * 2 = ((r * 2 : Nat) : Int) := by omega
    have j3 : Int.tdiv (s : Int) 2 = ((s / 2 : Nat) : Int) := by rw [Int.tdiv_eq_ediv_of_nonneg (by omega)]; omega
    have j4 : Int.tmod ((s / 2 : Nat) : Int) 2 = ((s / 2 % 2 : Nat) : Int) := by rw [Int.tmod_eq_emod_of_nonneg (by omega)]; omega
    have q1 : R (7 * i + (j + 1)) = s := by rw [← hsv, ← hrv]; exact hs
    rw [hrv]
    clear hs hrv hsv R0 Rl Rs X0 Xs
    have w1 : IntKind.u64.wrap (1 * 2 ^ min (IntKind.u64.wrap (IntKind.u64.wrap (1 * 2 ^ min j 64) - 1)).toNat 64) = ((oneAt j).toNat : Int) := by
      have key : ∀ k : Fin 7, IntKind.u64.wrap (1 * 2 ^ min (IntKind.u64.wrap (IntKind.u64.wrap (1 * 2 ^ min k.1 64) - 1)).toNat 64) = ((oneAt k.1).toNat : Int) := by decide +kernel
      exact key ⟨j, hlt⟩
    have u1 := u64_or (X i j) (oneAt j)
    generalize oneAt j = o at *
    by_cases c1 : 255 < r * 2
    · have hb := hb c1
      have d1 : decide ((255 : Int) < ((r * 2 : Nat) : Int)) = true := by simp; omega
      have j2 : ((r * 2 : Nat) : Int) - 256 = ((r * 2 - 256 : Nat) : Int) := by omega
      by_cases c2 : s / 2 % 2 = 1
      · rw [if_pos c2] at xs
        have d2 : (((s / 2 % 2 : Nat) : Int) == 1) = true := by rw [c2]; rfl
        (have W := ndI hd7 (ndI j1 (ndI j2 (ndI j3 (ndI j4 (ndI d1 (ndI d2 (ndI w1 (ndI u1 @wrI)))))))); (repeat (any_goals (first | ((with_reducible refine evL_one ?_ ?_); rfl; intro K hK; simp (disch := omega) only [go_sem, W, hb]; ((repeat (refine ndI (by first | assumption | omega | rfl) ?_)); refine hK _ ?_; clear hK K)) | (with_reducible first | (refine evL_nil ?_; refine hR _ ?_; clear hR R) | ((first | refine evC_seq ?_ | refine evC_block ?_); intro Ψ hΨ hΨ') | (refine evC_region ?_; intro R hR) | (refine hΨ _ ?_; clear hΨ hΨ' Ψ) | refine evC_skip ?_ | refine evC_ret ?_ | refine evC_exit ?_) | ((with_reducible refine hΨ' _ _ ?_ ?_); (focus (simp; done)); clear hΨ hΨ' Ψ) | ((with_reducible apply evC_cond); rfl; rfl; all_goals (intro hc; first | (cases hc; done) | (try simp only at hc)))))))
        exact hΨ _ (by omega) (St.le_of (by simp [leT, q1, xs]) (by simp [leH, hget]))
      · rw [if_neg c2] at xs
        have d2 : (((s / 2 % 2 : Nat) : Int) == 1) = false := by simp; omega
        (have W := ndI hd7 (ndI j1 (ndI j2 (ndI j3 (ndI j4 (ndI d1 (ndI d2 (ndI w1 (ndI u1 @wrI)))))))); (repeat (any_goals (first | ((with_reducible refine evL_one ?_ ?_); rfl; intro K hK; simp (disch := omega) only [go_sem, W, hb]; ((repeat (refine ndI (by first | assumption | omega | rfl) ?_)); refine hK _ ?_; clear hK K)) | (with_reducible first | (refine evL_nil ?_; refine hR _ ?_; clear hR R) | ((first | refine evC_seq ?_ | refine evC_block ?_); intro Ψ hΨ hΨ') | (refine evC_region ?_; intro R hR) | (refine hΨ _ ?_; clear hΨ hΨ' Ψ) | refine evC_skip ?_ | refine evC_ret ?_ | refine evC_exit ?_) | ((with_reducible refine hΨ' _ _ ?_ ?_); (focus (simp; done)); clear hΨ hΨ' Ψ) | ((with_reducible apply evC_cond); rfl; rfl; all_goals (intro hc; first | (cases hc; done) | (try simp only at hc)))))))
        exact hΨ _ (by omega) (St.le_of (by simp [leT, q1, xs]) (by simp [leH, hget]))
    · have e := re c1
      have j1 : (r : Int) * 2 = (s : Int) := by omega
      have d1 : decide ((255 : Int) < (s : Int)) = false := by simp; omega
      by_cases c2 : s / 2 % 2 = 1
      · rw [if_pos c2] at xs
        have d2 : (((s / 2 % 2 : Nat) : Int) == 1) = true := by rw [c2]; rfl
        (have W := ndI hd7 (ndI j1 (ndI j3 (ndI j4 (ndI d1 (ndI d2 (ndI w1 (ndI u1 @wrI))))))); (repeat (any_goals (first | ((with_reducible refine evL_one ?_ ?_); rfl; intro K hK; simp (disch := omega) only [go_sem, W]; ((repeat (refine ndI (by first | assumption | omega | rfl) ?_)); refine hK _ ?_; clear hK K)) | (with_reducible first | (refine evL_nil ?_; refine hR _ ?_; clear hR R) | ((first | refine evC_seq ?_ | refine evC_block ?_); intro Ψ hΨ hΨ') | (refine evC_region ?_; intro R hR) | (refine hΨ _ ?_; clear hΨ hΨ' Ψ) | refine evC_skip ?_ | refine evC_ret ?_ | refine evC_exit ?_) | ((with_reducible refine hΨ' _ _ ?_ ?_); (focus (simp; done)); clear hΨ hΨ' Ψ) | ((with_reducible apply evC_cond); rfl; rfl; all_goals (intro hc; first | (cases hc; done) | (try simp only at hc)))))))
        exact hΨ _ (by omega) (St.le_of (by simp [leT, q1, xs]) (by simp [leH, hget]))
      · rw [if_neg c2] at xs
        have d2 : (((s / 2 % 2 : Nat) : Int) == 1) = false := by simp; omega
        (have W := ndI hd7 (ndI j1 (ndI j3 (ndI j4 (ndI d1 (ndI d2 (ndI w1 (ndI u1 @wrI))))))); (repeat (any_goals (first | ((with_reducible refine evL_one ?_ ?_); rfl; intro K hK; simp (disch := omega) only [go_sem, W]; ((repeat (refine ndI (by first | assumption | omega | rfl) ?_)); refine hK _ ?_; clear hK K)) | (with_reducible first | (refine evL_nil ?_; refine hR _ ?_; clear hR R) | ((first | refine evC_seq ?_ | refine evC_block ?_); intro Ψ hΨ hΨ') | (refine evC_region ?_; intro R hR) | (refine hΨ _ ?_; clear hΨ hΨ' Ψ) | refine evC_skip ?_ | refine evC_ret ?_ | refine evC_exit ?_) | ((with_reducible refine hΨ' _ _ ?_ ?_); (focus (simp; done)); clear hΨ hΨ' Ψ) | ((with_reducible apply evC_cond); rfl; rfl; all_goals (intro hc; first | (cases hc; done) | (try simp only at hc)))))))
        exact hΨ _ (by omega) (St.le_of (by simp [leT, q1, xs]) (by simp [leH, hget]))
  · have hj7 : j = 7 := by omega
    subst hj7
    clear hd
    by_cases c : i = n
    · have d1 : ((i : Int) == (n : Int)) = true := by rw [c]; simp
      rw [show X i 7 = X n 7 by rw [c]]
      (repeat (any_goals (first | ((with_reducible refine evL_one ?_ ?_); rfl; intro K hK; simp (disch := omega) only [go_sem, d1, wrI]; ((repeat (refine ndI (by first | assumption | omega | rfl) ?_)); refine hK _ ?_; clear hK K)) | (with_reducible first | (refine evL_nil ?_; refine hR _ ?_; clear hR R) | ((first | refine evC_seq ?_ | refine evC_block ?_); intro Ψ hΨ hΨ') | (refine evC_region ?_; intro R hR) | (refine hΨ _ ?_; clear hΨ hΨ' Ψ) | refine evC_skip ?_ | refine evC_ret ?_ | refine evC_exit ?_) | ((with_reducible refine hΨ' _ _ ?_ ?_); (focus (simp; done)); clear hΨ hΨ' Ψ) | ((with_reducible apply evC_cond); rfl; rfl; all_goals (intro hc; first | (cases hc; done) | (try simp only at hc))))))
      all_goals (refine ⟨by simp, ⟨_, ?_, AV.le_refl _⟩, leH_get (by simp [leH, hget])⟩; simp only [Tryd.results63, resL, ldA, oneOf, go_sem])
    · have d1 : ((i : Int) == (n : Int)) = false := by simp; omega
      (repeat (any_goals (first | ((with_reducible refine evL_one ?_ ?_); rfl; intro K hK; simp (disch := omega) only [go_sem, d1, wrI]; ((repeat (refine ndI (by first | assumption | omega | rfl) ?_)); refine hK _ ?_; clear hK K)) | (with_reducible first | (refine evL_nil ?_; refine hR _ ?_; clear hR R) | ((first | refine evC_seq ?_ | refine evC_block ?_); intro Ψ hΨ hΨ') | (refine evC_region ?_; intro R hR) | (refine hΨ _ ?_; clear hΨ hΨ' Ψ) | refine evC_skip ?_ | refine evC_ret ?_ | refine evC_exit ?_) | ((with_reducible refine hΨ' _ _ ?_ ?_); (focus (simp; done)); clear hΨ hΨ' Ψ) | ((with_reducible apply evC_cond); rfl; rfl; all_goals (intro hc; first | (cases hc; done) | (try simp only at hc))))))
      exact hΨ _ (by omega) (St.le_of (by simp [leT, Nat.mul_add]) (by simp [leH, hget]))
theorem rN_s (k : Nat) : rN (k + 1) = rS (rN k) := rfl
theorem xN_s (i j : Nat) : xN i (j + 1) = if rN (7 * i + j + 1) / 2 % 2 = 1 then xN i j ||| oneAt j else xN i j := rfl
theorem num_fn (n : Nat) (hn : n < 24) : Fn Tryd.prog 63 [vi .i64 (n : Int)] [] (lvA (numU n)) [] := by
  rw [← num_eq n hn]
  exact num_fnE n hn rN xN rfl rN_lt rN_s (fun _ => rfl) xN_s
def roundR (l : List UInt64) (n : UInt64) : List UInt64 := (rowsR (mixR l)).set 0 ((rowsR (mixR l)).getD 0 0 ^^^ n)
theorem mixR_len (l : List UInt64) : (mixR l).length = l.length := by rw [mixR_eq, tA_len, dA_len]
theorem rowsR_len (l : List UInt64) : (rowsR l).length = l.length := by rw [rowsR_eq, eA_len]
theorem roundR_len (l : List UInt64) (n : UInt64) : (roundR l n).length = l.length := by unfold roundR; rw [List.length_set, rowsR_len, mixR_len]
theorem rround_fnE (l p m : List UInt64) (k : Nat) (n : UInt64) (hl : l.length = 25) (pl : p.length = 25) (ml : m.length = 25)
    (mx : Fn Tryd.prog 62 [lnA l] [] (lnA p) []) (rw' : Fn Tryd.prog 61 [lnA p] [] (lnA m) [])
    (nf : Fn Tryd.prog 63 [vi .i64 (k : Int)] [] (lvA n) []) :
    Fn Tryd.prog 48 [lnA l, vi .i64 (k : Int)] [] (lnA (m.set 0 (m.getD 0 0 ^^^ n))) [] := by
  have r1 := fun d => refsL_rcV d l
  have b1 : List.take 25 (rcV l) = rcV l := rcV_take l hl
  have b2 : List.drop 25 (rcV l) = [] := List.drop_eq_nil_of_le (by rw [rcV_len]; omega)
  have b3 : (rcV l).length = 25 := by rw [rcV_len]; exact hl
  have c1 : List.take 25 (rcV m) = rcV m := rcV_take m ml
  have c3 : (rcV m).length = 25 := by rw [rcV_len]; exact ml
  have k1 := rcV_getD (l := m) (i := 0) (by omega)
  have k4 := rcV_set m 0 (m.getD 0 0 ^^^ n) (by omega)
  have hs : (m.set 0 (m.getD 0 0 ^^^ n)).length = 25 := by rw [List.length_set]; exact ml
  generalize m.getD 0 0 = m0 at *
  have u1 := u64_xor m0 n
  generalize m0 ^^^ n = z at *
  generalize m.set 0 z = q at *
  have d1 : List.take 25 (rcV q) = rcV q := rcV_take q hs
  have d3 : (rcV q).length = 25 := by rw [rcV_len]; exact hs
  have d2 : List.drop 25 (rcV q) = [] := List.drop_eq_nil_of_le (by omega)
  (refine fn_of Tryd.func48 rfl (by rfl) ?_; simp only [Tryd.ntmps48, List.length_cons, List.length_nil, Nat.reduceAdd, Nat.reduceSub, List.replicate, List.cons_append, List.nil_append])
  (have W := ndI r1 (ndI b1 (ndI b2 (ndI b3 (ndI c1 (ndI c3 (ndI k1 (ndI k4 (ndI u1 (ndI d1 (ndI d2 d3)))))))))); (repeat (any_goals (first | ((with_reducible refine evL_call ?_ ?_ ?_); rfl; rfl; intro K hK; ((first | (apply opA_callB (mx); rfl; rfl; rfl; rfl; exact Tryd.func62) | (apply opA_callB (rw'); rfl; rfl; rfl; rfl; exact Tryd.func61)); kernel_rfl; rfl; (focus ((simp (disch := omega) only [go_sem, W, refsL_rcV]); (try rfl); done)); (first | rfl | simp [AV.inNL, AV.inN])); (simp (disch := omega) only [go_sem, W, refsL_rcV]; refine hK _ ?_; clear hK K)) | ((with_reducible refine evL_one ?_ ?_); rfl; intro K hK; simp (disch := omega) only [go_sem, W, refsL_rcV]; ((repeat (refine ndI (by first | assumption | omega | rfl) ?_)); refine hK _ ?_; clear hK K)) | (with_reducible first | (refine evL_nil ?_; refine hR _ ?_; clear hR R) | ((first | refine evC_seq ?_ | refine evC_block ?_); intro Ψ hΨ hΨ') | (refine evC_region ?_; intro R hR) | (refine hΨ _ ?_; clear hΨ hΨ' Ψ) | refine evC_skip ?_ | refine evC_ret ?_ | refine evC_exit ?_) | ((with_reducible refine hΨ' _ _ ?_ ?_); (focus (simp; done)); clear hΨ hΨ' Ψ) | ((with_reducible apply evC_cond); rfl; rfl; all_goals (intro hc; first | (cases hc; done) | (try simp only at hc))) | ((with_reducible refine evD_nil ?_ ?_); kernel_rfl; (with_reducible refine hR _ ?_); clear hR R) | ((first | ((with_reducible apply evD_fcall); rfl; rfl; ((apply opF_callB (nf); rfl; rfl; rfl; rfl; exact Tryd.func63); kernel_rfl; rfl; (focus ((simp (disch := omega) only [go_sem, W, refsL_rcV]); (try rfl); done)); (first | rfl | simp [AV.inNL, AV.inN]))) | ((with_reducible apply evD_any); rfl; rfl; (simp (disch := omega) only [rdE, rdOf, go_sem, W, refsL_rcV]; rfl); (intro τ hA hQ hN; ((try simp only [agree, Op.operands, Call.operands, go_sem, W, refsL_rcV, go_sem, List.mem_cons, List.not_mem_nil, forall_eq_or_imp, forall_eq, List.append_toArray, Option.toArray] at hA); (try simp only [go_sem, W, refsL_rcV, List.mem_cons, List.not_mem_nil, forall_eq_or_imp, forall_eq] at hQ hN); (first | (revert hA; intro hA) | have hA := trivial); (first | (revert hQ; intro hQ) | have hQ := trivial); (first | (revert hN; intro hN) | have hN := trivial); simp (disch := omega) only [go_sem, W, refsL_rcV, go_sem, hA, hQ, hN]; (repeat (refine ndI (by first | assumption | omega | rfl) ?_)); (first | apply eff_rd | apply eff_st | apply eff_nw))))); (simp (disch := omega) only [St.eff, setO, hputs, go_sem, W, refsL_rcV])) | ((with_reducible refine evC_draw ?_ ?_ ?_ ?_); kernel_rfl; kernel_rfl; (simp [newNames, isNew, St.free, freeH, AV.refsL, AV.refs, refsL_rcV]); intro R hR)))))
  all_goals (refine ⟨by simp, ⟨_, ?_, AV.le_refl _⟩, leH_get (by simp [leH, hget])⟩; simp only [Tryd.results48, resL, ldA, oneOf, go_sem, d1]; rw [if_pos (by omega)]; rfl)
theorem rround_fn (l : List UInt64) (k : Nat) (hk : k < 24) (hl : l.length = 25) : Fn Tryd.prog 48 [lnA l, vi .i64 (k : Int)] [] (lnA (roundR l (numU k))) [] :=
  rround_fnE l (mixR l) (rowsR (mixR l)) k (numU k) hl ((mixR_len l).trans hl) ((rowsR_len _).trans ((mixR_len l).trans hl)) (rmix_fn l hl) (rrows_fn _ ((mixR_len l).trans hl)) (num_fn k hk)
def pR (l : List UInt64) : Nat → List UInt64
  | 0 => l
  | k + 1 => roundR (pR l k) (numU k)
theorem pR_len (l : List UInt64) : ∀ k, (pR l k).length = l.length
  | 0 => rfl
  | k + 1 => (roundR_len _ _).trans (pR_len l k)
theorem rperm_fnE (P : Nat → List UInt64) (lP : ∀ k, (P k).length = 25)
    (rd : ∀ i : Nat, i < 24 → Fn Tryd.prog 48 [lnA (P i), vi .i64 (i : Int)] [] (lnA (P (i + 1))) []) : Fn Tryd.prog 39 [lnA (P 0)] [] (lnA (P 24)) [] := by
  have r1 := fun k d => refsL_rcV d (P k)
  (refine fn_of Tryd.func39 rfl (by rfl) ?_; simp only [Tryd.ntmps39, List.length_cons, List.length_nil, Nat.reduceAdd, Nat.reduceSub, List.replicate, List.cons_append, List.nil_append])
  (repeat (any_goals (first | ((with_reducible refine evL_one ?_ ?_); rfl; intro K hK; simp (disch := omega) only [go_sem, r1, refsL_rcV]; ((repeat (refine ndI (by first | assumption | omega | rfl) ?_)); refine hK _ ?_; clear hK K)) | (with_reducible first | (refine evL_nil ?_; refine hR _ ?_; clear hR R) | ((first | refine evC_seq ?_ | refine evC_block ?_); intro Ψ hΨ hΨ') | (refine evC_region ?_; intro R hR) | (refine hΨ _ ?_; clear hΨ hΨ' Ψ) | refine evC_skip ?_ | refine evC_ret ?_ | refine evC_exit ?_) | ((with_reducible refine hΨ' _ _ ?_ ?_); (focus (simp; done)); clear hΨ hΨ' Ψ) | ((with_reducible apply evC_cond); rfl; rfl; all_goals (intro hc; first | (cases hc; done) | (try simp only at hc))))))
  refine evC_upto 24 (fun i => ⟨[lnA (P 0), .ptr 1 0, .ptr 2 0, .any, vi .i64 (i : Int), .any, .any, .any, .any, .any, .any, .any], [(1, rcV (P i)), (2, rcV (zer 25))]⟩) (St.le_of (by simp [leT]) (by simp [leH, hget]; rfl)) ?_
  intro i hi Ψ hΨ hΨ'
  by_cases hlt : i < 24
  · have rf := rd i hlt
    have b1 : List.take 25 (rcV (P (i + 1))) = rcV (P (i + 1)) := rcV_take _ (lP _)
    have b2 : (rcV (P (i + 1))).length = 25 := by rw [rcV_len]; exact lP _
    have b3 : List.drop 25 (rcV (P i)) = [] := List.drop_eq_nil_of_le (by rw [rcV_len, lP]; omega)
    have b4 : List.take 25 (rcV (P i)) = rcV (P i) := rcV_take _ (lP i)
    have b5 : (rcV (P i)).length = 25 := by rw [rcV_len]; exact lP i
    clear rd lP r1
    have hd : decide ((i : Int) < 24) = true := by simp; omega
    (have W := ndI b1 (ndI b2 (ndI b3 (ndI b4 (ndI b5 @wrI)))); (repeat (any_goals (first | ((with_reducible refine evL_call ?_ ?_ ?_); rfl; rfl; intro K hK; ((apply opA_callB (rf); rfl; rfl; rfl; rfl; exact Tryd.func48); kernel_rfl; rfl; (focus ((simp (disch := omega) only [go_sem, W, hd, refsL_rcV, Nat.mul_one, Int.toNat_natCast]); (try rfl); done)); (first | rfl | simp [AV.inNL, AV.inN])); (simp (disch := omega) only [go_sem, W, hd, refsL_rcV, Nat.mul_one, Int.toNat_natCast]; refine hK _ ?_; clear hK K)) | ((with_reducible refine evL_one ?_ ?_); rfl; intro K hK; simp (disch := omega) only [go_sem, W, hd, refsL_rcV, Nat.mul_one, Int.toNat_natCast]; ((repeat (refine ndI (by first | assumption | omega | rfl) ?_)); refine hK _ ?_; clear hK K)) | (with_reducible first | (refine evL_nil ?_; refine hR _ ?_; clear hR R) | ((first | refine evC_seq ?_ | refine evC_block ?_); intro Ψ hΨ hΨ') | (refine evC_region ?_; intro R hR) | (refine hΨ _ ?_; clear hΨ hΨ' Ψ) | refine evC_skip ?_ | refine evC_ret ?_ | refine evC_exit ?_) | ((with_reducible refine hΨ' _ _ ?_ ?_); (focus (simp; done)); clear hΨ hΨ' Ψ) | ((with_reducible apply evC_cond); rfl; rfl; all_goals (intro hc; first | (cases hc; done) | (try simp only at hc)))))))
    exact hΨ _ (by omega) (St.le_of (by simp [leT]) (by simp [leH, hget]))
  · have hi24 : i = 24 := by omega
    subst hi24
    have b1 : List.take 25 (rcV (P 24)) = rcV (P 24) := rcV_take _ (lP _)
    have b2 : (rcV (P 24)).length = 25 := by rw [rcV_len]; exact lP _
    have z1 : List.drop 25 (rcV (zer 25)) = [] := List.drop_eq_nil_of_le (by rw [rcV_len, zer_len]; omega)
    have z2 : (rcV (zer 25)).length = 25 := by rw [rcV_len, zer_len]
    generalize zer 25 = z at *
    clear rd lP r1
    (have W := ndI b1 (ndI b2 (ndI z1 z2)); (repeat (any_goals (first | ((with_reducible refine evL_one ?_ ?_); rfl; intro K hK; simp (disch := omega) only [go_sem, W, refsL_rcV]; ((repeat (refine ndI (by first | assumption | omega | rfl) ?_)); refine hK _ ?_; clear hK K)) | (with_reducible first | (refine evL_nil ?_; refine hR _ ?_; clear hR R) | ((first | refine evC_seq ?_ | refine evC_block ?_); intro Ψ hΨ hΨ') | (refine evC_region ?_; intro R hR) | (refine hΨ _ ?_; clear hΨ hΨ' Ψ) | refine evC_skip ?_ | refine evC_ret ?_ | refine evC_exit ?_) | ((with_reducible refine hΨ' _ _ ?_ ?_); (focus (simp; done)); clear hΨ hΨ' Ψ) | ((with_reducible apply evC_cond); rfl; rfl; all_goals (intro hc; first | (cases hc; done) | (try simp only at hc)))))))
    all_goals (refine ⟨by simp, ⟨_, ?_, AV.le_refl _⟩, leH_get (by simp [leH, hget])⟩; simp only [Tryd.results39, resL, ldA, oneOf, go_sem, b1]; rw [if_pos (by omega)]; rfl)
theorem rperm_fn (l : List UInt64) (hl : l.length = 25) : Fn Tryd.prog 39 [lnA l] [] (lnA (pR l 24)) [] :=
  rperm_fnE (pR l) (fun k => (pR_len l k).trans hl) fun i hi => rround_fn _ i hi ((pR_len l i).trans hl)
end Go.Proofs.YtgdjkkapgghdbaaDoor

