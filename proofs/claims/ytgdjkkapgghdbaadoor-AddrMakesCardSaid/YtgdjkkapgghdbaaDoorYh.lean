/-
  Permute of the code and of the document are one. Printed by gen_yh.py.
-/
import Derived.Test.YtgdjkkapgghdbaaDoorYg
namespace Go.Proofs.YtgdjkkapgghdbaaDoor
open Go.RowKit
set_option linter.unusedVariables false
set_option linter.unusedSimpArgs false
set_option maxRecDepth 20000
set_option maxHeartbeats 2000000
theorem len_cons {l : List UInt64} {n : Nat} (h : l.length = n + 1) : ∃ a t, l = a :: t ∧ t.length = n := by
  cases l with
  | nil => simp at h
  | cons a t => exact ⟨a, t, rfl, by simpa using h⟩
def rB (l : List UInt64) : Nat → List UInt64
  | 0 => zer 25
  | k + 1 => (rB l k).set k (l.getD k 0 ^^^ (l.getD (5 * (k / 5) + (k % 5 + 2) % 5) 0 &&& ~~~ l.getD (5 * (k / 5) + (k % 5 + 1) % 5) 0))
theorem rB_eq (l : List UInt64) : ∀ k, rA l k = rB l k
  | 0 => rfl
  | k + 1 => by unfold rA rB; rw [rB_eq l k, UInt64.and_comm]
theorem rows_lanes (a0 a1 a2 a3 a4 a5 a6 a7 a8 a9 a10 a11 a12 a13 a14 a15 a16 a17 a18 a19 a20 a21 a22 a23 a24 : UInt64) : rB [a0, a1, a2, a3, a4, a5, a6, a7, a8, a9, a10, a11, a12, a13, a14, a15, a16, a17, a18, a19, a20, a21, a22, a23, a24] 25 = eA [a0, a1, a2, a3, a4, a5, a6, a7, a8, a9, a10, a11, a12, a13, a14, a15, a16, a17, a18, a19, a20, a21, a22, a23, a24] 25 := by kernel_rfl
theorem mix_lanes (a0 a1 a2 a3 a4 a5 a6 a7 a8 a9 a10 a11 a12 a13 a14 a15 a16 a17 a18 a19 a20 a21 a22 a23 a24 c0 c1 c2 c3 c4 : UInt64) : bA [a0, a1, a2, a3, a4, a5, a6, a7, a8, a9, a10, a11, a12, a13, a14, a15, a16, a17, a18, a19, a20, a21, a22, a23, a24] [c0, c1, c2, c3, c4] 25 = (tA (dA [a0, a1, a2, a3, a4, a5, a6, a7, a8, a9, a10, a11, a12, a13, a14, a15, a16, a17, a18, a19, a20, a21, a22, a23, a24] [c0, c1, c2, c3, c4] 25) 24).2.set 0 (rotU ((tA (dA [a0, a1, a2, a3, a4, a5, a6, a7, a8, a9, a10, a11, a12, a13, a14, a15, a16, a17, a18, a19, a20, a21, a22, a23, a24] [c0, c1, c2, c3, c4] 25) 24).2.getD 0 0) 0) := by kernel_rfl
theorem lanes25 (l : List UInt64) (h : l.length = 25) : ∃ a0 a1 a2 a3 a4 a5 a6 a7 a8 a9 a10 a11 a12 a13 a14 a15 a16 a17 a18 a19 a20 a21 a22 a23 a24, l = [a0, a1, a2, a3, a4, a5, a6, a7, a8, a9, a10, a11, a12, a13, a14, a15, a16, a17, a18, a19, a20, a21, a22, a23, a24] := by
  obtain ⟨a0, t0, e0, h0⟩ := len_cons h
  obtain ⟨a1, t1, e1, h1⟩ := len_cons h0
  obtain ⟨a2, t2, e2, h2⟩ := len_cons h1
  obtain ⟨a3, t3, e3, h3⟩ := len_cons h2
  obtain ⟨a4, t4, e4, h4⟩ := len_cons h3
  obtain ⟨a5, t5, e5, h5⟩ := len_cons h4
  obtain ⟨a6, t6, e6, h6⟩ := len_cons h5
  obtain ⟨a7, t7, e7, h7⟩ := len_cons h6
  obtain ⟨a8, t8, e8, h8⟩ := len_cons h7
  obtain ⟨a9, t9, e9, h9⟩ := len_cons h8
  obtain ⟨a10, t10, e10, h10⟩ := len_cons h9
  obtain ⟨a11, t11, e11, h11⟩ := len_cons h10
  obtain ⟨a12, t12, e12, h12⟩ := len_cons h11
  obtain ⟨a13, t13, e13, h13⟩ := len_cons h12
  obtain ⟨a14, t14, e14, h14⟩ := len_cons h13
  obtain ⟨a15, t15, e15, h15⟩ := len_cons h14
  obtain ⟨a16, t16, e16, h16⟩ := len_cons h15
  obtain ⟨a17, t17, e17, h17⟩ := len_cons h16
  obtain ⟨a18, t18, e18, h18⟩ := len_cons h17
  obtain ⟨a19, t19, e19, h19⟩ := len_cons h18
  obtain ⟨a20, t20, e20, h20⟩ := len_cons h19
  obtain ⟨a21, t21, e21, h21⟩ := len_cons h20
  obtain ⟨a22, t22, e22, h22⟩ := len_cons h21
  obtain ⟨a23, t23, e23, h23⟩ := len_cons h22
  obtain ⟨a24, t24, e24, h24⟩ := len_cons h23
  have e25 := List.eq_nil_of_length_eq_zero h24
  exact ⟨a0, a1, a2, a3, a4, a5, a6, a7, a8, a9, a10, a11, a12, a13, a14, a15, a16, a17, a18, a19, a20, a21, a22, a23, a24, by rw [e0, e1, e2, e3, e4, e5, e6, e7, e8, e9, e10, e11, e12, e13, e14, e15, e16, e17, e18, e19, e20, e21, e22, e23, e24, e25]⟩
theorem lanes5 (l : List UInt64) (h : l.length = 5) : ∃ c0 c1 c2 c3 c4, l = [c0, c1, c2, c3, c4] := by
  obtain ⟨a0, t0, e0, h0⟩ := len_cons h
  obtain ⟨a1, t1, e1, h1⟩ := len_cons h0
  obtain ⟨a2, t2, e2, h2⟩ := len_cons h1
  obtain ⟨a3, t3, e3, h3⟩ := len_cons h2
  obtain ⟨a4, t4, e4, h4⟩ := len_cons h3
  have e5 := List.eq_nil_of_length_eq_zero h4
  exact ⟨a0, a1, a2, a3, a4, by rw [e0, e1, e2, e3, e4, e5]⟩
theorem set_getD (l : List UInt64) (h : 0 < l.length) : l.set 0 (l.getD 0 0) = l := by
  cases l with
  | nil => simp at h
  | cons a t => rfl
theorem rows_eq (l : List UInt64) (h : l.length = 25) : rowsR l = rowsC l := by
  rw [rowsR_eq]
  unfold rowsC
  rw [rB_eq]
  obtain ⟨a0, a1, a2, a3, a4, a5, a6, a7, a8, a9, a10, a11, a12, a13, a14, a15, a16, a17, a18, a19, a20, a21, a22, a23, a24, rfl⟩ := lanes25 l h
  exact (rows_lanes ..).symm
theorem mix_eq (l : List UInt64) (h : l.length = 25) : mixR l = mixC l := by
  rw [mixR_eq]
  unfold mixC
  have hc := cA_len l 25
  have ht := tA_len (dA l (cA l 25) 25) 24
  rw [dA_len, h] at ht
  generalize cA l 25 = c at *
  obtain ⟨a0, a1, a2, a3, a4, a5, a6, a7, a8, a9, a10, a11, a12, a13, a14, a15, a16, a17, a18, a19, a20, a21, a22, a23, a24, rfl⟩ := lanes25 l h
  obtain ⟨c0, c1, c2, c3, c4, rfl⟩ := lanes5 c hc
  rw [mix_lanes, rotU_zero, set_getD _ (by omega)]
theorem round_eq (l : List UInt64) (n : UInt64) (h : l.length = 25) : roundR l n = roundC l n := by
  unfold roundR roundC
  rw [mix_eq l h, rows_eq _ (mixC_len l)]
theorem p_eq (l : List UInt64) (h : l.length = 25) : ∀ k, pR l k = pC l k
  | 0 => rfl
  | k + 1 => by
    unfold pR pC
    rw [p_eq l h k, round_eq _ _ (pC_len l h k)]
theorem permR_fn (l : List UInt64) (hl : l.length = 25) : Fn Tryd.prog 39 [lnA l] [] (lnA (permC l)) [] := by
  have h := rperm_fn l hl
  rw [p_eq l hl] at h
  exact h
end Go.Proofs.YtgdjkkapgghdbaaDoor

