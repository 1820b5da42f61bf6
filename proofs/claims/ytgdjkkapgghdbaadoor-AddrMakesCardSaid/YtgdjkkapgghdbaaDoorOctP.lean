/-
  Plain laws of layer 1 (octet): numbers of rows, rows of numbers. No program in sight.
-/
import Derived.Test.YtgdjkkapgghdbaaDoorBase
namespace Go.Proofs.YtgdjkkapgghdbaaDoor
open Go.RowKit
set_option linter.unusedVariables false

def beS : Nat → Nat → List UInt8
  | 0, _ => []
  | j + 1, x => UInt8.ofNat (x / 256 ^ j % 256) :: beS j x
theorem beS_zero (j x : Nat) (h : x / 256 ^ j = 0) (k : Nat) : beS (k + j) x = List.replicate k 0 ++ beS j x := by
  induction k with
  | zero => simp
  | succ k ih =>
    rw [show k + 1 + j = (k + j) + 1 by omega]
    show UInt8.ofNat (x / 256 ^ (k + j) % 256) :: beS (k + j) x = _
    rw [ih, List.replicate_succ, List.cons_append]
    congr 1
    have : x / 256 ^ (k + j) = 0 := by
      rw [Nat.pow_add, Nat.mul_comm, ← Nat.div_div_eq_div_mul, h, Nat.zero_div]
    rw [this]; rfl
theorem set_zeros (b : List UInt8) (k j x : Nat) (hk : 0 < k) :
    (b ++ (List.replicate k 0 ++ beS j x)).set (b.length + (k - 1)) (UInt8.ofNat (x / 256 ^ j % 256)) = b ++ (List.replicate (k - 1) 0 ++ beS (j + 1) x) := by
  obtain ⟨k, rfl⟩ : ∃ m, k = m + 1 := ⟨k - 1, by omega⟩
  rw [List.set_append_right _ _ (by omega)]
  congr 1
  rw [Nat.add_sub_cancel_left, Nat.add_sub_cancel, List.replicate_succ', List.append_assoc, List.set_append_right _ _ (by simp)]
  simp [beS]

end Go.Proofs.YtgdjkkapgghdbaaDoor

