/-
  A block laid onto lanes: byte by byte (code), lane by lane (document). Plain.
-/
import Derived.Test.YtgdjkkapgghdbaaDoorYj
namespace Go.Proofs.YtgdjkkapgghdbaaDoor
open Go.RowKit
set_option linter.unusedVariables false
set_option linter.unusedSimpArgs false
theorem xor_add {a b i : Nat} (h : b < 2 ^ i) : b ^^^ (a * 2 ^ i) = b + a * 2 ^ i := by
  apply Nat.eq_of_testBit_eq
  intro j
  rw [Nat.testBit_xor, show b + a * 2 ^ i = 2 ^ i * a + b by rw [Nat.mul_comm a]; omega, Nat.testBit_two_pow_mul_add a h, show a * 2 ^ i = 2 ^ i * a by rw [Nat.mul_comm], Nat.testBit_two_pow_mul]
  by_cases hj : j < i
  · rw [if_pos hj]
    have : decide (j ≥ i) = false := by simp; omega
    rw [this]; simp
  · rw [if_neg hj]
    have h1 : decide (j ≥ i) = true := by simp; omega
    have h2 : b.testBit j = false := Nat.testBit_lt_two_pow (Nat.lt_of_lt_of_le h (Nat.pow_le_pow_right (by decide) (by omega)))
    rw [h1, h2]; simp
def hN (p : List Nat) (i : Nat) : Nat → Nat
  | 0 => 0
  | j + 1 => 256 * hN p i j + p.getD (8 * i + (7 - j)) 0
def gN (p : List Nat) (i : Nat) : Nat → Nat
  | 0 => 0
  | j + 1 => gN p i j + p.getD (8 * i + j) 0 * 2 ^ (8 * j)
theorem hg_eq (p : List Nat) (i : Nat) : hN p i 8 = gN p i 8 := by
  simp only [hN, gN]
  simp only [Nat.reduceSub, Nat.reduceMul, Nat.reducePow, Nat.reduceAdd, Nat.mul_zero, Nat.pow_zero]
  omega
theorem gN_lt (p : List Nat) (i : Nat) (hb : ∀ j, p.getD j 0 < 256) : ∀ j, gN p i j < 2 ^ (8 * j)
  | 0 => by simp [gN]
  | j + 1 => by
    have h1 := gN_lt p i hb j
    have h2 := hb (8 * i + j)
    unfold gN
    rw [show 8 * (j + 1) = 8 * j + 8 by omega, Nat.pow_add]
    have h3 : p.getD (8 * i + j) 0 * 2 ^ (8 * j) ≤ 255 * 2 ^ (8 * j) := Nat.mul_le_mul_right _ (by omega)
    generalize 2 ^ (8 * j) = q at *
    omega
theorem gN_xor (p : List Nat) (i : Nat) (hb : ∀ j, p.getD j 0 < 256) (j : Nat) : gN p i (j + 1) = gN p i j ^^^ (p.getD (8 * i + j) 0 * 2 ^ (8 * j)) := by
  rw [xor_add (gN_lt p i hb j)]
  rfl
theorem of_xor (a b : Nat) : UInt64.ofNat a ^^^ UInt64.ofNat b = UInt64.ofNat (a ^^^ b) := by
  apply UInt64.toNat.inj
  rw [UInt64.toNat_xor, UInt64.toNat_ofNat', UInt64.toNat_ofNat', UInt64.toNat_ofNat']
  exact (Nat.xor_mod_two_pow (n := 64)).symm
def xorC (l : List UInt64) (p : List Nat) : Nat → List UInt64
  | 0 => l
  | k + 1 => (xorC l p k).set (k / 8) ((xorC l p k).getD (k / 8) 0 ^^^ UInt64.ofNat (p.getD k 0 * 2 ^ (8 * (k % 8))))
def xorD (l : List UInt64) (p : List Nat) : Nat → List UInt64
  | 0 => l
  | k + 1 => (xorD l p k).set k ((xorD l p k).getD k 0 ^^^ UInt64.ofNat (hN p k 8))
theorem xorC_s (l : List UInt64) (p : List Nat) (k : Nat) : xorC l p (k + 1) = (xorC l p k).set (k / 8) ((xorC l p k).getD (k / 8) 0 ^^^ UInt64.ofNat (p.getD k 0 * 2 ^ (8 * (k % 8)))) := rfl
theorem xorC_len (l : List UInt64) (p : List Nat) : ∀ k, (xorC l p k).length = l.length
  | 0 => rfl
  | k + 1 => by unfold xorC; rw [List.length_set, xorC_len l p k]
theorem xorD_len (l : List UInt64) (p : List Nat) : ∀ k, (xorD l p k).length = l.length
  | 0 => rfl
  | k + 1 => by unfold xorD; rw [List.length_set, xorD_len l p k]
theorem set_same (s : List UInt64) (i : Nat) (h : i < s.length) : s.set i (s.getD i 0) = s := by
  apply List.ext_getElem
  · rw [List.length_set]
  · intro n h1 h2
    rw [List.getElem_set]
    split
    · rename_i e; subst e; rw [List.getD_eq_getElem?_getD, List.getElem?_eq_getElem h]; rfl
    · rfl
theorem getD_set (s : List UInt64) (i : Nat) (v : UInt64) (h : i < s.length) : (s.set i v).getD i 0 = v := by
  rw [List.getD_eq_getElem?_getD, List.getElem?_set_self h]; rfl
theorem xor_lane (l : List UInt64) (p : List Nat) (i : Nat) (hb : ∀ j, p.getD j 0 < 256) (hi : i < l.length) :
    ∀ j, j ≤ 8 → xorC l p (8 * i + j) = (xorC l p (8 * i)).set i ((xorC l p (8 * i)).getD i 0 ^^^ UInt64.ofNat (gN p i j))
  | 0, _ => by
    have e : UInt64.ofNat (gN p i 0) = 0 := rfl
    rw [e, UInt64.xor_zero, Nat.add_zero, set_same _ _ (by rw [xorC_len]; exact hi)]
  | j + 1, h => by
    rw [show 8 * i + (j + 1) = (8 * i + j) + 1 from rfl, xorC_s]
    rw [show (8 * i + j) / 8 = i by omega, show (8 * i + j) % 8 = j by omega, xor_lane l p i hb hi j (by omega)]
    rw [getD_set _ _ _ (by rw [xorC_len]; exact hi), List.set_set, UInt64.xor_assoc, of_xor, ← gN_xor p i hb j]
theorem xor_lanes (l : List UInt64) (p : List Nat) (hb : ∀ j, p.getD j 0 < 256) : ∀ k, k ≤ l.length → xorC l p (8 * k) = xorD l p k
  | 0, _ => rfl
  | k + 1, h => by
    rw [show 8 * (k + 1) = 8 * k + 8 by omega, xor_lane l p k hb (by omega) 8 (Nat.le_refl _), xor_lanes l p hb k (by omega), ← hg_eq]
    rfl
end Go.Proofs.YtgdjkkapgghdbaaDoor

