/-
  Plain laws of layer 1 (octet): numbers of rows, rows of numbers. No program in sight.
-/
import Derived.Test.YtagkcmoloceheaaDoorBase
namespace Go.Proofs.YtagkcmoloceheaaDoor
open Go.RowKit
set_option linter.unusedVariables false

def two64 : Nat := 18446744073709551616
theorem two64_eq : two64 = 18446744073709551616 := rfl
/-- the number of bytes, the highest first, in 64 bits -/
def numStep (x : Nat) (c : UInt8) : Nat := (256 * x + c.toNat) % 18446744073709551616
def numS (l : List UInt8) : Nat := l.foldl numStep 0
theorem numS_snoc (l : List UInt8) (a : UInt8) : numS (l ++ [a]) = numStep (numS l) a := by unfold numS; rw [List.foldl_append]; rfl
theorem numS_lt (l : List UInt8) : numS l < 18446744073709551616 := by
  rcases List.eq_nil_or_concat l with rfl | ⟨l', a, rfl⟩
  · decide
  · rw [List.concat_eq_append, numS_snoc]; unfold numStep; omega
def valS (l : List UInt8) : Nat := l.foldl (fun x c => 256 * x + c.toNat) 0
theorem valS_from (l : List UInt8) (x : Nat) : l.foldl (fun x c => 256 * x + c.toNat) x = x * 256 ^ l.length + valS l := by
  induction l generalizing x with
  | nil => simp [valS]
  | cons a l ih =>
    unfold valS
    rw [List.foldl_cons, List.foldl_cons, ih, ih, List.length_cons, Nat.pow_succ, Nat.add_mul, Nat.mul_comm 256 x, Nat.mul_assoc, Nat.mul_comm 256 (256 ^ l.length)]
    simp [Nat.add_assoc]
theorem valS_append (p q : List UInt8) : valS (p ++ q) = valS p * 256 ^ q.length + valS q := by
  rw [← valS_from q (valS p)]; unfold valS; rw [List.foldl_append]
theorem numS_val (l : List UInt8) : numS l = valS l % 18446744073709551616 := by
  rcases Nat.eq_zero_or_pos l.length with h | h
  · rw [List.length_eq_zero_iff.1 h]; decide
  · induction hl : l.length generalizing l with
    | zero => omega
    | succ n ih =>
      rcases List.eq_nil_or_concat l with rfl | ⟨l', a, rfl⟩
      · cases hl
      · rw [List.concat_eq_append, numS_snoc, valS_append]
        have h2 : numS l' = valS l' % 18446744073709551616 := by
          rcases Nat.eq_zero_or_pos l'.length with h' | h'
          · rw [List.length_eq_zero_iff.1 h']; decide
          · exact ih l' h' (by simpa using hl)
        unfold numStep
        rw [h2]
        have h3 : valS [a] = a.toNat := by simp [valS]
        rw [h3]
        simp only [List.length_cons, List.length_nil]
        omega
theorem numS_last (l : List UInt8) : numS (l.drop (l.length - 8)) = numS l := by
  rcases Nat.lt_or_ge l.length 8 with h | h
  · rw [show l.length - 8 = 0 by omega, List.drop_zero]
  · rw [numS_val, numS_val]
    have e := valS_append (l.take (l.length - 8)) (l.drop (l.length - 8))
    rw [List.take_append_drop] at e
    have h8 : (l.drop (l.length - 8)).length = 8 := by rw [List.length_drop]; omega
    rw [h8] at e
    rw [e]
    omega

/-- the low j bytes of a number, the highest first -/
def beS : Nat → Nat → List UInt8
  | 0, _ => []
  | j + 1, x => UInt8.ofNat (x / 256 ^ j % 256) :: beS j x
theorem beS_length (j x : Nat) : (beS j x).length = j := by induction j with
  | zero => rfl
  | succ j ih => simp [beS, ih]
theorem valS_beS (j x : Nat) : valS (beS j x) = x % 256 ^ j := by
  induction j with
  | zero => simp [beS, valS]; omega
  | succ j ih =>
    have e := valS_append [UInt8.ofNat (x / 256 ^ j % 256)] (beS j x)
    simp only [List.cons_append, List.nil_append] at e
    unfold beS
    rw [e, ih, beS_length]
    have h1 : valS [UInt8.ofNat (x / 256 ^ j % 256)] = x / 256 ^ j % 256 := by
      simp [valS]
    rw [h1, Nat.pow_succ, Nat.mod_mul, Nat.mul_comm (256 ^ j) (x / 256 ^ j % 256)]
    omega
theorem beS_zero (j x : Nat) (h : x / 256 ^ j = 0) (k : Nat) : beS (k + j) x = List.replicate k 0 ++ beS j x := by
  induction k with
  | zero => simp
  | succ k ih =>
    rw [show k + 1 + j = (k + j) + 1 by omega]
    show UInt8.ofNat (x / 256 ^ (k + j) % 256) :: beS (k + j) x = _
    rw [ih, List.replicate_succ, List.cons_append]
    congr 1
    have : x / 256 ^ (k + j) = 0 := by
      rw [Nat.pow_add, Nat.mul_comm, ← Nat.div_div_eq_div_mul, h, Nat.zero_div]
    rw [this]; rfl
theorem numS_beS (b : List UInt8) (x : Nat) (h : x < 18446744073709551616) : numS (b ++ beS 8 x) = x := by
  rw [numS_val, valS_append, valS_beS, beS_length]
  omega
/-- one byte more, from behind: what a row with k noughts ahead becomes -/
theorem set_zeros (b : List UInt8) (k j x : Nat) (hk : 0 < k) :
    (b ++ (List.replicate k 0 ++ beS j x)).set (b.length + (k - 1)) (UInt8.ofNat (x / 256 ^ j % 256)) = b ++ (List.replicate (k - 1) 0 ++ beS (j + 1) x) := by
  obtain ⟨k, rfl⟩ : ∃ m, k = m + 1 := ⟨k - 1, by omega⟩
  rw [List.set_append_right _ _ (by omega)]
  congr 1
  rw [Nat.add_sub_cancel_left, Nat.add_sub_cancel, List.replicate_succ', List.append_assoc, List.set_append_right _ _ (by simp)]
  simp [beS]

theorem or_shift (X c : Nat) (hX : X < 18446744073709551616) (hc : c < 256) :
    bits .or .u64 (IntKind.u64.wrap ((X : Int) * 256)) (c : Int) = (((256 * X + c) % 18446744073709551616 : Nat) : Int) := by
  have e : IntKind.u64.wrap ((X : Int) * 256) = ((256 * (X % 72057594037927936) : Nat) : Int) := by
    rw [IntKind.wrap_u64]; omega
  rw [e, u64_or_nat _ _ (by omega) (by omega)]
  have h := Nat.shiftLeft_add_eq_or_of_lt (b := c) (i := 8) (by simpa using hc) (X % 72057594037927936)
  rw [Nat.shiftLeft_eq] at h
  have h2 : 256 * (X % 72057594037927936) ||| c = 256 * (X % 72057594037927936) + c := by
    rw [Nat.mul_comm 256]
    simpa using h.symm
  rw [h2]
  omega
theorem mul_add_wrap (X c : Nat) : IntKind.u64.wrap (IntKind.u64.wrap (256 * (X : Int)) + (c : Int)) = (((256 * X + c) % 18446744073709551616 : Nat) : Int) := by
  rw [IntKind.wrap_u64, IntKind.wrap_u64]; omega

/-- how many are noughts -/
def zerosS (l : List UInt8) : Nat := l.countP (· == 0)
theorem zerosS_snoc (l : List UInt8) (a : UInt8) : zerosS (l ++ [a]) = zerosS l + if a = 0 then 1 else 0 := by
  unfold zerosS
  rw [List.countP_append]
  congr 1
  by_cases h : a = 0 <;> simp [h]
theorem zerosS_le (l : List UInt8) : zerosS l ≤ l.length := List.countP_le_length
theorem zerosS_append (l r : List UInt8) : zerosS (l ++ r) = zerosS l + zerosS r := List.countP_append
theorem take_snoc8 {l : List UInt8} {k : Nat} {x : UInt8} (h : l[k]? = some x) : l.take (k + 1) = l.take k ++ [x] := by
  rw [List.take_add_one, h]; rfl
end Go.Proofs.YtagkcmoloceheaaDoor
