/-
  The search that halves, as a function. No program in sight.
-/
import Derived.Test.YtiggambibcohcaaBase
namespace Go.Proofs.Ytiggambibcohcaa
open Go.RowKit
set_option linter.unusedVariables false
def bsr (lt : Nat → Bool) : Nat → Nat → Nat → Nat
  | 0, i, _ => i
  | f + 1, i, j => if i < j then (if lt ((i + j) / 2) then bsr lt f ((i + j) / 2 + 1) j else bsr lt f i ((i + j) / 2)) else i
theorem bsr_fuel (lt : Nat → Bool) : ∀ (f g i j : Nat), j - i ≤ f → j - i ≤ g → bsr lt f i j = bsr lt g i j
  | 0, 0, _, _, _, _ => rfl
  | 0, g + 1, i, j, h, _ => by unfold bsr; rw [if_neg (by omega)]
  | f + 1, 0, i, j, _, h => by
    conv => lhs; unfold bsr
    rw [if_neg (by omega)]; rfl
  | f + 1, g + 1, i, j, h1, h2 => by
    unfold bsr
    by_cases h : i < j
    · rw [if_pos h, if_pos h, bsr_fuel lt f g _ j (by omega) (by omega), bsr_fuel lt f g i _ (by omega) (by omega)]
    · rw [if_neg h, if_neg h]
theorem bsr_up {lt : Nat → Bool} {i j r : Nat} (h : i < j) (hl : lt ((i + j) / 2) = true) (hr : bsr lt (j - i) i j = r) : bsr lt (j - ((i + j) / 2 + 1)) ((i + j) / 2 + 1) j = r := by
  rw [bsr_fuel lt (j - i) (j - i - 1 + 1) i j (by omega) (by omega)] at hr
  unfold bsr at hr
  rw [if_pos h, if_pos hl] at hr
  rw [← hr]; exact bsr_fuel lt _ _ _ _ (by omega) (by omega)
theorem bsr_dn {lt : Nat → Bool} {i j r : Nat} (h : i < j) (hl : lt ((i + j) / 2) = false) (hr : bsr lt (j - i) i j = r) : bsr lt ((i + j) / 2 - i) i ((i + j) / 2) = r := by
  rw [bsr_fuel lt (j - i) (j - i - 1 + 1) i j (by omega) (by omega)] at hr
  unfold bsr at hr
  rw [if_pos h, hl] at hr
  rw [← hr]; exact bsr_fuel lt _ _ _ _ (by omega) (by omega)
theorem bsr_le (lt : Nat → Bool) : ∀ (f i j : Nat), i ≤ j → bsr lt f i j ≤ j
  | 0, i, j, h => h
  | f + 1, i, j, h => by
    unfold bsr
    split
    · split
      · exact bsr_le lt f _ j (by omega)
      · exact Nat.le_trans (bsr_le lt f i _ (by omega)) (by omega)
    · exact h
theorem bits_u64 : IntKind.u64.bits = 64 := rfl
theorem half {i j : Nat} : ((i : Int) + (j : Int)).fdiv (2 ^ (min 1 64)) = (((i + j) / 2 : Nat) : Int) := by
  show ((i : Int) + (j : Int)).fdiv 2 = _
  rw [Int.fdiv_eq_ediv_of_nonneg _ (by omega)]; omega
end Go.Proofs.Ytiggambibcohcaa
