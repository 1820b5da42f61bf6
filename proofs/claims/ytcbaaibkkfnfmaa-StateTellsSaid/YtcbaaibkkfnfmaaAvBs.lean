/-
  The search that halves, as a function. No program in sight.
-/
import Derived.Test.YtcbaaibkkfnfmaaBase
namespace Go.Proofs.Ytcbaaibkkfnfmaa
open Go.RowKit
set_option linter.unusedVariables false
set_option linter.unusedSimpArgs false
def bsr (lt : Nat → Bool) : Nat → Nat → Nat → Nat
  | 0, i, _ => i
  | f + 1, i, j => if i < j then (if lt ((i + j) / 2) then bsr lt f ((i + j) / 2 + 1) j else bsr lt f i ((i + j) / 2)) else i
theorem bsr_fuel (lt : Nat → Bool) : ∀ (f g i j : Nat), j - i ≤ f → j - i ≤ g → bsr lt f i j = bsr lt g i j
  | 0, 0, _, _, _, _ => rfl
  | 0, g + 1, i, j, h, _ => by unfold bsr; rw [if_neg (by omega)]
  | f + 1, 0, i, j, _, h => by
    conv => lhs; unfold bsr
    rw [if_neg (by omega)]; rfl
  | f + 1, g + 1, i, j, h1, h2 => by
    unfold bsr
    by_cases h : i < j
    · rw [if_pos h, if_pos h, bsr_fuel lt f g _ j (by omega) (by omega), bsr_fuel lt f g i _ (by omega) (by omega)]
    · rw [if_neg h, if_neg h]
theorem bsr_up {lt : Nat → Bool} {i j r : Nat} (h : i < j) (hl : lt ((i + j) / 2) = true) (hr : bsr lt (j - i) i j = r) : bsr lt (j - ((i + j) / 2 + 1)) ((i + j) / 2 + 1) j = r := by
  rw [bsr_fuel lt (j - i) (j - i - 1 + 1) i j (by omega) (by omega)] at hr
  unfold bsr at hr
  rw [if_pos h, if_pos hl] at hr
  rw [← hr]; exact bsr_fuel lt _ _ _ _ (by omega) (by omega)
theorem bsr_dn {lt : Nat → Bool} {i j r : Nat} (h : i < j) (hl : lt ((i + j) / 2) = false) (hr : bsr lt (j - i) i j = r) : bsr lt ((i + j) / 2 - i) i ((i + j) / 2) = r := by
  rw [bsr_fuel lt (j - i) (j - i - 1 + 1) i j (by omega) (by omega)] at hr
  unfold bsr at hr
  rw [if_pos h, hl] at hr
  rw [← hr]; exact bsr_fuel lt _ _ _ _ (by omega) (by omega)
theorem bsr_le (lt : Nat → Bool) : ∀ (f i j : Nat), i ≤ j → bsr lt f i j ≤ j
  | 0, i, j, h => h
  | f + 1, i, j, h => by
    unfold bsr
    split
    · split
      · exact bsr_le lt f _ j (by omega)
      · exact Nat.le_trans (bsr_le lt f i _ (by omega)) (by omega)
    · exact h
theorem bits_u64 : IntKind.u64.bits = 64 := rfl
theorem half {i j : Nat} : ((i : Int) + (j : Int)).fdiv (2 ^ (min 1 64)) = (((i + j) / 2 : Nat) : Int) := by
  show ((i : Int) + (j : Int)).fdiv 2 = _
  rw [Int.fdiv_eq_ediv_of_nonneg _ (by omega)]; omega
theorem bsr_spec {lt : Nat → Bool} {n : Nat} (mono : ∀ i j, i ≤ j → j < n → lt j = true → lt i = true) : ∀ (f i j : Nat), j - i ≤ f → i ≤ j → j ≤ n → (∀ k, k < i → lt k = true) → (∀ k, j ≤ k → k < n → lt k = false) → (∀ k, k < bsr lt f i j → lt k = true) ∧ ∀ k, bsr lt f i j ≤ k → k < n → lt k = false
  | 0, i, j, h0, hij, hjn, h1, h2 => by
    obtain rfl : i = j := by omega
    exact ⟨h1, h2⟩
  | f + 1, i, j, h0, hij, hjn, h1, h2 => by
    unfold bsr
    by_cases h : i < j
    · rw [if_pos h]
      cases hm : lt ((i + j) / 2) with
      | true =>
        simp only [if_true]
        exact bsr_spec mono f _ j (by omega) (by omega) hjn (fun k hk => mono k ((i + j) / 2) (by omega) (by omega) hm) h2
      | false =>
        simp only [Bool.false_eq_true, if_false]
        refine bsr_spec mono f i _ (by omega) (by omega) (by omega) h1 fun k hk hkn => ?_
        cases hk2 : lt k with
        | false => rfl
        | true => rw [mono _ k hk hkn hk2] at hm; cases hm
    · rw [if_neg h]
      obtain rfl : i = j := by omega
      exact ⟨h1, h2⟩
section
variable {α : Type} (key : α → Int)
def Rises (L : List α) : Prop := L.Pairwise fun x y => key x < key y
/-- what is found of a key -/
def fnd (k : Int) : List α → Option α
  | [] => none
  | y :: L => if key y = k then some y else fnd k L
/-- a row in which something else stands at a key -/
def lay (k : Int) (o : Option α) : List α → List α
  | [] => o.toList
  | y :: L => if key y < k then y :: lay k o L else if key y = k then o.toList ++ L else o.toList ++ y :: L
variable {key}
theorem fnd_key {k : Int} : ∀ {L : List α} {x : α}, fnd key k L = some x → key x = k ∧ x ∈ L
  | y :: L, x, h => by
    unfold fnd at h
    split at h
    · rename_i e; cases h; exact ⟨e, by simp⟩
    · have := fnd_key h; exact ⟨this.1, by simp [this.2]⟩
theorem fnd_none {k : Int} : ∀ {L : List α}, (∀ x ∈ L, key x ≠ k) → fnd key k L = none
  | [], _ => rfl
  | y :: L, h => by
    unfold fnd
    rw [if_neg (h y (by simp))]
    exact fnd_none fun x hx => h x (by simp [hx])
/-- a place that parts what is less from what is not -/
structure Parts (key : α → Int) (L : List α) (k : Int) (p : Nat) : Prop where
  le : p ≤ L.length
  lo : ∀ (i : Nat) (h : i < L.length), i < p → key L[i] < k
  hi : ∀ (i : Nat) (h : i < L.length), p ≤ i → k ≤ key L[i]
theorem Parts.tail {y : α} {L : List α} {k : Int} {p : Nat} (h : Parts key (y :: L) k (p + 1)) : Parts key L k p :=
  ⟨by have := h.le; simpa using this, fun i hi hp => by have := h.lo (i + 1) (by simpa using hi) (by omega); simpa using this, fun i hi hp => by have := h.hi (i + 1) (by simpa using hi) (by omega); simpa using this⟩
theorem parts_fnd {k : Int} : ∀ {L : List α} {p : Nat}, Rises key L → Parts key L k p → fnd key k L = (L[p]?).filter fun x => decide (key x = k)
  | [], p, _, _ => by simp [fnd, Option.filter]
  | y :: L, 0, hr, h => by
    obtain ⟨l1, l2⟩ := List.pairwise_cons.1 hr
    have := h.hi 0 (by simp) (Nat.le_refl _)
    simp only [List.getElem_cons_zero] at this
    unfold fnd
    simp only [List.getElem?_cons_zero, Option.filter_some, decide_eq_true_eq]
    by_cases e : key y = k
    · rw [if_pos e, if_pos e]
    · rw [if_neg e, if_neg e]; exact fnd_none fun x hx => by have := l1 x hx; omega
  | y :: L, p + 1, hr, h => by
    obtain ⟨l1, l2⟩ := List.pairwise_cons.1 hr
    have := h.lo 0 (by simp) (by omega)
    simp only [List.getElem_cons_zero] at this
    unfold fnd
    rw [if_neg (by omega), parts_fnd l2 h.tail, List.getElem?_cons_succ]
/-- the search that halves comes to such a place -/
theorem bsr_parts {L : List α} {k : Int} {lt : Nat → Bool} (hr : Rises key L) (hlt : ∀ (i : Nat) (h : i < L.length), lt i = decide (key L[i] < k)) : Parts key L k (bsr lt L.length 0 L.length) := by
  have hp := List.pairwise_iff_getElem.1 hr
  have sp := bsr_spec (lt := lt) (n := L.length) (fun j i hjk hk h => by
    rw [hlt i hk, decide_eq_true_eq] at h
    rw [hlt j (by omega), decide_eq_true_eq]
    rcases Nat.lt_or_ge j i with h' | h'
    · have := hp j i (by omega) hk h'; omega
    · obtain rfl : j = i := by omega
      exact h) L.length 0 L.length (by omega) (Nat.zero_le _) (Nat.le_refl _) (fun k hk => by omega) (fun k h1 h2 => by omega)
  refine ⟨bsr_le _ _ _ _ (Nat.zero_le _), fun i h hi => ?_, fun i h hi => ?_⟩
  · have := sp.1 i hi; rwa [hlt i h, decide_eq_true_eq] at this
  · have := sp.2 i hi h; rw [hlt i h, decide_eq_false_iff_not] at this; omega
end
end Go.Proofs.Ytcbaaibkkfnfmaa

