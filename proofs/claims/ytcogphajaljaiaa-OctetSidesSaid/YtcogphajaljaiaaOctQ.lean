/-
  Plain laws of layer 1 (octet): windows of a row that was laid over. No program's step in sight.
-/
import Derived.Test.YtcogphajaljaiaaOctW
namespace Go.Proofs.Ytcogphajaljaiaa
open Go.RowKit

theorem winS_map (b : List UInt8) (f n : Nat) : winS b f n = (List.range n).map fun i => atS b (f + i) := by
  induction n with
  | zero => simp [winS]
  | succ n ih => rw [winS_succ, ih, List.range_succ, List.map_append]; rfl
theorem winS_congr {b b' : List UInt8} {f f' n : Nat} (h : ∀ i, i < n → atS b (f + i) = atS b' (f' + i)) : winS b f n = winS b' f' n := by
  rw [winS_map, winS_map]
  apply List.map_congr_left
  intro i hi
  exact h i (by simpa using hi)
theorem winS_self (b : List UInt8) : winS b 0 b.length = b := by
  unfold winS
  simp
theorem atS_over (b x : List UInt8) (at_ m i : Nat) (hm : at_ + x.length ≤ m) (hb : b.length ≤ m) :
    atS (overS b at_ x m) i = if at_ ≤ i ∧ i < at_ + x.length then atS x (i - at_) else atS b i := by
  have e1 : x.take (m - at_) = x := List.take_of_length_le (by omega)
  have e2 : b.take m = b := List.take_of_length_le hb
  unfold overS atS
  rw [e1, e2, List.getD_eq_getElem?_getD, List.getD_eq_getElem?_getD, List.getD_eq_getElem?_getD]
  have h0 : splice (List.replicate m (0 : UInt8)) 0 b = b ++ List.replicate (m - b.length) 0 := by
    unfold splice; simp
  rw [h0]
  unfold splice
  simp only [List.getElem?_append, List.getElem?_take, List.getElem?_drop, List.length_take, List.length_append, List.length_replicate, List.getElem?_replicate]
  by_cases h1 : at_ ≤ i ∧ i < at_ + x.length
  · rw [if_pos h1, if_neg (by omega), show i - min at_ (b.length + (m - b.length)) = i - at_ by omega, if_pos (by omega)]
  · rw [if_neg h1]
    by_cases h2 : i < at_
    · rw [if_pos (by omega), if_pos h2]
      by_cases h3 : i < b.length
      · rw [if_pos h3]
      · rw [if_neg h3, List.getElem?_eq_none (l := b) (by omega)]
        split <;> rfl
    · rw [if_neg (by omega), show i - min at_ (b.length + (m - b.length)) = i - at_ by omega, if_neg (by omega), show at_ + x.length + (i - at_ - x.length) = i by omega]
      by_cases h3 : i < b.length
      · rw [if_pos h3]
      · rw [if_neg h3, List.getElem?_eq_none (l := b) (by omega)]
        split <;> rfl
theorem overS_length (b x : List UInt8) (at_ m : Nat) (hm : at_ + x.length ≤ m) (hb : b.length ≤ m) : (overS b at_ x m).length = m := by
  have h1 : (splice (List.replicate m (0 : UInt8)) 0 (b.take m)).length = m := by rw [length_splice _ _ _ (by simp; omega)]; simp
  unfold overS
  rw [length_splice _ _ _ (by rw [h1]; simp; omega), h1]

/-- all that OctetShows asks -/
theorem over_shows (b x : List UInt8) (p : Nat) (hb : b.length ≤ 300) (hx : x.length ≤ 300) (hp : p < 400) :
    ∃ o, overE b p x = (o, 0) ∧ winS o p x.length = x ∧ winS o 0 p = winS b 0 p ∧ winS o (p + x.length) 700 = winS b (p + x.length) 700 ∧ b.length ≤ o.length := by
  by_cases h0 : x.length = 0
  · refine ⟨overS b 0 x (max b.length (0 + x.length)), ?_, ?_, ?_, ?_, ?_⟩
    · unfold overE madeS
      rw [if_pos h0, if_neg (by omega), if_pos (withinS_ok (by omega) (by omega))]
    · rw [h0, List.length_eq_zero_iff.1 h0, winS_map]; rfl
    · apply winS_congr; intro i _; rw [atS_over _ _ _ _ _ (by omega) (by omega), if_neg (by omega)]
    · apply winS_congr; intro i _; rw [atS_over _ _ _ _ _ (by omega) (by omega), if_neg (by omega)]
    · rw [overS_length _ _ _ _ (by omega) (by omega)]; omega
  · refine ⟨overS b p x (max b.length (p + x.length)), ?_, ?_, ?_, ?_, ?_⟩
    · unfold overE madeS
      rw [if_neg h0, if_neg (by omega), if_pos (withinS_ok (by omega) (by omega))]
    · conv => rhs; rw [← winS_self x]
      apply winS_congr; intro i hi; rw [atS_over _ _ _ _ _ (by omega) (by omega), if_pos (by omega)]
      congr 1; omega
    · apply winS_congr; intro i _; rw [atS_over _ _ _ _ _ (by omega) (by omega), if_neg (by omega)]
    · apply winS_congr; intro i _; rw [atS_over _ _ _ _ _ (by omega) (by omega), if_neg (by omega)]
    · rw [overS_length _ _ _ _ (by omega) (by omega)]; omega

/-- windows side by side -/
theorem winS_sides (b : List UInt8) (f m n : Nat) : winS b f m ++ winS b (f + m) n = winS b f (m + n) := by
  rw [winS_map, winS_map, winS_map, List.range_add, List.map_append, List.map_map]
  congr 1
  apply List.map_congr_left
  intro i _
  simp [Nat.add_assoc]
theorem atS_far (b : List UInt8) (i : Nat) (h : b.length ≤ i) : atS b i = 0 := by
  unfold atS; rw [List.getD_eq_getElem?_getD, List.getElem?_eq_none h]; rfl
theorem winS_far (b : List UInt8) (f n : Nat) (h : b.length ≤ f) : winS b f n = List.replicate n 0 := by
  rw [winS_map, List.eq_replicate_iff]
  refine ⟨by simp, fun x hx => ?_⟩
  obtain ⟨i, _, rfl⟩ := List.mem_map.1 hx
  exact atS_far b _ (by omega)
end Go.Proofs.Ytcogphajaljaiaa
