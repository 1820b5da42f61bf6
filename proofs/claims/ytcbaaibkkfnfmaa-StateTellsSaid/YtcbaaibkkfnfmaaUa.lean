/-
  What laying does to states that rise; moved, and moved back; plain.
-/
import Derived.Test.YtcbaaibkkfnfmaaTe
import Derived.Test.YtcbaaibkkfnfmaaSs
namespace Go.Proofs.Ytcbaaibkkfnfmaa
open Go.RowKit
set_option linter.unusedVariables false
set_option linter.unusedSimpArgs false
theorem posS_parts {L : List Ac} (hr : RisesS L) (a : Int) : Parts Ac.a L a (posS L a) := bsr_parts (key := Ac.a) hr fun i h => ltA_eq h
theorem isS_fnd {L : List Ac} (hr : RisesS L) (a : Int) : isS L a = (fnd Ac.a a L).isSome := by
  rw [parts_fnd hr (posS_parts hr a)]
  unfold isS eqA
  cases L[posS L a]? with
  | none => rfl
  | some z =>
    simp only [Option.filter_some, decide_eq_true_eq]
    unfold cmpI
    by_cases h : z.a = a
    · rw [if_pos h, if_neg (by omega), if_neg (by omega)]; rfl
    · rw [if_neg h]
      by_cases h2 : z.a < a
      · rw [if_pos h2]; rfl
      · rw [if_neg h2, if_pos (by omega)]; rfl
theorem ofS_fnd {L : List Ac} (hr : RisesS L) (a : Int) : ofS L a = (fnd Ac.a a L).getD ⟨a, 0, 0, [], []⟩ := by
  have h := isS_fnd hr a
  unfold ofS
  cases hf : fnd Ac.a a L with
  | none => rw [hf] at h; rw [h]; rfl
  | some z =>
    rw [hf] at h
    rw [h]
    show (L[posS L a]?).getD _ = z
    rw [parts_fnd hr (posS_parts hr a)] at hf
    cases hz : L[posS L a]? with
    | none => rw [hz] at hf; cases hf
    | some w =>
      rw [hz] at hf
      rw [Option.filter_some] at hf
      split at hf
      · cases hf; rfl
      · cases hf
def FullS (L : List Ac) : Prop := ∀ x ∈ L, okAc x = true ∧ emptyA x = false
theorem okS_of {q : Bool} {L : List Ac} : ∀ {i : Nat}, q = true → (∀ j, j < i → okS1 L j = true) → okS q L i = true
  | 0, hq, _ => hq
  | i + 1, hq, h => by
    unfold okS
    rw [okS_of hq fun j hj => h j (by omega), h i (by omega)]; rfl
theorem okS_q {q : Bool} {L : List Ac} : ∀ {i : Nat}, okS q L i = true → q = true
  | 0, h => h
  | i + 1, h => by
    unfold okS at h
    rw [Bool.and_eq_true] at h
    exact okS_q h.1
theorem okSt_iff {L : List Ac} : okSt L = true ↔ RisesS L ∧ FullS L ∧ (L.map Ac.b).sum < WW ∧ manyL L ≤ 24 := by
  constructor
  · intro h
    have := okS_q h
    simp only [Bool.and_eq_true, Bool.not_eq_true', decide_eq_true_eq, decide_eq_false_iff_not] at this
    exact ⟨okSt_rises h, fun x hx => ⟨okSt_ac h x hx, okSt_full h hx⟩, by omega, this.2⟩
  · rintro ⟨h1, h2, h3, h4⟩
    refine okS_of (by simp only [Bool.and_eq_true, Bool.not_eq_true', decide_eq_true_eq, decide_eq_false_iff_not]; exact ⟨by omega, h4⟩) fun j hj => ?_
    have hp := List.pairwise_iff_getElem.1 h1
    have hf := h2 L[j] (List.getElem_mem hj)
    cases j with
    | zero => rw [okS1_zero (List.getElem?_eq_getElem hj), hf.1, hf.2]; rfl
    | succ j =>
      rw [okS1_succ (List.getElem?_eq_getElem (by omega)) (List.getElem?_eq_getElem hj), hf.1, hf.2]
      simpa using hp j (j + 1) (by omega) hj (by omega)
theorem isS_full {L : List Ac} (hr : RisesS L) (hf : FullS L) (a : Int) : isS L a = !emptyA (ofS L a) := by
  rw [isS_fnd hr, ofS_fnd hr]
  cases h1 : fnd Ac.a a L with
  | none => simp [emptyA]
  | some z => simp [(hf z (fnd_key h1).2).2]
end Go.Proofs.Ytcbaaibkkfnfmaa

