/-
  Addresses laid in one by one: what comes rises, and has just what was there; plain.
-/
import Derived.Test.YtmlalhmljmajbaaDi
namespace Go.Proofs.Ytmlalhmljmajbaa
open Go.RowKit
set_option linter.unusedVariables false
set_option linter.unusedSimpArgs false
theorem insD_cons (y : Int) (l : List Int) (x : Int) : insD (y :: l) x = if y < x then y :: insD l x else if y = x then y :: l else x :: y :: l := by
  by_cases h : y < x
  · rw [if_pos h]
    unfold insD
    have e : posD (y :: l) x = posD l x + 1 := by show (if y < x then _ else _) = _; rw [if_pos h]
    rw [e, List.getElem?_cons_succ]
    split <;> simp
  · rw [if_neg h]
    unfold insD
    have e : posD (y :: l) x = 0 := by show (if y < x then _ else _) = _; rw [if_neg h]
    rw [e, List.getElem?_cons_zero]
    by_cases h2 : y = x
    · rw [if_pos (by rw [h2]), if_pos h2]
    · rw [if_neg (fun e => h2 (Option.some.inj e)), if_neg h2]
      rfl
theorem insD_mem : ∀ (l : List Int) (x z : Int), z ∈ insD l x ↔ z = x ∨ z ∈ l
  | [], x, z => by simp [insD, posD]
  | y :: l, x, z => by
    have ih := insD_mem l x z
    rw [insD_cons]
    split
    · rw [List.mem_cons, List.mem_cons, ih]
      constructor
      · rintro (h | h | h)
        · exact .inr (.inl h)
        · exact .inl h
        · exact .inr (.inr h)
      · rintro (h | h | h)
        · exact .inr (.inl h)
        · exact .inl h
        · exact .inr (.inr h)
    · split
      · rename_i h
        rw [List.mem_cons, h]
        constructor
        · exact .inr
        · rintro (h | h)
          · exact .inl h
          · exact h
      · rw [List.mem_cons]
theorem insD_lt : ∀ (l : List Int) (x : Int), l.Pairwise (· < ·) → (insD l x).Pairwise (· < ·)
  | [], x, _ => by simp [insD, posD]
  | y :: l, x, h => by
    rw [List.pairwise_cons] at h
    have ih := insD_lt l x h.2
    rw [insD_cons]
    split
    · rename_i hyx
      rw [List.pairwise_cons]
      refine ⟨fun z hz => ?_, ih⟩
      rcases (insD_mem l x z).1 hz with rfl | hz
      · exact hyx
      · exact h.1 z hz
    · split
      · exact List.pairwise_cons.2 h
      · rw [List.pairwise_cons]
        refine ⟨fun z hz => ?_, List.pairwise_cons.2 h⟩
        rcases List.mem_cons.1 hz with rfl | hz
        · omega
        · have := h.1 z hz; omega
theorem resD_all (l : List Int) : ∀ i, i ≤ l.length → (resD l i).Pairwise (· < ·) ∧ ∀ x, x ∈ resD l i ↔ x ∈ l.take i
  | 0, _ => by simp [resD]
  | i + 1, h => by
    obtain ⟨h1, h2⟩ := resD_all l i (by omega)
    have hb : l[i]? = some (l[i]'(by omega)) := List.getElem?_eq_getElem (by omega)
    have e : resD l (i + 1) = insD (resD l i) (l[i]'(by omega)) := by
      show (match l[i]? with | none => _ | some x => _) = _
      rw [hb]
    rw [e]
    refine ⟨insD_lt _ _ h1, fun x => ?_⟩
    rw [insD_mem, h2, List.take_add_one, hb, List.mem_append, or_comm]
    simp
theorem res_uniq {l r : List Int} (h1 : r.Pairwise (· < ·)) (h2 : ∀ x, x ∈ r ↔ x ∈ l) : resD l l.length = r := by
  obtain ⟨g1, g2⟩ := resD_all l l.length (Nat.le_refl _)
  refine rise_eq g1 h1 fun x => ?_
  rw [g2, h2, List.take_length]
end Go.Proofs.Ytmlalhmljmajbaa

