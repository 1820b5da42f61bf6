/-
  A row laid into a ledger in one pass, as the document has it. No program in sight.
-/
import Derived.Test.YtmibmodibicibaaLp
namespace Go.Proofs.Ytmibmodibicibaa
open Go.RowKit
/-- why a row may not be laid -/
def putE (m : List Hd) : Int := if WW ≤ tot m then 171 else if 24 < m.length then 6 else 0
/-- a row laid among others in one pass -/
def lp (h : Hd) : Bool → List Hd → List Hd
  | laid, [] => if laid = true then [] else [h]
  | laid, y :: l => if laid = false ∧ h.a ≤ y.a then h :: ((if y.a = h.a then [] else [y]) ++ lp h true l) else (if y.a = h.a then [] else [y]) ++ lp h laid l
theorem lp_drop {h y : Hd} {laid : Bool} {L : List Hd} {i : Nat} (hx : L[i]? = some y) : lp h laid (L.drop i) = if laid = false ∧ h.a ≤ y.a then h :: ((if y.a = h.a then [] else [y]) ++ lp h true (L.drop (i + 1))) else (if y.a = h.a then [] else [y]) ++ lp h laid (L.drop (i + 1)) := by
  obtain ⟨hl, rfl⟩ := List.getElem?_eq_some_iff.1 hx
  rw [List.drop_eq_getElem_cons hl]; rfl
theorem lp_true {h : Hd} : ∀ {l : List Hd}, (∀ y ∈ l, y.a ≠ h.a) → lp h true l = l
  | [], _ => rfl
  | y :: l, hn => by
    unfold lp
    rw [if_neg (by simp), if_neg (hn y (by simp)), lp_true fun x hx => hn x (by simp [hx])]; rfl
theorem lp_lt {h : Hd} {laid : Bool} : ∀ {A R : List Hd}, (∀ y ∈ A, y.a < h.a) → lp h laid (A ++ R) = A ++ lp h laid R
  | [], _, _ => rfl
  | y :: A, R, hn => by
    have hy := hn y (by simp)
    rw [List.cons_append, lp, if_neg (by rintro ⟨_, h2⟩; omega), if_neg (by omega), lp_lt fun x hx => hn x (by simp [hx])]; rfl
theorem lp_len {h : Hd} : ∀ (laid : Bool) (l : List Hd), (lp h laid l).length ≤ l.length + 1
  | laid, [] => by cases laid <;> simp [lp]
  | laid, y :: l => by
    have h1 := lp_len (h := h) laid l
    have h2 := lp_lent (h := h) l
    unfold lp
    split
    · split <;> simp <;> omega
    · split <;> simp <;> omega
where
  lp_lent {h : Hd} : ∀ (l : List Hd), (lp h true l).length ≤ l.length
  | [] => by simp [lp]
  | y :: l => by
    have := lp_lent (h := h) l
    unfold lp
    rw [if_neg (by simp)]
    split <;> simp <;> omega
theorem lp_mem {h y : Hd} : ∀ (laid : Bool) (l : List Hd), y ∈ lp h laid l → y = h ∨ y ∈ l
  | laid, [], hy => by
    cases laid
    · exact .inl (by simpa [lp] using hy)
    · simp [lp] at hy
  | laid, z :: l, hy => by
    have h1 := lp_mem (h := h) (y := y) laid l
    have h2 := lp_mem (h := h) (y := y) true l
    unfold lp at hy
    have key : ∀ b, (y ∈ lp h b l → y = h ∨ y ∈ l) → y ∈ (if z.a = h.a then [] else [z]) ++ lp h b l → y = h ∨ y ∈ z :: l := by
      intro b hb hy
      rcases List.mem_append.1 hy with hy | hy
      · split at hy
        · cases hy
        · exact .inr (by rw [List.mem_singleton.1 hy]; simp)
      · rcases hb hy with h | h
        · exact .inl h
        · exact .inr (List.mem_cons_of_mem _ h)
    split at hy
    · rcases List.mem_cons.1 hy with hy | hy
      · exact .inl hy
      · exact key true h2 hy
    · exact key laid h1 hy
theorem lp_put {l : List Hd} (hs : srt l) (h : Hd) : lp h (emptyH h) l = putL l h := by
  obtain ⟨A, o, B, rfl, hA, ho, hB, _, _, hp⟩ := cutA hs h.a
  rw [hp h rfl, lp_lt hA]
  have hn : ∀ y ∈ B, y.a ≠ h.a := fun y hy => by have := hB y hy; omega
  cases he : emptyH h with
  | true =>
    rw [if_pos rfl]
    cases o with
    | none => simp [lp_true hn]
    | some y =>
      have := ho y rfl
      simp [lp, this, lp_true hn]
  | false =>
    rw [if_neg (by decide)]
    cases o with
    | some y =>
      have := ho y rfl
      simp [lp, this, lp_true hn]
    | none =>
      cases B with
      | nil => simp [lp]
      | cons y B =>
        have h1 := hB y (by simp)
        have h2 := hn y (by simp)
        have h3 : h.a ≤ y.a := by omega
        have h4 : ∀ x ∈ B, x.a ≠ h.a := fun x hx => hn x (by simp [hx])
        simp [lp, h2, h3, lp_true h4]
end Go.Proofs.Ytmibmodibicibaa
