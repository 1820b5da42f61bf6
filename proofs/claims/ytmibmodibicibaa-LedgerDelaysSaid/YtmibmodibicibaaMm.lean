/-
  When a stake comes free, deed by deed. No program in sight.
-/
import Derived.Test.YtmibmodibicibaaLr
import Derived.Test.YtmibmodibicibaaAvMp
namespace Go.Proofs.Ytmibmodibicibaa
open Go.RowKit
set_option maxHeartbeats 2000000
/-- what a deed makes of the time at which an address's stake comes free -/
def frD (D : Dd) (h : Hd) : Int := if D.q = 2 then 0 else if D.q = 3 then D.t + h.d else if D.q = 4 then 0 else h.f
theorem deed_other_f {l : List Hd} (hk : okL l = true) {D : Dd} (hE : D.E l = 0) (hr : (D.row (findH l D.a)).a = D.a) {b : Int} (hb : b ≠ D.a) : (findH (D.M l) b).f = (findH l b).f := by
  rw [deed_M hE, (findH_other (okL_srt hk) _ (by rw [hr]; exact hb)).1]
theorem deed_free {l : List Hd} (hk : okL l = true) (ok : ∀ x ∈ l, x.ok) {D : Dd} (hD : D.ok) (hE : D.E l = 0) :
    D.a ≠ 0 ∧ (D.row (findH l D.a)).a = D.a ∧ (findH (D.M l) D.a).f = frD D (findH l D.a)
      ∧ (D.q = 2 → (findH l D.a).d ≤ (findH (D.M l) D.a).d ∧ (findH (D.M l) D.a).s ≠ 0)
      ∧ (D.q = 3 → (findH l D.a).s ≠ 0 ∧ (findH l D.a).f = 0 ∧ D.t ≤ 1099511627776 ∧ (findH l D.a).d ≤ 1073741824)
      ∧ (D.q = 4 → (findH l D.a).f ≠ 0 ∧ ¬ D.t < (findH l D.a).f) := by
  obtain ⟨h0, r⟩ := deed_row hk ok hD hE
  have hg := findH_gr hk D.a
  have ht := findH_tot hk D.a
  have e3 := findH_put (okL_srt hk) (D.row (findH l D.a))
  rw [r.a, ← deed_M hE] at e3
  obtain ⟨_, _, her⟩ := gate_zero hE
  refine ⟨h0, r.a, ?_⟩
  rw [e3]
  have qr := D.q_range
  unfold Dd.er at her
  unfold Dd.row frD
  generalize findH l D.a = h at hg ht her ⊢
  obtain ⟨g1, g2, g3, g4⟩ := hg
  by_cases q0 : D.q = 0
  · have n2 : ¬ D.q = 2 := by omega
    have n3 : ¬ D.q = 3 := by omega
    have n4 : ¬ D.q = 4 := by omega
    simp only [if_pos q0, if_neg n2, if_neg n3, if_neg n4]
    refine ⟨?_, fun h => absurd h n2, fun h => absurd h n3, fun h => absurd h n4⟩
    split
    · rename_i he
      unfold emptyH depH at he
      simp only [Bool.and_eq_true, decide_eq_true_eq] at he
      rcases g4 with h | h
      · exact h.symm
      · exact absurd he.2 h
    · rfl
  by_cases q1 : D.q = 1
  · have n2 : ¬ D.q = 2 := by omega
    have n3 : ¬ D.q = 3 := by omega
    have n4 : ¬ D.q = 4 := by omega
    simp only [if_neg q0, if_pos q1, if_neg n2, if_neg n3, if_neg n4]
    refine ⟨?_, fun h => absurd h n2, fun h => absurd h n3, fun h => absurd h n4⟩
    split
    · rename_i he
      unfold emptyH wdrH at he
      simp only [Bool.and_eq_true, decide_eq_true_eq] at he
      rcases g4 with h | h
      · exact h.symm
      · exact absurd he.2 h
    · rfl
  by_cases q2 : D.q = 2
  · have n3 : ¬ D.q = 3 := by omega
    have n4 : ¬ D.q = 4 := by omega
    simp only [if_neg q0, if_neg q1, if_pos q2] at her ⊢
    unfold bondE at her
    cases hd : dly h.d D.y with
    | true => rw [hd] at her; cases her
    | false =>
      rw [hd] at her
      simp only [Bool.false_eq_true, if_false] at her
      obtain ⟨_, _, d3⟩ := dly_false hd
      by_cases c0 : (decide (h.s = 0) && decide (D.n = 0)) = true
      · rw [if_pos c0] at her; cases her
      · rw [if_neg c0] at her
        obtain ⟨f1, _⟩ := fits_zero her
        have hs : (h.s + D.n) % WW = h.s + D.n := Nat.mod_eq_of_lt (by omega)
        have hne : h.s + D.n ≠ 0 := by
          intro e
          apply c0
          rw [decide_eq_true (by omega), decide_eq_true (by omega)]; rfl
        have he : emptyH (bondH h D.n D.y) = false := by
          unfold emptyH bondH
          dsimp only
          rw [hs, Bool.and_eq_false_iff]
          exact .inr (decide_eq_false hne)
        rw [he]
        simp only [Bool.false_eq_true, if_false]
        refine ⟨rfl, fun _ => ⟨?_, ?_⟩, fun h => absurd h n3, fun h => absurd h n4⟩
        · have := of_decide_eq_false d3
          show h.d ≤ D.y
          omega
        · show (h.s + D.n) % WW ≠ 0
          omega
  by_cases q3 : D.q = 3
  · have n4 : ¬ D.q = 4 := by omega
    simp only [if_neg q0, if_neg q1, if_neg q2, if_pos q3] at her ⊢
    unfold unlE at her
    by_cases c1 : D.t > 1099511627776
    · rw [if_pos c1] at her; cases her
    · rw [if_neg c1] at her
      by_cases c2 : (!decide (h.s = 0) && (h.f == 0)) = false
      · rw [if_pos c2] at her; cases her
      · rw [Bool.not_eq_false, Bool.and_eq_true, Bool.not_eq_true', decide_eq_false_iff_not, beq_iff_eq] at c2
        have he : emptyH (unlH h D.t) = false := by
          unfold emptyH unlH
          dsimp only
          rw [Bool.and_eq_false_iff]
          exact .inr (decide_eq_false c2.1)
        rw [he]
        simp only [Bool.false_eq_true, if_false]
        exact ⟨rfl, fun h => absurd h q2, fun _ => ⟨c2.1, c2.2, by omega, g1⟩, fun h => absurd h n4⟩
  · have n4 : D.q = 4 := by omega
    simp only [if_neg q0, if_neg q1, if_neg q2, if_neg q3, if_pos n4] at her ⊢
    unfold relE at her
    by_cases c1 : D.t > 1099511627776
    · rw [if_pos c1] at her; cases her
    · rw [if_neg c1] at her
      by_cases c2 : h.s = 0
      · rw [if_pos c2] at her; cases her
      · rw [if_neg c2] at her
        by_cases c3 : h.f = 0 ∨ D.t < h.f
        · rw [if_pos c3] at her; cases her
        · rw [not_or] at c3
          refine ⟨?_, fun h => absurd h q2, fun h => absurd h q3, fun _ => c3⟩
          split <;> rfl
/-- the times of the first rows -/
def fmL (l : List Hd) : Nat → List (Int × Int)
  | 0 => []
  | i + 1 => match l[i]? with | some y => mput (fmL l i) y.a y.f | none => fmL l i
theorem fmL_succ {l : List Hd} {i : Nat} {y : Hd} (h : l[i]? = some y) : fmL l (i + 1) = mput (fmL l i) y.a y.f := by
  show (match l[i]? with | some y => mput (fmL l i) y.a y.f | none => fmL l i) = _
  rw [h]
theorem fmL_get {l : List Hd} (hs : srt l) (a : Int) : ∀ i, i ≤ l.length → ((∃ (j : Nat) (y : Hd), j < i ∧ l[j]? = some y ∧ y.a = a) → mget 0 (fmL l i) a = (findH l a).f) ∧ ((∀ (j : Nat) (y : Hd), j < i → l[j]? = some y → y.a ≠ a) → mget 0 (fmL l i) a = 0)
  | 0, _ => ⟨fun ⟨j, _, h, _⟩ => absurd h (Nat.not_lt_zero j), fun _ => rfl⟩
  | i + 1, hi => by
    obtain ⟨y, hy⟩ : ∃ y, l[i]? = some y := ⟨_, List.getElem?_eq_getElem hi⟩
    obtain ⟨ih1, ih2⟩ := fmL_get hs a i (by omega)
    rw [fmL_succ hy, mget_put]
    have hm := findH_mem hs (List.mem_of_getElem? hy)
    by_cases e : a = y.a
    · rw [if_pos e]
      refine ⟨fun _ => by rw [e, hm], fun h => absurd e.symm (h i y (Nat.lt_succ_self i) hy)⟩
    · rw [if_neg e]
      refine ⟨fun ⟨j, z, h1, h2, h3⟩ => ?_, fun h => ih2 fun j z h1 h2 => h j z (by omega) h2⟩
      rcases Nat.lt_or_ge j i with hj | hj
      · exact ih1 ⟨j, z, hj, h2, h3⟩
      · have : j = i := by omega
        subst this
        rw [hy] at h2
        cases h2
        exact absurd h3.symm e
theorem fmL_all {l : List Hd} (hs : srt l) (a : Int) : mget 0 (fmL l l.length) a = (findH l a).f := by
  obtain ⟨h1, h2⟩ := fmL_get hs a l.length (Nat.le_refl _)
  by_cases h : ∃ y ∈ l, y.a = a
  · obtain ⟨y, hy, e⟩ := h
    obtain ⟨j, hj, e2⟩ := List.getElem_of_mem hy
    exact h1 ⟨j, y, hj, by rw [← e2]; exact List.getElem?_eq_getElem hj, e⟩
  · rw [h2 fun j y _ hy e => h ⟨y, List.mem_of_getElem? hy, e⟩, (findH_no hs fun y hy e => h ⟨y, hy, e⟩).1]
    rfl
end Go.Proofs.Ytmibmodibicibaa
