/-
  What is refused: the code's order, and the document's. No program in sight.
-/
import Derived.Test.YtmibmodibicibaaMa
import Derived.Test.YtmibmodibicibaaLr
namespace Go.Proofs.Ytmibmodibicibaa
open Go.RowKit
theorem putE_zero {l : List Hd} (hk : okL l = true) {h : Hd} (hi : isA l h.a = true ∨ emptyH h = true) (ht : h.p + h.s ≤ (findH l h.a).p + (findH l h.a).s) : putE (putL l h) = 0 := by
  have hs := okL_srt hk
  have h1 := tot_put hs h
  have h2 := len_put hs h
  have h3 := okL_tot hk
  have h4 := okL_len hk
  unfold putE
  rw [if_neg (by omega)]
  refine if_neg ?_
  rcases hi with hi | hi
  · rw [hi, if_pos rfl] at h2
    split at h2 <;> omega
  · rw [hi] at h2
    simp only [if_true] at h2
    split at h2 <;> omega
theorem putE_fits {l : List Hd} (hk : okL l = true) {h : Hd} {n : Nat} (ht : h.p + h.s = (findH l h.a).p + (findH l h.a).s + n) : putE (putL l h) = fitsE l h.a n := by
  have hs := okL_srt hk
  have h1 := tot_put hs h
  have h2 := len_put hs h
  have h4 := okL_len hk
  unfold putE fitsE
  by_cases c : WW ≤ n + tot l
  · rw [if_pos c, if_pos (by omega)]
  · rw [if_neg c, if_neg (by omega)]
    cases hi : isA l h.a with
    | true =>
      rw [hi, if_pos rfl] at h2
      rw [Bool.not_true, Bool.false_and, if_neg (show ¬ 24 < (putL l h).length by split at h2 <;> omega)]; rfl
    | false =>
      have hz := isA_no hs hi
      have z1 : (findH l h.a).p = 0 := by rw [hz]; rfl
      have z2 : (findH l h.a).s = 0 := by rw [hz]; rfl
      rw [hi, if_neg (by decide)] at h2
      rw [Bool.not_false, Bool.true_and]
      have he : emptyH h = decide (n = 0) := by
        unfold emptyH
        by_cases n0 : n = 0
        · rw [decide_eq_true n0, decide_eq_true (by omega), decide_eq_true (by omega)]; rfl
        · rw [decide_eq_false n0, Bool.and_eq_false_iff]
          rcases Nat.eq_zero_or_pos h.p with hp | hp
          · exact .inr (decide_eq_false (by omega))
          · exact .inl (decide_eq_false (by omega))
      rw [he] at h2
      by_cases n0 : n = 0
      · rw [decide_eq_true n0, if_pos rfl] at h2
        rw [decide_eq_true n0, Bool.not_true, Bool.false_and, if_neg (show ¬ 24 < (putL l h).length by omega)]; rfl
      · rw [decide_eq_false n0, if_neg (by decide)] at h2
        rw [decide_eq_false n0, Bool.not_false, Bool.true_and]
        by_cases c2 : l.length = 24
        · rw [decide_eq_true c2, if_pos (show 24 < (putL l h).length by omega)]; rfl
        · rw [decide_eq_false c2, if_neg (show ¬ 24 < (putL l h).length by omega)]; rfl
theorem dep_same {l : List Hd} (hk : okL l = true) (a : Int) (n : Nat) : fitsE l a n = if WW ≤ (findH l a).p + n then 171 else putE (putL l (depH (findH l a) n)) := by
  have ha := findH_a l a
  have ht := findH_tot hk a
  split
  · rename_i c
    unfold fitsE
    rw [if_pos (by omega)]
  · rename_i c
    have hm := Nat.mod_eq_of_lt (Nat.lt_of_not_le c)
    have hp : (depH (findH l a) n).a = a := ha
    rw [putE_fits hk (n := n) (by rw [hp]; show ((findH l a).p + n) % WW + (findH l a).s = _; omega), hp]
theorem wdr_same {l : List Hd} (hk : okL l = true) (a : Int) (n : Nat) : wdrE (findH l a) n = if (findH l a).p < n then 162 else putE (putL l (wdrH (findH l a) n)) := by
  have ha := findH_a l a
  unfold wdrE
  split
  · rfl
  · rename_i c
    have hp : (wdrH (findH l a) n).a = a := ha
    refine (putE_zero hk ?_ ?_).symm
    · rw [hp]
      cases hi : isA l a with
      | true => exact .inl rfl
      | false =>
        have hz := isA_no (okL_srt hk) hi
        right
        rw [hz] at c
        rw [hz]
        unfold zH at c
        dsimp only at c
        refine emptyH_zero ?_ rfl
        show 0 - n = 0
        omega
    · rw [hp]
      show (findH l a).p - n + (findH l a).s ≤ _
      omega
theorem bond_same {l : List Hd} (hk : okL l = true) (a : Int) (n : Nat) (y : Int) : fitsE l a n = if WW ≤ (findH l a).s + n then 171 else putE (putL l (bondH (findH l a) n y)) := by
  have ha := findH_a l a
  have ht := findH_tot hk a
  split
  · rename_i c
    unfold fitsE
    rw [if_pos (by omega)]
  · rename_i c
    have hm := Nat.mod_eq_of_lt (Nat.lt_of_not_le c)
    have hp : (bondH (findH l a) n y).a = a := ha
    rw [putE_fits hk (n := n) (by rw [hp]; show (findH l a).p + ((findH l a).s + n) % WW = _; omega), hp]
theorem isA_held {l : List Hd} (hk : okL l = true) {a : Int} (h : (findH l a).s ≠ 0) : isA l a = true := by
  cases hi : isA l a with
  | true => rfl
  | false => rw [isA_no (okL_srt hk) hi] at h; exact absurd rfl h
theorem unl_same {l : List Hd} (hk : okL l = true) (a : Int) (t : Int) (h : (findH l a).s ≠ 0) : putE (putL l (unlH (findH l a) t)) = 0 := by
  have ha := findH_a l a
  have hp : (unlH (findH l a) t).a = a := ha
  exact putE_zero hk (.inl (by rw [hp]; exact isA_held hk h)) (by rw [hp]; exact Nat.le_refl _)
theorem rel_same {l : List Hd} (hk : okL l = true) (a : Int) (h : (findH l a).s ≠ 0) : putE (putL l (relH (findH l a))) = 0 := by
  have ha := findH_a l a
  have hp : (relH (findH l a)).a = a := ha
  exact putE_zero hk (.inl (by rw [hp]; exact isA_held hk h)) (by rw [hp]; show (findH l a).p + 0 ≤ _; omega)
end Go.Proofs.Ytmibmodibicibaa
