/-
  What laying does to states that rise; moved, and moved back; plain.
-/
import Derived.Test.YtiggambibcohcaaTe
import Derived.Test.YtiggambibcohcaaSs
namespace Go.Proofs.Ytiggambibcohcaa
open Go.RowKit
set_option linter.unusedVariables false
set_option linter.unusedSimpArgs false
def optA (x : Ac) : Option Ac := if emptyA x then none else some x
theorem optA_key {x : Ac} : ∀ y ∈ optA x, y.a = x.a := fun y h => by
  unfold optA at h
  split at h
  · cases h
  · cases h; rfl
theorem empty_eq {x : Ac} (h : emptyA x = true) : x = ⟨x.a, 0, 0, [], []⟩ := by
  unfold emptyA at h
  simp only [Bool.and_eq_true, decide_eq_true_eq] at h
  obtain ⟨⟨h1, h2⟩, h3⟩ := h
  refine ac_ext ⟨rfl, h1, h2, List.eq_nil_of_length_eq_zero (by omega), List.eq_nil_of_length_eq_zero (by omega)⟩
theorem posS_parts {L : List Ac} (hr : RisesS L) (a : Int) : Parts Ac.a L a (posS L a) := bsr_parts (key := Ac.a) hr fun i h => ltA_eq h
theorem isS_fnd {L : List Ac} (hr : RisesS L) (a : Int) : isS L a = (fnd Ac.a a L).isSome := by
  rw [parts_fnd hr (posS_parts hr a)]
  unfold isS eqA
  cases L[posS L a]? with
  | none => rfl
  | some z =>
    simp only [Option.filter_some, decide_eq_true_eq]
    unfold cmpI
    by_cases h : z.a = a
    · rw [if_pos h, if_neg (by omega), if_neg (by omega)]; rfl
    · rw [if_neg h]
      by_cases h2 : z.a < a
      · rw [if_pos h2]; rfl
      · rw [if_neg h2, if_pos (by omega)]; rfl
theorem ofS_fnd {L : List Ac} (hr : RisesS L) (a : Int) : ofS L a = (fnd Ac.a a L).getD ⟨a, 0, 0, [], []⟩ := by
  have h := isS_fnd hr a
  unfold ofS
  cases hf : fnd Ac.a a L with
  | none => rw [hf] at h; rw [h]; rfl
  | some z =>
    rw [hf] at h
    rw [h]
    show (L[posS L a]?).getD _ = z
    rw [parts_fnd hr (posS_parts hr a)] at hf
    cases hz : L[posS L a]? with
    | none => rw [hz] at hf; cases hf
    | some w =>
      rw [hz] at hf
      rw [Option.filter_some] at hf
      split at hf
      · cases hf; rfl
      · cases hf
theorem laysL_lay {L : List Ac} (hr : RisesS L) (x : Ac) : laysL L x = lay Ac.a x.a (optA x) L := by
  rw [parts_lay hr (posS_parts hr x.a), ← isS_fnd hr]
  unfold laysL optA
  cases isS L x.a <;> cases emptyA x <;> simp
theorem rises_lays {L : List Ac} (hr : RisesS L) (x : Ac) : RisesS (laysL L x) := by
  rw [laysL_lay hr]; exact rises_lay (key := Ac.a) optA_key hr
theorem ofS_lays {L : List Ac} (hr : RisesS L) (x : Ac) (a : Int) : ofS (laysL L x) a = if a = x.a then x else ofS L a := by
  rw [ofS_fnd (rises_lays hr x), ofS_fnd hr, laysL_lay hr, fnd_lay (key := Ac.a) optA_key a hr]
  by_cases h : a = x.a
  · subst h
    rw [if_pos rfl, if_pos rfl]
    unfold optA
    cases he : emptyA x with
    | false => rfl
    | true => rw [if_pos rfl]; exact (empty_eq he).symm
  · rw [if_neg h, if_neg h]
def FullS (L : List Ac) : Prop := ∀ x ∈ L, okAc x = true ∧ emptyA x = false
theorem full_lays {L : List Ac} (hf : FullS L) (hr : RisesS L) {x : Ac} (hx : okAc x = true) : FullS (laysL L x) := fun y hy => by
  rw [laysL_lay hr] at hy
  rcases lay_mem hy with h | h
  · unfold optA at h
    cases he : emptyA x with
    | false => rw [he] at h; cases h; exact ⟨hx, he⟩
    | true => rw [he] at h; cases h
  · exact hf y h
theorem bal_lays {L : List Ac} (hr : RisesS L) (x : Ac) : ((laysL L x).map Ac.b).sum + (ofS L x.a).b = (L.map Ac.b).sum + x.b := by
  have := sum_lay (key := Ac.a) (k := x.a) (o := optA x) Ac.b hr
  rw [← laysL_lay hr] at this
  have e1 : ((fnd Ac.a x.a L).map Ac.b).getD 0 = (ofS L x.a).b := by
    rw [ofS_fnd hr]; cases fnd Ac.a x.a L <;> rfl
  have e2 : ((optA x).map Ac.b).getD 0 = x.b := by
    unfold optA
    cases he : emptyA x with
    | false => rfl
    | true => rw [empty_eq he]; rfl
  omega
theorem many_lays {L : List Ac} (hr : RisesS L) (x : Ac) : manyL (laysL L x) + (if 16 ≤ x.a ∧ isS L x.a = true then 1 else 0) = manyL L + (if 16 ≤ x.a ∧ emptyA x = false then 1 else 0) := by
  have := sum_lay (key := Ac.a) (k := x.a) (o := optA x) (fun y => if decide (16 ≤ y.a) then 1 else 0) hr
  rw [← laysL_lay hr, ← count_sum, ← count_sum] at this
  unfold manyL
  have e1 : ((fnd Ac.a x.a L).map fun y => if decide (16 ≤ y.a) then 1 else 0).getD 0 = if 16 ≤ x.a ∧ isS L x.a = true then 1 else 0 := by
    rw [isS_fnd hr]
    cases hf : fnd Ac.a x.a L with
    | none => simp
    | some z => have := (fnd_key hf).1; simp [this]
  have e2 : ((optA x).map fun y => if decide (16 ≤ y.a) then 1 else 0).getD 0 = if 16 ≤ x.a ∧ emptyA x = false then 1 else 0 := by
    unfold optA
    cases he : emptyA x <;> simp
  omega
theorem okS_of {q : Bool} {L : List Ac} : ∀ {i : Nat}, q = true → (∀ j, j < i → okS1 L j = true) → okS q L i = true
  | 0, hq, _ => hq
  | i + 1, hq, h => by
    unfold okS
    rw [okS_of hq fun j hj => h j (by omega), h i (by omega)]; rfl
theorem okS_q {q : Bool} {L : List Ac} : ∀ {i : Nat}, okS q L i = true → q = true
  | 0, h => h
  | i + 1, h => by
    unfold okS at h
    rw [Bool.and_eq_true] at h
    exact okS_q h.1
theorem okSt_iff {L : List Ac} : okSt L = true ↔ RisesS L ∧ FullS L ∧ (L.map Ac.b).sum < WW ∧ manyL L ≤ 24 := by
  constructor
  · intro h
    have := okS_q h
    simp only [Bool.and_eq_true, Bool.not_eq_true', decide_eq_true_eq, decide_eq_false_iff_not] at this
    exact ⟨okSt_rises h, fun x hx => ⟨okSt_ac h x hx, okSt_full h hx⟩, by omega, this.2⟩
  · rintro ⟨h1, h2, h3, h4⟩
    refine okS_of (by simp only [Bool.and_eq_true, Bool.not_eq_true', decide_eq_true_eq, decide_eq_false_iff_not]; exact ⟨by omega, h4⟩) fun j hj => ?_
    have hp := List.pairwise_iff_getElem.1 h1
    have hf := h2 L[j] (List.getElem_mem hj)
    cases j with
    | zero => rw [okS1_zero (List.getElem?_eq_getElem hj), hf.1, hf.2]; rfl
    | succ j =>
      rw [okS1_succ (List.getElem?_eq_getElem (by omega)) (List.getElem?_eq_getElem hj), hf.1, hf.2]
      simpa using hp j (j + 1) (by omega) hj (by omega)
def Ac.bal (x : Ac) (b : Nat) : Ac := ⟨x.a, b, x.n, x.code, x.store⟩
theorem okAc_bal {x : Ac} (b : Nat) (h : okAc x = true) : okAc (x.bal b) = true := h
theorem ofS_a {L : List Ac} (hr : RisesS L) (a : Int) : (ofS L a).a = a := by
  rw [ofS_fnd hr]
  cases hf : fnd Ac.a a L with
  | none => rfl
  | some z => exact (fnd_key hf).1
theorem okAc_of {L : List Ac} (h : okSt L = true) {a : Int} (ha : a ≠ 0) : okAc (ofS L a) = true := by
  obtain ⟨h1, h2, _⟩ := okSt_iff.1 h
  rw [ofS_fnd h1]
  cases hf : fnd Ac.a a L with
  | none => simp [okAc, okTo, ha]
  | some z => exact (h2 z (fnd_key hf).2).1
theorem sum_two {L : List Ac} (hr : RisesS L) {a c : Int} (hac : a ≠ c) : (ofS L a).b + (ofS L c).b ≤ (L.map Ac.b).sum := by
  have e1 := bal_lays hr ⟨a, 0, 0, [], []⟩
  have e2 := bal_lays (rises_lays hr ⟨a, 0, 0, [], []⟩) ⟨c, 0, 0, [], []⟩
  rw [ofS_lays hr] at e2
  simp only at e1 e2
  rw [if_neg (fun h => hac h.symm)] at e2
  omega
theorem ofS_le {L : List Ac} (hr : RisesS L) (a : Int) : (ofS L a).b ≤ (L.map Ac.b).sum := by
  have e1 := bal_lays hr ⟨a, 0, 0, [], []⟩
  simp only at e1
  omega
theorem state_ext {L M : List Ac} (hL : RisesS L) (fL : FullS L) (hM : RisesS M) (fM : FullS M) (h : ∀ a, ofS L a = ofS M a) : L = M := by
  refine fnd_ext (key := Ac.a) hL hM fun k => ?_
  have := h k
  rw [ofS_fnd hL, ofS_fnd hM] at this
  cases h1 : fnd Ac.a k L with
  | none =>
    cases h2 : fnd Ac.a k M with
    | none => rfl
    | some z =>
      rw [h1, h2] at this
      simp only [Option.getD_none, Option.getD_some] at this
      have := (fM z (fnd_key h2).2).2
      subst z
      simp [emptyA] at this
  | some y =>
    cases h2 : fnd Ac.a k M with
    | none =>
      rw [h1, h2] at this
      simp only [Option.getD_none, Option.getD_some] at this
      have := (fL y (fnd_key h1).2).2
      subst y
      simp [emptyA] at this
    | some z =>
      rw [h1, h2] at this
      simpa using this
theorem lays_same {L : List Ac} (h : okSt L = true) {a : Int} (ha : a ≠ 0) : laysL L (ofS L a) = L := by
  obtain ⟨h1, h2, _⟩ := okSt_iff.1 h
  refine state_ext (rises_lays h1 _) (full_lays h2 h1 (okAc_of h ha)) h1 h2 fun c => ?_
  rw [ofS_lays h1, ofS_a h1]
  by_cases hc : c = a
  · rw [if_pos hc, hc]
  · rw [if_neg hc]
theorem roomS_eq {L : List Ac} {a : Int} (ha : a ≠ 0) : roomS L a = (isS L a || (decide (a < 16) || decide (manyL L < 24))) := by simp [roomS, ha]
theorem isS_full {L : List Ac} (hr : RisesS L) (hf : FullS L) (a : Int) : isS L a = !emptyA (ofS L a) := by
  rw [isS_fnd hr, ofS_fnd hr]
  cases h1 : fnd Ac.a a L with
  | none => simp [emptyA]
  | some z => simp [(hf z (fnd_key h1).2).2]
theorem moved {L : List Ac} (h : okSt L = true) {a c : Int} (ha : a ≠ 0) (hc : c ≠ 0) (hac : a ≠ c) {n : Nat} (hn0 : n ≠ 0) (hn : n ≤ (ofS L a).b) (hroom : roomS L c = true) :
    (ofS L c).b + n < WW ∧ okSt (laysL (laysL L ((ofS L a).bal ((ofS L a).b - n))) ((ofS L c).bal (((ofS L c).b + n) % WW))) = true ∧
    (∀ z, ofS (laysL (laysL L ((ofS L a).bal ((ofS L a).b - n))) ((ofS L c).bal (((ofS L c).b + n) % WW))) z = if z = c then ((ofS L c).bal ((ofS L c).b + n)) else if z = a then ((ofS L a).bal ((ofS L a).b - n)) else ofS L z) := by
  obtain ⟨h1, h2, h3, h4⟩ := okSt_iff.1 h
  have two := sum_two h1 hac
  have hlt : (ofS L c).b + n < WW := by omega
  rw [Nat.mod_eq_of_lt hlt]
  have ea := ofS_a h1 a
  have ec := ofS_a h1 c
  have xa : ∀ b, ((ofS L a).bal b).a = a := fun b => ea
  have xc : ∀ b, ((ofS L c).bal b).a = c := fun b => ec
  have ya : ∀ b, ((ofS L a).bal b).b = b := fun b => rfl
  have yc : ∀ b, ((ofS L c).bal b).b = b := fun b => rfl
  have r1 := rises_lays h1 ((ofS L a).bal ((ofS L a).b - n))
  have f1 := full_lays h2 h1 (okAc_bal ((ofS L a).b - n) (okAc_of h ha))
  have r2 := rises_lays r1 ((ofS L c).bal ((ofS L c).b + n))
  have f2 := full_lays f1 r1 (okAc_bal ((ofS L c).b + n) (okAc_of h hc))
  have s1 := bal_lays h1 ((ofS L a).bal ((ofS L a).b - n))
  have s2 := bal_lays r1 ((ofS L c).bal ((ofS L c).b + n))
  have m1 := many_lays h1 ((ofS L a).bal ((ofS L a).b - n))
  have m2 := many_lays r1 ((ofS L c).bal ((ofS L c).b + n))
  rw [ofS_lays h1] at s2
  simp only [xa, xc, ya, yc] at s1 s2 m1 m2
  rw [if_neg (fun e => hac e.symm)] at s2
  have i1 : isS (laysL L ((ofS L a).bal ((ofS L a).b - n))) c = isS L c := by
    rw [isS_full r1 f1, isS_full h1 h2, ofS_lays h1, xa, if_neg (fun e => hac e.symm)]
  rw [i1] at m2
  refine ⟨hlt, okSt_iff.2 ⟨r2, f2, by omega, ?_⟩, fun z => ?_⟩
  · rw [roomS_eq hc] at hroom
    have ia : emptyA (ofS L a) = false → isS L a = true := fun e => by rw [isS_full h1 h2, e]; rfl
    have hne : emptyA (ofS L a) = false := by simp [emptyA, show (ofS L a).b ≠ 0 by omega]
    have ia := ia hne
    simp only [ia, and_true] at m1
    by_cases hi : isS L c = true
    · simp only [hi, and_true] at m2
      split at m1 <;> split at m1 <;> split at m2 <;> split at m2 <;> omega
    · have hi : isS L c = false := by simpa using hi
      rw [hi] at m2 hroom
      simp only [Bool.false_or, Bool.or_eq_true, decide_eq_true_eq] at hroom
      simp only [Bool.false_eq_true, and_false, if_false] at m2
      split at m1 <;> split at m1 <;> split at m2 <;> omega
  · rw [ofS_lays r1, ofS_lays h1, xa, xc]
theorem moveR_ok {L : List Ac} {x : Ac} {fr to : Int} {n : Nat} (h0 : to ≠ 0) (h1 : n ≤ x.b) (h2 : n ≠ 0) (h3 : fr ≠ to) :
    moveR L x fr to n = if roomS L to = false then ([], 6) else (laysL (laysL L (x.bal (x.b - n))) ((ofS L to).bal (((ofS L to).b + n) % WW)), 0) := by
  unfold moveR
  rw [if_neg h0, if_neg (by omega), if_neg (by simp only [Bool.or_eq_true, decide_eq_true_eq, beq_iff_eq]; rintro (e | e); exact h2 e; exact h3 e)]
  rfl
end Go.Proofs.Ytiggambibcohcaa

