/-
  No nonce word is used twice. No program in sight.
-/
import Derived.Test.YtlkogofgemclfaaOc
import Derived.Test.YtlkogofgemclfaaAvMp
namespace Go.Proofs.Ytlkogofgemclfaa
open Go.RowKit
set_option linter.unusedVariables false
instance : DecidableEq A5 := fun x y => decidable_of_decidable_of_iff (p := x.a = y.a ∧ x.s = y.s ∧ x.b = y.b ∧ x.c = y.c ∧ x.d = y.d) (by cases x; cases y; simp)
theorem rises_pw {l : List N6} : Rises l ↔ l.Pairwise fun y z => y.rk < z.rk := by
  rw [List.pairwise_iff_getElem]
  constructor
  · intro h i j hi hj hij
    exact h i j _ _ hij (List.getElem?_eq_getElem hi) (List.getElem?_eq_getElem hj)
  · intro h j k y z hjk hy hz
    obtain ⟨h1, rfl⟩ := List.getElem?_eq_some_iff.1 hy
    obtain ⟨h2, rfl⟩ := List.getElem?_eq_some_iff.1 hz
    exact h j k h1 h2 hjk
theorem okTo_of {l : List N6} (h48 : l.length ≤ 48) (ok : ∀ n ∈ l, n.ok ∧ n.a ≠ 0 ∧ n.e = 0 ∧ 0 < n.x) (hr : Rises l) : okTo l l.length = true := by
  refine (okTo_iff l _).2 ⟨by omega, fun j hj => ?_⟩
  have hy := List.getElem?_eq_getElem hj
  obtain ⟨o1, o2, o3, o4⟩ := ok _ (List.getElem_mem hj)
  unfold okS
  rw [hy]
  dsimp only
  have e1 : (l[j].a != 0) = true := by simpa using o2
  have e2 : (l[j].e == 0) = true := by simpa using o3
  have e3 : decide (l[j].x > 0) = true := decide_eq_true o4
  rw [e1, e2, e3, Bool.true_and, Bool.true_and, Bool.true_and]
  cases j with
  | zero => rfl
  | succ j =>
    have hz : l[j + 1 - 1]? = some l[j] := by rw [Nat.add_sub_cancel]; exact List.getElem?_eq_getElem (by omega)
    rw [hz]
    dsimp only
    have hlt := hr j (j + 1) _ _ (by omega) (List.getElem?_eq_getElem (by omega)) hy
    have hc : cN l[j] l[j + 1] < 0 := by
      rw [cN_rk (ok _ (List.getElem_mem (by omega))).1 o1, cmpN_neg]; exact hlt
    simp [hc]
theorem okTo_mem {l : List N6} (h : okTo l l.length = true) {y : N6} (hy : y ∈ l) : y.a ≠ 0 ∧ y.e = 0 ∧ 0 < y.x := by
  obtain ⟨j, hj, rfl⟩ := List.getElem_of_mem hy
  have := ((okTo_iff l _).1 h).2 j hj
  unfold okS at this
  rw [List.getElem?_eq_getElem hj] at this
  simp only [Bool.and_eq_true, bne_iff_ne, ne_eq, beq_iff_eq, decide_eq_true_eq] at this
  exact ⟨this.1.1.1, this.1.1.2, this.1.2⟩
theorem U_0 : U 0 := ⟨by decide, by decide⟩
theorem nextL_of {l : List N6} (ok : ∀ n ∈ l, n.ok) (hr : Rises l) {a b c d : Int} (u0 : U a) (u1 : U b) (u2 : U c) (u3 : U d) {y : N6} (hy : y ∈ l) (hk : y.rk = rk a b c d 0) : nextL l a b c d 0 = y.x := by
  obtain ⟨i, hi, rfl⟩ := List.getElem_of_mem hy
  have hg := List.getElem?_eq_getElem hi
  refine nextL_at (fun j hj n hn hm => ?_) hg ((mtK_rk (ok _ hy) u0 u1 u2 u3 U_0).2 hk)
  have h1 := (mtK_rk (ok n (List.mem_of_getElem? hn)) u0 u1 u2 u3 U_0).1 hm
  have h2 := hr j i n _ hj hn hg
  omega
theorem nextL_zero {l : List N6} (ok : ∀ n ∈ l, n.ok) {a b c d : Int} (u0 : U a) (u1 : U b) (u2 : U c) (u3 : U d) (h : ∀ y ∈ l, y.rk ≠ rk a b c d 0) : nextL l a b c d 0 = 0 :=
  nextL_none fun j hj n hn hm => h n (List.mem_of_getElem? hn) ((mtK_rk (ok n (List.mem_of_getElem? hn)) u0 u1 u2 u3 U_0).1 hm)
/-- nonces, cut at a key -/
theorem ins_parts {l : List N6} (ok : ∀ n ∈ l, n.ok) (hr : Rises l) {a b c d x : Int} (u0 : U a) (u1 : U b) (u2 : U c) (u3 : U d) : ∃ A B M : List N6, l = A ++ (M ++ B) ∧ insR ⟨a, b, c, d, 0, x⟩ l false = A ++ (⟨a, b, c, d, 0, x⟩ : N6) :: B ∧ (∀ y ∈ A, y.rk < rk a b c d 0) ∧ (∀ y ∈ B, rk a b c d 0 < y.rk) ∧ (M = [] ∨ ∃ y, M = [y] ∧ y.rk = rk a b c d 0) := by
  have hp := posK_at ok hr u0 u1 u2 u3
  have hA : ∀ y ∈ l.take (posK l a b c d), y.rk < rk a b c d 0 := fun y hy => by
    obtain ⟨j, hj, rfl⟩ := List.getElem_of_mem hy
    rw [List.length_take] at hj
    rw [List.getElem_take]
    exact hp.lt j _ (by omega) (List.getElem?_eq_getElem (by omega))
  cases he : eqK l a b c d 0 (posK l a b c d) with
  | false =>
    refine ⟨l.take (posK l a b c d), l.drop (posK l a b c d), [], by simp, use_ins ok hr u0 u1 u2 u3 x he, hA, fun y hy => ?_, .inl rfl⟩
    obtain ⟨j, hj, rfl⟩ := List.getElem_of_mem hy
    rw [List.length_drop] at hj
    rw [List.getElem_drop]
    exact (next_no ok hr u0 u1 u2 u3 he).2 _ _ (Nat.le_add_right _ _) (List.getElem?_eq_getElem (by omega))
  | true =>
    obtain ⟨y, hy⟩ : ∃ y, l[posK l a b c d]? = some y := by
      have he' := he
      rw [eqK_at ok u0 u1 u2 u3] at he'
      cases hy : l[posK l a b c d]? with
      | none => rw [hy] at he'; cases he'
      | some y => exact ⟨y, rfl⟩
    obtain ⟨_, hm⟩ := next_yes ok hr u0 u1 u2 u3 hy he
    have hk := (mtK_rk (ok y (List.mem_of_getElem? hy)) u0 u1 u2 u3 U_0).1 hm
    have hlt := (List.getElem?_eq_some_iff.1 hy).1
    have hl : l = l.take (posK l a b c d) ++ ([y] ++ l.drop (posK l a b c d + 1)) := by
      conv => lhs; rw [← List.take_append_drop (posK l a b c d) l, List.drop_eq_getElem_cons hlt, (List.getElem?_eq_some_iff.1 hy).2]
      rfl
    have ho : ({ y with x := x } : N6) = ⟨a, b, c, d, 0, x⟩ := by
      obtain ⟨m1, m2, m3, m4, m5⟩ := hm
      rw [m1, m2, m3, m4, m5]
    refine ⟨l.take (posK l a b c d), l.drop (posK l a b c d + 1), [y], hl, by rw [use_upd ok hr u0 u1 u2 u3 x hy he, ho], hA, fun z hz => ?_, .inr ⟨y, rfl, hk⟩⟩
    obtain ⟨j, hj, rfl⟩ := List.getElem_of_mem hz
    rw [List.length_drop] at hj
    rw [List.getElem_drop]
    have := hr (posK l a b c d) (posK l a b c d + 1 + j) _ _ (by omega) hy (List.getElem?_eq_getElem (by omega))
    omega
/-- what was used is behind what is next -/
def InvN (l : List N6) (ks : List A5) : Prop := ∀ k ∈ ks, k.ok ∧ k.s < nextL l k.a k.b k.c k.d 0
theorem use_once {l : List N6} (ok : ∀ n ∈ l, n.ok) (hok : okTo l l.length = true) {a b c d s : Int} (u0 : U a) (u1 : U b) (u2 : U c) (u3 : U d) (us : U s) (ha : a ≠ 0) (hs : nextL l a b c d 0 = s) (h : s < 18446744073709551615) (h' : ¬ (s = 0 ∧ (l.length : Int) = 48)) {t : List N6} (ht : insR ⟨a, b, c, d, 0, s + 1⟩ l false = t) :
    (∀ n ∈ t, n.ok) ∧ okTo t t.length = true ∧ nextL t a b c d 0 = s + 1 ∧ (∀ a' b' c' d', U a' → U b' → U c' → U d' → ¬ (a' = a ∧ b' = b ∧ c' = c ∧ d' = d) → nextL t a' b' c' d' 0 = nextL l a' b' c' d' 0)
      ∧ ∀ ks : List A5, InvN l ks → (⟨a, s, b, c, d⟩ : A5) ∉ ks ∧ InvN t (sput ks ⟨a, s, b, c, d⟩) := by
  have hr := rises_of ok hok
  have h48 := ((okTo_iff l _).1 hok).1
  obtain ⟨A, B, M, hl, hi, hA, hB, hM⟩ := ins_parts (x := s + 1) ok hr u0 u1 u2 u3
  rw [hi] at ht
  have ork : (⟨a, b, c, d, 0, s + 1⟩ : N6).rk = rk a b c d 0 := rk_mk a b c d 0 (s + 1)
  have oo : (⟨a, b, c, d, 0, s + 1⟩ : N6).ok := ⟨u0, u1, u2, u3, U_0, ⟨by show (0 : Int) ≤ s + 1; have := us.1; omega, by show s + 1 ≤ _; omega⟩⟩
  have memt : ∀ y, y ∈ t ↔ y = ⟨a, b, c, d, 0, s + 1⟩ ∨ y ∈ A ∨ y ∈ B := fun y => by
    rw [← ht]; simp only [List.mem_append, List.mem_cons]
    constructor
    · rintro (h | h | h) <;> simp [h]
    · rintro (h | h | h) <;> simp [h]
  have meml : ∀ y, y ∈ l → y ∈ A ∨ y ∈ B ∨ y.rk = rk a b c d 0 := fun y hy => by
    rw [hl] at hy
    rcases List.mem_append.1 hy with h | h
    · exact .inl h
    rcases List.mem_append.1 h with h | h
    · rcases hM with rfl | ⟨z, rfl, hz⟩
      · cases h
      · rw [List.mem_singleton.1 h]; exact .inr (.inr hz)
    · exact .inr (.inl h)
  have inl : ∀ y, y ∈ A ∨ y ∈ B → y ∈ l := fun y hy => by
    rw [hl]
    rcases hy with h | h
    · exact List.mem_append_left _ h
    · exact List.mem_append_right _ (List.mem_append_right _ h)
  have okt : ∀ n ∈ t, n.ok := fun n hn => by
    rcases (memt n).1 hn with rfl | hn
    · exact oo
    · exact ok n (inl n hn)
  have hpw := rises_pw.1 hr
  rw [hl, List.pairwise_append] at hpw
  obtain ⟨pA, pMB, pAB⟩ := hpw
  have pB := (List.pairwise_append.1 pMB).2.1
  have hrt : Rises t := by
    rw [rises_pw, ← ht, List.pairwise_append, List.pairwise_cons]
    refine ⟨pA, ⟨fun y hy => by rw [ork]; exact hB y hy, pB⟩, fun y hy z hz => ?_⟩
    rcases List.mem_cons.1 hz with rfl | hz
    · rw [ork]; exact hA y hy
    · exact Nat.lt_trans (hA y hy) (hB z hz)
  have hlen : t.length ≤ 48 := by
    have e1 := congrArg List.length ht
    have e2 := congrArg List.length hl
    simp only [List.length_append, List.length_cons] at e1 e2
    rcases hM with rfl | ⟨z, rfl, hz⟩
    · have h0 : nextL l a b c d 0 = 0 := nextL_zero ok u0 u1 u2 u3 fun y hy e => by
        rcases meml y hy with h | h | h
        · have := hA y h; omega
        · have := hB y h; omega
        · rw [hl] at hy
          rcases List.mem_append.1 hy with h | h
          · have := hA y h; omega
          · have := hB y (by simpa using h); omega
      have : (l.length : Int) ≠ 48 := fun e => h' ⟨by rw [← hs, h0], e⟩
      simp only [List.length_nil] at e2
      omega
    · simp only [List.length_cons, List.length_nil] at e2
      omega
  have hokt : okTo t t.length = true := okTo_of hlen (fun n hn => by
    rcases (memt n).1 hn with rfl | hn'
    · exact ⟨oo, ha, rfl, by show (0 : Int) < s + 1; have := us.1; omega⟩
    · have := okTo_mem hok (inl n hn')
      exact ⟨okt n hn, this⟩) hrt
  have hnx : nextL t a b c d 0 = s + 1 := nextL_of okt hrt u0 u1 u2 u3 (y := ⟨a, b, c, d, 0, s + 1⟩) ((memt _).2 (.inl rfl)) ork
  have hot : ∀ a' b' c' d', U a' → U b' → U c' → U d' → ¬ (a' = a ∧ b' = b ∧ c' = c ∧ d' = d) → nextL t a' b' c' d' 0 = nextL l a' b' c' d' 0 := fun a' b' c' d' v0 v1 v2 v3 hne => by
    have hk : rk a' b' c' d' 0 ≠ rk a b c d 0 := fun e => by
      have := rk_inj v0 v1 v2 v3 U_0 u0 u1 u2 u3 U_0 e
      exact hne ⟨this.1, this.2.1, this.2.2.1, this.2.2.2.1⟩
    by_cases hex : ∃ y, (y ∈ A ∨ y ∈ B) ∧ y.rk = rk a' b' c' d' 0
    · obtain ⟨y, hy, e⟩ := hex
      rw [nextL_of okt hrt v0 v1 v2 v3 ((memt y).2 (.inr hy)) e, nextL_of ok hr v0 v1 v2 v3 (inl y hy) e]
    · rw [nextL_zero okt v0 v1 v2 v3 fun y hy e => ?_, nextL_zero ok v0 v1 v2 v3 fun y hy e => ?_]
      · rcases meml y hy with h | h | h
        · exact hex ⟨y, .inl h, e⟩
        · exact hex ⟨y, .inr h, e⟩
        · exact hk (by rw [← e, h])
      · rcases (memt y).1 hy with rfl | hy
        · exact hk (by rw [← e, ork])
        · exact hex ⟨y, hy, e⟩
  refine ⟨okt, hokt, hnx, hot, fun ks hks => ⟨fun hm => ?_, fun k hk => ?_⟩⟩
  · have := (hks _ hm).2
    dsimp only at this
    omega
  · rcases (mem_sput ks _ k).1 hk with rfl | hk
    · refine ⟨⟨u0, us, u1, u2, u3⟩, ?_⟩
      show s < nextL t a b c d 0
      omega
    · obtain ⟨g1, g2⟩ := hks k hk
      refine ⟨g1, ?_⟩
      by_cases e : k.a = a ∧ k.b = b ∧ k.c = c ∧ k.d = d
      · obtain ⟨e0, e1, e2, e3⟩ := e
        rw [e0, e1, e2, e3] at g2 ⊢
        omega
      · rw [hot _ _ _ _ g1.1 g1.2.2.1 g1.2.2.2.1 g1.2.2.2.2 e]; exact g2
end Go.Proofs.Ytlkogofgemclfaa
