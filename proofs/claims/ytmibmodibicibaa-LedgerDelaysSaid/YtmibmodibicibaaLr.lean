/-
  Plain law of deeds: what comes may be; sums; deeds of two addresses. No program in sight.
-/
import Derived.Test.YtmibmodibicibaaLp
namespace Go.Proofs.Ytmibmodibicibaa
open Go.RowKit
set_option linter.unusedVariables false
set_option linter.unusedSimpArgs false
set_option maxRecDepth 20000
set_option maxHeartbeats 2000000
def gr (h : Hd) : Prop := h.d ≤ 1073741824 ∧ h.f ≤ 1100585369600 ∧ (h.d = 0 ↔ h.s = 0) ∧ (h.f = 0 ∨ h.s ≠ 0)
theorem rightH_iff (h : Hd) : rightH h = true ↔ h.a ≠ 0 ∧ gr h ∧ emptyH h = false := by
  unfold rightH gr emptyH
  simp only [Bool.and_eq_true, Bool.or_eq_true, Bool.not_eq_true', bne_iff_ne, ne_eq, decide_eq_true_eq, decide_eq_false_iff_not, beq_iff_eq]
  constructor
  · rintro ⟨h1, h2, h3, h4, h5, h6⟩
    refine ⟨h1, ⟨h2, h3, ?_, h6⟩, h4⟩
    by_cases e : h.s = 0
    · simp [e] at h5 ⊢; exact h5
    · simp [e] at h5 ⊢; exact h5
  · rintro ⟨h1, ⟨h2, h3, h5, h6⟩, h4⟩
    refine ⟨h1, h2, h3, h4, ?_, h6⟩
    by_cases e : h.s = 0
    · simp [e] at h5 ⊢; exact h5
    · simp [e] at h5 ⊢; exact h5
theorem gr_zH (a : Int) : gr (zH a) := ⟨(by decide : (0 : Int) ≤ 1073741824), (by decide : (0 : Int) ≤ 1100585369600), by simp [zH], .inl rfl⟩
theorem findH_gr {l : List Hd} (h : okL l = true) (a : Int) : gr (findH l a) := by
  cases hi : isA l a with
  | true => exact ((rightH_iff _).1 (okL_right h (isA_mem (okL_srt h) hi))).2.1
  | false => rw [isA_no (okL_srt h) hi]; exact gr_zH a
theorem tot_mem {l : List Hd} {y : Hd} (h : y ∈ l) : y.p + y.s ≤ tot l := by
  induction l with
  | nil => cases h
  | cons x l ih =>
    rw [tot_cons]
    rcases List.mem_cons.1 h with rfl | h
    · omega
    · have := ih h; omega
theorem findH_tot {l : List Hd} (h : okL l = true) (a : Int) : (findH l a).p + (findH l a).s ≤ tot l := by
  cases hi : isA l a with
  | true => exact tot_mem (isA_mem (okL_srt h) hi)
  | false => rw [isA_no (okL_srt h) hi]; exact Nat.zero_le _
theorem okL_put {l : List Hd} (hk : okL l = true) (ok : ∀ x ∈ l, x.ok) {h : Hd} (ha : h.a ≠ 0) (ho : h.ok) (hg : emptyH h = false → gr h) (hlen : isA l h.a = true ∨ emptyH h = true ∨ l.length ≠ 24) (htot : tot l + (h.p + h.s) < WW + ((findH l h.a).p + (findH l h.a).s)) : okL (putL l h) = true := by
  have hs := okL_srt hk
  have h24 := okL_len hk
  refine okL_of ?_ ?_ ?_ (srt_put hs h) ?_
  · have := len_put hs h
    rcases hlen with e | e | e
    · rw [e, if_pos rfl] at this; split at this <;> omega
    · rw [e, if_pos rfl] at this; split at this <;> omega
    · split at this <;> split at this <;> omega
  · intro x hx
    rcases (mem_put hs h x).1 hx with ⟨hx, _⟩ | ⟨rfl, he⟩
    · exact okL_right hk hx
    · exact (rightH_iff _).2 ⟨ha, hg he, he⟩
  · intro x hx
    rcases (mem_put hs h x).1 hx with ⟨hx, _⟩ | ⟨rfl, he⟩
    · exact (ok x hx).1.1
    · exact ho.1.1
  · have := tot_put hs h
    omega
theorem ok_put {l : List Hd} (hk : okL l = true) (ok : ∀ x ∈ l, x.ok) {h : Hd} (ho : h.ok) : ∀ x ∈ putL l h, x.ok := by
  intro x hx
  rcases (mem_put (okL_srt hk) h x).1 hx with ⟨hx, _⟩ | ⟨rfl, he⟩
  · exact ok x hx
  · exact ho
theorem fits_zero {l : List Hd} {a : Int} {n : Nat} (h : fitsE l a n = 0) : n + tot l < WW ∧ (isA l a = true ∨ n = 0 ∨ l.length ≠ 24) := by
  unfold fitsE at h
  by_cases h1 : WW ≤ n + tot l
  · rw [if_pos h1] at h; cases h
  · rw [if_neg h1] at h
    refine ⟨by omega, ?_⟩
    cases h2 : isA l a with
    | true => exact .inl rfl
    | false =>
      by_cases h3 : n = 0
      · exact .inr (.inl h3)
      · by_cases h4 : l.length = 24
        · rw [h2, if_pos (by simp [h3, h4])] at h; cases h
        · exact .inr (.inr h4)
theorem fits_of {l : List Hd} {a : Int} {n : Nat} (h1 : n + tot l < WW) (h2 : isA l a = true ∨ n = 0 ∨ l.length ≠ 24) : fitsE l a n = 0 := by
  unfold fitsE
  rw [if_neg (by omega), if_neg ?_]
  rcases h2 with h | h | h <;> simp [h]
/-- what a deed makes of a row: all that is asked of it -/
structure RowOk (l : List Hd) (D : Dd) (h r : Hd) : Prop where
  a : r.a = D.a
  ok : r.ok
  g : gr r
  len : isA l D.a = true ∨ emptyH r = true ∨ l.length ≠ 24
  tot : tot l + (r.p + r.s) < WW + (h.p + h.s)
  sum : (D.q = 0 ∨ D.q = 2) ∧ r.p + r.s = h.p + h.s + D.n ∨ D.q = 1 ∧ r.p + r.s + D.n = h.p + h.s ∨ (D.q ≠ 0 ∧ D.q ≠ 1 ∧ D.q ≠ 2) ∧ r.p + r.s + D.W l = h.p + h.s ∧ (D.q = 3 → D.W l = 0)
  two : (D.q = 0 ∨ D.q = 1) ∧ r.s = h.s ∧ r.d = h.d ∧ r.f = h.f ∨ (D.q ≠ 0 ∧ D.q ≠ 1) ∧ r.p = h.p
theorem emptyH_zero {h : Hd} (hp : h.p = 0) (hs : h.s = 0) : emptyH h = true := by unfold emptyH; simp [hp, hs]
theorem deed_row {l : List Hd} (hk : okL l = true) (ok : ∀ x ∈ l, x.ok) {D : Dd} (hD : D.ok) (hE : D.E l = 0) : D.a ≠ 0 ∧ RowOk l D (findH l D.a) (D.row (findH l D.a)) := by
  obtain ⟨_, ha, he⟩ := gate_zero hE
  have ha0 : D.a ≠ 0 := by simpa using ha
  refine ⟨ha0, ?_⟩
  have hg := findH_gr hk D.a
  have ho := findH_ok ok hD.1
  have hfa := findH_a l D.a
  have ht := findH_tot hk D.a
  have hT := okL_tot hk
  have hno : isA l D.a = false → findH l D.a = zH D.a := isA_no (okL_srt hk)
  have hW : D.W l = if D.q = 0 ∨ D.q = 1 ∨ D.q = 2 ∨ D.q = 3 then 0 else (findH l D.a).s := by
    unfold Dd.W; rw [if_pos hE]
  unfold Dd.er at he
  unfold Dd.row
  generalize findH l D.a = h at *
  obtain ⟨ua, un, uy, ut⟩ := hD
  obtain ⟨o1, o2, o3, o4, o5⟩ := ho
  by_cases q0 : D.q = 0
  · rw [if_pos q0] at he ⊢
    obtain ⟨f1, f2⟩ := fits_zero he
    have hm : (h.p + D.n) % WW = h.p + D.n := Nat.mod_eq_of_lt (by omega)
    unfold depH
    rw [hm]
    refine ⟨hfa, ⟨o1, (by show h.p + D.n < WW; omega), o3, o4, o5⟩, hg, ?_, (by show tot l + (h.p + D.n + h.s) < _; omega), .inl ⟨.inl q0, (by show h.p + D.n + h.s = _; omega)⟩, .inl ⟨.inl q0, rfl, rfl, rfl⟩⟩
    rcases f2 with f2 | f2 | f2
    · exact .inl f2
    · cases hi : isA l D.a with
      | true => exact .inl rfl
      | false =>
        have := hno hi
        subst this
        exact .inr (.inl (emptyH_zero (by show 0 + D.n = 0; omega) rfl))
    · exact .inr (.inr f2)
  rw [if_neg q0] at he ⊢
  by_cases q1 : D.q = 1
  · rw [if_pos q1] at he ⊢
    unfold wdrE at he
    by_cases hlt : h.p < D.n
    · rw [if_pos hlt] at he; cases he
    unfold wdrH
    refine ⟨hfa, ⟨o1, (by show h.p - D.n < WW; omega), o3, o4, o5⟩, hg, ?_, (by show tot l + (h.p - D.n + h.s) < _; omega), .inr (.inl ⟨q1, (by show h.p - D.n + h.s + D.n = _; omega)⟩), .inl ⟨.inr q1, rfl, rfl, rfl⟩⟩
    cases hi : isA l D.a with
    | true => exact .inl rfl
    | false =>
      have := hno hi
      subst this
      exact .inr (.inl (emptyH_zero (by show 0 - D.n = 0; omega) rfl))
  rw [if_neg q1] at he ⊢
  by_cases q2 : D.q = 2
  · rw [if_pos q2] at he ⊢
    unfold bondE at he
    cases hd : dly h.d D.y with
    | true => rw [hd, if_pos rfl] at he; cases he
    | false =>
      rw [hd, if_neg (by decide)] at he
      cases hz : (decide (h.s = 0) && decide (D.n = 0)) with
      | true => rw [hz, if_pos rfl] at he; cases he
      | false =>
        rw [hz, if_neg (by decide)] at he
        obtain ⟨f1, f2⟩ := fits_zero he
        obtain ⟨d1, d2, d3⟩ := dly_false hd
        have hm : (h.s + D.n) % WW = h.s + D.n := Nat.mod_eq_of_lt (by omega)
        have d1' : D.y ≠ 0 := by simpa using d1
        have d2' : D.y ≤ 1073741824 := by simpa using d2
        have hsn : h.s + D.n ≠ 0 := by
          intro e
          rw [decide_eq_true (by omega : h.s = 0), decide_eq_true (by omega : D.n = 0)] at hz
          cases hz
        unfold bondH
        rw [hm]
        refine ⟨hfa, ⟨o1, o2, (by show h.s + D.n < WW; omega), uy, ⟨Int.le_refl 0, (by decide : (0 : Int) ≤ 18446744073709551615)⟩⟩, ⟨d2', (by decide : (0 : Int) ≤ 1100585369600), ⟨fun e => absurd e d1', fun e => absurd e hsn⟩, .inl rfl⟩, ?_, (by show tot l + (h.p + (h.s + D.n)) < _; omega), .inl ⟨.inr q2, (by show h.p + (h.s + D.n) = _; omega)⟩, .inr ⟨⟨q0, q1⟩, rfl⟩⟩
        rcases f2 with f2 | f2 | f2
        · exact .inl f2
        · cases hi : isA l D.a with
          | true => exact .inl rfl
          | false =>
            have := hno hi
            subst this
            exact absurd (show 0 + D.n = 0 by omega) hsn
        · exact .inr (.inr f2)
  rw [if_neg q2] at he ⊢
  by_cases q3 : D.q = 3
  · rw [if_pos q3] at he ⊢
    rw [if_pos (.inr (.inr (.inr q3)))] at hW
    unfold unlE at he
    by_cases hn : D.t > 1099511627776
    · rw [if_pos hn] at he; cases he
    rw [if_neg hn] at he
    cases hz : (!decide (h.s = 0) && (h.f == 0)) with
    | false => rw [hz, if_pos rfl] at he; cases he
    | true =>
      simp only [Bool.and_eq_true, Bool.not_eq_true', decide_eq_false_iff_not, beq_iff_eq] at hz
      unfold unlH
      have g1 : h.d ≤ 1073741824 := hg.1
      have t1 : 0 ≤ D.t := ut.1
      have t2 : 0 ≤ h.d := o4.1
      refine ⟨hfa, ⟨o1, o2, o3, o4, ⟨(by show 0 ≤ D.t + h.d; omega), (by show D.t + h.d ≤ _; omega)⟩⟩, ⟨g1, (by show D.t + h.d ≤ _; omega), hg.2.2.1, .inr hz.1⟩, ?_, (by show tot l + (h.p + h.s) < _; omega), .inr (.inr ⟨⟨q0, q1, q2⟩, (by show h.p + h.s + D.W l = _; omega), fun _ => hW⟩), .inr ⟨⟨q0, q1⟩, rfl⟩⟩
      cases hi : isA l D.a with
      | true => exact .inl rfl
      | false =>
        have := hno hi
        subst this
        exact absurd rfl hz.1
  · rw [if_neg q3] at he ⊢
    rw [if_neg (by simp [q0, q1, q2, q3])] at hW
    unfold relE at he
    by_cases hn : D.t > 1099511627776
    · rw [if_pos hn] at he; cases he
    rw [if_neg hn] at he
    by_cases hz : h.s = 0
    · rw [if_pos hz] at he; cases he
    unfold relH
    refine ⟨hfa, ⟨o1, o2, (by decide : 0 < WW), ⟨Int.le_refl 0, (by decide : (0 : Int) ≤ 18446744073709551615)⟩, ⟨Int.le_refl 0, (by decide : (0 : Int) ≤ 18446744073709551615)⟩⟩, ⟨(by decide : (0 : Int) ≤ 1073741824), (by decide : (0 : Int) ≤ 1100585369600), (by show (0 : Int) = 0 ↔ 0 = 0; simp), .inl rfl⟩, ?_, (by show tot l + (h.p + 0) < _; omega), .inr (.inr ⟨⟨q0, q1, q2⟩, (by show h.p + 0 + D.W l = _; omega), fun e => absurd e q3⟩), .inr ⟨⟨q0, q1⟩, rfl⟩⟩
    cases hi : isA l D.a with
    | true => exact .inl rfl
    | false =>
      have := hno hi
      subst this
      exact absurd rfl hz
theorem deed_M {l : List Hd} {D : Dd} (hE : D.E l = 0) : D.M l = putL l (D.row (findH l D.a)) := by unfold Dd.M; rw [if_pos hE]
theorem deed_okL {l : List Hd} (hk : okL l = true) (ok : ∀ x ∈ l, x.ok) {D : Dd} (hD : D.ok) (hE : D.E l = 0) : okL (D.M l) = true := by
  obtain ⟨h0, r⟩ := deed_row hk ok hD hE
  rw [deed_M hE]
  exact okL_put hk ok (by rw [r.a]; exact h0) r.ok (fun _ => r.g) (by rw [r.a]; exact r.len) (by rw [r.a]; exact r.tot)
theorem deed_ok {l : List Hd} (hk : okL l = true) (ok : ∀ x ∈ l, x.ok) {D : Dd} (hD : D.ok) (hE : D.E l = 0) : ∀ x ∈ D.M l, x.ok := by
  obtain ⟨h0, r⟩ := deed_row hk ok hD hE
  rw [deed_M hE]
  exact ok_put hk ok r.ok
theorem deed_other {l : List Hd} (hk : okL l = true) (ok : ∀ x ∈ l, x.ok) {D : Dd} (hD : D.ok) (hE : D.E l = 0) {b : Int} (hb : b ≠ D.a) : findP (D.M l) b = findP l b := by
  obtain ⟨h0, r⟩ := deed_row hk ok hD hE
  unfold findP
  rw [deed_okL hk ok hD hE, hk, if_pos rfl, if_pos rfl, deed_M hE, (findH_other (okL_srt hk) _ (by rw [r.a]; exact hb)).1]
theorem deed_sum {l : List Hd} (hk : okL l = true) (ok : ∀ x ∈ l, x.ok) {D : Dd} (hD : D.ok) (hE : D.E l = 0) :
    sumP l = tot l ∧ sumP (D.M l) = tot (D.M l) ∧ ((D.q = 0 ∨ D.q = 2) ∧ (tot l + D.n) % WW = tot (D.M l) ∨ D.q = 1 ∧ (tot l + WW - D.n) % WW = tot (D.M l) ∨ (D.q ≠ 0 ∧ D.q ≠ 1 ∧ D.q ≠ 2) ∧ (tot l + WW - D.W l) % WW = tot (D.M l) ∧ (D.q = 3 → tot l = tot (D.M l))) := by
  obtain ⟨h0, r⟩ := deed_row hk ok hD hE
  have hk2 := deed_okL hk ok hD hE
  have t1 := okL_tot hk
  have t2 := okL_tot hk2
  have t3 := findH_tot hk D.a
  have t4 := tot_put (okL_srt hk) (D.row (findH l D.a))
  rw [← deed_M hE, r.a] at t4
  have sub : ∀ x y z : Nat, x < WW → z < WW → z + y = x → (x + WW - y) % WW = z := fun x y z hx hz e => by
    rw [show x + WW - y = z + WW by omega, Nat.add_mod_right, Nat.mod_eq_of_lt hz]
  refine ⟨by unfold sumP; rw [if_pos hk], by unfold sumP; rw [if_pos hk2], ?_⟩
  rcases r.sum with ⟨q, e⟩ | ⟨q, e⟩ | ⟨q, e, e3⟩
  · exact .inl ⟨q, by rw [Nat.mod_eq_of_lt (by omega)]; omega⟩
  · exact .inr (.inl ⟨q, sub _ _ _ t1 t2 (by omega)⟩)
  · exact .inr (.inr ⟨q, sub _ _ _ t1 t2 (by omega), fun h3 => by have := e3 h3; omega⟩)
theorem deed_find {l : List Hd} (hk : okL l = true) (ok : ∀ x ∈ l, x.ok) {D : Dd} (hD : D.ok) (hE : D.E l = 0) :
    findP l D.a = findH l D.a ∧ ((D.q = 0 ∨ D.q = 1) ∧ (findP (D.M l) D.a).s = (findP l D.a).s ∧ (findP (D.M l) D.a).d = (findP l D.a).d ∧ (findP (D.M l) D.a).f = (findP l D.a).f ∨ (D.q ≠ 0 ∧ D.q ≠ 1) ∧ (findP (D.M l) D.a).p = (findP l D.a).p) := by
  obtain ⟨h0, r⟩ := deed_row hk ok hD hE
  have hk2 := deed_okL hk ok hD hE
  have e1 : findP l D.a = findH l D.a := by unfold findP; rw [if_neg h0, if_pos hk]
  have e2 : findP (D.M l) D.a = findH (D.M l) D.a := by unfold findP; rw [if_neg h0, if_pos hk2]
  have hg := findH_gr hk D.a
  have e3 := findH_put (okL_srt hk) (D.row (findH l D.a))
  rw [r.a, ← deed_M hE] at e3
  refine ⟨e1, ?_⟩
  rw [e1, e2, e3]
  rcases r.two with ⟨q, s1, s2, s3⟩ | ⟨q, s1⟩
  · refine .inl ⟨q, ?_⟩
    split
    · rename_i he
      unfold emptyH at he
      simp only [Bool.and_eq_true, decide_eq_true_eq] at he
      have z : (findH l D.a).s = 0 := by rw [← s1]; exact he.2
      refine ⟨z.symm, (hg.2.2.1.2 z).symm, ?_⟩
      rcases hg.2.2.2 with h | h
      · exact h.symm
      · exact absurd z h
    · exact ⟨s1, s2, s3⟩
  · refine .inr ⟨q, ?_⟩
    split
    · rename_i he
      unfold emptyH at he
      simp only [Bool.and_eq_true, decide_eq_true_eq] at he
      rw [← s1]; exact he.1.symm
    · exact s1
/-- the deed of one address behind that of another one -/
theorem deed_apart {l : List Hd} (hk : okL l = true) (ok : ∀ x ∈ l, x.ok) {A B : Dd} (hA : A.ok) (hB : B.ok) (hne : A.a ≠ B.a) (hEA : A.E l = 0) (hEB : B.E l = 0) (hEB' : B.E (A.M l) = 0) : A.E (B.M l) = 0 ∧ A.M (B.M l) = B.M (A.M l) := by
  obtain ⟨a0, ra⟩ := deed_row hk ok hA hEA
  obtain ⟨b0, rb⟩ := deed_row hk ok hB hEB
  have hs := okL_srt hk
  have hkA := deed_okL hk ok hA hEA
  have hkB := deed_okL hk ok hB hEB
  have okA := deed_ok hk ok hA hEA
  have okB := deed_ok hk ok hB hEB
  have hkx := deed_okL hkA okA hB hEB'
  have fB : findH (A.M l) B.a = findH l B.a := by
    rw [deed_M hEA]; exact (findH_other hs _ (by rw [ra.a]; exact fun e => hne e.symm)).1
  have fA : findH (B.M l) A.a = findH l A.a ∧ isA (B.M l) A.a = isA l A.a := by
    rw [deed_M hEB]; exact findH_other hs _ (by rw [rb.a]; exact hne)
  have hx : B.M (A.M l) = putL (B.M l) (A.row (findH l A.a)) := by
    rw [deed_M hEB', fB, deed_M hEA, deed_M hEB]
    exact put_comm hs _ _ (by rw [ra.a, rb.a]; exact hne)
  have key : A.E (B.M l) = 0 := by
    obtain ⟨_, hga, he⟩ := gate_zero hEA
    have hE2 : A.E (B.M l) = A.er (B.M l) (findH (B.M l) A.a) := by
      show gate _ _ _ = _
      unfold gate
      rw [hkB, if_neg (by decide), if_neg a0]
    rw [hE2, fA.1]
    -- only what is put in asks the ledger
    have hfit : (A.q = 0 ∨ A.q = 2) → fitsE l A.a A.n = 0 → fitsE (B.M l) A.a A.n = 0 := by
      intro hq hf
      have t1 := tot_put (okL_srt hkB) (A.row (findH l A.a))
      rw [← hx, ra.a, fA.1] at t1
      have t2 := okL_tot hkx
      have h24 := okL_len hkx
      have hl := len_put (okL_srt hkB) (A.row (findH l A.a))
      rw [← hx, ra.a] at hl
      have hsum : (A.row (findH l A.a)).p + (A.row (findH l A.a)).s = (findH l A.a).p + (findH l A.a).s + A.n := by
        rcases ra.sum with ⟨_, e⟩ | ⟨e, _⟩ | ⟨e, _⟩
        · exact e
        · rw [e] at hq; rcases hq with h | h <;> cases h
        · rcases hq with h | h
          · exact absurd h e.1
          · exact absurd h e.2.2
      refine fits_of (by omega) ?_
      cases hi : isA (B.M l) A.a with
      | true => exact .inl rfl
      | false =>
        by_cases hn : A.n = 0
        · exact .inr (.inl hn)
        · refine .inr (.inr fun e => ?_)
          have hem : emptyH (A.row (findH l A.a)) = false := by
            cases hem : emptyH (A.row (findH l A.a)) with
            | false => rfl
            | true =>
              unfold emptyH at hem
              simp only [Bool.and_eq_true, decide_eq_true_eq] at hem
              omega
          rw [hi, hem] at hl
          simp only [Bool.false_eq_true, if_false] at hl
          omega
    unfold Dd.er at he ⊢
    by_cases q0 : A.q = 0
    · rw [if_pos q0] at he ⊢
      exact hfit (.inl q0) he
    rw [if_neg q0] at he ⊢
    by_cases q1 : A.q = 1
    · rw [if_pos q1] at he ⊢
      exact he
    rw [if_neg q1] at he ⊢
    by_cases q2 : A.q = 2
    · rw [if_pos q2] at he ⊢
      unfold bondE at he ⊢
      split at he
      · cases he
      · rename_i h1
        rw [if_neg h1]
        split at he
        · cases he
        · rename_i h2
          rw [if_neg h2]
          exact hfit (.inr q2) he
    rw [if_neg q2] at he ⊢
    exact he
  exact ⟨key, by rw [deed_M key, fA.1, hx]⟩
theorem Dd.q_range (D : Dd) : 0 ≤ D.q ∧ D.q < 5 := by
  have h : 0 ≤ IntKind.u64.wrap D.k := by
    unfold IntKind.wrap; simp [IntKind.bits, IntKind.signed]; omega
  unfold Dd.q
  exact ⟨Int.tmod_nonneg _ h, Int.tmod_lt_of_pos _ (by decide)⟩
theorem deed_len {l : List Hd} (hk : okL l = true) (ok : ∀ x ∈ l, x.ok) {D : Dd} (hD : D.ok) : (D.M l).length ≤ 24 ∧ ∀ x ∈ D.M l, x.ok := by
  by_cases hE : D.E l = 0
  · exact ⟨okL_len (deed_okL hk ok hD hE), deed_ok hk ok hD hE⟩
  · unfold Dd.M
    rw [if_neg hE]
    exact ⟨Nat.zero_le _, fun x hx => by cases hx⟩
theorem deed_okL' {l : List Hd} (hk : okL l = true) (ok : ∀ x ∈ l, x.ok) {D : Dd} (hD : D.ok) : okL (D.M l) = true := by
  by_cases hE : D.E l = 0
  · exact deed_okL hk ok hD hE
  · unfold Dd.M
    rw [if_neg hE]
    decide
def dpv (D : Dd) : List PV := [.v (.int .i64 D.k), .v (.int .u64 D.a), .v (.int .u64 (l0 D.n)), .v (.int .u64 (l1 D.n)), .v (.int .u64 (l2 D.n)), .v (.int .u64 (l3 D.n)), .v (.int .u64 D.y), .v (.int .u64 D.t)]
theorem dpv_len (D : Dd) : (dpv D).length = 8 := rfl
abbrev dsl (ds : List Dd) : AV := .c (.sl false 8 ds.length (ds.flatMap dpv))
theorem dsl_at {l : List Dd} {i : Nat} {D : Dd} (h : l[i]? = some D) : ((l.flatMap dpv).drop (i * 8)).take 8 = [.v (.int .i64 D.k), .v (.int .u64 D.a), .v (.int .u64 (l0 D.n)), .v (.int .u64 (l1 D.n)), .v (.int .u64 (l2 D.n)), .v (.int .u64 (l3 D.n)), .v (.int .u64 D.y), .v (.int .u64 D.t)] := flat_at (f := dpv) dpv_len h
/-- the ledger behind so many deeds -/
def aft (l : List Hd) (ds : List Dd) : Nat → List Hd
  | 0 => l
  | i + 1 => match ds[i]? with | some D => if D.E (aft l ds i) = 0 then D.M (aft l ds i) else aft l ds i | none => aft l ds i
theorem aft_ok {l : List Hd} (hk : okL l = true) (ok : ∀ x ∈ l, x.ok) {ds : List Dd} (hd : ∀ D ∈ ds, D.ok) : ∀ i, okL (aft l ds i) = true ∧ ∀ x ∈ aft l ds i, x.ok
  | 0 => ⟨hk, ok⟩
  | i + 1 => by
    obtain ⟨h1, h2⟩ := aft_ok hk ok hd i
    unfold aft
    cases hD : ds[i]? with
    | none => exact ⟨h1, h2⟩
    | some D =>
      dsimp only
      have hDo := hd D (List.mem_of_getElem? hD)
      split
      · exact ⟨deed_okL' h1 h2 hDo, (deed_len h1 h2 hDo).2⟩
      · exact ⟨h1, h2⟩
end Go.Proofs.Ytmibmodibicibaa
