/-
  What deeds make of accesses that may be: plain.
-/
import Derived.Test.YtmlalhmljmajbaaGl
namespace Go.Proofs.Ytmlalhmljmajbaa
open Go.RowKit
set_option linter.unusedVariables false
set_option linter.unusedSimpArgs false
section
variable {α : Type} {key : α → Int}
theorem take_at {l : List α} {p : Nat} {y : α} (h : l[p]? = some y) : l.take p ++ [y] ++ l.drop (p + 1) = l := by
  obtain ⟨hp, rfl⟩ := List.getElem?_eq_some_iff.1 h
  rw [List.append_assoc, List.singleton_append, List.getElem_cons_drop, List.take_append_drop]
theorem isG_at {l : List α} {k : Int} (h : isG key l k = true) : ∃ y, l[posG key l k]? = some y ∧ key y = k := by
  unfold isG at h
  cases hp : l[posG key l k]? with
  | none => rw [hp] at h; cases h
  | some y => rw [hp] at h; exact ⟨y, rfl, of_decide_eq_true h⟩
theorem putL_is {l : List α} {x : α} (h : isG key l (key x) = true) : putL key l x = (l, false, 0) := by
  unfold putL; rw [if_pos h]
theorem lay_is {l : List α} (hr : Rises key l) {x : α} (hinj : ∀ y ∈ l, key y = key x → y = x) (h : isG key l (key x) = true) : lay key (key x) (some x) l = l := by
  obtain ⟨y, hy, ky⟩ := isG_at h
  have e := hinj y (List.mem_of_getElem? hy) ky
  subst e
  have hs : (fnd key (key y) l).isSome = true := by rw [← isG_fnd hr]; exact h
  rw [parts_lay hr (posG_parts hr _), if_pos hs]
  exact take_at hy
theorem lay_new {l : List α} (hr : Rises key l) {x : α} (h : isG key l (key x) = false) : lay key (key x) (some x) l = l.take (posG key l (key x)) ++ x :: l.drop (posG key l (key x)) := by
  have hs : (fnd key (key x) l).isSome = false := by rw [← isG_fnd hr]; exact h
  rw [parts_lay hr (posG_parts hr _), if_neg (by rw [hs]; simp)]
  simp
theorem putL_lay {l : List α} (hr : Rises key l) (hl : l.length ≤ 400) (x : α) (hinj : ∀ y ∈ l, key y = key x → y = x) (h : (putL key l x).2.2 = 0) :
    (putL key l x).1 = lay key (key x) (some x) l ∧ (putL key l x).2.1 = !(fnd key (key x) l).isSome ∧ (lay key (key x) (some x) l).length ≤ 400 := by
  cases hg : isG key l (key x) with
  | true =>
    rw [putL_is hg, lay_is hr hinj hg]
    refine ⟨rfl, ?_, hl⟩
    rw [← isG_fnd hr, hg]; rfl
  | false =>
    have hn := lay_new hr hg
    unfold putL at h ⊢
    rw [hg] at h ⊢
    simp only [Bool.false_eq_true, if_false] at h ⊢
    by_cases h4 : 400 ≤ l.length
    · rw [if_pos h4] at h; cases h
    · rw [if_neg h4, ← hn]
      refine ⟨rfl, by rw [← isG_fnd hr, hg]; rfl, ?_⟩
      rw [hn, List.length_append, List.length_cons, List.length_take, List.length_drop]
      omega
theorem del_lay {l : List α} (hr : Rises key l) (k : Int) : (if isG key l k then l.take (posG key l k) ++ l.drop (posG key l k + 1) else l) = lay key k none l := by
  rw [parts_lay hr (posG_parts hr _), ← isG_fnd hr]
  cases isG key l k <;> simp
theorem lay_lay {L : List α} (hr : Rises key L) {k : Int} {o : Option α} (h : ∀ x ∈ o, key x = k) : lay key k o (lay key k none L) = lay key k o L := by
  have hn : ∀ x ∈ (none : Option α), key x = k := fun x hx => by cases hx
  refine fnd_ext (rises_lay h (rises_lay hn hr)) (rises_lay h hr) fun j => ?_
  rw [fnd_lay h j (rises_lay hn hr), fnd_lay hn j hr, fnd_lay h j hr]
  by_cases e : j = k <;> simp [e]
theorem some_key (x : α) : ∀ y ∈ some x, key y = key x := fun y hy => by cases hy; rfl
end
/-- an access that may be -/
structure Vx (x : Xs) : Prop where
  ra : Rises aKey x.ad
  rs : Rises Sp.key x.sp
  rp : Rises Pg.key x.pg
  nz : ∀ p ∈ x.pg, p.v ≠ 0
  la : x.ad.length ≤ 400
  ls : x.sp.length ≤ 400
  lp : x.pg.length ≤ 400
theorem okXs_iff {x : Xs} : okXs x = true ↔ Vx x := by
  unfold okXs okR
  simp only [Bool.and_eq_true, decide_eq_true_eq, Bool.not_eq_true', risB_iff, List.any_eq_false]
  constructor
  · rintro ⟨h, ⟨h1, h2⟩, ⟨h3, h4⟩, h5, h6⟩
    exact ⟨h1, h3, h5, fun p hp hz => h p hp (by unfold zeroB; exact decide_eq_true hz), h2, h4, h6⟩
  · rintro ⟨h1, h3, h5, h, h2, h4, h6⟩
    exact ⟨fun p hp hz => h p hp (of_decide_eq_true hz), ⟨h1, h2⟩, ⟨h3, h4⟩, h5, h6⟩
theorem Vx.few {x : Xs} (h : Vx x) : x.few := ⟨by have := h.la; omega, by have := h.ls; omega, by have := h.lp; omega⟩
def apX (x : Xs) (d : Dd) : Xs := if kindD d = 0 then ⟨lay aKey d.s.a (some d.s.a) x.ad, x.sp, x.pg⟩ else if kindD d = 1 then ⟨x.ad, lay Sp.key d.s.key (some d.s) x.sp, x.pg⟩ else ⟨x.ad, x.sp, lay Pg.key d.s.key (if d.v = 0 then none else some ⟨d.s, d.v⟩) x.pg⟩
theorem injA {l : List Int} (x : Int) : ∀ y ∈ l, aKey y = aKey x → y = x := fun y _ h => h
theorem injS {l : List Sp} (h : ∀ s ∈ l, s.ok) {x : Sp} (hx : x.ok) : ∀ y ∈ l, Sp.key y = Sp.key x → y = x := fun y hy e => Sp.key_inj (h y hy) hx e
theorem doX_ok {x : Xs} {d : Dd} (v : Vx x) (ox : x.ok) (od : d.ok) (h : (doX x d).2.2 = 0) : (doX x d).1 = apX x d ∧ Vx (apX x d) ∧ (apX x d).ok := by
  have hv := okXs_iff.2 v
  unfold doX at h ⊢
  unfold apX
  by_cases c0 : kindD d = 0
  · rw [if_pos c0] at h ⊢
    rw [if_pos c0]
    unfold touchL at h ⊢
    rw [hv] at h ⊢
    simp only [if_true] at h ⊢
    by_cases h0 : (putL aKey x.ad d.s.a).2.2 = 0
    · obtain ⟨e1, e2, e3⟩ := putL_lay v.ra v.la d.s.a (injA d.s.a) h0
      rw [if_pos h0, e1]
      refine ⟨rfl, ⟨rises_lay (some_key (key := aKey) d.s.a) v.ra, v.rs, v.rp, v.nz, e3, v.ls, v.lp⟩, fun a ha => ?_, ox.2.1, ox.2.2⟩
      rcases lay_mem ha with h | h
      · cases h; exact od.2.1.1
      · exact ox.1 a h
    · rw [if_neg h0] at h; exact absurd h h0
  rw [if_neg c0] at h ⊢
  rw [if_neg c0]
  by_cases c1 : kindD d = 1
  · rw [if_pos c1] at h ⊢
    rw [if_pos c1]
    unfold reachL at h ⊢
    rw [hv] at h ⊢
    simp only [if_true] at h ⊢
    by_cases h0 : (putL Sp.key x.sp d.s).2.2 = 0
    · obtain ⟨e1, e2, e3⟩ := putL_lay v.rs v.ls d.s (injS ox.2.1 od.2.1) h0
      rw [if_pos h0, e1]
      refine ⟨rfl, ⟨v.ra, rises_lay (some_key d.s) v.rs, v.rp, v.nz, v.la, e3, v.lp⟩, ox.1, fun a ha => ?_, ox.2.2⟩
      rcases lay_mem ha with h | h
      · cases h; exact od.2.1
      · exact ox.2.1 a h
    · rw [if_neg h0] at h; exact absurd h h0
  rw [if_neg c1] at h ⊢
  rw [if_neg c1]
  unfold keepL at h ⊢
  rw [hv] at h ⊢
  simp only [if_true] at h ⊢
  have hd : delP x.pg d.s.key = lay Pg.key d.s.key none x.pg := del_lay v.rp d.s.key
  have hn : ∀ y ∈ (none : Option Pg), Pg.key y = d.s.key := fun y hy => by cases hy
  have hdl : (lay Pg.key d.s.key none x.pg).length ≤ 400 := by
    have e := del_lay v.rp d.s.key
    rw [← e]
    have := v.lp
    split
    · rw [List.length_append, List.length_take, List.length_drop]; omega
    · exact v.lp
  rw [hd] at h ⊢
  by_cases hz : d.v = 0
  · rw [if_pos hz] at h ⊢
    rw [if_pos hz]
    refine ⟨rfl, ⟨v.ra, v.rs, rises_lay hn v.rp, fun p hp => ?_, v.la, v.ls, hdl⟩, ox.1, ox.2.1, fun a ha => ?_⟩
    · rcases lay_mem hp with h | h
      · cases h
      · exact v.nz p h
    · rcases lay_mem ha with h | h
      · cases h
      · exact ox.2.2 a h
  · rw [if_neg hz] at h ⊢
    rw [if_neg hz]
    have hinj : ∀ y ∈ lay Pg.key d.s.key none x.pg, Pg.key y = Pg.key ⟨d.s, d.v⟩ → y = ⟨d.s, d.v⟩ := fun y hy e => by
      have h1 := fnd_mem (rises_lay hn v.rp) hy
      have e' : y.key = d.s.key := e
      rw [e', fnd_lay hn _ v.rp, if_pos rfl] at h1
      cases h1
    by_cases h0 : (putL Pg.key (lay Pg.key d.s.key none x.pg) ⟨d.s, d.v⟩).2.2 = 0
    · obtain ⟨e1, e2, e3⟩ := putL_lay (rises_lay hn v.rp) hdl ⟨d.s, d.v⟩ hinj h0
      have e4 : lay Pg.key d.s.key (some ⟨d.s, d.v⟩) (lay Pg.key d.s.key none x.pg) = lay Pg.key d.s.key (some ⟨d.s, d.v⟩) x.pg := lay_lay v.rp (some_key (key := Pg.key) ⟨d.s, d.v⟩)
      have e5 : lay Pg.key (Pg.key ⟨d.s, d.v⟩) (some ⟨d.s, d.v⟩) (lay Pg.key d.s.key none x.pg) = lay Pg.key d.s.key (some ⟨d.s, d.v⟩) (lay Pg.key d.s.key none x.pg) := rfl
      rw [e5, e4] at e1 e3
      rw [if_pos h0, e1]
      refine ⟨rfl, ⟨v.ra, v.rs, rises_lay (some_key (key := Pg.key) ⟨d.s, d.v⟩) v.rp, fun p hp => ?_, v.la, v.ls, e3⟩, ox.1, ox.2.1, fun a ha => ?_⟩
      · rcases lay_mem hp with h | h
        · cases h; exact hz
        · exact v.nz p h
      · rcases lay_mem ha with h | h
        · cases h; exact ⟨od.2.1, od.2.2⟩
        · exact ox.2.2 a h
    · rw [if_neg h0] at h; exact absurd h h0
theorem lay_has {α : Type} {key : α → Int} {L : List α} (hr : Rises key L) {x y : α} (hinj : ∀ z ∈ L, key z = key x → z = x) (hy : y ∈ L) : y ∈ lay key (key x) (some x) L := by
  rw [mem_iff (rises_lay (some_key x) hr), fnd_lay (some_key x) _ hr]
  by_cases e : key y = key x
  · rw [if_pos e, hinj y hy e]
  · rw [if_neg e]; exact fnd_mem hr hy
theorem lay_mem_iff {l : List Int} (h : l.Pairwise (· < ·)) (a x : Int) : x ∈ lay aKey a (some a) l ↔ x = a ∨ x ∈ l := by
  have hr : Rises aKey l := h
  constructor
  · intro hx
    rcases lay_mem hx with h | h
    · cases h; exact .inl rfl
    · exact .inr h
  · rintro (rfl | hx)
    · rw [mem_iff (key := aKey) (rises_lay (some_key (key := aKey) x) hr), fnd_lay (some_key (key := aKey) x) _ hr, if_pos rfl]
    · exact lay_has (key := aKey) hr (injA a) hx
end Go.Proofs.Ytmlalhmljmajbaa

