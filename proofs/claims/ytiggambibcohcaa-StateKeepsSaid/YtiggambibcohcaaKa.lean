/-
  What is done to one address is not seen of another one; the total changes by what is minted and burnt alone. No program in sight.
-/
import Derived.Test.YtiggambibcohcaaVl
namespace Go.Proofs.Ytiggambibcohcaa
open Go.RowKit
set_option maxHeartbeats 2000000
abbrev totS (L : List Ac) : Nat := (L.map Ac.b).sum
theorem okSt_put {L : List Ac} (h : okSt L = true) {x : Ac} (hx : okAc x = true) (hr : emptyA x = true ∨ roomS L x.a = true) (hs : totS (laysL L x) < WW) : okSt (laysL L x) = true := by
  obtain ⟨h1, h2, h3, h4⟩ := okSt_iff.1 h
  refine okSt_iff.2 ⟨rises_lays h1 x, full_lays h2 h1 hx, hs, ?_⟩
  have m := many_lays h1 x
  have ha : x.a ≠ 0 := by
    unfold okAc at hx
    simp only [Bool.and_eq_true, decide_eq_true_eq] at hx
    exact hx.1.1.1
  rcases hr with hr | hr
  · rw [hr] at m
    simp only [Bool.true_eq_false, and_false, if_false] at m
    split at m <;> omega
  · rw [roomS_eq ha] at hr
    by_cases hi : isS L x.a = true
    · rw [hi] at m
      simp only [and_true] at m
      split at m <;> split at m <;> omega
    · have hi : isS L x.a = false := by simpa using hi
      rw [hi] at m hr
      simp only [Bool.false_or, Bool.or_eq_true, decide_eq_true_eq] at hr
      simp only [Bool.false_eq_true, and_false, if_false] at m
      split at m <;> omega
theorem put_ok {L R : List Ac} {x : Ac} (h : okSt L = true) (hr : putS L x = (R, 0)) : R = laysL L x ∧ okSt R = true ∧ okAc x = true := by
  unfold putS at hr
  cases h1 : okAc x with
  | false => rw [h1] at hr; cases hr
  | true =>
    rw [h1] at hr
    simp only [Bool.not_true, Bool.false_eq_true, if_false] at hr
    cases h2 : (!emptyA x && !roomS L x.a) with
    | true => rw [h2] at hr; cases hr
    | false =>
      rw [h2] at hr
      simp only [Bool.false_eq_true, if_false] at hr
      by_cases h3 : WW ≤ ((laysL L x).map Ac.b).sum
      · rw [if_pos h3] at hr; cases hr
      · rw [if_neg h3] at hr
        cases hr
        refine ⟨rfl, okSt_put h h1 ?_ (by unfold totS; omega), rfl⟩
        cases he : emptyA x with
        | true => exact .inl rfl
        | false => rw [he] at h2; exact .inr (by simpa using h2)
def KeptS (o : Do) (A R : List Ac) : Prop :=
  okSt A = true ∧ okSt R = true ∧ R.length ≤ A.length + 2 ∧
  (kindI o = 0 → (∀ y, y ≠ o.x.a → ofS R y = ofS A y) ∧ ofS R o.x.a = oneA o.x) ∧
  (kindI o = 1 → (∀ y, y ≠ o.a → ofS R y = ofS A y) ∧ loadX (ofS R o.a) o.p.k = o.p.v ∧ totS A = totS R ∧ (ofS R o.a).b = (ofS A o.a).b) ∧
  (kindI o = 2 → (∀ y, y ≠ o.a → y ≠ o.b → ofS R y = ofS A y) ∧ totS A = totS R) ∧
  (kindI o = 3 → (∀ y, y ≠ o.a → ofS R y = ofS A y) ∧ totS R = totS A + o.n) ∧
  ((¬ kindI o = 0 ∧ ¬ kindI o = 1 ∧ ¬ kindI o = 2 ∧ ¬ kindI o = 3) → (∀ y, y ≠ o.a → ofS R y = ofS A y) ∧ totS A = totS R + o.n)
theorem kept_of {A R : List Ac} {o : Do} (hr : doS A o = (R, 0)) : KeptS o A R := by
  unfold doS at hr
  by_cases h : okSt A = true
  case neg => rw [if_neg h] at hr; cases hr
  rw [if_pos h] at hr
  obtain ⟨g1, g2, g3, g4⟩ := okSt_iff.1 h
  refine ⟨h, ?_⟩
  by_cases c0 : kindI o = 0
  · rw [if_pos c0] at hr
    obtain ⟨rfl, ok, _⟩ := put_ok h hr
    refine ⟨ok, by have := laysL_len A (oneA o.x); omega, fun _ => ⟨fun y hy => ?_, ?_⟩, fun c => by omega, fun c => by omega, fun c => by omega, fun c => absurd c0 c.1⟩
    · rw [ofS_lays g1]; exact if_neg hy
    · rw [ofS_lays g1]; exact if_pos rfl
  rw [if_neg c0] at hr
  by_cases c1 : kindI o = 1
  · rw [if_pos c1, save_same h] at hr
    unfold rsaveS at hr
    by_cases a0 : o.a = 0
    · rw [if_pos a0] at hr; cases hr
    rw [if_neg a0] at hr
    by_cases a1 : 24 < (savedA (ofS A o.a) ⟨o.p.k, o.p.v⟩).store.length
    · rw [if_pos a1] at hr; cases hr
    rw [if_neg a1] at hr
    obtain ⟨rfl, ok, okx⟩ := put_ok h hr
    have ea : (savedA (ofS A o.a) ⟨o.p.k, o.p.v⟩).a = o.a := ofS_a g1 o.a
    have eb : (savedA (ofS A o.a) ⟨o.p.k, o.p.v⟩).b = (ofS A o.a).b := rfl
    have hs := bal_lays g1 (savedA (ofS A o.a) ⟨o.p.k, o.p.v⟩)
    rw [ea, eb] at hs
    have hof : ofS (laysL A (savedA (ofS A o.a) ⟨o.p.k, o.p.v⟩)) o.a = savedA (ofS A o.a) ⟨o.p.k, o.p.v⟩ := by rw [ofS_lays g1, ea, if_pos rfl]
    refine ⟨ok, by have := laysL_len A (savedA (ofS A o.a) ⟨o.p.k, o.p.v⟩); omega, fun c => absurd c c0, fun _ => ⟨fun y hy => ?_, ?_, ?_, ?_⟩, fun c => by omega, fun c => by omega, fun c => absurd c1 c.2.1⟩
    · rw [ofS_lays g1, ea, if_neg hy]
    · rw [hof]
      have hto : okTo (savedA (ofS A o.a) ⟨o.p.k, o.p.v⟩).store (savedA (ofS A o.a) ⟨o.p.k, o.p.v⟩).store.length = true := by
        unfold okAc at okx
        simp only [Bool.and_eq_true] at okx
        exact okx.2
      rw [loadX_find hto, findP_fnd]
      have hst : (savedA (ofS A o.a) ⟨o.p.k, o.p.v⟩).store = lay pkey (o.p.k : Int) (if decide (o.p.v = 0) then none else some ⟨o.p.k, o.p.v⟩) (ofS A o.a).store := pass_lay (key := pkey) (p := ⟨o.p.k, o.p.v⟩) (decide (o.p.v = 0)) (store_rises (ofS_okTo h o.a))
      rw [hst, fnd_lay (by
        intro x hx
        split at hx
        · cases hx
        · cases hx; rfl) _ (store_rises (ofS_okTo h o.a)), if_pos rfl]
      by_cases v0 : o.p.v = 0
      · rw [decide_eq_true v0, v0]; rfl
      · rw [decide_eq_false v0]; rfl
    · unfold totS; omega
    · rw [hof]; rfl
  rw [if_neg c1] at hr
  by_cases c2 : kindI o = 2
  · rw [if_pos c2, move_same h] at hr
    unfold rmoveS at hr
    by_cases a0 : (decide (o.a = 0) || decide (o.b = 0)) = true
    · rw [if_pos a0] at hr; cases hr
    rw [if_neg a0] at hr
    simp only [Bool.or_eq_true, decide_eq_true_eq, not_or] at a0
    by_cases a1 : (ofS A o.a).b < o.n
    · rw [if_pos a1] at hr; cases hr
    rw [if_neg a1] at hr
    by_cases a2 : (decide (o.n = 0) || decide (o.a = o.b)) = true
    · rw [if_pos a2] at hr
      cases hr
      rw [lays_same h a0.1]
      exact ⟨h, by omega, fun c => absurd c c0, fun c => absurd c c1, fun _ => ⟨fun y _ _ => rfl, rfl⟩, fun c => by omega, fun c => absurd c2 c.2.2.1⟩
    rw [if_neg a2] at hr
    simp only [Bool.or_eq_true, decide_eq_true_eq, not_or] at a2
    by_cases a3 : roomS A o.b = false
    · rw [if_pos a3] at hr; cases hr
    rw [if_neg a3] at hr
    have a3 : roomS A o.b = true := by simpa using a3
    obtain ⟨m1, m2, m3⟩ := moved h a0.1 a0.2 a2.2 a2.1 (Nat.le_of_not_lt a1) a3
    cases hr
    refine ⟨m2, by have e1 := laysL_len A ((ofS A o.a).bal ((ofS A o.a).b - o.n)); have e2 := laysL_len (laysL A ((ofS A o.a).bal ((ofS A o.a).b - o.n))) ((ofS A o.b).bal (((ofS A o.b).b + o.n) % WW)); omega, fun c => absurd c c0, fun c => absurd c c1, fun _ => ⟨fun y hy1 hy2 => ?_, ?_⟩, fun c => by omega, fun c => absurd c2 c.2.2.1⟩
    · rw [m3, if_neg hy2, if_neg hy1]
    · have ea := ofS_a g1 o.a
      have eb := ofS_a g1 o.b
      have xa : ((ofS A o.a).bal ((ofS A o.a).b - o.n)).a = o.a := ea
      have ya : ((ofS A o.a).bal ((ofS A o.a).b - o.n)).b = (ofS A o.a).b - o.n := rfl
      have xb : ((ofS A o.b).bal (((ofS A o.b).b + o.n) % WW)).a = o.b := eb
      have yb : ((ofS A o.b).bal (((ofS A o.b).b + o.n) % WW)).b = ((ofS A o.b).b + o.n) % WW := rfl
      have s1 := bal_lays g1 ((ofS A o.a).bal ((ofS A o.a).b - o.n))
      have r1 := rises_lays g1 ((ofS A o.a).bal ((ofS A o.a).b - o.n))
      have s2 := bal_lays r1 ((ofS A o.b).bal (((ofS A o.b).b + o.n) % WW))
      rw [xa, ya] at s1
      rw [ofS_lays g1, xa, xb, yb, if_neg (fun e => a2.2 e.symm), Nat.mod_eq_of_lt m1] at s2
      rw [Nat.mod_eq_of_lt m1]
      unfold totS
      omega
  rw [if_neg c2] at hr
  by_cases c3 : kindI o = 3
  · rw [if_pos c3, mint_same h] at hr
    unfold rmintS at hr
    by_cases a0 : (decide (WW ≤ (A.map Ac.b).sum + o.n) || decide (o.a = 0)) = true
    · rw [if_pos a0] at hr; cases hr
    rw [if_neg a0] at hr
    simp only [Bool.or_eq_true, decide_eq_true_eq, not_or] at a0
    have ea := ofS_a g1 o.a
    by_cases a1 : o.n = 0
    · rw [if_pos a1] at hr
      cases hr
      rw [lays_same h a0.2]
      exact ⟨h, by omega, fun c => absurd c c0, fun c => absurd c c1, fun c => absurd c c2, fun _ => ⟨fun y _ => rfl, by rw [a1]; rfl⟩, fun c => absurd c3 c.2.2.2⟩
    rw [if_neg a1] at hr
    by_cases a2 : roomS A o.a = false
    · rw [if_pos a2] at hr; cases hr
    rw [if_neg a2] at hr
    have a2 : roomS A o.a = true := by simpa using a2
    have hle := ofS_le g1 o.a
    have hm : ((ofS A o.a).b + o.n) % WW = (ofS A o.a).b + o.n := Nat.mod_eq_of_lt (by omega)
    rw [hm] at hr
    cases hr
    have xa : ((ofS A o.a).bal ((ofS A o.a).b + o.n)).a = o.a := ea
    have ya : ((ofS A o.a).bal ((ofS A o.a).b + o.n)).b = (ofS A o.a).b + o.n := rfl
    have s1 := bal_lays g1 ((ofS A o.a).bal ((ofS A o.a).b + o.n))
    rw [xa, ya] at s1
    refine ⟨okSt_put h (okAc_bal _ (okAc_of h a0.2)) (.inr (by rw [xa]; exact a2)) (by unfold totS; omega), by have e1 := laysL_len A ((ofS A o.a).bal ((ofS A o.a).b + o.n)); omega, fun c => absurd c c0, fun c => absurd c c1, fun c => absurd c c2, fun _ => ⟨fun y hy => ?_, ?_⟩, fun c => absurd c3 c.2.2.2⟩
    · rw [ofS_lays g1, xa, if_neg hy]
    · unfold totS; omega
  rw [if_neg c3] at hr
  unfold withS lessS at hr
  rw [h] at hr
  simp only [Bool.not_true, Bool.false_eq_true, if_false] at hr
  by_cases a0 : o.a = 0
  · rw [if_pos a0] at hr; cases hr
  rw [if_neg a0] at hr
  by_cases a1 : (ofS A o.a).b < o.n
  · rw [if_pos a1] at hr; cases hr
  rw [if_neg a1] at hr
  have ea := ofS_a g1 o.a
  have hR : laysL A ((ofS A o.a).bal ((ofS A o.a).b - o.n)) = R := by
    have := congrArg Prod.fst hr
    exact this
  subst hR
  clear hr
  have xa : ((ofS A o.a).bal ((ofS A o.a).b - o.n)).a = o.a := ea
  have ya : ((ofS A o.a).bal ((ofS A o.a).b - o.n)).b = (ofS A o.a).b - o.n := rfl
  have s1 := bal_lays g1 ((ofS A o.a).bal ((ofS A o.a).b - o.n))
  have hle := ofS_le g1 o.a
  rw [xa, ya] at s1
  refine ⟨okSt_put h (okAc_bal _ (okAc_of h a0)) ?_ (by unfold totS; omega), by have e1 := laysL_len A ((ofS A o.a).bal ((ofS A o.a).b - o.n)); omega, fun c => absurd c c0, fun c => absurd c c1, fun c => absurd c c2, fun c => absurd c c3, fun _ => ⟨fun y hy => ?_, ?_⟩⟩
  · cases he : emptyA ((ofS A o.a).bal ((ofS A o.a).b - o.n)) with
    | true => exact .inl rfl
    | false =>
      right
      rw [xa, roomS_eq a0, isS_full g1 g2]
      cases he2 : emptyA (ofS A o.a) with
      | false => rfl
      | true =>
        unfold emptyA at he he2
        simp only [Bool.and_eq_true, decide_eq_true_eq] at he2
        have : decide (((ofS A o.a).bal ((ofS A o.a).b - o.n)).b = 0) = true := decide_eq_true (by rw [ya]; omega)
        rw [this] at he
        have e2 : ((ofS A o.a).bal ((ofS A o.a).b - o.n)).n = 0 := he2.1.2
        have e3 : ((ofS A o.a).bal ((ofS A o.a).b - o.n)).code.length + ((ofS A o.a).bal ((ofS A o.a).b - o.n)).store.length = 0 := he2.2
        rw [e2, e3] at he
        simp at he
  · rw [ofS_lays g1, xa, if_neg hy]
  · unfold totS; omega
theorem do_err {A : List Ac} {o : Do} (h : (doS A o).2 ≠ 0) : (doS A o).1 = [] := by
  have put : ∀ x, (putS A x).2 ≠ 0 → (putS A x).1 = [] := fun x => by
    unfold putS
    split
    · intro _; rfl
    · split
      · intro _; rfl
      · split
        · intro _; rfl
        · intro h; exact absurd rfl h
  revert h
  unfold doS
  by_cases hk : okSt A = true
  case neg => rw [if_neg hk]; intro _; rfl
  rw [if_pos hk]
  split
  · exact put _
  split
  · rw [save_same hk]
    unfold rsaveS
    split
    · intro _; rfl
    · split
      · intro _; rfl
      · exact put _
  split
  · rw [move_same hk]
    unfold rmoveS
    split
    · intro _; rfl
    split
    · intro _; rfl
    split
    · intro h; exact absurd rfl h
    split
    · intro _; rfl
    · intro h; exact absurd rfl h
  split
  · rw [mint_same hk]
    unfold rmintS
    split
    · intro _; rfl
    split
    · intro h; exact absurd rfl h
    split
    · intro _; rfl
    · intro h; exact absurd rfl h
  · unfold withS lessS
    split
    · intro _; rfl
    split
    · intro _; rfl
    split
    · intro _; rfl
    · intro h; exact absurd rfl h
end Go.Proofs.Ytiggambibcohcaa

