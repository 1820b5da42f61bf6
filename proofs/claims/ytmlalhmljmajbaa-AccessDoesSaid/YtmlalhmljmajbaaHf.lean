/-
  A thing laid into a row in one pass, as the document has it; plain.
-/
import Derived.Test.YtmlalhmljmajbaaHd
namespace Go.Proofs.Ytmlalhmljmajbaa
open Go.RowKit
set_option linter.unusedVariables false
set_option linter.unusedSimpArgs false
set_option maxRecDepth 20000
set_option maxHeartbeats 2000000
section
variable {α : Type} (key : α → Int)
/-- laid at the first that does not stand ahead of it; its like is left out -/
def pass2 (p : α) : Bool → List α → List α
  | laid, [] => if laid then [] else [p]
  | laid, q :: l => (if laid = false ∧ ¬ key q < key p then [p] else []) ++ ((if key q = key p then [] else [q]) ++ pass2 p (laid || !decide (key q < key p)) l)
/-- was its like not there? -/
def cold2 (p : α) : Bool → Bool → List α → Bool
  | _, c, [] => c
  | laid, c, q :: l => if laid = false ∧ ¬ key q < key p then cold2 p true (!decide (key q = key p)) l else cold2 p laid c l
variable {key}
theorem pass2_true {p : α} : ∀ {l : List α}, (∀ x ∈ l, key x ≠ key p) → pass2 key p true l = l
  | [], _ => rfl
  | q :: l, h => by
    unfold pass2
    rw [if_neg (by simp), if_neg (h q (by simp)), Bool.true_or, pass2_true fun x hx => h x (by simp [hx])]
    rfl
theorem pass2_lay {p : α} : ∀ {l : List α} (laid : Bool), Rises key l → pass2 key p laid l = lay key (key p) (if laid then none else some p) l
  | [], laid, _ => by cases laid <;> rfl
  | q :: l, laid, h => by
    obtain ⟨l1, l2⟩ := List.pairwise_cons.1 h
    unfold pass2 lay
    rcases Int.lt_trichotomy (key q) (key p) with hlt | heq | hgt
    · rw [if_neg (show ¬ (laid = false ∧ ¬ key q < key p) by rintro ⟨_, h⟩; exact h hlt), if_neg (show ¬ key q = key p by omega), if_pos hlt, decide_eq_true hlt, Bool.not_true, Bool.or_false, pass2_lay laid l2]
      rfl
    · have gt : ∀ x ∈ l, key x ≠ key p := fun x hx => by have := l1 x hx; omega
      have hn : ¬ key q < key p := by omega
      rw [if_pos heq, if_neg hn, if_pos heq, decide_eq_false hn, Bool.not_false, Bool.or_true, pass2_true gt]
      cases laid with
      | true => rw [if_neg (by simp)]; rfl
      | false => rw [if_pos ⟨rfl, hn⟩]; rfl
    · have gt : ∀ x ∈ l, key x ≠ key p := fun x hx => by have := l1 x hx; omega
      have hn : ¬ key q < key p := by omega
      have he : ¬ key q = key p := by omega
      rw [if_neg he, if_neg hn, if_neg he, decide_eq_false hn, Bool.not_false, Bool.or_true, pass2_true gt]
      cases laid with
      | true => rw [if_neg (by simp)]; rfl
      | false => rw [if_pos ⟨rfl, hn⟩]; rfl
theorem cold2_true {p : α} {c : Bool} : ∀ {l : List α}, cold2 key p true c l = c
  | [] => rfl
  | q :: l => by unfold cold2; rw [if_neg (by simp)]; exact cold2_true
theorem cold2_fnd {p : α} : ∀ {l : List α}, Rises key l → cold2 key p false true l = !(fnd key (key p) l).isSome
  | [], _ => rfl
  | q :: l, h => by
    obtain ⟨l1, l2⟩ := List.pairwise_cons.1 h
    unfold cold2 fnd
    rcases Int.lt_trichotomy (key q) (key p) with hlt | heq | hgt
    · rw [if_neg (by rintro ⟨_, h⟩; exact h hlt), if_neg (show ¬ key q = key p by omega), cold2_fnd l2]
    · rw [if_pos ⟨rfl, by omega⟩, if_pos heq, cold2_true, decide_eq_true heq]; rfl
    · rw [if_pos ⟨rfl, by omega⟩, if_neg (show ¬ key q = key p by omega), cold2_true, decide_eq_false (show ¬ key q = key p by omega), fnd_none fun x hx => by have := l1 x hx; omega]; rfl
theorem pass2_len {p : α} : ∀ (laid : Bool) (l : List α), (pass2 key p laid l).length ≤ l.length + 1
  | laid, [] => by cases laid <;> simp [pass2]
  | laid, q :: l => by
    unfold pass2
    cases laid with
    | true =>
      have h : ∀ l : List α, (pass2 key p true l).length ≤ l.length := fun l => by
        induction l with
        | nil => simp [pass2]
        | cons q l ih =>
          unfold pass2
          rw [if_neg (by simp), Bool.true_or, List.nil_append, List.length_append]
          have : (if key q = key p then [] else [q]).length ≤ 1 := by split <;> simp
          rw [List.length_cons]; omega
      rw [if_neg (by simp), Bool.true_or, List.nil_append, List.length_append]
      have h1 := h l
      have : (if key q = key p then [] else [q]).length ≤ 1 := by split <;> simp
      rw [List.length_cons]; omega
    | false =>
      by_cases hq : key q < key p
      · have ih := pass2_len (p := p) false l
        rw [if_neg (by rintro ⟨_, h⟩; exact h hq), decide_eq_true hq, List.nil_append, List.length_append]
        have : (if key q = key p then [] else [q]).length ≤ 1 := by split <;> simp
        simp only [Bool.not_true, Bool.or_false, List.length_cons]; omega
      · have h : ∀ l : List α, (pass2 key p true l).length ≤ l.length := fun l => by
          induction l with
          | nil => simp [pass2]
          | cons q l ih =>
            unfold pass2
            rw [if_neg (by simp), Bool.true_or, List.nil_append, List.length_append]
            have : (if key q = key p then [] else [q]).length ≤ 1 := by split <;> simp
            rw [List.length_cons]; omega
        have h1 := h l
        rw [if_pos ⟨rfl, hq⟩, decide_eq_false hq, List.length_append, List.length_append]
        have : (if key q = key p then [] else [q]).length ≤ 1 := by split <;> simp
        simp only [Bool.not_false, Bool.or_true, List.length_cons, List.length_nil]; omega
theorem pass2_drop {p : α} {l : List α} {i : Nat} {q : α} (h : l[i]? = some q) (laid : Bool) : pass2 key p laid (l.drop i) = (if laid = false ∧ ¬ key q < key p then [p] else []) ++ ((if key q = key p then [] else [q]) ++ pass2 key p (laid || !decide (key q < key p)) (l.drop (i + 1))) := by
  obtain ⟨hi, rfl⟩ := List.getElem?_eq_some_iff.1 h
  rw [List.drop_eq_getElem_cons hi]
  rfl
theorem cold2_drop {p : α} {l : List α} {i : Nat} {q : α} (h : l[i]? = some q) (laid c : Bool) : cold2 key p laid c (l.drop i) = if laid = false ∧ ¬ key q < key p then cold2 key p true (!decide (key q = key p)) (l.drop (i + 1)) else cold2 key p laid c (l.drop (i + 1)) := by
  obtain ⟨hi, rfl⟩ := List.getElem?_eq_some_iff.1 h
  rw [List.drop_eq_getElem_cons hi]
  rfl
theorem put_gen {l : List α} (hr : Rises key l) (hl : l.length ≤ 400) (x : α) (hinj : ∀ y ∈ l, key y = key x → y = x) :
    putL key l x = if (lay key (key x) (some x) l).length ≤ 400 then (lay key (key x) (some x) l, !(fnd key (key x) l).isSome, 0) else ([], false, 6) := by
  cases hg : isG key l (key x) with
  | true =>
    rw [putL_is hg, lay_is hr hinj hg, if_pos hl, ← isG_fnd hr, hg]; rfl
  | false =>
    have hn := lay_new hr hg
    have hp := posG_le (key := key) l (key x)
    have hlen : (lay key (key x) (some x) l).length = l.length + 1 := by rw [hn, List.length_append, List.length_cons, List.length_take, List.length_drop]; omega
    unfold putL
    rw [hg]
    simp only [Bool.false_eq_true, if_false]
    by_cases h4 : 400 ≤ l.length
    · rw [if_pos h4, if_neg (by omega)]
    · rw [if_neg h4, if_pos (by omega), ← hn, ← isG_fnd hr, hg]; rfl
end
/-- as the document has it: the access, whether it was cold, whether there is room -/
def rreachL (x : Xs) (s : Sp) : Xs × Bool × Bool := if (lay Sp.key s.key (some s) x.sp).length ≤ 400 then (⟨x.ad, lay Sp.key s.key (some s) x.sp, x.pg⟩, !(fnd Sp.key s.key x.sp).isSome, true) else (⟨[], [], []⟩, false, false)
def rkeepL (x : Xs) (s : Sp) (v : Nat) : Xs × Bool := if (lay Pg.key s.key (if v = 0 then none else some ⟨s, v⟩) x.pg).length ≤ 400 then (⟨x.ad, x.sp, lay Pg.key s.key (if v = 0 then none else some ⟨s, v⟩) x.pg⟩, true) else (⟨[], [], []⟩, false)
theorem reach_same {x : Xs} (v : Vx x) (ox : x.ok) (s : Sp) (os : s.ok) : reachL x s = ((rreachL x s).1, (rreachL x s).2.1, if (rreachL x s).2.2 then 0 else 6) := by
  unfold reachL rreachL
  rw [okXs_iff.2 v, put_gen v.rs v.ls s (injS ox.2.1 os)]
  simp only [if_true]
  by_cases h : (lay Sp.key s.key (some s) x.sp).length ≤ 400
  · rw [if_pos h, if_pos h]; rfl
  · rw [if_neg h, if_neg h]; rfl
theorem keep_same {x : Xs} (v : Vx x) (s : Sp) (n : Nat) : keepL x s n = ((rkeepL x s n).1, if (rkeepL x s n).2 then 0 else 6) := by
  have hd : delP x.pg s.key = lay Pg.key s.key none x.pg := del_lay v.rp s.key
  have hn : ∀ y ∈ (none : Option Pg), Pg.key y = s.key := fun y hy => by cases hy
  have hdl : (lay Pg.key s.key none x.pg).length ≤ 400 := by
    have e := del_lay v.rp s.key
    rw [← e]
    have := v.lp
    split
    · rw [List.length_append, List.length_take, List.length_drop]; omega
    · exact v.lp
  unfold keepL rkeepL
  rw [okXs_iff.2 v, hd]
  simp only [if_true]
  by_cases hz : n = 0
  · rw [if_pos hz, if_pos hz, if_pos hdl]; rfl
  · rw [if_neg hz, if_neg hz]
    have hinj : ∀ y ∈ lay Pg.key s.key none x.pg, Pg.key y = Pg.key ⟨s, n⟩ → y = ⟨s, n⟩ := fun y hy e => by
      have h1 := fnd_mem (rises_lay hn v.rp) hy
      have e' : y.key = s.key := e
      rw [e', fnd_lay hn _ v.rp, if_pos rfl] at h1
      cases h1
    have hp := put_gen (rises_lay hn v.rp) hdl ⟨s, n⟩ hinj
    have e4 : lay Pg.key (Pg.key ⟨s, n⟩) (some ⟨s, n⟩) (lay Pg.key s.key none x.pg) = lay Pg.key s.key (some ⟨s, n⟩) x.pg := lay_lay v.rp (some_key (key := Pg.key) ⟨s, n⟩)
    rw [e4] at hp
    rw [hp]
    by_cases h : (lay Pg.key s.key (some ⟨s, n⟩) x.pg).length ≤ 400
    · rw [if_pos h, if_pos h]; rfl
    · rw [if_neg h, if_neg h]; rfl
end Go.Proofs.Ytmlalhmljmajbaa

