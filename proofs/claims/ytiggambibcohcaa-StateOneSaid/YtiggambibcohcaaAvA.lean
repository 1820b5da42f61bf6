/-
  Abstract values: what a temporary, a block, a slice is, by value. A frame and the blocks that a call has made are told by a state; a world fits a state under a naming of blocks. No program in sight.
-/
import Derived.Test.YtiggambibcohcaaBase
import Derived.Deep.MidRow
import Derived.RangeFuncRecord
namespace Go.Proofs.Ytiggambibcohcaa
open Go.RowKit
set_option linter.unusedSimpArgs false
set_option linter.unusedVariables false

/-- a cell that is known by value: a value of one cell, or a slice of such cells (ex: its capacity is its length; sz cells an element; n elements) -/
inductive PV where
  | v (x : Value)
  | sl (ex : Bool) (sz n : Nat) (cs : List PV)
/-- a value: of one cell, of many, a pointer into a block by its name, a slice of a whole block by its name, a slice of a part of it (from its element lo on, n elements, room for c; ex: to its end), a pointer into what only is read, a function -/
inductive AV where
  | any
  | c (x : PV)
  | agg (cs : List AV)
  | tup (cs : List AV)
  | ptr (r off : Nat)
  | row (r e sz n : Nat)
  | cut (r e sz lo n c : Nat) (ex : Bool)
  | ep (cs : List PV)
  | fn (f : FuncId) (caps : List AV)
instance : Inhabited AV := ⟨.any⟩

inductive RVp (S : Nat → Prop) (w : World) : Value → PV → Prop where
  | v (x : Value) (h : x.oneCell' = true) : RVp S w x (.v x)
  | sl (ex : Bool) (sz : Nat) (A : Option Addr) (n c : Nat) (us : List Value) (cs : List PV) (h1 : n ≤ c) (h2 : c ≤ maxLen) (h3 : A = none → c = 0) (hx : ex = true → c = n) (hl : us.length = cs.length) (hn : cs.length = n * sz)
      (h4 : us ≠ [] → ∃ b o, A = some ⟨b, o, none⟩ ∧ S b ∧ ∀ j u, us[j]? = some u → w.cell? ⟨b, o + j, none⟩ = some u) (h5 : ∀ (j : Nat) (u : Value) (x : PV), us[j]? = some u → cs[j]? = some x → RVp S w u x) : RVp S w (.slice A n c) (.sl ex sz n cs)

inductive RV (S : Nat → Prop) (ι : Nat → Nat × Nat × Nat) (w : World) : Value → AV → Prop where
  | any (x : Value) : RV S ι w x .any
  | c (x : Value) (p : PV) (h : RVp S w x p) : RV S ι w x (.c p)
  | agg (us : List Value) (cs : List AV) (hl : us.length = cs.length) (h1 : ∀ u ∈ us, u.oneCell' = true) (h : ∀ (j : Nat) (u : Value) (x : AV), us[j]? = some u → cs[j]? = some x → RV S ι w u x) : RV S ι w (.agg us.toArray) (.agg cs)
  | tup (us : List Value) (cs : List AV) (hl : us.length = cs.length) (h : ∀ (j : Nat) (u : Value) (x : AV), us[j]? = some u → cs[j]? = some x → RV S ι w u x) : RV S ι w (.tuple us.toArray) (.tup cs)
  | ptr (r off : Nat) : RV S ι w (.pointer (some ⟨(ι r).1, off, none⟩)) (.ptr r off)
  | row (r e sz n c : Nat) (h1 : n ≤ c) (h2 : c ≤ maxLen) (h3 : c * sz = (ι r).2.1) (h4 : (ι r).2.2 = e) (h0 : (ι r).2.1 ≠ 0) : RV S ι w (.slice (some ⟨(ι r).1, 0, none⟩) n c) (.row r e sz n)
  | rnil (A : Option Addr) (r e sz : Nat) (h : (ι r).2.1 = 0) : RV S ι w (.slice A 0 0) (.row r e sz 0)
  | cut (r e sz lo n c : Nat) (ex : Bool) (h1 : n ≤ c) (h2 : c ≤ maxLen) (h3 : (lo + c) * sz ≤ (ι r).2.1) (hx : ex = true → (lo + c) * sz = (ι r).2.1) (h4 : (ι r).2.2 = e) (h0 : (ι r).2.1 ≠ 0) : RV S ι w (.slice (some ⟨(ι r).1, lo * sz, none⟩) n c) (.cut r e sz lo n c ex)
  | cnil (A : Option Addr) (r e sz lo : Nat) (ex : Bool) (h : ex = true → lo = 0 → (ι r).2.1 = 0) : RV S ι w (.slice A 0 0) (.cut r e sz lo 0 0 ex)
  | ep (b o : Nat) (us : List Value) (cs : List PV) (hl : us.length = cs.length) (hne : us ≠ []) (hS : S b) (h4 : ∀ j u, us[j]? = some u → w.cell? ⟨b, o + j, none⟩ = some u) (h5 : ∀ (j : Nat) (u : Value) (x : PV), us[j]? = some u → cs[j]? = some x → RVp S w u x) : RV S ι w (.pointer (some ⟨b, o, none⟩)) (.ep cs)
  | fn (f : FuncId) (us : List Value) (cs : List AV) (hl : us.length = cs.length) (h : ∀ (j : Nat) (u : Value) (x : AV), us[j]? = some u → cs[j]? = some x → RV S ι w u x) : RV S ι w (.func (.func f) #[] us.toArray) (.fn f cs)

theorem RVp.one {S : Nat → Prop} {w : World} {v : Value} {p : PV} (h : RVp S w v p) : v.oneCell' = true := by
  cases h with
  | v _ h => exact h
  | sl => rfl
/-- what some blocks of a world give, they give where they are as they were -/
theorem RVp.mono {S S' : Nat → Prop} {w w' : World} (hS : ∀ b, S b → b < w.heap.size → S' b ∧ w'.heap[b]? = w.heap[b]?) {v : Value} {p : PV} (h : RVp S w v p) : RVp S' w' v p := by
  induction h with
  | v x h => exact .v x h
  | sl ex sz A n c us cs h1 h2 h3 hx hl hn h4 _ ih =>
    refine .sl ex sz A n c us cs h1 h2 h3 hx hl hn (fun hne => ?_) ih
    obtain ⟨b, o, hA, hb, hc⟩ := h4 hne
    obtain ⟨u, rest, hu⟩ := List.exists_cons_of_ne_nil hne
    have hlt := block_lt_of_cell (hc 0 u (by rw [hu]; rfl))
    obtain ⟨hS', hh⟩ := hS b hb hlt
    exact ⟨b, o, hA, hS', fun j u hu => (World.cell?_of_block (w := w) (a := ⟨b, o + j, none⟩) hh).trans (hc j u hu)⟩

mutual
/-- is a block's name in it? -/
def AV.refs (d : Nat) : AV → Bool
  | .any => false
  | .c _ => false
  | .agg cs => AV.refsL d cs
  | .tup cs => AV.refsL d cs
  | .ptr r _ => r == d
  | .row r _ _ _ => r == d
  | .cut r _ _ _ _ _ _ => r == d
  | .ep _ => false
  | .fn _ cs => AV.refsL d cs
def AV.refsL (d : Nat) : List AV → Bool
  | [] => false
  | x :: l => AV.refs d x || AV.refsL d l
end
theorem refsL_get {d : Nat} : ∀ {l : List AV}, AV.refsL d l = false → ∀ (j : Nat) (x : AV), l[j]? = some x → AV.refs d x = false
  | [], _, j, x, hx => by simp at hx
  | y :: l, h, j, x, hx => by
    unfold AV.refsL at h
    rw [Bool.or_eq_false_iff] at h
    cases j with
    | zero => simp at hx; subst hx; exact h.1
    | succ j => exact refsL_get h.2 j x (by simpa using hx)
@[simp] theorem refsL_map (d : Nat) (l : List PV) : AV.refsL d (l.map .c) = false := by
  induction l with
  | nil => rfl
  | cons x l ih => simp [AV.refsL, AV.refs, ih]
@[simp] theorem refsL_app (d : Nat) (l r : List AV) : AV.refsL d (l ++ r) = (AV.refsL d l || AV.refsL d r) := by
  induction l with
  | nil => simp [AV.refsL]
  | cons x l ih => simp [AV.refsL, ih, Bool.or_assoc]

/-- a value of a world is one of a later world, under a naming that is as it was where it is named -/
theorem RV.mono {S S' : Nat → Prop} {ι ι' : Nat → Nat × Nat × Nat} {w w' : World} (hS : ∀ b, S b → b < w.heap.size → S' b ∧ w'.heap[b]? = w.heap[b]?) {v : Value} {x : AV} (h : RV S ι w v x) : (∀ r, AV.refs r x = true → ι' r = ι r) → RV S' ι' w' v x := by
  have sub : ∀ {cs : List AV} {j : Nat} {x : AV} {r : Nat}, cs[j]? = some x → AV.refs r x = true → AV.refsL r cs = true := fun {cs j x r} hx hr =>
    Classical.byContradiction fun hn => by
      have := refsL_get (by simpa using hn) j x hx
      rw [hr] at this; cases this
  induction h with
  | any x => exact fun _ => .any x
  | c x p h => exact fun _ => .c x p (h.mono hS)
  | agg us cs hl h1 _ ih => exact fun hι => .agg us cs hl h1 fun j u x hu hx => ih j u x hu hx fun r hr => hι r (by unfold AV.refs; exact sub hx hr)
  | tup us cs hl _ ih => exact fun hι => .tup us cs hl fun j u x hu hx => ih j u x hu hx fun r hr => hι r (by unfold AV.refs; exact sub hx hr)
  | ptr r off => intro hι; rw [← hι r (by simp [AV.refs])]; exact .ptr r off
  | row r e sz n c h1 h2 h3 h4 h0 => intro hι; rw [← hι r (by simp [AV.refs])] at h3 h4 h0 ⊢; exact .row r e sz n c h1 h2 h3 h4 h0
  | rnil A r e sz h => intro hι; rw [← hι r (by simp [AV.refs])] at h; exact .rnil A r e sz h
  | cut r e sz lo n c ex h1 h2 h3 hx h4 h0 => intro hι; rw [← hι r (by simp [AV.refs])] at h3 hx h4 h0 ⊢; exact .cut r e sz lo n c ex h1 h2 h3 hx h4 h0
  | cnil A r e sz lo ex h => intro hι; rw [← hι r (by simp [AV.refs])] at h; exact .cnil A r e sz lo ex h
  | ep b o us cs hl hne hb h4 h5 =>
    intro _
    obtain ⟨u0, rest, hu0⟩ := List.exists_cons_of_ne_nil hne
    have hlt := block_lt_of_cell (h4 0 u0 (by rw [hu0]; rfl))
    obtain ⟨hS', hh⟩ := hS b hb hlt
    exact .ep b o _ cs hl hne hS' (fun j u hu => (World.cell?_of_block (w := w) (a := ⟨b, o + j, none⟩) hh).trans (h4 j u hu)) (fun j u x hu hx => (h5 j u x hu hx).mono hS)
  | fn f us cs hl _ ih => exact fun hι => .fn f us cs hl fun j u x hu hx => ih j u x hu hx fun r hr => hι r (by unfold AV.refs; exact sub hx hr)

/-- what is known of a frame's temporaries, and of the blocks that may be written, by name -/
structure St where
  T : List AV
  H : List (Nat × List AV)
def hget (H : List (Nat × List AV)) (r : Nat) : Option (List AV) :=
  match H with
  | [] => none
  | (k, cs) :: H => if k = r then some cs else hget H r
def hdel (H : List (Nat × List AV)) (r : Nat) : List (Nat × List AV) :=
  match H with
  | [] => []
  | (k, cs) :: H => if k = r then hdel H r else (k, cs) :: hdel H r
def hput (H : List (Nat × List AV)) (r : Nat) (cs : List AV) : List (Nat × List AV) :=
  match H with
  | [] => [(r, cs)]
  | (k, ds) :: H => if k = r then (r, cs) :: H else (k, ds) :: hput H r cs
theorem hget_del (H : List (Nat × List AV)) (r q : Nat) : hget (hdel H r) q = if q = r then none else hget H q := by
  induction H with
  | nil => simp [hdel, hget]
  | cons x H ih =>
    obtain ⟨k, cs⟩ := x
    unfold hdel
    by_cases hk : k = r
    · rw [if_pos hk, ih]
      by_cases hq : q = r
      · rw [if_pos hq, if_pos hq]
      · rw [if_neg hq, if_neg hq, hget, if_neg (by omega)]
    · rw [if_neg hk, hget, hget, ih]
      by_cases hkq : k = q
      · rw [if_pos hkq, if_pos hkq, if_neg (by omega)]
      · rw [if_neg hkq, if_neg hkq]
theorem hget_put (H : List (Nat × List AV)) (r q : Nat) (cs : List AV) : hget (hput H r cs) q = if q = r then some cs else hget H q := by
  induction H with
  | nil => simp only [hput, hget]; by_cases h : r = q <;> simp [h, eq_comm]
  | cons x H ih =>
    obtain ⟨k, ds⟩ := x
    unfold hput
    by_cases hk : k = r
    · subst hk
      rw [if_pos rfl, hget, hget]
      by_cases hq : q = k
      · subst hq; simp
      · rw [if_neg (by omega), if_neg hq, if_neg (by omega)]
    · rw [if_neg hk, hget, hget, ih]
      by_cases hkq : k = q
      · rw [if_pos hkq, if_pos hkq, if_neg (by omega)]
      · rw [if_neg hkq, if_neg hkq]

/-- as it was when the call began: the world, which blocks only are read, the names of what was handed in to be written -/
structure Env where
  w : World
  S : Nat → Prop
  ι : Nat → Nat × Nat × Nat
  D : List Nat
  hD : ∀ r ∈ D, 1000 ≤ r
/-- the blocks that the call made, or was handed in to be written -/
def Mine (E : Env) (b : Nat) : Prop := E.w.heap.size ≤ b ∨ ∃ q ∈ E.D, (E.ι q).2.1 ≠ 0 ∧ (E.ι q).1 = b
/-- the blocks that are read alone, by now -/
def Sx (E : Env) (ι : Nat → Nat × Nat × Nat) (H : List (Nat × List AV)) (b : Nat) : Prop :=
  (E.S b ∨ Mine E b) ∧ ∀ r cs, hget H r = some cs → (ι r).2.1 ≠ 0 → (ι r).1 ≠ b
/-- a block of a name -/
def Blk (S : Nat → Prop) (ι : Nat → Nat × Nat × Nat) (w : World) (r : Nat) (cs : List AV) : Prop :=
  ((ι r).2.1 = 0 ∧ cs = []) ∨
  ∃ cur, w.heap[(ι r).1]? = some (.cells cur (ι r).2.2 (0, 0)) ∧ cur.size = (ι r).2.1 ∧ cs.length ≤ cur.size ∧ (∀ (j : Nat) (u : Value) (x : AV), cur[j]? = some u → cs[j]? = some x → RV S ι w u x ∧ u.oneCell' = true) ∧ ∀ u ∈ cur.toList, u.oneCell' = true
structure ConcH (S : Nat → Prop) (ι : Nat → Nat × Nat × Nat) (H : List (Nat × List AV)) (w : World) : Prop where
  blk : ∀ r cs, hget H r = some cs → Blk S ι w r cs
  inj : ∀ r q cs ds, hget H r = some cs → hget H q = some ds → r ≠ q → (ι r).2.1 ≠ 0 → (ι q).2.1 ≠ 0 → (ι r).1 ≠ (ι q).1
structure Keep (E : Env) (ι : Nat → Nat × Nat × Nat) (H : List (Nat × List AV)) (w : World) : Prop where
  os : w.os = E.w.os
  tape : w.tape = E.w.tape
  output : w.output = E.w.output
  size : E.w.heap.size ≤ w.heap.size
  block : ∀ b, b < E.w.heap.size → (∀ r ∈ E.D, (E.ι r).2.1 ≠ 0 → (E.ι r).1 ≠ b) → w.heap[b]? = E.w.heap[b]?
  mine : ∀ r cs, hget H r = some cs → (r ∈ E.D → ι r = E.ι r) ∧ (r ∉ E.D → (ι r).2.1 ≠ 0 → Mine E (ι r).1)
/-- what a frame has deferred: the marks of loops over functions that it has left, each with nothing on it -/
def Marks (E : Env) (S : Nat → Prop) (w : World) (ds : List Deferred) : Prop :=
  ∃ Ds : List Nat, Ds.Nodup ∧ ds = Ds.map (fun D => ({ target := .collected D, args := #[] } : Deferred)) ∧ ∀ D ∈ Ds, E.w.heap.size ≤ D ∧ S D ∧ w.heap[D]? = some (.deferred (some []))
theorem Marks.nil {E : Env} {S : Nat → Prop} {w : World} : Marks E S w [] := ⟨[], .nil, rfl, fun D h => by cases h⟩
theorem Marks.mono {E : Env} {S S' : Nat → Prop} {w w' : World} (hS : ∀ b, S b → b < w.heap.size → S' b ∧ w'.heap[b]? = w.heap[b]?) {ds : List Deferred} (h : Marks E S w ds) : Marks E S' w' ds := by
  obtain ⟨Ds, h1, h2, h3⟩ := h
  refine ⟨Ds, h1, h2, fun D hD => ?_⟩
  obtain ⟨g1, g2, g3⟩ := h3 D hD
  obtain ⟨k1, k2⟩ := hS D g2 (Array.getElem?_eq_some_iff.1 g3).1
  exact ⟨g1, k1, k2.trans g3⟩
structure Conc (E : Env) (ι : Nat → Nat × Nat × Nat) (σ : St) (a : Act) (w : World) : Prop where
  defers : Marks E (Sx E ι σ.H) w a.defers
  size : a.tmps.size = σ.T.length
  tmp : ∀ i, RV (Sx E ι σ.H) ι w (a.tmps.getD i undef) (σ.T.getD i .any)
  heap : ConcH (Sx E ι σ.H) ι σ.H w
  keep : Keep E ι σ.H w

/-- an operand -/
def ofV : Value → AV
  | .agg cs => .agg (cs.toList.map fun x => .c (.v x))
  | .tuple _ => .any
  | x => .c (.v x)
def St.ev (σ : St) : Operand → AV
  | .tmp t => σ.T.getD t .any
  | .const v => ofV v
  | .global _ => .any
  | .func f => .fn f []
end Go.Proofs.Ytiggambibcohcaa
