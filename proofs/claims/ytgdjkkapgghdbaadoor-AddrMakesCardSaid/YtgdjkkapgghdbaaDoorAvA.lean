/-
  Abstract values: what a temporary, a block, a slice is, by value. A frame and the blocks that a call has made are told by a state; a world fits a state under a naming of blocks. No program in sight.
-/
import Derived.Test.YtgdjkkapgghdbaaDoorBase
import Derived.Deep.MidRow
import Derived.RangeFuncRecord
namespace Go.Proofs.YtgdjkkapgghdbaaDoor
open Go.RowKit
set_option linter.unusedSimpArgs false
set_option linter.unusedVariables false

inductive PV where
  | v (x : Value)
  | sl (ex : Bool) (sz n : Nat) (cs : List PV)
  | mp (b : Nat) (es : List (Value × Value))
inductive AV where
  | any
  | c (x : PV)
  | agg (cs : List AV)
  | tup (cs : List AV)
  | ptr (r off : Nat)
  | row (r e sz n : Nat)
  | cut (r e sz lo n c : Nat) (ex : Bool)
  | ep (cs : List PV)
  | fn (f : FuncId) (caps : List AV)
instance : Inhabited AV := ⟨.any⟩

inductive RVp (S : Nat → Prop) (w : World) : Value → PV → Prop where
  | v (x : Value) (h : x.oneCell' = true) : RVp S w x (.v x)
  | sl (ex : Bool) (sz : Nat) (A : Option Addr) (n c : Nat) (us : List Value) (cs : List PV) (h1 : n ≤ c) (h2 : c ≤ maxLen) (h3 : A = none → c = 0) (hx : ex = true → c = n) (hl : us.length = cs.length) (hn : cs.length = n * sz)
      (h4 : us ≠ [] → ∃ b o, A = some ⟨b, o, none⟩ ∧ S b ∧ ∀ j u, us[j]? = some u → w.cell? ⟨b, o + j, none⟩ = some u) (h5 : ∀ (j : Nat) (u : Value) (x : PV), us[j]? = some u → cs[j]? = some x → RVp S w u x) : RVp S w (.slice A n c) (.sl ex sz n cs)
  | mp (b : Nat) (es : List (Value × Value)) (X : Array MapEntry) (clk : Nat) (hS : S b) (hh : w.heap[b]? = some (.map X clk)) (he : X.toList.map (fun e => (e.key, e.val)) = es) : RVp S w (.map (some b)) (.mp b es)

inductive RV (S : Nat → Prop) (ι : Nat → Nat × Nat × Nat) (w : World) : Value → AV → Prop where
  | any (x : Value) : RV S ι w x .any
  | c (x : Value) (p : PV) (h : RVp S w x p) : RV S ι w x (.c p)
  | agg (us : List Value) (cs : List AV) (hl : us.length = cs.length) (h1 : ∀ u ∈ us, u.oneCell' = true) (h : ∀ (j : Nat) (u : Value) (x : AV), us[j]? = some u → cs[j]? = some x → RV S ι w u x) : RV S ι w (.agg us.toArray) (.agg cs)
  | tup (us : List Value) (cs : List AV) (hl : us.length = cs.length) (h : ∀ (j : Nat) (u : Value) (x : AV), us[j]? = some u → cs[j]? = some x → RV S ι w u x) : RV S ι w (.tuple us.toArray) (.tup cs)
  | ptr (r off : Nat) : RV S ι w (.pointer (some ⟨(ι r).1, off, none⟩)) (.ptr r off)
  | row (r e sz n c : Nat) (h1 : n ≤ c) (h2 : c ≤ maxLen) (h3 : c * sz = (ι r).2.1) (h4 : (ι r).2.2 = e) (h0 : (ι r).2.1 ≠ 0) : RV S ι w (.slice (some ⟨(ι r).1, 0, none⟩) n c) (.row r e sz n)
  | rnil (A : Option Addr) (r e sz : Nat) (h : (ι r).2.1 = 0) : RV S ι w (.slice A 0 0) (.row r e sz 0)
  | cut (r e sz lo n c : Nat) (ex : Bool) (h1 : n ≤ c) (h2 : c ≤ maxLen) (h3 : (lo + c) * sz ≤ (ι r).2.1) (hx : ex = true → (lo + c) * sz = (ι r).2.1) (h4 : (ι r).2.2 = e) (h0 : (ι r).2.1 ≠ 0) : RV S ι w (.slice (some ⟨(ι r).1, lo * sz, none⟩) n c) (.cut r e sz lo n c ex)
  | cnil (A : Option Addr) (r e sz lo : Nat) (ex : Bool) (h : ex = true → lo = 0 → (ι r).2.1 = 0) : RV S ι w (.slice A 0 0) (.cut r e sz lo 0 0 ex)
  | ep (b o : Nat) (us : List Value) (cs : List PV) (hl : us.length = cs.length) (hne : us ≠ []) (hS : S b) (h4 : ∀ j u, us[j]? = some u → w.cell? ⟨b, o + j, none⟩ = some u) (h5 : ∀ (j : Nat) (u : Value) (x : PV), us[j]? = some u → cs[j]? = some x → RVp S w u x) : RV S ι w (.pointer (some ⟨b, o, none⟩)) (.ep cs)
  | fn (f : FuncId) (us : List Value) (cs : List AV) (hl : us.length = cs.length) (h : ∀ (j : Nat) (u : Value) (x : AV), us[j]? = some u → cs[j]? = some x → RV S ι w u x) : RV S ι w (.func (.func f) #[] us.toArray) (.fn f cs)

theorem RVp.one {S : Nat → Prop} {w : World} {v : Value} {p : PV} (h : RVp S w v p) : v.oneCell' = true := by
  cases h with
  | v _ h => exact h
  | sl => rfl
  | mp => rfl
theorem RVp.mono {S S' : Nat → Prop} {w w' : World} (hS : ∀ b, S b → b < w.heap.size → S' b ∧ w'.heap[b]? = w.heap[b]?) {v : Value} {p : PV} (h : RVp S w v p) : RVp S' w' v p := by
  induction h with
  | v x h => exact .v x h
  | sl ex sz A n c us cs h1 h2 h3 hx hl hn h4 _ ih =>
    refine .sl ex sz A n c us cs h1 h2 h3 hx hl hn (fun hne => ?_) ih
    obtain ⟨b, o, hA, hb, hc⟩ := h4 hne
    obtain ⟨u, rest, hu⟩ := List.exists_cons_of_ne_nil hne
    have hlt := block_lt_of_cell (hc 0 u (by rw [hu]; rfl))
    obtain ⟨hS', hh⟩ := hS b hb hlt
    exact ⟨b, o, hA, hS', fun j u hu => (World.cell?_of_block (w := w) (a := ⟨b, o + j, none⟩) hh).trans (hc j u hu)⟩
  | mp b es X clk hb hh he =>
    obtain ⟨h1, h2⟩ := hS b hb (Array.getElem?_eq_some_iff.1 hh).1
    exact .mp b es X clk h1 (h2.trans hh) he

mutual
def AV.refs (d : Nat) : AV → Bool
  | .any => false
  | .c _ => false
  | .agg cs => AV.refsL d cs
  | .tup cs => AV.refsL d cs
  | .ptr r _ => r == d
  | .row r _ _ _ => r == d
  | .cut r _ _ _ _ _ _ => r == d
  | .ep _ => false
  | .fn _ cs => AV.refsL d cs
def AV.refsL (d : Nat) : List AV → Bool
  | [] => false
  | x :: l => AV.refs d x || AV.refsL d l
end
theorem refsL_get {d : Nat} : ∀ {l : List AV}, AV.refsL d l = false → ∀ (j : Nat) (x : AV), l[j]? = some x → AV.refs d x = false
  | [], _, j, x, hx => by simp at hx
  | y :: l, h, j, x, hx => by
    unfold AV.refsL at h
    rw [Bool.or_eq_false_iff] at h
    cases j with
    | zero => simp at hx; subst hx; exact h.1
    | succ j => exact refsL_get h.2 j x (by simpa using hx)
@[simp] theorem refsL_map (d : Nat) (l : List PV) : AV.refsL d (l.map .c) = false := by
  induction l with
  | nil => rfl
  | cons x l ih => simp [AV.refsL, AV.refs, ih]
@[simp] theorem refsL_app (d : Nat) (l r : List AV) : AV.refsL d (l ++ r) = (AV.refsL d l || AV.refsL d r) := by
  induction l with
  | nil => simp [AV.refsL]
  | cons x l ih => simp [AV.refsL, ih, Bool.or_assoc]

theorem RV.mono {S S' : Nat → Prop} {ι ι' : Nat → Nat × Nat × Nat} {w w' : World} (hS : ∀ b, S b → b < w.heap.size → S' b ∧ w'.heap[b]? = w.heap[b]?) {v : Value} {x : AV} (h : RV S ι w v x) : (∀ r, AV.refs r x = true → ι' r = ι r) → RV S' ι' w' v x := by
  have sub : ∀ {cs : List AV} {j : Nat} {x : AV} {r : Nat}, cs[j]? = some x → AV.refs r x = true → AV.refsL r cs = true := fun {cs j x r} hx hr =>
    Classical.byContradiction fun hn => by
      have := refsL_get (by simpa using hn) j x hx
      rw [hr] at this; cases this
  induction h with
  | any x => exact fun _ => .any x
  | c x p h => exact fun _ => .c x p (h.mono hS)
  | agg us cs hl h1 _ ih => exact fun hι => .agg us cs hl h1 fun j u x hu hx => ih j u x hu hx fun r hr => hι r (by unfold AV.refs; exact sub hx hr)
  | tup us cs hl _ ih => exact fun hι => .tup us cs hl fun j u x hu hx => ih j u x hu hx fun r hr => hι r (by unfold AV.refs; exact sub hx hr)
  | ptr r off => intro hι; rw [← hι r (by simp [AV.refs])]; exact .ptr r off
  | row r e sz n c h1 h2 h3 h4 h0 => intro hι; rw [← hι r (by simp [AV.refs])] at h3 h4 h0 ⊢; exact .row r e sz n c h1 h2 h3 h4 h0
  | rnil A r e sz h => intro hι; rw [← hι r (by simp [AV.refs])] at h; exact .rnil A r e sz h
  | cut r e sz lo n c ex h1 h2 h3 hx h4 h0 => intro hι; rw [← hι r (by simp [AV.refs])] at h3 hx h4 h0 ⊢; exact .cut r e sz lo n c ex h1 h2 h3 hx h4 h0
  | cnil A r e sz lo ex h => intro hι; rw [← hι r (by simp [AV.refs])] at h; exact .cnil A r e sz lo ex h
  | ep b o us cs hl hne hb h4 h5 =>
    intro _
    obtain ⟨u0, rest, hu0⟩ := List.exists_cons_of_ne_nil hne
    have hlt := block_lt_of_cell (h4 0 u0 (by rw [hu0]; rfl))
    obtain ⟨hS', hh⟩ := hS b hb hlt
    exact .ep b o _ cs hl hne hS' (fun j u hu => (World.cell?_of_block (w := w) (a := ⟨b, o + j, none⟩) hh).trans (h4 j u hu)) (fun j u x hu hx => (h5 j u x hu hx).mono hS)
  | fn f us cs hl _ ih => exact fun hι => .fn f us cs hl fun j u x hu hx => ih j u x hu hx fun r hr => hι r (by unfold AV.refs; exact sub hx hr)

structure St where
  T : List AV
  H : List (Nat × List AV)
def hget (H : List (Nat × List AV)) (r : Nat) : Option (List AV) :=
  match H with
  | [] => none
  | (k, cs) :: H => if k = r then some cs else hget H r
def hdel (H : List (Nat × List AV)) (r : Nat) : List (Nat × List AV) :=
  match H with
  | [] => []
  | (k, cs) :: H => if k = r then hdel H r else (k, cs) :: hdel H r
def hput (H : List (Nat × List AV)) (r : Nat) (cs : List AV) : List (Nat × List AV) :=
  match H with
  | [] => [(r, cs)]
  | (k, ds) :: H => if k = r then (r, cs) :: H else (k, ds) :: hput H r cs
theorem hget_del (H : List (Nat × List AV)) (r q : Nat) : hget (hdel H r) q = if q = r then none else hget H q := by
  induction H with
  | nil => simp [hdel, hget]
  | cons x H ih =>
    obtain ⟨k, cs⟩ := x
    unfold hdel
    by_cases hk : k = r
    · rw [if_pos hk, ih]
      by_cases hq : q = r
      · rw [if_pos hq, if_pos hq]
      · rw [if_neg hq, if_neg hq, hget, if_neg (by omega)]
    · rw [if_neg hk, hget, hget, ih]
      by_cases hkq : k = q
      · rw [if_pos hkq, if_pos hkq, if_neg (by omega)]
      · rw [if_neg hkq, if_neg hkq]
theorem hget_put (H : List (Nat × List AV)) (r q : Nat) (cs : List AV) : hget (hput H r cs) q = if q = r then some cs else hget H q := by
  induction H with
  | nil => simp only [hput, hget]; by_cases h : r = q <;> simp [h, eq_comm]
  | cons x H ih =>
    obtain ⟨k, ds⟩ := x
    unfold hput
    by_cases hk : k = r
    · subst hk
      rw [if_pos rfl, hget, hget]
      by_cases hq : q = k
      · subst hq; simp
      · rw [if_neg (by omega), if_neg hq, if_neg (by omega)]
    · rw [if_neg hk, hget, hget, ih]
      by_cases hkq : k = q
      · rw [if_pos hkq, if_pos hkq, if_neg (by omega)]
      · rw [if_neg hkq, if_neg hkq]

def globV (g : Nat) : Option (List Value) := (globs.find? fun p => p.1 == g).map (·.2)
def GlobOK (w : World) (S : Nat → Prop) (ι : Nat → Nat × Nat × Nat) (D : List Nat) : Prop :=
  ∀ g cs, globV g = some cs → S g ∧ (∀ r ∈ D, (ι r).2.1 ≠ 0 → (ι r).1 ≠ g) ∧ cs ≠ [] ∧ (∀ u ∈ cs, u.oneCell' = true) ∧ ∀ j u, cs[j]? = some u → w.cell? ⟨g, j, none⟩ = some u
structure Env where
  w : World
  S : Nat → Prop
  ι : Nat → Nat × Nat × Nat
  D : List Nat
  hD : ∀ r ∈ D, 1000 ≤ r
  hG : GlobOK w S ι D
def Mine (E : Env) (b : Nat) : Prop := E.w.heap.size ≤ b ∨ ∃ q ∈ E.D, (E.ι q).2.1 ≠ 0 ∧ (E.ι q).1 = b
def Sx (E : Env) (ι : Nat → Nat × Nat × Nat) (H : List (Nat × List AV)) (b : Nat) : Prop :=
  (E.S b ∨ Mine E b) ∧ ∀ r cs, hget H r = some cs → (ι r).2.1 ≠ 0 → (ι r).1 ≠ b
def Blk (S : Nat → Prop) (ι : Nat → Nat × Nat × Nat) (w : World) (r : Nat) (cs : List AV) : Prop :=
  ((ι r).2.1 = 0 ∧ cs = []) ∨
  ∃ cur, w.heap[(ι r).1]? = some (.cells cur (ι r).2.2 (0, 0)) ∧ cur.size = (ι r).2.1 ∧ cs.length ≤ cur.size ∧ (∀ (j : Nat) (u : Value) (x : AV), cur[j]? = some u → cs[j]? = some x → RV S ι w u x ∧ u.oneCell' = true) ∧ ∀ u ∈ cur.toList, u.oneCell' = true
structure ConcH (S : Nat → Prop) (ι : Nat → Nat × Nat × Nat) (H : List (Nat × List AV)) (w : World) : Prop where
  blk : ∀ r cs, hget H r = some cs → Blk S ι w r cs
  inj : ∀ r q cs ds, hget H r = some cs → hget H q = some ds → r ≠ q → (ι r).2.1 ≠ 0 → (ι q).2.1 ≠ 0 → (ι r).1 ≠ (ι q).1
structure Keep (E : Env) (ι : Nat → Nat × Nat × Nat) (H : List (Nat × List AV)) (w : World) : Prop where
  os : w.os = E.w.os
  tape : w.tape = E.w.tape
  output : w.output = E.w.output
  size : E.w.heap.size ≤ w.heap.size
  block : ∀ b, b < E.w.heap.size → (∀ r ∈ E.D, (E.ι r).2.1 ≠ 0 → (E.ι r).1 ≠ b) → w.heap[b]? = E.w.heap[b]?
  mine : ∀ r cs, hget H r = some cs → (r ∈ E.D → ι r = E.ι r) ∧ (r ∉ E.D → (ι r).2.1 ≠ 0 → Mine E (ι r).1)
def Marks (E : Env) (S : Nat → Prop) (w : World) (ds : List Deferred) : Prop :=
  ∃ Ds : List Nat, Ds.Nodup ∧ ds = Ds.map (fun D => ({ target := .collected D, args := #[] } : Deferred)) ∧ ∀ D ∈ Ds, E.w.heap.size ≤ D ∧ S D ∧ w.heap[D]? = some (.deferred (some []))
theorem Marks.nil {E : Env} {S : Nat → Prop} {w : World} : Marks E S w [] := ⟨[], .nil, rfl, fun D h => by cases h⟩
theorem Marks.mono {E : Env} {S S' : Nat → Prop} {w w' : World} (hS : ∀ b, S b → b < w.heap.size → S' b ∧ w'.heap[b]? = w.heap[b]?) {ds : List Deferred} (h : Marks E S w ds) : Marks E S' w' ds := by
  obtain ⟨Ds, h1, h2, h3⟩ := h
  refine ⟨Ds, h1, h2, fun D hD => ?_⟩
  obtain ⟨g1, g2, g3⟩ := h3 D hD
  obtain ⟨k1, k2⟩ := hS D g2 (Array.getElem?_eq_some_iff.1 g3).1
  exact ⟨g1, k1, k2.trans g3⟩
structure Conc (E : Env) (ι : Nat → Nat × Nat × Nat) (σ : St) (a : Act) (w : World) : Prop where
  defers : Marks E (Sx E ι σ.H) w a.defers
  size : a.tmps.size = σ.T.length
  tmp : ∀ i, RV (Sx E ι σ.H) ι w (a.tmps.getD i undef) (σ.T.getD i .any)
  heap : ConcH (Sx E ι σ.H) ι σ.H w
  keep : Keep E ι σ.H w

def ofV : Value → AV
  | .agg cs => .agg (cs.toList.map fun x => .c (.v x))
  | .tuple _ => .any
  | x => .c (.v x)
def gev (g : Nat) : AV := match globV g with
  | some cs => .ep (cs.map .v)
  | none => .any
def St.ev (σ : St) : Operand → AV
  | .tmp t => σ.T.getD t .any
  | .const v => ofV v
  | .global g => gev g
  | .func f => .fn f []

/-! what a program says of its types -/
def szT (P : Program) (t : TypeId) : Option Nat := (P.info? t).map (·.size)
def wideD (d : TypeDesc) : Bool := match d with | .struct _ | .array _ _ => true | _ => false
def aggT (P : Program) (t : TypeId) : Option Bool := (P.underlying t).map wideD
def zeroT (P : Program) (t : TypeId) : Option (List Value) := ((P.info? t).bind (·.zero)).map (·.cells.toList)
def intT (P : Program) (t : TypeId) : Option IntKind := match P.underlying t with | some (.int k) => some k | _ => none
def boolT (P : Program) (t : TypeId) : Bool := match P.underlying t with | some .bool => true | _ => false
def fldT (P : Program) (t k : Nat) : Option (Nat × Nat × Bool) :=
  match P.underlying t with
  | some (.struct fs) => match fs[k]? with
    | some f => match szT P f.type, aggT P f.type with
      | some s, some g => some (f.offset, s, g)
      | _, _ => none
    | none => none
  | _ => none
def arrT (P : Program) (t : Nat) : Option (Nat × Nat × Bool) :=
  match P.underlying t with
  | some (.array n e) => match szT P e, aggT P e with
    | some s, some g => some (n, s, g)
    | _, _ => none
  | _ => none
def slcT (P : Program) (t : Nat) : Option (Nat × Nat × Nat) :=
  match P.underlying t with
  | some (.slice e) => match P.info? e with
    | some i => some (e, i.size, i.bytes)
    | none => none
  | _ => none

section
variable {P : Program} {t : TypeId}
theorem run_szT {s : Nat} (h : szT P t = some s) (w : World) : (sizeOf t).run P w = .ok s w := by
  unfold szT at h
  cases hi : P.info? t with
  | none => simp [hi] at h
  | some i => simp [sizeOf, typeInfo, hi] at h ⊢; exact h
theorem run_aggT {g : Bool} (h : aggT P t = some g) (w : World) : (isAgg t).run P w = .ok g w := by
  unfold aggT at h
  cases hu : P.underlying t with
  | none => simp [hu] at h
  | some d =>
    simp [hu] at h
    subst h
    unfold isAgg
    rw [Sem.run_bind, run_underlying hu w]
    cases d <;> simp [wideD]
theorem run_zeroT {z : List Value} (h : zeroT P t = some z) (w : World) : ∃ v, (zeroValue t).run P w = .ok v w ∧ v.cells.toList = z := by
  unfold zeroT at h
  cases hi : P.info? t with
  | none => simp [hi] at h
  | some i =>
    cases hz : i.zero with
    | none => simp [hi, hz] at h
    | some v => simp [hi, hz] at h; exact ⟨v, by simp [zeroValue, typeInfo, hi, hz], h⟩
end

def St.put (σ : St) (dst : Option Tmp) (x : AV) : St :=
  match dst with
  | some d => ⟨σ.T.set d x, σ.H⟩
  | none => σ

section
variable {E : Env} {ι : Nat → Nat × Nat × Nat} {σ : St} {a : Act} {w : World}
theorem RV.v_inv {S : Nat → Prop} {v x : Value} (h : RV S ι w v (.c (.v x))) : v = x ∧ x.oneCell' = true := by
  cases h with
  | c _ _ h => cases h with | v _ h => exact ⟨rfl, h⟩
theorem rv_const {S : Nat → Prop} (v : Value) (h : v.oneCell' = true) : RV S ι w v (.c (.v v)) := .c _ _ (.v _ h)
theorem rv_ofV {S : Nat → Prop} (v : Value) (h : (match v with | .agg cs => cs.toList.all (·.oneCell') | _ => true) = true) : RV S ι w v (ofV v) := by
  cases v with
  | agg cs =>
    simp only [List.all_eq_true] at h
    have : (Value.agg cs) = .agg cs.toList.toArray := by simp
    rw [this]
    refine .agg _ _ (by simp) (fun u hu => h u hu) fun j u x hu hx => ?_
    simp only [List.getElem?_map, hu, Option.map_some, Option.some.injEq] at hx
    subst hx
    exact rv_const u (h u (List.mem_of_getElem? hu))
  | tuple vs => exact .any _
  | _ => exact rv_const _ rfl
def okConst : Operand → Bool
  | .const (.agg cs) => cs.toList.all (·.oneCell')
  | _ => true
theorem Conc.globS (h : Conc E ι σ a w) {g : Nat} {cs : List Value} (hg : globV g = some cs) : Sx E ι σ.H g ∧ (∀ r ds, hget σ.H r = some ds → (ι r).2.1 ≠ 0 → (ι r).1 ≠ g) ∧ ∀ j u, cs[j]? = some u → w.cell? ⟨g, j, none⟩ = some u := by
  obtain ⟨h1, h2, h3, h4, h5⟩ := E.hG g cs hg
  have hlt : g < E.w.heap.size := by
    obtain ⟨u, rest, hu⟩ := List.exists_cons_of_ne_nil h3
    exact block_lt_of_cell (h5 0 u (by rw [hu]; rfl))
  have hne : ∀ r ds, hget σ.H r = some ds → (ι r).2.1 ≠ 0 → (ι r).1 ≠ g := fun r ds hr hz => by
    obtain ⟨m1, m2⟩ := h.keep.mine r ds hr
    by_cases hm : r ∈ E.D
    · rw [m1 hm] at hz ⊢; exact h2 r hm hz
    · rcases m2 hm hz with h' | ⟨q, hq, hqz, h'⟩
      · intro e; rw [e] at h'; omega
      · rw [← h']; exact h2 q hq hqz
  have hb : w.heap[g]? = E.w.heap[g]? := h.keep.block g hlt h2
  exact ⟨⟨.inl h1, hne⟩, hne, fun j u hu => (World.cell?_of_block (w := E.w) (a := ⟨g, j, none⟩) hb).trans (h5 j u hu)⟩
theorem Conc.gev (h : Conc E ι σ a w) (g : Nat) : RV (Sx E ι σ.H) ι w (.pointer (some ⟨g, 0, none⟩)) (gev g) := by
  unfold Go.Proofs.YtgdjkkapgghdbaaDoor.gev
  cases hg : globV g with
  | none => exact .any _
  | some cs =>
    obtain ⟨_, _, h3, h4, _⟩ := E.hG g cs hg
    obtain ⟨hS, _, hc⟩ := h.globS hg
    refine .ep g 0 cs (cs.map .v) (by simp) h3 hS (fun j u hu => ?_) fun j u x hu hx => ?_
    · rw [Nat.zero_add]; exact hc j u hu
    · rw [List.getElem?_map, hu] at hx; cases hx; exact .v _ (h4 u (List.mem_of_getElem? hu))
theorem Conc.glob (h : Conc E ι σ a w) {H0 : List (Nat × List AV)} {ρ : Nat → Nat} {F : List AV → List AV} (hH : ∀ r cs, hget H0 r = some cs → hget σ.H (ρ r) = some (F cs)) : GlobOK w (Sx E ι σ.H) (fun r => ι (ρ r)) (H0.map (·.1)) := fun g cs hg => by
  obtain ⟨_, _, h3, h4, _⟩ := E.hG g cs hg
  obtain ⟨hS, hne, hc⟩ := h.globS hg
  refine ⟨hS, fun r hr hz => ?_, h3, h4, hc⟩
  have key : ∀ (H : List (Nat × List AV)), r ∈ H.map (·.1) → ∃ ds, hget H r = some ds := fun H => by
    induction H with
    | nil => intro h; cases h
    | cons x H ih =>
      intro h
      obtain ⟨k, ds⟩ := x
      unfold hget
      by_cases e : k = r
      · exact ⟨ds, by rw [if_pos e]⟩
      · rw [if_neg e]
        simp only [List.map_cons, List.mem_cons] at h
        exact ih (h.resolve_left fun h => e h.symm)
  obtain ⟨ds, hds⟩ := key H0 hr
  exact hne (ρ r) _ (hH r ds hds) hz
theorem Conc.ev (h : Conc E ι σ a w) (x : Operand) (hx : okConst x = true) : RV (Sx E ι σ.H) ι w (a.eval x) (σ.ev x) := by
  cases x with
  | tmp t => exact h.tmp t
  | const v => exact rv_ofV v (by cases v <;> first | rfl | exact hx)
  | global g => exact h.gev g
  | func f => exact .fn f [] [] rfl (fun j u x hu => by simp at hu)
theorem Conc.put (h : Conc E ι σ a w) (dst : Option Tmp) {v : Value} {x : AV} (hv : RV (Sx E ι σ.H) ι w v x) : Conc E ι (σ.put dst x) (a.put dst v) w := by
  cases dst with
  | none => exact h
  | some d =>
    refine ⟨h.defers, by simp [Act.put, St.put, h.size], fun i => ?_, h.heap, h.keep⟩
    show RV (Sx E ι σ.H) ι w ((a.tmps.setIfInBounds d v).getD i undef) ((σ.T.set d x).getD i .any)
    have hs := h.size
    by_cases hi : i = d
    · subst hi
      by_cases hlt : i < a.tmps.size
      · have : (a.tmps.setIfInBounds i v).getD i undef = v := by simp [Array.getD, hlt]
        rw [this]
        have : (σ.T.set i x).getD i .any = x := by simp [List.getD, List.getElem?_set, show i < σ.T.length by omega]
        rw [this]; exact hv
      · have : (σ.T.set i x).getD i .any = .any := by rw [List.getD_eq_getElem?_getD, List.getElem?_eq_none (by simp; omega)]; rfl
        rw [this]; exact .any _
    · have e1 : (a.tmps.setIfInBounds d v).getD i undef = a.tmps.getD i undef := by
        simp [Array.getD_eq_getD_getElem?, Array.getElem?_setIfInBounds_ne (Ne.symm hi)]
      have e2 : (σ.T.set d x).getD i .any = σ.T.getD i .any := by simp [List.getD, List.getElem?_set, Ne.symm hi]
      rw [e1, e2]; exact h.tmp i
end

/-! one operation -/
def OpA (P : Program) (o : Oper) (σ : St) (K : St → Prop) : Prop :=
  ∀ (E : Env) (ι : Nat → Nat × Nat × Nat) (a : Act) (w : World), Conc E ι σ a w → ∀ (K' : Act → World → Prop) (Q : Exit → Act → World → Prop), (∀ ι' σ' a' w', K σ' → Conc E ι' σ' a' w' → K' a' w') → o.wp P a w K' Q
theorem OpA.mono {P : Program} {o : Oper} {σ : St} {K K1 : St → Prop} (h : OpA P o σ K) (hk : ∀ σ, K σ → K1 σ) : OpA P o σ K1 :=
  fun E ι a w hc K' Q hK' => h E ι a w hc K' Q fun ι' σ' a' w' hk' => hK' ι' σ' a' w' (hk _ hk')
theorem opA_val {P : Program} {o : Oper} {σ : St} {K : St → Prop} (x : AV) (hK : K (σ.put o.dst x))
    (h : ∀ E ι a w, Conc E ι σ a w → ∃ v, (execOp a.eval o).run P w = .ok (.value v) w ∧ RV (Sx E ι σ.H) ι w v x) : OpA P o σ K := by
  intro E ι a w hc K' Q hK'
  obtain ⟨v, hr, hv⟩ := h E ι a w hc
  unfold Oper.wp
  rw [hr]
  exact hK' _ _ _ _ hK (hc.put o.dst hv)

/-! numbers -/
def bop (op : BinOp) (x y : Value) : Option Value :=
  match x, y with
  | .int k a, .int k' b =>
    match op with
    | .shl => if 0 ≤ b then some (.int k (k.wrap (a * 2 ^ (min b.toNat k.bits)))) else none
    | .shr => if 0 ≤ b then some (.int k (a.fdiv (2 ^ (min b.toNat k.bits)))) else none
    | op =>
      if k = k' then
        match op with
        | .add => some (.int k (k.wrap (a + b)))
        | .sub => some (.int k (k.wrap (a - b)))
        | .mul => some (.int k (k.wrap (a * b)))
        | .eql => some (.bool (a == b))
        | .neq => some (.bool (a != b))
        | .lss => some (.bool (decide (a < b)))
        | .leq => some (.bool (decide (a ≤ b)))
        | .gtr => some (.bool (decide (a > b)))
        | .geq => some (.bool (decide (a ≥ b)))
        | .quo => if b = 0 then none else some (.int k (k.wrap (a.tdiv b)))
        | .rem => if b = 0 then none else some (.int k (a.tmod b))
        | .and => some (.int k (k.wrap (BitVec.ofInt k.bits a &&& BitVec.ofInt k.bits b).toNat))
        | .or => some (.int k (k.wrap (BitVec.ofInt k.bits a ||| BitVec.ofInt k.bits b).toNat))
        | .xor => some (.int k (k.wrap (BitVec.ofInt k.bits a ^^^ BitVec.ofInt k.bits b).toNat))
        | .andNot => some (.int k (k.wrap (BitVec.ofInt k.bits a &&& ~~~ BitVec.ofInt k.bits b).toNat))
        | _ => none
      else none
  | _, _ => none
theorem bop_one {op : BinOp} {x y v : Value} (h : bop op x y = some v) : v.oneCell' = true := by
  unfold bop at h
  split at h
  · split at h
    · split at h <;> simp at h; subst h; rfl
    · split at h <;> simp at h; subst h; rfl
    · split at h
      · split at h <;> (try split at h) <;> simp at h <;> (subst h; rfl)
      · cases h
  · cases h
theorem run_bop {P : Program} {op : BinOp} {x y v : Value} (h : bop op x y = some v) (t : TypeId) (w : World) : (binOp op t x y).run P w = .ok v w := by
  unfold bop at h
  split at h
  · rename_i k a k' b
    split at h
    · split at h
      · rename_i hb
        simp at h; subst h
        simp [binOp, Op.shift, show ¬ b < 0 by omega]
      · cases h
    · split at h
      · rename_i hb
        simp at h; subst h
        simp [binOp, Op.shift, show ¬ b < 0 by omega]
      · cases h
    · rename_i h1 h2
      split at h
      · rename_i hk
        subst hk
        cases op <;> simp at h h1 h2 <;> (try (obtain ⟨hz, h⟩ := h)) <;> (try subst h) <;> simp [binOp, Op.intArith, Op.intCmp, Op.intDiv, Op.intBits, *]
      · cases h
  · cases h
theorem run_eqGuard {P : Program} {op : BinOp} {x y : Value} (hx : x.oneCell' = true) (hn : x ≠ .nilIface) (t : TypeId) (o1 o2 : Operand) (w : World) : (eqGuard op t o1 o2 x y).run P w = .ok () w := by
  unfold eqGuard
  cases op <;> simp <;> (cases x <;> simp_all [Value.oneCell'])

def RVs (S : Nat → Prop) (ι : Nat → Nat × Nat × Nat) (w : World) (us : List Value) (cs : List AV) : Prop :=
  us.length = cs.length ∧ ∀ (j : Nat) (u : Value) (x : AV), us[j]? = some u → cs[j]? = some x → RV S ι w u x ∧ u.oneCell' = true
def AV.cells : AV → Option (List AV)
  | .any => none
  | .tup _ => none
  | .agg cs => some cs
  | x => some [x]
theorem RV.cells {S : Nat → Prop} {ι : Nat → Nat × Nat × Nat} {w : World} {v : Value} {x : AV} {ys : List AV} (h : RV S ι w v x) (hx : x.cells = some ys) : RVs S ι w v.cells.toList ys := by
  have one : ∀ {v : Value} {x : AV}, RV S ι w v x → v.oneCell' = true → RVs S ι w v.cells.toList [x] := fun {v x} h ho => by
    have : v.cells = #[v] := by cases v <;> first | rfl | cases ho
    rw [this]
    refine ⟨rfl, fun j u y hu hy => ?_⟩
    cases j with
    | zero => simp at hu hy; subst hu hy; exact ⟨h, ho⟩
    | succ j => simp at hu
  cases h with
  | any => cases hx
  | tup => cases hx
  | agg us cs hl h1 h => cases hx; exact ⟨by simpa [Value.cells] using hl, fun j u x hu hx => by simp [Value.cells] at hu; exact ⟨h j u x hu hx, h1 u (List.mem_of_getElem? hu)⟩⟩
  | c v p h => cases hx; exact one (.c _ _ h) h.one
  | ptr => cases hx; exact one (.ptr _ _) rfl
  | row r e sz n c h1 h2 h3 h4 h0 => cases hx; exact one (.row r e sz n c h1 h2 h3 h4 h0) rfl
  | rnil A r e sz h => cases hx; exact one (.rnil A r e sz h) rfl
  | cut r e sz lo n c ex h1 h2 h3 hx' h4 h0 => cases hx; exact one (.cut r e sz lo n c ex h1 h2 h3 hx' h4 h0) rfl
  | cnil A r e sz lo ex h => cases hx; exact one (.cnil A r e sz lo ex h) rfl
  | ep b o us cs hl hne hS h4 h5 => cases hx; exact one (.ep b o us cs hl hne hS h4 h5) rfl
  | fn f us cs hl h => cases hx; exact one (.fn f us cs hl h) rfl
theorem RVs.ones {S : Nat → Prop} {ι : Nat → Nat × Nat × Nat} {w : World} {us : List Value} {cs : List AV} (h : RVs S ι w us cs) : ∀ u ∈ us, u.oneCell' = true := fun u hu => by
  obtain ⟨j, hj⟩ := List.mem_iff_getElem?.1 hu
  have hlt := (List.getElem?_eq_some_iff.1 hj).1
  exact (h.2 j u _ hj (List.getElem?_eq_getElem (by rw [← h.1]; exact hlt))).2
theorem RVs.agg {S : Nat → Prop} {ι : Nat → Nat × Nat × Nat} {w : World} {us : List Value} {cs : List AV} (h : RVs S ι w us cs) : RV S ι w (.agg us.toArray) (.agg cs) :=
  .agg us cs h.1 (fun u hu => by
    obtain ⟨j, hj⟩ := List.mem_iff_getElem?.1 hu
    have hlt := (List.getElem?_eq_some_iff.1 hj).1
    exact (h.2 j u _ hj (List.getElem?_eq_getElem (by rw [← h.1]; exact hlt))).2) fun j u x hu hx => (h.2 j u x hu hx).1

def freeH (d : Nat) : List (Nat × List AV) → Bool
  | [] => true
  | (k, cs) :: H => k != d && !AV.refsL d cs && freeH d H
def St.free (σ : St) (d : Nat) : Bool := !AV.refsL d σ.T && freeH d σ.H
theorem freeH_get {d : Nat} : ∀ {H : List (Nat × List AV)}, freeH d H = true → ∀ r cs, hget H r = some cs → r ≠ d ∧ AV.refsL d cs = false
  | [], _, r, cs, h => by cases h
  | (k, ds) :: H, hf, r, cs, h => by
    unfold freeH at hf
    simp only [Bool.and_eq_true, bne_iff_ne, Bool.not_eq_true'] at hf
    unfold hget at h
    split at h
    · rename_i hk; cases h; subst hk; exact ⟨hf.1.1, hf.1.2⟩
    · exact freeH_get hf.2 r cs h
def upd (ι : Nat → Nat × Nat × Nat) (d : Nat) (p : Nat × Nat × Nat) : Nat → Nat × Nat × Nat := fun r => if r = d then p else ι r
theorem upd_ne {ι : Nat → Nat × Nat × Nat} {d r : Nat} {p : Nat × Nat × Nat} (h : r ≠ d) : upd ι d p r = ι r := if_neg h
theorem upd_same {ι : Nat → Nat × Nat × Nat} {d : Nat} {p : Nat × Nat × Nat} : upd ι d p d = p := if_pos rfl

section
variable {E : Env} {ι : Nat → Nat × Nat × Nat} {σ : St} {a : Act} {w : World}
theorem Blk.lt {S : Nat → Prop} {r : Nat} {cs : List AV} (h : Blk S ι w r cs) (hz : (ι r).2.1 ≠ 0) : (ι r).1 < w.heap.size := by
  rcases h with ⟨h0, _⟩ | ⟨cur, hh, _⟩
  · exact absurd h0 hz
  · exact (Array.getElem?_eq_some_iff.1 hh).1
theorem Conc.new (h : Conc E ι σ a w) {d : Nat} (hf : σ.free d = true) (hd : d < 1000) (ty : TypeId) {cur : Array Value} {cs : List AV} (hcs : AV.refsL d cs = false) (hl : cs.length ≤ cur.size)
    (hv : ∀ (j : Nat) (u : Value) (x : AV), cur[j]? = some u → cs[j]? = some x → RV (Sx E ι σ.H) ι w u x ∧ u.oneCell' = true) (hall : ∀ u ∈ cur.toList, u.oneCell' = true) :
    Conc E (upd ι d (w.heap.size, cur.size, ty)) ⟨σ.T, hput σ.H d cs⟩ a (w.alloc (.cells cur ty)) := by
  unfold St.free at hf
  simp only [Bool.and_eq_true, Bool.not_eq_true'] at hf
  obtain ⟨hT, hH⟩ := hf
  have hS : ∀ b, Sx E ι σ.H b → b < w.heap.size → Sx E (upd ι d (w.heap.size, cur.size, ty)) (hput σ.H d cs) b ∧ (w.alloc (.cells cur ty)).heap[b]? = w.heap[b]? := by
    intro b ⟨h1, h2⟩ hb
    refine ⟨⟨h1, fun r ds hr hz => ?_⟩, Below.heap_alloc _ _ _ hb⟩
    rw [hget_put] at hr
    split at hr
    · rename_i e; subst e; rw [upd_same]; simp only; omega
    · rename_i e; rw [upd_ne e] at hz ⊢; exact h2 r ds hr hz
  have hR : ∀ {v : Value} {x : AV}, RV (Sx E ι σ.H) ι w v x → AV.refs d x = false → RV (Sx E (upd ι d (w.heap.size, cur.size, ty)) (hput σ.H d cs)) (upd ι d (w.heap.size, cur.size, ty)) (w.alloc (.cells cur ty)) v x := fun hv hx =>
    hv.mono hS fun r hr => upd_ne fun e => by rw [e, hx] at hr; cases hr
  refine ⟨h.defers.mono hS, h.size, fun i => ?_, ⟨fun r ds hr => ?_, fun r q ds es hr hq hne hz1 hz2 => ?_⟩, ⟨h.keep.os, h.keep.tape, h.keep.output, ?_, fun b hb hbD => ?_, fun r ds hr => ?_⟩⟩
  · refine hR (h.tmp i) ?_
    show AV.refs d (σ.T.getD i .any) = false
    rw [List.getD_eq_getElem?_getD]
    cases hi : σ.T[i]? with
    | none => rfl
    | some x => exact refsL_get hT i x hi
  · have hr' := hr
    rw [show (St.mk σ.T (hput σ.H d cs)).H = hput σ.H d cs from rfl, hget_put] at hr
    split at hr
    · rename_i e; subst e; cases hr
      refine .inr ⟨cur, by rw [upd_same]; exact heap_alloc_new w _, by rw [upd_same], hl, fun j u x hu hx => ?_, hall⟩
      obtain ⟨h1, h2⟩ := hv j u x hu hx
      exact ⟨hR h1 (refsL_get hcs j x hx), h2⟩
    · rename_i e
      rcases h.heap.blk r ds hr with ⟨h0, he⟩ | ⟨cur', hh, hs, hl', hc, hone1'⟩
      · exact .inl ⟨by rw [upd_ne e]; exact h0, he⟩
      · have hlt := (Array.getElem?_eq_some_iff.1 hh).1
        exact .inr ⟨cur', by rw [upd_ne e, Below.heap_alloc _ _ _ hlt]; exact hh, by rw [upd_ne e]; exact hs, hl', fun j u x hu hx => ⟨hR (hc j u x hu hx).1 (refsL_get (freeH_get hH r ds hr).2 j x hx), (hc j u x hu hx).2⟩, hone1'⟩
  · have hr' : hget (hput σ.H d cs) r = some ds := hr
    have hq' : hget (hput σ.H d cs) q = some es := hq
    rw [hget_put] at hr' hq'
    split at hr' <;> split at hq'
    · omega
    · rename_i e1 e2
      subst e1
      rw [upd_same, upd_ne e2]
      rw [upd_ne e2] at hz2
      have := (h.heap.blk q es hq').lt hz2
      simp only; omega
    · rename_i e1 e2
      subst e2
      rw [upd_same, upd_ne e1]
      rw [upd_ne e1] at hz1
      have := (h.heap.blk r ds hr').lt hz1
      simp only; omega
    · rename_i e1 e2
      rw [upd_ne e1, upd_ne e2]
      rw [upd_ne e1] at hz1
      rw [upd_ne e2] at hz2
      exact h.heap.inj r q ds es hr' hq' hne hz1 hz2
  · have := h.keep.size; simp only [World.size_alloc]; omega
  · have := h.keep.size
    rw [Below.heap_alloc _ _ _ (by omega)]; exact h.keep.block b hb hbD
  · have hr' : hget (hput σ.H d cs) r = some ds := hr
    rw [hget_put] at hr'
    split at hr'
    · rename_i e; subst e
      refine ⟨fun hm => by have := E.hD r hm; omega, fun _ _ => ?_⟩
      rw [upd_same]; exact .inl h.keep.size
    · rename_i e
      rw [upd_ne e]; exact h.keep.mine r ds hr'
theorem Conc.set (h : Conc E ι σ a w) {r : Nat} {cs ds : List AV} (hr : hget σ.H r = some cs) {cur new : Array Value} (hh : w.heap[(ι r).1]? = some (.cells cur (ι r).2.2 (0, 0))) (hz : (ι r).2.1 ≠ 0) (hsz : new.size = (ι r).2.1) (hl : ds.length ≤ new.size)
    (hv : ∀ (j : Nat) (u : Value) (x : AV), new[j]? = some u → ds[j]? = some x → RV (Sx E ι σ.H) ι w u x ∧ u.oneCell' = true) (hall : ∀ u ∈ new.toList, u.oneCell' = true) :
    Conc E ι ⟨σ.T, hput σ.H r ds⟩ a (w.setRow (ι r).1 new) := by
  have hsome : ∀ q es, hget (hput σ.H r ds) q = some es → ∃ fs, hget σ.H q = some fs := fun q es hq => by
    rw [hget_put] at hq
    split at hq
    · rename_i e; subst e; exact ⟨cs, hr⟩
    · exact ⟨es, hq⟩
  have hsome' : ∀ q es, hget σ.H q = some es → ∃ fs, hget (hput σ.H r ds) q = some fs := fun q es hq => by
    rw [hget_put]
    split
    · exact ⟨ds, rfl⟩
    · exact ⟨es, hq⟩
  have hS : ∀ b, Sx E ι σ.H b → b < w.heap.size → Sx E ι (hput σ.H r ds) b ∧ (w.setRow (ι r).1 new).heap[b]? = w.heap[b]? := by
    intro b ⟨h1, h2⟩ hb
    refine ⟨⟨h1, fun q es hq hzq => ?_⟩, setRow_other _ _ _ _ (Ne.symm (h2 r cs hr hz))⟩
    obtain ⟨fs, hq'⟩ := hsome q es hq
    exact h2 q fs hq' hzq
  have hR : ∀ {v : Value} {x : AV}, RV (Sx E ι σ.H) ι w v x → RV (Sx E ι (hput σ.H r ds)) ι (w.setRow (ι r).1 new) v x := fun hv => hv.mono hS fun _ _ => rfl
  refine ⟨h.defers.mono hS, h.size, fun i => hR (h.tmp i), ⟨fun q es hq => ?_, fun q q' es fs hq hq' hne hz1 hz2 => ?_⟩, ⟨h.keep.os, h.keep.tape, h.keep.output, by simpa using h.keep.size, fun b hb hbD => ?_, fun q es hq => ?_⟩⟩
  · have hq' : hget (hput σ.H r ds) q = some es := hq
    rw [hget_put] at hq'
    split at hq'
    · rename_i e; subst e; cases hq'
      exact .inr ⟨new, setRow_heap w _ cur new _ (0, 0) hh, hsz, hl, fun j u x hu hx => ⟨hR (hv j u x hu hx).1, (hv j u x hu hx).2⟩, hall⟩
    · rename_i e
      rcases h.heap.blk q es hq' with ⟨h0, he⟩ | ⟨cur', hh', hs', hl', hc', hone1'⟩
      · exact .inl ⟨h0, he⟩
      · by_cases hz0 : (ι q).2.1 = 0
        · -- no cell
          refine .inl ⟨hz0, ?_⟩
          exact List.eq_nil_of_length_eq_zero (by omega)
        · have hne := h.heap.inj q r es cs hq' hr e hz0 hz
          exact .inr ⟨cur', by rw [setRow_other _ _ _ _ hne]; exact hh', hs', hl', fun j u x hu hx => ⟨hR (hc' j u x hu hx).1, (hc' j u x hu hx).2⟩, hone1'⟩
  · obtain ⟨es', h1⟩ := hsome q es hq
    obtain ⟨fs', h2⟩ := hsome q' fs hq'
    exact h.heap.inj q q' es' fs' h1 h2 hne hz1 hz2
  · have hne : b ≠ (ι r).1 := by
      intro e
      obtain ⟨m1, m2⟩ := h.keep.mine r cs hr
      by_cases hm : r ∈ E.D
      · have := hbD r hm (by rw [← m1 hm]; exact hz)
        rw [← m1 hm] at this; exact this e.symm
      · rcases m2 hm hz with h1 | ⟨q, hq, h2, h3⟩
        · omega
        · exact hbD q hq h2 (by rw [h3, e])
    rw [setRow_other _ _ _ _ hne]; exact h.keep.block b hb hbD
  · obtain ⟨fs, h1⟩ := hsome q es hq
    exact h.keep.mine q fs h1
def AV.le (x y : AV) : Prop := ∀ (S : Nat → Prop) (ι : Nat → Nat × Nat × Nat) (w : World) (v : Value), RV S ι w v x → RV S ι w v y
theorem AV.le_any (x : AV) : x.le .any := fun _ _ _ v _ => .any v
theorem AV.le_refl (x : AV) : x.le x := fun _ _ _ _ h => h
theorem AV.le_of {x y : AV} (h : x = y) : x.le y := h ▸ AV.le_refl x
theorem AV.le_nil (ex : Bool) (sz : Nat) : (AV.c (.v (.slice none 0 0))).le (.c (.sl ex sz 0 [])) := fun S ι w v h => by
  cases h with
  | c _ _ h =>
    cases h
    exact .c _ _ (.sl ex sz none 0 0 [] [] (Nat.le_refl _) (Nat.zero_le _) (fun _ => rfl) (fun _ => rfl) rfl (by simp) (fun h => absurd rfl h) fun j u x hu => by cases hu)
structure St.le (σ τ : St) : Prop where
  size : σ.T.length = τ.T.length
  tmp : ∀ i, (σ.T.getD i .any).le (τ.T.getD i .any)
  heap : ∀ r cs, hget τ.H r = some cs → hget σ.H r = some cs
theorem Conc.le {τ : St} (h : Conc E ι σ a w) (hle : σ.le τ) : Conc E ι τ a w := by
  have hS : ∀ b, Sx E ι σ.H b → b < w.heap.size → Sx E ι τ.H b ∧ w.heap[b]? = w.heap[b]? := fun b ⟨h1, h2⟩ _ => ⟨⟨h1, fun r cs hr => h2 r cs (hle.heap r cs hr)⟩, rfl⟩
  have hR : ∀ {v : Value} {x : AV}, RV (Sx E ι σ.H) ι w v x → RV (Sx E ι τ.H) ι w v x := fun hv => hv.mono hS fun _ _ => rfl
  refine ⟨h.defers.mono hS, h.size.trans hle.size, fun i => ?_, ⟨fun r cs hr => ?_, fun r q cs ds hr hq => h.heap.inj r q cs ds (hle.heap r cs hr) (hle.heap q ds hq)⟩, ⟨h.keep.os, h.keep.tape, h.keep.output, h.keep.size, h.keep.block, fun r cs hr => h.keep.mine r cs (hle.heap r cs hr)⟩⟩
  · exact hle.tmp i _ _ _ _ (hR (h.tmp i))
  · rcases h.heap.blk r cs (hle.heap r cs hr) with h0 | ⟨cur, hh, hs, hl, hc, hone1⟩
    · exact .inl h0
    · exact .inr ⟨cur, hh, hs, hl, fun j u x hu hx => ⟨hR (hc j u x hu hx).1, (hc j u x hu hx).2⟩, hone1⟩
end

section
variable {P : Program} {o : Oper} {σ : St} {K : St → Prop}
theorem opA_move {x : Operand} (ho : o.op = .move x ∨ o.op = .assign x) (hx : okConst x = true) (hK : K (σ.put o.dst (σ.ev x))) : OpA P o σ K :=
  opA_val _ hK fun E ι a w hc => ⟨a.eval x, by rcases ho with h | h <;> simp [execOp, h], hc.ev x hx⟩
def pickAV (t : Bool) (A B : AV) : AV :=
  match A, B with
  | .c (.v (.bool x)), .c (.v (.bool y)) => .c (.v (.bool (bif t then x else y)))
  | A, B => bif t then A else B
theorem pickAV_eq (t : Bool) (A B : AV) : pickAV t A B = bif t then A else B := by
  unfold pickAV
  split <;> cases t <;> rfl
theorem opA_pick {c x y : Operand} {t : Bool} (ho : o.op = .pick c x y) (hx : okConst x = true) (hy : okConst y = true) (hc0 : okConst c = true) (hc : σ.ev c = .c (.v (.bool t))) (hK : K (σ.put o.dst (pickAV t (σ.ev x) (σ.ev y)))) : OpA P o σ K :=
  opA_val _ hK fun E ι a w h => by
    have hcv := h.ev c hc0
    rw [hc] at hcv
    obtain ⟨e, _⟩ := hcv.v_inv
    refine ⟨if t then a.eval x else a.eval y, by simp [execOp, ho, e, asBool], ?_⟩
    rw [pickAV_eq]
    cases t
    · exact h.ev y hy
    · exact h.ev x hx
theorem opA_bin {op : BinOp} {t t' : TypeId} {x y : Operand} {u v r : Value} (ho : o.op = .binOp op t x y t') (hx : okConst x = true) (hy : okConst y = true) (h1 : σ.ev x = .c (.v u)) (h2 : σ.ev y = .c (.v v)) (hr : bop op u v = some r)
    (hK : K (σ.put o.dst (.c (.v r)))) : OpA P o σ K :=
  opA_val _ hK fun E ι a w h => by
    have hxv := h.ev x hx
    have hyv := h.ev y hy
    rw [h1] at hxv
    rw [h2] at hyv
    obtain ⟨e1, o1⟩ := hxv.v_inv
    obtain ⟨e2, o2⟩ := hyv.v_inv
    refine ⟨r, ?_, rv_const r (bop_one hr)⟩
    have hn : u ≠ .nilIface := by rintro rfl; simp [bop] at hr
    simp only [execOp, ho, e1, e2, Sem.run_bind, run_eqGuard o1 hn, Result.andThen_ok, run_bop hr, Sem.run_pure]
theorem opA_eqb {t t' : TypeId} {x y : Operand} {u v : Bool} {op : BinOp} (hop : op = .eql ∨ op = .neq) (ho : o.op = .binOp op t x y t') (ht : boolT P t = true) (hx : okConst x = true) (hy : okConst y = true) (h1 : σ.ev x = .c (.v (.bool u))) (h2 : σ.ev y = .c (.v (.bool v)))
    (hK : K (σ.put o.dst (.c (.v (.bool (if op = .eql then u == v else u != v)))))) : OpA P o σ K :=
  opA_val _ hK fun E ι a w h => by
    have hxv := h.ev x hx
    have hyv := h.ev y hy
    rw [h1] at hxv
    rw [h2] at hyv
    obtain ⟨e1, o1⟩ := hxv.v_inv
    obtain ⟨e2, o2⟩ := hyv.v_inv
    refine ⟨_, ?_, rv_const _ rfl⟩
    have hu : P.underlying t = some .bool := by
      unfold boolT at ht
      cases hu : P.underlying t with
      | none => simp [hu] at ht
      | some d => cases d <;> simp [hu] at ht; rfl
    have heq : (Op.equal t (.bool u) (.bool v)).run P w = .ok (u == v) w := by
      unfold Op.equal
      rw [show Op.maxDepth = 9999 + 1 from rfl]
      unfold Op.equalIn
      rw [Sem.run_bind, run_underlying hu, Result.andThen_ok]
      rfl
    have g1 : binOp .eql t (.bool u) (.bool v) = (do pure (.bool (← Op.equal t (.bool u) (.bool v)))) := rfl
    have g2 : binOp .neq t (.bool u) (.bool v) = (do pure (.bool (!(← Op.equal t (.bool u) (.bool v))))) := rfl
    have hn : Value.bool u ≠ .nilIface := by simp
    rcases hop with rfl | rfl
    · simp only [execOp, ho, e1, e2, Sem.run_bind, run_eqGuard o1 hn, Result.andThen_ok, g1, heq, Sem.run_pure, if_true]
    · simp only [execOp, ho, e1, e2, Sem.run_bind, run_eqGuard o1 hn, Result.andThen_ok, g2, heq, Sem.run_pure, reduceCtorEq, if_false]
      rfl
theorem opA_not {t : TypeId} {x : Operand} {b : Bool} (ho : o.op = .unOp .not t x) (hx : okConst x = true) (h1 : σ.ev x = .c (.v (.bool b))) (hK : K (σ.put o.dst (.c (.v (.bool (!b)))))) : OpA P o σ K :=
  opA_val _ hK fun E ι a w h => by
    have hxv := h.ev x hx
    rw [h1] at hxv
    obtain ⟨e1, _⟩ := hxv.v_inv
    exact ⟨.bool (!b), by simp [execOp, ho, e1, Op.unary], rv_const _ rfl⟩
theorem opA_neg {t : TypeId} {x : Operand} {k : IntKind} {n : Int} (ho : o.op = .unOp .neg t x) (hx : okConst x = true) (h1 : σ.ev x = .c (.v (.int k n))) (hK : K (σ.put o.dst (.c (.v (.int k (k.wrap (0 - n))))))) : OpA P o σ K :=
  opA_val _ hK fun E ι a w h => by
    have hxv := h.ev x hx
    rw [h1] at hxv
    obtain ⟨e1, _⟩ := hxv.v_inv
    exact ⟨.int k (k.wrap (0 - n)), by simp [execOp, ho, e1, Op.unary, Op.intArith], rv_const _ rfl⟩
theorem opA_xor {t : TypeId} {x : Operand} {k : IntKind} {n : Int} (ho : o.op = .unOp .xor t x) (hx : okConst x = true) (h1 : σ.ev x = .c (.v (.int k n)))
    (hK : K (σ.put o.dst (.c (.v (.int k (k.wrap (BitVec.ofInt k.bits (if k.signed then -1 else k.max) ^^^ BitVec.ofInt k.bits n).toNat)))))) : OpA P o σ K :=
  opA_val _ hK fun E ι a w h => by
    have hxv := h.ev x hx
    rw [h1] at hxv
    obtain ⟨e1, _⟩ := hxv.v_inv
    exact ⟨_, by simp [execOp, ho, e1, Op.unary, Op.intBits], rv_const _ rfl⟩
theorem opA_conv {s d : TypeId} {x : Operand} {k k' : IntKind} {n : Int} (ho : o.op = .convert s d x) (hd : intT P d = some k') (hs : (P.underlying s).isSome = true) (hx : okConst x = true) (h1 : σ.ev x = .c (.v (.int k n))) (hK : K (σ.put o.dst (.c (.v (.int k' (k'.wrap n)))))) : OpA P o σ K :=
  opA_val _ hK fun E ι a w h => by
    have hxv := h.ev x hx
    rw [h1] at hxv
    obtain ⟨e1, _⟩ := hxv.v_inv
    have hu : P.underlying d = some (.int k') := by
      unfold intT at hd
      cases hu : P.underlying d with
      | none => simp [hu] at hd
      | some d => cases d <;> simp [hu] at hd; subst hd; rfl
    obtain ⟨ds, hds⟩ := Option.isSome_iff_exists.1 hs
    refine ⟨.int k' (k'.wrap n), ?_, rv_const _ rfl⟩
    simp only [execOp, ho, e1, Sem.run_bind, convert, run_underlying hds, run_underlying hu, Result.andThen_ok]
    cases ds <;> simp [Conv.intToInt]
theorem opA_extract {x : Operand} {k : Nat} {xs : List AV} {y : AV} (ho : o.op = .extract x k) (hx : okConst x = true) (h1 : σ.ev x = .tup xs) (hy : xs[k]? = some y) (hK : K (σ.put o.dst y)) : OpA P o σ K :=
  opA_val _ hK fun E ι a w h => by
    have hxv := h.ev x hx
    rw [h1] at hxv
    generalize he : a.eval x = v at hxv
    cases hxv with
    | tup us cs hl hr =>
      have hlt : k < us.length := by have := (List.getElem?_eq_some_iff.1 hy).1; omega
      have hu : us[k]? = some us[k] := List.getElem?_eq_getElem hlt
      exact ⟨us[k], by simp [execOp, ho, he, Instr.extract, hu], hr k _ _ hu hy⟩
theorem opA_nilCheck {x : Operand} {r off : Nat} (ho : o.op = .nilCheck x) (hx : okConst x = true) (h1 : σ.ev x = .ptr r off) (hK : K (σ.put o.dst (.ptr r off))) : OpA P o σ K :=
  opA_val _ hK fun E ι a w h => by
    have hxv := h.ev x hx
    rw [h1] at hxv
    generalize he : a.eval x = v at hxv
    cases hxv with
    | ptr => exact ⟨_, by simp [execOp, ho, he], .ptr _ _⟩
theorem opA_nilCheck_fn {x : Operand} {f : FuncId} {cs : List AV} (ho : o.op = .nilCheck x) (hx : okConst x = true) (h1 : σ.ev x = .fn f cs) (hK : K (σ.put o.dst (.fn f cs))) : OpA P o σ K :=
  opA_val _ hK fun E ι a w h => by
    have hxv := h.ev x hx
    rw [h1] at hxv
    generalize he : a.eval x = v at hxv
    cases hxv with
    | fn f us cs hl hr => exact ⟨_, by simp [execOp, ho, he], .fn f us cs hl hr⟩
theorem opA_makeFunc {f : FuncId} {caps : Array Operand} (ho : o.op = .makeFunc (.func f) #[] caps) (hx : caps.toList.all okConst = true) (hK : K (σ.put o.dst (.fn f (caps.toList.map σ.ev)))) : OpA P o σ K :=
  opA_val _ hK fun E ι a w h => by
    have e : caps.map a.eval = (caps.toList.map a.eval).toArray := by rw [← Array.toList_map]
    refine ⟨.func (.func f) #[] (caps.toList.map a.eval).toArray, by simp [execOp, ho, Instr.makeFunc, e], .fn f _ _ (by simp) fun j u x hu hx' => ?_⟩
    simp only [List.getElem?_map, Option.map_eq_some_iff] at hu hx'
    obtain ⟨y, hy, rfl⟩ := hu
    obtain ⟨y', hy', rfl⟩ := hx'
    rw [hy] at hy'; cases hy'
    exact h.ev y (List.all_eq_true.1 hx y (List.mem_of_getElem? hy))

/-! loads and places -/
theorem opA_load_ptr {t : TypeId} {x : Operand} {r off s : Nat} {cs : List AV} {g : Bool} {y : AV} (ho : o.op = .load t x) (hx : okConst x = true) (h1 : σ.ev x = .ptr r off) (hr : hget σ.H r = some cs) (hs : szT P t = some s) (hg : aggT P t = some g)
    (hy : if g then off + s ≤ cs.length ∧ 0 < s ∧ y = .agg ((cs.drop off).take s) else cs[off]? = some y) (hK : K (σ.put o.dst y)) : OpA P o σ K :=
  opA_val _ hK fun E ι a w h => by
    have hxv := h.ev x hx
    rw [h1] at hxv
    generalize he : a.eval x = v at hxv
    cases hxv with
    | ptr =>
      have hb := h.heap.blk r cs hr
      cases g with
      | true =>
        simp only [if_true] at hy
        obtain ⟨hle, h0, rfl⟩ := hy
        rcases hb with ⟨_, rfl⟩ | ⟨cur, hh, hsz, hl, hc, hone1⟩
        · simp at hle; omega
        · have hlen : ((cur.toList.drop off).take s).length = s := by simp; omega
          have hrun := run_loadCells_list (P := P) w ⟨(ι r).1, off, none⟩ ((cur.toList.drop off).take s) fun j v hv => by
            rw [add_none, World.cell?, hh]
            rw [List.getElem?_take] at hv
            split at hv
            · rw [List.getElem?_drop] at hv; simpa using hv
            · cases hv
          rw [hlen] at hrun
          refine ⟨.agg ((cur.toList.drop off).take s).toArray, by simp [execOp, ho, he, Instr.loadAt, Instr.sureAddr, loadVar, run_aggT hg, run_szT hs, hrun], RVs.agg ⟨by simp; omega, fun j u x hu hx => ?_⟩⟩
          rw [List.getElem?_take] at hu hx
          split at hu
          · rename_i hj
            rw [if_pos hj] at hx
            rw [List.getElem?_drop] at hu hx
            exact hc (off + j) u x (by simpa using hu) hx
          · cases hu
      | false =>
        simp only [Bool.false_eq_true, if_false] at hy
        rcases hb with ⟨_, rfl⟩ | ⟨cur, hh, hsz, hl, hc, hone1⟩
        · simp at hy
        · have hlt : off < cur.size := by have := (List.getElem?_eq_some_iff.1 hy).1; omega
          have hcell : w.cell? ⟨(ι r).1, off, none⟩ = some cur[off] := by simp [World.cell?, hh, hlt]
          exact ⟨cur[off], by simp [execOp, ho, he, Instr.loadAt, Instr.sureAddr, loadVar, run_aggT hg, hcell], (hc off _ _ (Array.getElem?_eq_getElem hlt) hy).1⟩
theorem opA_load_ep {t : TypeId} {x : Operand} {s : Nat} {cs : List PV} {g : Bool} {y : AV} (ho : o.op = .load t x) (hx : okConst x = true) (h1 : σ.ev x = .ep cs) (hs : szT P t = some s) (hg : aggT P t = some g)
    (hy : if g then s ≤ cs.length ∧ y = .agg ((cs.take s).map .c) else cs[0]?.map AV.c = some y) (hK : K (σ.put o.dst y)) : OpA P o σ K :=
  opA_val _ hK fun E ι a w h => by
    have hxv := h.ev x hx
    rw [h1] at hxv
    generalize he : a.eval x = v at hxv
    cases hxv with
    | ep b off us cs hl hne hS h4 h5 =>
      cases g with
      | true =>
        simp only [if_true] at hy
        obtain ⟨hle, rfl⟩ := hy
        have hlen : (us.take s).length = s := by simp; omega
        have hrun := run_loadCells_list (P := P) w ⟨b, off, none⟩ (us.take s) fun j v hv => by
            rw [add_none]
            rw [List.getElem?_take] at hv
            split at hv
            · exact h4 j v hv
            · cases hv
        rw [hlen] at hrun
        refine ⟨.agg (us.take s).toArray, by simp [execOp, ho, he, Instr.loadAt, Instr.sureAddr, loadVar, run_aggT hg, run_szT hs, hrun], RVs.agg ⟨by simp; omega, fun j u x hu hx => ?_⟩⟩
        rw [List.getElem?_map, Option.map_eq_some_iff] at hx
        obtain ⟨z, hz, rfl⟩ := hx
        rw [List.getElem?_take] at hu hz
        split at hu
        · rename_i hj
          rw [if_pos hj] at hz
          exact ⟨.c _ _ (h5 j u z hu hz), (h5 j u z hu hz).one⟩
        · cases hu
      | false =>
        simp only [Bool.false_eq_true, if_false, Option.map_eq_some_iff] at hy
        obtain ⟨z, hz, rfl⟩ := hy
        obtain ⟨u0, rest, rfl⟩ := List.exists_cons_of_ne_nil hne
        have hcell : w.cell? ⟨b, off, none⟩ = some u0 := by simpa using h4 0 u0 rfl
        exact ⟨u0, by simp [execOp, ho, he, Instr.loadAt, Instr.sureAddr, loadVar, run_aggT hg, hcell], .c _ _ (h5 0 u0 z rfl hz)⟩
theorem run_fieldAt {t k ofs s : Nat} {g : Bool} (hf : fldT P t k = some (ofs, s, g)) (h0 : s ≠ 0) (b off : Nat) (w : World) : (Instr.fieldAt t (.pointer (some ⟨b, off, none⟩)) k).run P w = .ok (.pointer (some ⟨b, off + ofs, none⟩)) w := by
  unfold fldT at hf
  split at hf
  · rename_i fs hu
    split at hf
    · rename_i f hk
      split at hf
      · rename_i s' g' h1 h2
        simp only [Option.some.injEq, Prod.mk.injEq] at hf
        obtain ⟨rfl, rfl, rfl⟩ := hf
        simp [Instr.fieldAt, run_underlying hu, hk, Instr.sureAddr, fieldPlace, run_szT h1, h0, add_none]
      · cases hf
    · cases hf
  · cases hf
theorem opA_field_ptr {t k r off ofs s : Nat} {g : Bool} {x : Operand} (ho : o.op = .fieldAddr t x k) (hx : okConst x = true) (h1 : σ.ev x = .ptr r off) (hf : fldT P t k = some (ofs, s, g)) (h0 : s ≠ 0) (hK : K (σ.put o.dst (.ptr r (off + ofs)))) : OpA P o σ K :=
  opA_val _ hK fun E ι a w h => by
    have hxv := h.ev x hx
    rw [h1] at hxv
    generalize he : a.eval x = v at hxv
    cases hxv with
    | ptr => exact ⟨_, by simp [execOp, ho, he, run_fieldAt hf h0], .ptr _ _⟩
theorem opA_field_ep {t k ofs s : Nat} {g : Bool} {x : Operand} {cs : List PV} (ho : o.op = .fieldAddr t x k) (hx : okConst x = true) (h1 : σ.ev x = .ep cs) (hf : fldT P t k = some (ofs, s, g)) (h0 : s ≠ 0) (hl : ofs < cs.length) (hK : K (σ.put o.dst (.ep (cs.drop ofs)))) : OpA P o σ K :=
  opA_val _ hK fun E ι a w h => by
    have hxv := h.ev x hx
    rw [h1] at hxv
    generalize he : a.eval x = v at hxv
    cases hxv with
    | ep b off us cs hl' hne hS h4 h5 =>
      refine ⟨_, by simp [execOp, ho, he, run_fieldAt hf h0], .ep b (off + ofs) (us.drop ofs) _ (by simp; omega) (fun e => ?_) hS (fun j u hu => ?_) fun j u x hu hx => ?_⟩
      · have := congrArg List.length e; simp at this; omega
      · rw [List.getElem?_drop] at hu; rw [Nat.add_assoc]; exact h4 _ u hu
      · rw [List.getElem?_drop] at hu hx; exact h5 _ u x hu hx
theorem opA_field_agg {t k ofs s : Nat} {g : Bool} {x : Operand} {cs : List AV} {y : AV} (ho : o.op = .field t x k) (hx : okConst x = true) (h1 : σ.ev x = .agg cs) (hf : fldT P t k = some (ofs, s, g))
    (hy : if g then y = .agg ((cs.drop ofs).take s) else cs[ofs]? = some y) (hK : K (σ.put o.dst y)) : OpA P o σ K :=
  opA_val _ hK fun E ι a w h => by
    have hxv := h.ev x hx
    rw [h1] at hxv
    generalize he : a.eval x = v at hxv
    cases hxv with
    | agg us cs hl hone hr =>
      unfold fldT at hf
      split at hf
      · rename_i fs hu
        split at hf
        · rename_i f hk
          split at hf
          · rename_i s' g' h1 h2
            simp only [Option.some.injEq, Prod.mk.injEq] at hf
            obtain ⟨rfl, rfl, rfl⟩ := hf
            cases g' with
            | true =>
              simp only [if_true] at hy
              subst hy
              refine ⟨.agg (us.drop f.offset |>.take s').toArray, ?_, RVs.agg ⟨by simp [hl], fun j u x hu' hx' => ?_⟩⟩
              · simp [execOp, ho, he, Instr.field, run_underlying hu, hk, asAgg, part, run_aggT h2, run_szT h1, List.extract_eq_take_drop]
              · rw [List.getElem?_take] at hu' hx'
                split at hu'
                · rename_i hj
                  rw [if_pos hj] at hx'
                  rw [List.getElem?_drop] at hu' hx'
                  exact ⟨hr _ u x hu' hx', hone u (List.mem_of_getElem? hu')⟩
                · cases hu'
            | false =>
              simp only [Bool.false_eq_true, if_false] at hy
              have hlt : f.offset < us.length := by have := (List.getElem?_eq_some_iff.1 hy).1; omega
              have hu' : us[f.offset]? = some us[f.offset] := List.getElem?_eq_getElem hlt
              exact ⟨us[f.offset], by simp [execOp, ho, he, Instr.field, run_underlying hu, hk, asAgg, part, run_aggT h2, hu'], hr _ _ _ hu' hy⟩
          · cases hf
        · cases hf
      · cases hf
end
end Go.Proofs.YtgdjkkapgghdbaaDoor

