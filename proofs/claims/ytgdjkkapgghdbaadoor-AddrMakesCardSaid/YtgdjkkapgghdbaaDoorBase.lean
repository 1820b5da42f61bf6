/-
  Base: words for memory that all texts of this seat share: a slice that reads as a list of cells (Sl), a slice whose row the call itself made (Ow), what keeps them, and the laws for append, copy and make in these words. No program in sight.
-/
import Derived.WalkKit
import Derived.WalkSpells
import Derived.WalkLawsBesides
import Derived.Below
import Derived.Laws.OwnMore
import Derived.Laws.CopyOwn
import Derived.Laws.Rows
import Derived.Maps.AppendAt
import Derived.Deep.AppendLies
import Derived.Deep.Draws
import Derived.Deep.QuietTactic
import Derived.RegionTactic
import Derived.OwnWalk
import Derived.BigQuiet
import Derived.Lib.Hide
namespace Go.Proofs.YtgdjkkapgghdbaaDoor
open Go.RowKit
set_option linter.unusedVariables false

theorem hide {p : Prop} (h : p) : Hid p := h

theorem add_zero' (a : Addr) : a.add 0 = a := by simp [Addr.add]
theorem add_none (b o k : Nat) : (⟨b, o, none⟩ : Addr).add k = ⟨b, o + k, none⟩ := by
  unfold Addr.add
  by_cases h : k = 0 <;> simp [h]
theorem below_alloc (w : World) (o : Obj) : Below w.heap.size w (w.alloc o) := (Below.refl _ _).alloc (Nat.le_refl _) o
theorem run_enter {P : Program} {f : FuncId} {fn : Func} (hf : P.funcs[f]? = some fn) (hn : (fn.name == "runtime.NumGoroutine") = false) (hb : fn.body.isNone = false) (args : Array Value) (w : World) :
    (callFunc f args).run P w = .ok (.enter f args) w := by
  have h1 : fn.name ≠ "runtime.NumGoroutine" := by simpa using hn
  have h2 : fn.body ≠ none := by intro h; rw [h] at hb; cases hb
  simp [callFunc, hf, h1, h2]

def RetT (w : World) (b : Bool) : Ending → World → Prop := fun e w' => e = .returned (.bool b) ∧ Below w.heap.size w w'

def Sl (w : World) (B sz : Nat) (A : Option Addr) (n c : Nat) (xs : List Value) : Prop :=
  n ≤ c ∧ c ≤ maxLen ∧ (A = none → c = 0) ∧ xs.length = n * sz ∧
  (0 < n → ∃ b o, A = some ⟨b, o, none⟩ ∧ b < B ∧ ∀ j u, xs[j]? = some u → w.cell? ⟨b, o + j, none⟩ = some u)

def Ow (w : World) (base e sz : Nat) (A : Option Addr) (n c : Nat) (xs : List Value) : Prop := w.ownsRow base e sz (.slice A n c) n xs

section
variable {w w' : World} {B B' sz n c base e : Nat} {A : Option Addr} {xs : List Value}
theorem Sl.nil : Sl w B sz none 0 0 [] := ⟨Nat.le_refl _, Nat.zero_le _, fun _ => rfl, by simp, fun h => absurd h (by omega)⟩
theorem Sl.n_le (h : Sl w B sz A n c xs) : n ≤ c := h.1
theorem Sl.c_le (h : Sl w B sz A n c xs) : c ≤ maxLen := h.2.1
theorem Sl.c_le' (h : Sl w B sz A n c xs) : c ≤ 9223372036854775807 := by have := h.2.1; unfold maxLen at this; omega
theorem Sl.len_ (h : Sl w B sz A n c xs) : xs.length = n * sz := h.2.2.2.1
theorem Sl.none_c (h : Sl w B sz none n c xs) : c = 0 := h.2.2.1 rfl
theorem Sl.of_none (h : Sl w B sz none n c xs) : n = 0 ∧ c = 0 ∧ xs = [] := by
  have hc := h.none_c
  have hn := h.1
  have hl := h.len_
  obtain rfl : n = 0 := by omega
  exact ⟨rfl, hc, List.eq_nil_of_length_eq_zero (by simpa using hl)⟩
theorem Sl.cells (h : Sl w B sz A n c xs) (hn : 0 < n) : ∃ b o, A = some ⟨b, o, none⟩ ∧ b < B ∧ ∀ j u, xs[j]? = some u → w.cell? ⟨b, o + j, none⟩ = some u := h.2.2.2.2 hn
theorem Sl.at1 {k : Nat} (h : Sl w B 1 A n c xs) (hk : k < n) : ∃ b o u, A = some ⟨b, o, none⟩ ∧ b < B ∧ b < w.heap.size ∧ xs[k]? = some u ∧ w.cell? ⟨b, o + k, none⟩ = some u := by
  obtain ⟨b, o, e, hb, hc⟩ := h.cells (by omega)
  have hl : k < xs.length := by have := h.len_; omega
  have hcell := hc k _ (List.getElem?_eq_getElem hl)
  exact ⟨b, o, xs[k], e, hb, block_lt_of_cell hcell, List.getElem?_eq_getElem hl, hcell⟩
theorem Sl.mono (h : Sl w B sz A n c xs) (hB : B ≤ B') : Sl w B' sz A n c xs :=
  ⟨h.1, h.2.1, h.2.2.1, h.2.2.2.1, fun hn => by
    obtain ⟨b, o, e, hb, hc⟩ := h.cells hn
    exact ⟨b, o, e, by omega, hc⟩⟩
theorem Sl.keep (h : Sl w B sz A n c xs) (hk : ∀ p : Addr, p.block < B → p.block < w.heap.size → w'.cell? p = w.cell? p) : Sl w' B sz A n c xs :=
  ⟨h.1, h.2.1, h.2.2.1, h.2.2.2.1, fun hn => by
    obtain ⟨b, o, e, hb, hc⟩ := h.cells hn
    refine ⟨b, o, e, hb, fun j u hu => ?_⟩
    have h1 := hc j u hu
    have h2 := block_lt_of_cell h1
    exact (hk _ hb h2).trans h1⟩
theorem Sl.below (h : Sl w B sz A n c xs) (hb : Below w.heap.size w w') : Sl w' B sz A n c xs := h.keep fun _ _ hp => hb.cell hp
theorem Sl.alloc (h : Sl w B sz A n c xs) (o : Obj) : Sl (w.alloc o) B sz A n c xs := h.below (below_alloc w o)
theorem Sl.drewN (h : Sl w B sz A n c xs) (k : Nat) : Sl (w.drewN k) B sz A n c xs := h
theorem Sl.lit (w : World) (cs : List Value) (t n sz : Nat) (hm : n ≤ maxLen) (hl : cs.length = n * sz) : Sl (w.alloc (.cells cs.toArray t)) (w.heap.size + 1) sz (some ⟨w.heap.size, 0, none⟩) n n cs :=
  ⟨Nat.le_refl _, hm, (fun h => by cases h), hl, fun _ => ⟨_, _, rfl, by omega, fun j u hu => by
    rw [World.cell?_alloc_new]
    simpa using hu⟩⟩
theorem Sl.cut (h : Sl w B sz A n c xs) {k m : Nat} (hk : k ≤ m) (hm : m ≤ n) :
    Sl w B sz (if c = k then A else A.map (·.add (k * sz))) (m - k) (c - k) ((xs.drop (k * sz)).take ((m - k) * sz)) := by
  have hnc := h.n_le
  have hcm := h.c_le
  have hl := h.len_
  refine ⟨by omega, by omega, fun hA => ?_, ?_, fun hn => ?_⟩
  · by_cases e : c = k
    · omega
    · rw [if_neg e] at hA
      cases A with
      | none => have := h.none_c; omega
      | some a => cases hA
  · rw [List.length_take, List.length_drop, hl]
    have : (m - k) * sz ≤ n * sz - k * sz := by rw [← Nat.sub_mul]; exact Nat.mul_le_mul_right _ (by omega)
    omega
  · obtain ⟨b, o, rfl, hb, hc⟩ := h.cells (by omega)
    rw [if_neg (by omega)]
    refine ⟨b, o + k * sz, by simp [add_none], hb, fun j u hu => ?_⟩
    rw [Nat.add_assoc]
    refine hc _ u ?_
    rw [List.getElem?_take] at hu
    split at hu
    · rwa [List.getElem?_drop] at hu
    · cases hu
theorem Ow.len_ (h : Ow w base e sz A n c xs) : xs.length = n * sz := h.1
theorem Ow.form (h : Ow w base e sz A n c xs) : (A = none ∧ n = 0 ∧ c = 0 ∧ xs = []) ∨ ∃ g cur, A = some ⟨g, 0, none⟩ ∧ base ≤ g ∧ g < w.heap.size ∧ w.heap[g]? = some (.cells cur e (0, 0)) ∧ n ≤ c ∧ c ≤ maxLen ∧ cur.size = c * sz ∧ cur.toList.take (n * sz) = xs := by
  rcases h.2 with ⟨hv, rfl⟩ | ⟨g, cap, cur, hv, hb, hh, hnc, hcm, hs, ht⟩
  · injection hv with h1 h2 h3
    exact .inl ⟨h1, rfl, h3, List.eq_nil_of_length_eq_zero (by simpa using h.1)⟩
  · injection hv with h1 h2 h3
    subst h3
    refine .inr ⟨g, cur, h1, hb, ?_, hh, hnc, hcm, hs, ht⟩
    rcases Nat.lt_or_ge g w.heap.size with hlt | hge
    · exact hlt
    · rw [Array.getElem?_eq_none hge] at hh; cases hh
theorem Ow.nil : Ow w base e sz none 0 0 [] := World.ownsRow_nil w base e sz
theorem Ow.sl (h : Ow w base e sz A n c xs) : Sl w w.heap.size sz A n c xs := by
  rcases h.form with ⟨rfl, rfl, rfl, rfl⟩ | ⟨g, cur, rfl, _, hlt, hh, hnc, hcm, _, ht⟩
  · exact Sl.nil
  · refine ⟨hnc, hcm, (fun hA => by cases hA), h.1, fun hn => ⟨g, 0, rfl, hlt, fun j u hu => ?_⟩⟩
    rw [cell_of_row w g (0 + j) cur e (0, 0) hh, Nat.zero_add]
    rw [← ht, List.getElem?_take] at hu
    split at hu
    · simpa using hu
    · cases hu
theorem Ow.block (h : Ow w base e sz A n c xs) : ∀ a, A = some a → base ≤ a.block ∧ a.block < w.heap.size := by
  rcases h.form with ⟨rfl, rfl, rfl, rfl⟩ | ⟨g, cur, rfl, hb, hlt, _⟩
  · intro a ha; cases ha
  · intro a ha; injection ha with ha; subst ha; exact ⟨hb, hlt⟩
theorem Ow.below (h : Ow w base e sz A n c xs) (hb : Below w.heap.size w w') : Ow w' base e sz A n c xs := by
  rcases h.form with ⟨rfl, rfl, rfl, rfl⟩ | ⟨g, cur, rfl, hbg, hlt, hh, hnc, hcm, hs, ht⟩
  · exact Ow.nil
  · exact ⟨h.1, .inr ⟨g, c, cur, rfl, hbg, (hb.block g hlt).trans hh, hnc, hcm, hs, ht⟩⟩
theorem Ow.alloc (h : Ow w base e sz A n c xs) (o : Obj) : Ow (w.alloc o) base e sz A n c xs := h.below (below_alloc w o)
theorem Ow.drewN (h : Ow w base e sz A n c xs) (k : Nat) : Ow (w.drewN k) base e sz A n c xs := h
theorem Ow.mono (h : Ow w base e sz A n c xs) {base' : Nat} (hb : base' ≤ base) : Ow w base' e sz A n c xs := by
  rcases h.form with ⟨rfl, rfl, rfl, rfl⟩ | ⟨g, cur, rfl, hbg, hlt, hh, hnc, hcm, hs, ht⟩
  · exact Ow.nil
  · exact ⟨h.1, .inr ⟨g, c, cur, rfl, by omega, hh, hnc, hcm, hs, ht⟩⟩
theorem Ow.at1 {k : Nat} (h : Ow w base e 1 A n c xs) (hk : k < n) : ∃ g u, A = some ⟨g, 0, none⟩ ∧ base ≤ g ∧ g < w.heap.size ∧ xs[k]? = some u ∧ w.cell? ⟨g, k, none⟩ = some u ∧ w.frozen? ⟨g, k, none⟩ = false := by
  obtain ⟨b, o, u, hA, _, hlt, hu, hc⟩ := h.sl.at1 hk
  rcases h.form with ⟨rfl, rfl, rfl, rfl⟩ | ⟨g, cur, rfl, hbg, hlt', hh, _⟩
  · cases hA
  · injection hA with hA
    injection hA with h1 h2
    subst h1 h2
    exact ⟨g, u, rfl, hbg, hlt', hu, by simpa using hc, frozen_of_row w g k cur e hh⟩
theorem Ow.stored {g k : Nat} (h : Ow w base e 1 (some ⟨g, 0, none⟩) n c xs) (u : Value) : Ow (w.setCell ⟨g, k, none⟩ u) base e 1 (some ⟨g, 0, none⟩) n c (xs.set k u) := by
  rcases h.form with ⟨hA, _⟩ | ⟨g', cur, hA, hbg, hlt, hh, hnc, hcm, hs, ht⟩
  · cases hA
  · injection hA with hA
    injection hA with h1
    subst h1
    refine ⟨by simpa using h.1, .inr ⟨g, c, cur.setIfInBounds k u, rfl, hbg, ?_, hnc, hcm, by simpa using hs, ?_⟩⟩
    · simp [World.setCell, Array.getElem?_modify, hh]
    · rw [← ht]
      simp [Array.toList_setIfInBounds, List.take_set]
end

/-! what the elements are -/
def u8s (l : List UInt8) : List Value := l.map fun b => .int .u8 (b.toNat : Int)
theorem u8s_length (l : List UInt8) : (u8s l).length = l.length := by simp [u8s]
theorem u8s_append (l r : List UInt8) : u8s (l ++ r) = u8s l ++ u8s r := by simp [u8s]
theorem u8s_set (l : List UInt8) (k : Nat) (b : UInt8) : (u8s l).set k (.int .u8 (b.toNat : Int)) = u8s (l.set k b) := by simp [u8s, List.map_set]
theorem u8s_get {l : List UInt8} {k : Nat} {u : Value} (h : (u8s l)[k]? = some u) : ∃ b, l[k]? = some b ∧ u = .int .u8 (b.toNat : Int) := by
  simp [u8s] at h
  obtain ⟨b, hb, rfl⟩ := h
  exact ⟨b, hb, rfl⟩
theorem u8s_one (l : List UInt8) : ∀ u ∈ u8s l, u.oneCell' = true := by
  intro u hu
  obtain ⟨_, _, rfl⟩ := List.mem_map.1 hu
  rfl
theorem Sl.len8 {w : World} {B n c : Nat} {A : Option Addr} {l : List UInt8} (h : Sl w B 1 A n c (u8s l)) : l.length = n := by
  have := h.len_; simpa [u8s_length] using this
theorem Ow.len8 {w : World} {B e n c : Nat} {A : Option Addr} {l : List UInt8} (h : Ow w B e 1 A n c (u8s l)) : l.length = n := by
  have := h.len_; simpa [u8s_length] using this
theorem Sl.at8 {w : World} {B n c k : Nat} {A : Option Addr} {l : List UInt8} (h : Sl w B 1 A n c (u8s l)) (hk : k < n) :
    ∃ b o, ∃ x : UInt8, A = some ⟨b, o, none⟩ ∧ b < B ∧ b < w.heap.size ∧ l[k]? = some x ∧ w.cell? ⟨b, o + k, none⟩ = some (.int .u8 (x.toNat : Int)) := by
  obtain ⟨b, o, u, hA, hb, hs, hu, hc⟩ := h.at1 hk
  obtain ⟨x, hx, rfl⟩ := u8s_get hu
  exact ⟨b, o, x, hA, hb, hs, hx, hc⟩
theorem Ow.at8 {w : World} {base e n c k : Nat} {A : Option Addr} {l : List UInt8} (h : Ow w base e 1 A n c (u8s l)) (hk : k < n) :
    ∃ g, ∃ x : UInt8, A = some ⟨g, 0, none⟩ ∧ base ≤ g ∧ g < w.heap.size ∧ l[k]? = some x ∧ w.cell? ⟨g, k, none⟩ = some (.int .u8 (x.toNat : Int)) ∧ w.frozen? ⟨g, k, none⟩ = false := by
  obtain ⟨g, u, hA, hb, hs, hu, hc, hf⟩ := h.at1 hk
  obtain ⟨x, hx, rfl⟩ := u8s_get hu
  exact ⟨g, x, hA, hb, hs, hx, hc, hf⟩

def sts {α : Type} (f : α → List Value) (l : List α) : List Value := l.flatMap f
theorem sts_length {α : Type} (f : α → List Value) (sz : Nat) (hf : ∀ a, (f a).length = sz) (l : List α) : (sts f l).length = l.length * sz := by
  induction l with
  | nil => simp [sts]
  | cons a l ih => unfold sts at ih ⊢; rw [List.flatMap_cons, List.length_append, hf, ih, List.length_cons, Nat.add_mul]; omega
theorem sts_drop {α : Type} (f : α → List Value) (sz : Nat) (hf : ∀ a, (f a).length = sz) (l : List α) (k : Nat) : (sts f l).drop (k * sz) = sts f (l.drop k) := by
  induction k generalizing l with
  | zero => simp
  | succ k ih =>
    cases l with
    | nil => simp [sts]
    | cons a l =>
      have e : sts f (a :: l) = f a ++ sts f l := by simp [sts]
      rw [e, List.drop_succ_cons, ← ih l, List.drop_append, List.drop_of_length_le (by rw [hf, Nat.add_mul]; omega), List.nil_append, hf]
      congr 1
      rw [Nat.add_mul]; omega
theorem sts_get {α : Type} {f : α → List Value} {sz : Nat} (hf : ∀ a, (f a).length = sz) {l : List α} {k : Nat} {a : α} (h : l[k]? = some a) {j : Nat} (hj : j < sz) : (sts f l)[k * sz + j]? = (f a)[j]? := by
  rw [← List.getElem?_drop, sts_drop f sz hf]
  have e : l.drop k = a :: l.drop (k + 1) := by
    obtain ⟨hk, rfl⟩ := List.getElem?_eq_some_iff.1 h
    rw [List.drop_eq_getElem_cons hk]
  rw [e]
  show (f a ++ sts f (l.drop (k + 1)))[j]? = _
  rw [List.getElem?_append_left (by rw [hf]; exact hj)]
section
variable {P : Program} (w : World)
theorem run_app (base : Nat) (t ty e : TypeId) (i : TypeInfo) (z : Value) (size bytes : Nat) (ht : P.underlying t = some (.slice e)) (hi : P.info? e = some i) (hz : i.zero = some z)
    (hsize : i.size = size) (hby : i.bytes = bytes) (hzs : z.cells.size = size) (hsz : 0 < size)
    (A0 : Option Addr) (n c0 : Nat) (xs : List Value) (hown : Ow w base e size A0 n c0 xs)
    (B : Nat) (A : Option Addr) (m c : Nat) (news : List Value) (hr : Sl w B size A m c news) (h1 : ∀ u ∈ news, u.oneCell' = true)
    (hbytes : (n + m) * bytes ≤ 140737488355328) (hby0 : 0 < bytes) (hbase : base ≤ w.heap.size) :
    ∃ A' c' w', (Builtin.append_ #[t, t] ty #[.slice A0 n c0, .slice A m c]).run P w = .ok (.slice A' (n + m) c') w' ∧ Ow w' base e size A' (n + m) c' (xs ++ news) ∧ w.grownBy w' (Value.slice A0 n c0).ownBlock ∧
      ((Value.slice A' (n + m) c').ownBlock = (Value.slice A0 n c0).ownBlock ∨ (Value.slice A' (n + m) c').ownBlock = some w.heap.size) := by
  have h63 : n + m ≤ maxLen := by
    have : (n + m) * 1 ≤ (n + m) * bytes := Nat.mul_le_mul_left _ hby0
    unfold maxLen; omega
  have hform : ∀ {v' : Value} {w' : World}, w'.ownsRow base e size v' (n + m) (xs ++ news) → ∃ A' c', v' = .slice A' (n + m) c' := by
    rintro v' w' ⟨_, ⟨rfl, h0⟩ | ⟨g, cap, cur, rfl, _⟩⟩
    · rw [h0]; exact ⟨none, 0, rfl⟩
    · exact ⟨_, _, rfl⟩
  rcases A with _ | ad
  · obtain ⟨rfl, rfl, rfl⟩ := hr.of_none
    have hrun : (Builtin.append_ #[t, t] ty #[.slice A0 n c0, .slice none 0 0]).run P w = .ok (.slice A0 n c0) w := by
      rcases hown.2 with ⟨hv, rfl⟩ | ⟨g, cap, cur, hv, _, _, hnc, _⟩
      · rw [hv]
        simp [Builtin.append_, run_underlying ht, sizeOf, typeInfo, hi, Builtin.lenOf, Builtin.firstCells]
      · rw [hv]
        simp [Builtin.append_, run_underlying ht, sizeOf, typeInfo, hi, Builtin.lenOf, Builtin.firstCells, hnc, storeCells]
    exact ⟨A0, c0, w, hrun, by simpa using hown, World.grownBy.refl w _, .inl rfl⟩
  · have hcells : ∀ j u, news[j]? = some u → w.cell? (ad.add j) = some u := by
      intro j u hu
      rcases Nat.eq_zero_or_pos m with h0 | h0
      · subst h0
        have hn : news = [] := List.eq_nil_of_length_eq_zero (by simpa using hr.len_)
        subst hn
        simp at hu
      · obtain ⟨b, o, hA, hb, hc⟩ := hr.cells h0
        injection hA with hA
        subst hA
        rw [add_none]; exact hc j u hu
    obtain ⟨v', w', hrun, h2, h3, _, h5⟩ := run_append_own_at (P := P) w base t ty e i z size bytes ht hi hz hsize hby hzs hsz (.slice A0 n c0) n xs hown ad m c news hr.len_
      hcells h1 h63 hbytes hbase
    obtain ⟨A', c', rfl⟩ := hform h2
    exact ⟨A', c', w', hrun, h2, h3, h5⟩
end
theorem grown_below {w w' : World} {base : Nat} {row : Option Nat} (h : w.grownBy w' row) (hB : base ≤ w.heap.size) (hr : ∀ g, row = some g → base ≤ g) : Below base w w' :=
  (Below.refl base w).grown h hB hr
theorem splice_take {α : Type} (L : List α) (k : Nat) (cs : List α) (n : Nat) (h : k + cs.length ≤ n) (hn : n ≤ L.length) : splice (L.take n) k cs = (splice L k cs).take n := by
  apply List.ext_getElem?
  intro i
  unfold splice
  rw [List.getElem?_take]
  simp only [List.getElem?_append, List.getElem?_take, List.getElem?_drop, List.length_take]
  have e1 : min k (min n L.length) = k := by omega
  have e2 : min k L.length = k := by omega
  rw [e1, e2]
  repeat' split
  all_goals first | rfl | omega | (congr 1; omega)

section
variable {P : Program} {w : World} {ops : Array Oper} {rest : List Oper} {o : Oper} {a : Act} {K : Act → World → Prop} {Q : Exit → Act → World → Prop}
theorem wpList_mk (hg : o.guard = none) (l c : Operand) (t : TypeId) (hop : o.op = Op.makeSlice t l c)
    (e : TypeId) (z : Value) (bytes : Nat) (h1 : P.underlying t = some (.slice e)) (hi : (P.info? e).map (fun i => (i.zero, i.size, i.bytes)) = some (some z, 1, bytes)) (hz1 : z.cells = #[z])
    (kl kc : IntKind) (L C : Int) (n : Nat) (hl : a.eval l = .int kl L) (hc : a.eval c = .int kc C) (hL : L = (n : Int)) (hC : C = (n : Int)) (b2 : bytes * n ≤ 281474976710656) (hby0 : 0 < bytes)
    (hK : ∀ w', Ow w' w.heap.size e 1 (some ⟨w.heap.size, 0, none⟩) n n (List.replicate n z) → Below w.heap.size w w' → w.heap.size < w'.heap.size → wpList P ops Q rest (a.put o.dst (.slice (some ⟨w.heap.size, 0, none⟩) n n)) w') :
    wpList P ops Q (o :: rest) a w := by
  obtain ⟨i, h2, h3, h4, h5⟩ := info_parts hi
  have b3 : n ≤ maxLen := by
    have : 1 * n ≤ bytes * n := Nat.mul_le_mul_right _ hby0
    unfold maxLen; omega
  refine wpList_make_full w hg l c t hop w.heap.size e i z 1 h1 h2 h3 h4 kl kc L C n hl hc hL hC (by rw [h5]; exact b2) b3 (Nat.le_refl _) fun w' hown hgr => ?_
  have hown' : Ow w' w.heap.size e 1 (some ⟨w.heap.size, 0, none⟩) n n (List.replicate n z) := by
    unfold Ow
    rw [hz1, Nat.mul_one, toList_madeCells_one] at hown
    exact hown
  refine hK w' hown' (grown_below hgr (Nat.le_refl _) (fun g hg => by cases hg)) ?_
  rcases hown'.form with ⟨hA, _⟩ | ⟨g, cur, hA, _, hlt, _⟩
  · cases hA
  · injection hA with hA
    injection hA with hA
    omega
theorem wpList_cp2 (d s : Operand) (dT sT : TypeId)
    (ho : o.op = .call { callee := .builtin .copy, args := #[d, s], argTypes := #[dT, sT] }) (elem : TypeId) (hu : P.underlying dT = some (.slice elem)) (hsz : (P.info? elem).map (·.size) = some 1) (hgd : o.guard = none)
    (base e : Nat) (A0 : Option Addr) (n c k : Nat) (xs : List Value) (hown : Ow w base e 1 A0 n c xs) (dl : Nat) (hk : k + dl ≤ n) (hbase : base ≤ w.heap.size)
    (dp : Option Addr) (dc : Nat) (hd : a.eval d = .slice dp dl dc) (hdp : dp = if c = k then A0 else A0.map (·.add (k * 1)))
    (B : Nat) (sp : Option Addr) (m sc : Nat) (ys : List Value) (hs : a.eval s = .slice sp m sc) (hr : Sl w B 1 sp m sc ys) (h1 : ∀ v ∈ ys, v.oneCell' = true)
    (h : ∀ w', Ow w' base e 1 A0 n c (splice xs k (ys.take dl)) → Below base w w' → w'.heap.size = w.heap.size → wpList P ops Q rest (a.put o.dst (.int .i64 (min m dl : Nat))) w') :
    wpList P ops Q (o :: rest) a w := by
  have hyl := hr.len_
  rw [Nat.mul_one] at hyl
  rcases Nat.eq_zero_or_pos (min m dl) with h0 | h0
  · refine wpList_copy_nothing hgd d s dT sT ho elem hu hsz dp sp dl dc m sc hd hs (by simpa [Nat.min_def] using h0) ?_
    have e1 : ys.take dl = [] := by
      rw [List.take_eq_nil_iff]
      rcases Nat.le_total m dl with hle | hle
      · right; exact List.eq_nil_of_length_eq_zero (by rw [Nat.min_eq_left hle] at h0; omega)
      · left; rw [Nat.min_eq_right hle] at h0; exact h0
    have := h w (by rw [e1]; simpa [splice] using hown) (Below.refl _ _) rfl
    rw [h0] at this
    simpa [goInt] using this
  · have hkn : k < n := by omega
    have hm : 0 < m := by omega
    rcases hown.form with ⟨_, h2, _⟩ | ⟨g, cur, rfl, hbg, hlt, hh, hnc, hcm, hcs, ht⟩
    · omega
    · obtain ⟨b, o', rfl, hb, hcell⟩ := hr.cells hm
      have hdp' : dp = some ⟨g, k, none⟩ := by rw [hdp, if_neg (by omega)]; simp [add_none]
      have hlen : (ys.take dl).length = Nat.min m dl := by rw [List.length_take, hyl]; exact Nat.min_comm _ _
      rw [Nat.mul_one] at hcs ht
      have hcl : cur.toList.length = c := by simpa using hcs
      have hxs : xs.length = n := by have := hown.len_; omega
      refine wpList_copy_own hgd d s dT sT ho elem hu hsz g k dl dc ⟨b, o', none⟩ m sc (by rw [hd, hdp']) hs cur e hh (ys.take dl) hlen (fun j u hu => ?_) ?_ (fun v hv => h1 v (List.mem_of_mem_take hv)) ?_
      · rw [add_none]
        refine hcell j u ?_
        rw [List.getElem?_take] at hu
        split at hu
        · exact hu
        · cases hu
      · have : Nat.min m dl = min m dl := rfl
        omega
      · have hmin : (ys.take dl).length = min m dl := hlen
        have hset := setRow_heap w g cur (splice cur.toList k (ys.take dl)).toArray e (0, 0) hh
        have hgo : goInt (ys.take dl).length = .int .i64 (min m dl : Nat) := by rw [hmin]; rfl
        rw [hgo]
        refine h _ ⟨?_, .inr ⟨g, c, (splice cur.toList k (ys.take dl)).toArray, rfl, hbg, hset, hnc, hcm, ?_, ?_⟩⟩ (below_setRow (Below.refl _ _) hbg _) (by simp)
        · rw [length_splice _ _ _ (by omega)]; omega
        · have := length_splice cur.toList k (ys.take dl) (by omega)
          simp only [List.size_toArray, this]; omega
        · rw [Nat.mul_one, List.toList_toArray, ← ht]
          exact (splice_take _ k _ n (by omega) (by omega)).symm
theorem wpList_cp (d s : Operand) (dT sT : TypeId)
    (ho : o.op = .call { callee := .builtin .copy, args := #[d, s], argTypes := #[dT, sT] }) (elem : TypeId) (hu : P.underlying dT = some (.slice elem)) (hsz : (P.info? elem).map (·.size) = some 1) (hgd : o.guard = none)
    (base e : Nat) (A0 : Option Addr) (n c k : Nat) (xs : List Value) (hown : Ow w base e 1 A0 n c xs) (hk : k ≤ n) (hbase : base ≤ w.heap.size)
    (dp : Option Addr) (dc : Nat) (hd : a.eval d = .slice dp (n - k) dc) (hdp : dp = if c = k then A0 else A0.map (·.add (k * 1)))
    (B : Nat) (sp : Option Addr) (m sc : Nat) (ys : List Value) (hs : a.eval s = .slice sp m sc) (hr : Sl w B 1 sp m sc ys) (h1 : ∀ v ∈ ys, v.oneCell' = true)
    (h : ∀ w', Ow w' base e 1 A0 n c (splice xs k (ys.take (n - k))) → Below base w w' → w'.heap.size = w.heap.size → wpList P ops Q rest (a.put o.dst (.int .i64 (min m (n - k) : Nat))) w') :
    wpList P ops Q (o :: rest) a w :=
  wpList_cp2 d s dT sT ho elem hu hsz hgd base e A0 n c k xs hown (n - k) (by omega) hbase dp dc hd hdp B sp m sc ys hs hr h1 h
end
def turnsL : List Int := [0, 1, 62, 28, 27, 36, 44, 6, 55, 20, 3, 10, 43, 25, 39, 41, 45, 15, 21, 8, 18, 2, 61, 56, 14]
def numsL : List Int := [1, 32898, 9223372036854808714, 9223372039002292224, 32907, 2147483649, 9223372039002292353, 9223372036854808585, 138, 136, 2147516425, 2147483658, 2147516555, 9223372036854775947, 9223372036854808713, 9223372036854808579, 9223372036854808578, 9223372036854775936, 32778, 9223372039002259466, 9223372039002292353, 9223372036854808704, 2147483649, 9223372039002292232]
def globs : List (Nat × List Value) := [(0, numsL.map fun n => .int .u64 n), (1, turnsL.map fun n => .int .i64 n)]
end Go.Proofs.YtgdjkkapgghdbaaDoor

