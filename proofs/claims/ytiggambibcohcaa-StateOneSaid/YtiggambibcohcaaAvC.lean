/-
  Memory over abstract states: new blocks, loads, stores. No program in sight.
-/
import Derived.Test.YtiggambibcohcaaAvB
namespace Go.Proofs.Ytiggambibcohcaa
open Go.RowKit
set_option linter.unusedSimpArgs false
set_option linter.unusedVariables false

def RVs (S : Nat → Prop) (ι : Nat → Nat × Nat × Nat) (w : World) (us : List Value) (cs : List AV) : Prop :=
  us.length = cs.length ∧ ∀ (j : Nat) (u : Value) (x : AV), us[j]? = some u → cs[j]? = some x → RV S ι w u x ∧ u.oneCell' = true
/-- the cells of a value -/
def AV.cells : AV → Option (List AV)
  | .any => none
  | .tup _ => none
  | .agg cs => some cs
  | x => some [x]
theorem RV.cells {S : Nat → Prop} {ι : Nat → Nat × Nat × Nat} {w : World} {v : Value} {x : AV} {ys : List AV} (h : RV S ι w v x) (hx : x.cells = some ys) : RVs S ι w v.cells.toList ys := by
  have one : ∀ {v : Value} {x : AV}, RV S ι w v x → v.oneCell' = true → RVs S ι w v.cells.toList [x] := fun {v x} h ho => by
    have : v.cells = #[v] := by cases v <;> first | rfl | cases ho
    rw [this]
    refine ⟨rfl, fun j u y hu hy => ?_⟩
    cases j with
    | zero => simp at hu hy; subst hu hy; exact ⟨h, ho⟩
    | succ j => simp at hu
  cases h with
  | any => cases hx
  | tup => cases hx
  | agg us cs hl h1 h => cases hx; exact ⟨by simpa [Value.cells] using hl, fun j u x hu hx => by simp [Value.cells] at hu; exact ⟨h j u x hu hx, h1 u (List.mem_of_getElem? hu)⟩⟩
  | c v p h => cases hx; exact one (.c _ _ h) h.one
  | ptr => cases hx; exact one (.ptr _ _) rfl
  | row r e sz n c h1 h2 h3 h4 h0 => cases hx; exact one (.row r e sz n c h1 h2 h3 h4 h0) rfl
  | rnil A r e sz h => cases hx; exact one (.rnil A r e sz h) rfl
  | cut r e sz lo n c ex h1 h2 h3 hx' h4 h0 => cases hx; exact one (.cut r e sz lo n c ex h1 h2 h3 hx' h4 h0) rfl
  | cnil A r e sz lo ex h => cases hx; exact one (.cnil A r e sz lo ex h) rfl
  | ep b o us cs hl hne hS h4 h5 => cases hx; exact one (.ep b o us cs hl hne hS h4 h5) rfl
  | fn f us cs hl h => cases hx; exact one (.fn f us cs hl h) rfl
theorem RVs.ones {S : Nat → Prop} {ι : Nat → Nat × Nat × Nat} {w : World} {us : List Value} {cs : List AV} (h : RVs S ι w us cs) : ∀ u ∈ us, u.oneCell' = true := fun u hu => by
  obtain ⟨j, hj⟩ := List.mem_iff_getElem?.1 hu
  have hlt := (List.getElem?_eq_some_iff.1 hj).1
  exact (h.2 j u _ hj (List.getElem?_eq_getElem (by rw [← h.1]; exact hlt))).2
theorem RVs.agg {S : Nat → Prop} {ι : Nat → Nat × Nat × Nat} {w : World} {us : List Value} {cs : List AV} (h : RVs S ι w us cs) : RV S ι w (.agg us.toArray) (.agg cs) :=
  .agg us cs h.1 (fun u hu => by
    obtain ⟨j, hj⟩ := List.mem_iff_getElem?.1 hu
    have hlt := (List.getElem?_eq_some_iff.1 hj).1
    exact (h.2 j u _ hj (List.getElem?_eq_getElem (by rw [← h.1]; exact hlt))).2) fun j u x hu hx => (h.2 j u x hu hx).1

def freeH (d : Nat) : List (Nat × List AV) → Bool
  | [] => true
  | (k, cs) :: H => k != d && !AV.refsL d cs && freeH d H
/-- a name that stands nowhere -/
def St.free (σ : St) (d : Nat) : Bool := !AV.refsL d σ.T && freeH d σ.H
theorem freeH_get {d : Nat} : ∀ {H : List (Nat × List AV)}, freeH d H = true → ∀ r cs, hget H r = some cs → r ≠ d ∧ AV.refsL d cs = false
  | [], _, r, cs, h => by cases h
  | (k, ds) :: H, hf, r, cs, h => by
    unfold freeH at hf
    simp only [Bool.and_eq_true, bne_iff_ne, Bool.not_eq_true'] at hf
    unfold hget at h
    split at h
    · rename_i hk; cases h; subst hk; exact ⟨hf.1.1, hf.1.2⟩
    · exact freeH_get hf.2 r cs h
theorem freeH_none {d : Nat} {H : List (Nat × List AV)} (hf : freeH d H = true) : hget H d = none := by
  cases h : hget H d with
  | none => rfl
  | some cs => exact absurd rfl (freeH_get hf d cs h).1
def upd (ι : Nat → Nat × Nat × Nat) (d : Nat) (p : Nat × Nat × Nat) : Nat → Nat × Nat × Nat := fun r => if r = d then p else ι r
theorem upd_ne {ι : Nat → Nat × Nat × Nat} {d r : Nat} {p : Nat × Nat × Nat} (h : r ≠ d) : upd ι d p r = ι r := if_neg h
theorem upd_same {ι : Nat → Nat × Nat × Nat} {d : Nat} {p : Nat × Nat × Nat} : upd ι d p d = p := if_pos rfl

section
variable {E : Env} {ι : Nat → Nat × Nat × Nat} {σ : St} {a : Act} {w : World}
theorem Blk.lt {S : Nat → Prop} {r : Nat} {cs : List AV} (h : Blk S ι w r cs) (hz : (ι r).2.1 ≠ 0) : (ι r).1 < w.heap.size := by
  rcases h with ⟨h0, _⟩ | ⟨cur, hh, _⟩
  · exact absurd h0 hz
  · exact (Array.getElem?_eq_some_iff.1 hh).1
/-- a new block -/
theorem Conc.new (h : Conc E ι σ a w) {d : Nat} (hf : σ.free d = true) (hd : d < 1000) (ty : TypeId) {cur : Array Value} {cs : List AV} (hcs : AV.refsL d cs = false) (hl : cs.length ≤ cur.size)
    (hv : ∀ (j : Nat) (u : Value) (x : AV), cur[j]? = some u → cs[j]? = some x → RV (Sx E ι σ.H) ι w u x ∧ u.oneCell' = true) (hall : ∀ u ∈ cur.toList, u.oneCell' = true) :
    Conc E (upd ι d (w.heap.size, cur.size, ty)) ⟨σ.T, hput σ.H d cs⟩ a (w.alloc (.cells cur ty)) := by
  unfold St.free at hf
  simp only [Bool.and_eq_true, Bool.not_eq_true'] at hf
  obtain ⟨hT, hH⟩ := hf
  have hS : ∀ b, Sx E ι σ.H b → b < w.heap.size → Sx E (upd ι d (w.heap.size, cur.size, ty)) (hput σ.H d cs) b ∧ (w.alloc (.cells cur ty)).heap[b]? = w.heap[b]? := by
    intro b ⟨h1, h2⟩ hb
    refine ⟨⟨h1, fun r ds hr hz => ?_⟩, Below.heap_alloc _ _ _ hb⟩
    rw [hget_put] at hr
    split at hr
    · rename_i e; subst e; rw [upd_same]; simp only; omega
    · rename_i e; rw [upd_ne e] at hz ⊢; exact h2 r ds hr hz
  have hR : ∀ {v : Value} {x : AV}, RV (Sx E ι σ.H) ι w v x → AV.refs d x = false → RV (Sx E (upd ι d (w.heap.size, cur.size, ty)) (hput σ.H d cs)) (upd ι d (w.heap.size, cur.size, ty)) (w.alloc (.cells cur ty)) v x := fun hv hx =>
    hv.mono hS fun r hr => upd_ne fun e => by rw [e, hx] at hr; cases hr
  refine ⟨h.defers.mono hS, h.size, fun i => ?_, ⟨fun r ds hr => ?_, fun r q ds es hr hq hne hz1 hz2 => ?_⟩, ⟨h.keep.os, h.keep.tape, h.keep.output, ?_, fun b hb hbD => ?_, fun r ds hr => ?_⟩⟩
  · refine hR (h.tmp i) ?_
    show AV.refs d (σ.T.getD i .any) = false
    rw [List.getD_eq_getElem?_getD]
    cases hi : σ.T[i]? with
    | none => rfl
    | some x => exact refsL_get hT i x hi
  · have hr' := hr
    rw [show (St.mk σ.T (hput σ.H d cs)).H = hput σ.H d cs from rfl, hget_put] at hr
    split at hr
    · rename_i e; subst e; cases hr
      refine .inr ⟨cur, by rw [upd_same]; exact heap_alloc_new w _, by rw [upd_same], hl, fun j u x hu hx => ?_, hall⟩
      obtain ⟨h1, h2⟩ := hv j u x hu hx
      exact ⟨hR h1 (refsL_get hcs j x hx), h2⟩
    · rename_i e
      rcases h.heap.blk r ds hr with ⟨h0, he⟩ | ⟨cur', hh, hs, hl', hc, hone1'⟩
      · exact .inl ⟨by rw [upd_ne e]; exact h0, he⟩
      · have hlt := (Array.getElem?_eq_some_iff.1 hh).1
        exact .inr ⟨cur', by rw [upd_ne e, Below.heap_alloc _ _ _ hlt]; exact hh, by rw [upd_ne e]; exact hs, hl', fun j u x hu hx => ⟨hR (hc j u x hu hx).1 (refsL_get (freeH_get hH r ds hr).2 j x hx), (hc j u x hu hx).2⟩, hone1'⟩
  · have hr' : hget (hput σ.H d cs) r = some ds := hr
    have hq' : hget (hput σ.H d cs) q = some es := hq
    rw [hget_put] at hr' hq'
    split at hr' <;> split at hq'
    · omega
    · rename_i e1 e2
      subst e1
      rw [upd_same, upd_ne e2]
      rw [upd_ne e2] at hz2
      have := (h.heap.blk q es hq').lt hz2
      simp only; omega
    · rename_i e1 e2
      subst e2
      rw [upd_same, upd_ne e1]
      rw [upd_ne e1] at hz1
      have := (h.heap.blk r ds hr').lt hz1
      simp only; omega
    · rename_i e1 e2
      rw [upd_ne e1, upd_ne e2]
      rw [upd_ne e1] at hz1
      rw [upd_ne e2] at hz2
      exact h.heap.inj r q ds es hr' hq' hne hz1 hz2
  · have := h.keep.size; simp only [World.size_alloc]; omega
  · have := h.keep.size
    rw [Below.heap_alloc _ _ _ (by omega)]; exact h.keep.block b hb hbD
  · have hr' : hget (hput σ.H d cs) r = some ds := hr
    rw [hget_put] at hr'
    split at hr'
    · rename_i e; subst e
      refine ⟨fun hm => by have := E.hD r hm; omega, fun _ _ => ?_⟩
      rw [upd_same]; exact .inl h.keep.size
    · rename_i e
      rw [upd_ne e]; exact h.keep.mine r ds hr'
/-- a store into a block that has a name -/
theorem Conc.set (h : Conc E ι σ a w) {r : Nat} {cs ds : List AV} (hr : hget σ.H r = some cs) {cur new : Array Value} (hh : w.heap[(ι r).1]? = some (.cells cur (ι r).2.2 (0, 0))) (hz : (ι r).2.1 ≠ 0) (hsz : new.size = (ι r).2.1) (hl : ds.length ≤ new.size)
    (hv : ∀ (j : Nat) (u : Value) (x : AV), new[j]? = some u → ds[j]? = some x → RV (Sx E ι σ.H) ι w u x ∧ u.oneCell' = true) (hall : ∀ u ∈ new.toList, u.oneCell' = true) :
    Conc E ι ⟨σ.T, hput σ.H r ds⟩ a (w.setRow (ι r).1 new) := by
  have hsome : ∀ q es, hget (hput σ.H r ds) q = some es → ∃ fs, hget σ.H q = some fs := fun q es hq => by
    rw [hget_put] at hq
    split at hq
    · rename_i e; subst e; exact ⟨cs, hr⟩
    · exact ⟨es, hq⟩
  have hsome' : ∀ q es, hget σ.H q = some es → ∃ fs, hget (hput σ.H r ds) q = some fs := fun q es hq => by
    rw [hget_put]
    split
    · exact ⟨ds, rfl⟩
    · exact ⟨es, hq⟩
  have hS : ∀ b, Sx E ι σ.H b → b < w.heap.size → Sx E ι (hput σ.H r ds) b ∧ (w.setRow (ι r).1 new).heap[b]? = w.heap[b]? := by
    intro b ⟨h1, h2⟩ hb
    refine ⟨⟨h1, fun q es hq hzq => ?_⟩, setRow_other _ _ _ _ (Ne.symm (h2 r cs hr hz))⟩
    obtain ⟨fs, hq'⟩ := hsome q es hq
    exact h2 q fs hq' hzq
  have hR : ∀ {v : Value} {x : AV}, RV (Sx E ι σ.H) ι w v x → RV (Sx E ι (hput σ.H r ds)) ι (w.setRow (ι r).1 new) v x := fun hv => hv.mono hS fun _ _ => rfl
  refine ⟨h.defers.mono hS, h.size, fun i => hR (h.tmp i), ⟨fun q es hq => ?_, fun q q' es fs hq hq' hne hz1 hz2 => ?_⟩, ⟨h.keep.os, h.keep.tape, h.keep.output, by simpa using h.keep.size, fun b hb hbD => ?_, fun q es hq => ?_⟩⟩
  · have hq' : hget (hput σ.H r ds) q = some es := hq
    rw [hget_put] at hq'
    split at hq'
    · rename_i e; subst e; cases hq'
      exact .inr ⟨new, setRow_heap w _ cur new _ (0, 0) hh, hsz, hl, fun j u x hu hx => ⟨hR (hv j u x hu hx).1, (hv j u x hu hx).2⟩, hall⟩
    · rename_i e
      rcases h.heap.blk q es hq' with ⟨h0, he⟩ | ⟨cur', hh', hs', hl', hc', hone1'⟩
      · exact .inl ⟨h0, he⟩
      · by_cases hz0 : (ι q).2.1 = 0
        · -- no cell
          refine .inl ⟨hz0, ?_⟩
          exact List.eq_nil_of_length_eq_zero (by omega)
        · have hne := h.heap.inj q r es cs hq' hr e hz0 hz
          exact .inr ⟨cur', by rw [setRow_other _ _ _ _ hne]; exact hh', hs', hl', fun j u x hu hx => ⟨hR (hc' j u x hu hx).1, (hc' j u x hu hx).2⟩, hone1'⟩
  · obtain ⟨es', h1⟩ := hsome q es hq
    obtain ⟨fs', h2⟩ := hsome q' fs hq'
    exact h.heap.inj q q' es' fs' h1 h2 hne hz1 hz2
  · have hne : b ≠ (ι r).1 := by
      intro e
      obtain ⟨m1, m2⟩ := h.keep.mine r cs hr
      by_cases hm : r ∈ E.D
      · have := hbD r hm (by rw [← m1 hm]; exact hz)
        rw [← m1 hm] at this; exact this e.symm
      · rcases m2 hm hz with h1 | ⟨q, hq, h2, h3⟩
        · omega
        · exact hbD q hq h2 (by rw [h3, e])
    rw [setRow_other _ _ _ _ hne]; exact h.keep.block b hb hbD
  · obtain ⟨fs, h1⟩ := hsome q es hq
    exact h.keep.mine q fs h1
/-- what is known of a state may be forgotten -/
def AV.le (x y : AV) : Prop := ∀ (S : Nat → Prop) (ι : Nat → Nat × Nat × Nat) (w : World) (v : Value), RV S ι w v x → RV S ι w v y
theorem AV.le_any (x : AV) : x.le .any := fun _ _ _ v _ => .any v
theorem AV.le_refl (x : AV) : x.le x := fun _ _ _ _ h => h
theorem AV.le_of {x y : AV} (h : x = y) : x.le y := h ▸ AV.le_refl x
theorem AV.le_nil (ex : Bool) (sz : Nat) : (AV.c (.v (.slice none 0 0))).le (.c (.sl ex sz 0 [])) := fun S ι w v h => by
  cases h with
  | c _ _ h =>
    cases h
    exact .c _ _ (.sl ex sz none 0 0 [] [] (Nat.le_refl _) (Nat.zero_le _) (fun _ => rfl) (fun _ => rfl) rfl (by simp) (fun h => absurd rfl h) fun j u x hu => by cases hu)
theorem AV.le_row0 (r e sz : Nat) : (AV.row r e sz 0).le (.c (.sl false sz 0 [])) := fun S ι w v h => by
  cases h with
  | row _ _ _ _ c h1 h2 => exact .c _ _ (.sl false sz _ 0 c [] [] h1 h2 (fun h => by cases h) (fun h => by cases h) rfl (by simp) (fun h => absurd rfl h) fun j u x hu => by cases hu)
  | rnil A => exact .c _ _ (.sl false sz A 0 0 [] [] (Nat.le_refl _) (Nat.zero_le _) (fun _ => rfl) (fun _ => rfl) rfl (by simp) (fun h => absurd rfl h) fun j u x hu => by cases hu)
theorem AV.le_tup2 {x y x' y' : AV} (h1 : x.le x') (h2 : y.le y') : (AV.tup [x, y]).le (.tup [x', y']) := fun S ι w v h => by
  cases h with
  | tup us _ hl h =>
    refine .tup us _ (by simpa using hl) fun j u z hu hz => ?_
    rcases j with _ | _ | j
    · simp at hz; subst hz; exact h1 S ι w u (h 0 u x hu rfl)
    · simp at hz; subst hz; exact h2 S ι w u (h 1 u y hu rfl)
    · simp at hz
structure St.le (σ τ : St) : Prop where
  size : σ.T.length = τ.T.length
  tmp : ∀ i, (σ.T.getD i .any).le (τ.T.getD i .any)
  heap : ∀ r cs, hget τ.H r = some cs → hget σ.H r = some cs
theorem Conc.le {τ : St} (h : Conc E ι σ a w) (hle : σ.le τ) : Conc E ι τ a w := by
  have hS : ∀ b, Sx E ι σ.H b → b < w.heap.size → Sx E ι τ.H b ∧ w.heap[b]? = w.heap[b]? := fun b ⟨h1, h2⟩ _ => ⟨⟨h1, fun r cs hr => h2 r cs (hle.heap r cs hr)⟩, rfl⟩
  have hR : ∀ {v : Value} {x : AV}, RV (Sx E ι σ.H) ι w v x → RV (Sx E ι τ.H) ι w v x := fun hv => hv.mono hS fun _ _ => rfl
  refine ⟨h.defers.mono hS, h.size.trans hle.size, fun i => ?_, ⟨fun r cs hr => ?_, fun r q cs ds hr hq => h.heap.inj r q cs ds (hle.heap r cs hr) (hle.heap q ds hq)⟩, ⟨h.keep.os, h.keep.tape, h.keep.output, h.keep.size, h.keep.block, fun r cs hr => h.keep.mine r cs (hle.heap r cs hr)⟩⟩
  · exact hle.tmp i _ _ _ _ (hR (h.tmp i))
  · rcases h.heap.blk r cs (hle.heap r cs hr) with h0 | ⟨cur, hh, hs, hl, hc, hone1⟩
    · exact .inl h0
    · exact .inr ⟨cur, hh, hs, hl, fun j u x hu hx => ⟨hR (hc j u x hu hx).1, (hc j u x hu hx).2⟩, hone1⟩
end
end Go.Proofs.Ytiggambibcohcaa
