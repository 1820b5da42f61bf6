/-
  Functions over abstract states: what a call comes to, from a body's reckoning; and a call of it. No program in sight.
-/
import Derived.Test.YtiggambibcohcaaAvJ
namespace Go.Proofs.Ytiggambibcohcaa
open Go.RowKit
set_option linter.unusedSimpArgs false
set_option linter.unusedVariables false

mutual
def AV.ren (ρ : Nat → Nat) : AV → AV
  | .any => .any
  | .c x => .c x
  | .agg cs => .agg (AV.renL ρ cs)
  | .tup cs => .tup (AV.renL ρ cs)
  | .ptr r off => .ptr (ρ r) off
  | .row r e sz n => .row (ρ r) e sz n
  | .cut r e sz lo n m ex => .cut (ρ r) e sz lo n m ex
  | .ep cs => .ep cs
  | .fn f cs => .fn f (AV.renL ρ cs)
def AV.renL (ρ : Nat → Nat) : List AV → List AV
  | [] => []
  | x :: l => AV.ren ρ x :: AV.renL ρ l
end
@[simp] theorem renL_map (ρ : Nat → Nat) (l : List PV) : AV.renL ρ (l.map .c) = l.map .c := by
  induction l with
  | nil => rfl
  | cons x l ih => simp [AV.renL, AV.ren, ih]
theorem renL_get (ρ : Nat → Nat) : ∀ (l : List AV) (j : Nat), (AV.renL ρ l)[j]? = (l[j]?).map (AV.ren ρ)
  | [], j => by simp [AV.renL]
  | x :: l, 0 => by simp [AV.renL]
  | x :: l, j + 1 => by simpa [AV.renL] using renL_get ρ l j
theorem renL_length (ρ : Nat → Nat) (l : List AV) : (AV.renL ρ l).length = l.length := by
  induction l with
  | nil => rfl
  | cons x l ih => simp [AV.renL, ih]
mutual
/-- all its names are among these -/
def AV.inN (N : List Nat) : AV → Bool
  | .any => true
  | .c _ => true
  | .agg cs => AV.inNL N cs
  | .tup cs => AV.inNL N cs
  | .ptr r _ => N.contains r
  | .row r _ _ _ => N.contains r
  | .cut r _ _ _ _ _ _ => N.contains r
  | .ep _ => true
  | .fn _ cs => AV.inNL N cs
def AV.inNL (N : List Nat) : List AV → Bool
  | [] => true
  | x :: l => AV.inN N x && AV.inNL N l
end
@[simp] theorem inNL_map (N : List Nat) (l : List PV) : AV.inNL N (l.map .c) = true := by
  induction l with
  | nil => rfl
  | cons x l ih => simp [AV.inNL, AV.inN, ih]
theorem inNL_get {N : List Nat} : ∀ {l : List AV}, AV.inNL N l = true → ∀ (j : Nat) (x : AV), l[j]? = some x → AV.inN N x = true
  | [], _, j, x, hx => by simp at hx
  | y :: l, h, j, x, hx => by
    unfold AV.inNL at h
    rw [Bool.and_eq_true] at h
    cases j with
    | zero => simp at hx; subst hx; exact h.1
    | succ j => exact inNL_get h.2 j x (by simpa using hx)
/-- a renamed value, seen by the renaming -/
theorem RV.unren {S : Nat → Prop} {ι : Nat → Nat × Nat × Nat} {ρ : Nat → Nat} {w : World} {v : Value} {y : AV} (h : RV S ι w v y) : ∀ x : AV, y = AV.ren ρ x → RV S (fun r => ι (ρ r)) w v x := by
  induction h with
  | any v => intro x hx; cases x <;> simp only [AV.ren] at hx <;> first | exact .any _ | cases hx
  | c v p hp => intro x hx; cases x <;> simp only [AV.ren] at hx <;> first | (cases hx; exact .c _ _ hp) | cases hx
  | agg us cs hl h1 _ ih =>
    intro x hx
    cases x with
    | agg ds =>
      simp only [AV.ren, AV.agg.injEq] at hx
      subst hx
      rw [renL_length] at hl
      exact .agg us ds hl h1 fun j u x hu hx => ih j u (AV.ren ρ x) hu (by rw [renL_get, hx]; rfl) x rfl
    | _ => simp only [AV.ren] at hx; cases hx
  | tup us cs hl _ ih =>
    intro x hx
    cases x with
    | tup ds =>
      simp only [AV.ren, AV.tup.injEq] at hx
      subst hx
      rw [renL_length] at hl
      exact .tup us ds hl fun j u x hu hx => ih j u (AV.ren ρ x) hu (by rw [renL_get, hx]; rfl) x rfl
    | _ => simp only [AV.ren] at hx; cases hx
  | ptr r off =>
    intro x hx
    cases x with
    | ptr q off' => simp only [AV.ren, AV.ptr.injEq] at hx; obtain ⟨rfl, rfl⟩ := hx; exact .ptr (ι := fun r => ι (ρ r)) q off
    | _ => simp only [AV.ren] at hx; cases hx
  | row r e sz n c h1 h2 h3 h4 h0 =>
    intro x hx
    cases x with
    | row q e' sz' n' => simp only [AV.ren, AV.row.injEq] at hx; obtain ⟨rfl, rfl, rfl, rfl⟩ := hx; exact .row (ι := fun r => ι (ρ r)) q e sz n c h1 h2 h3 h4 h0
    | _ => simp only [AV.ren] at hx; cases hx
  | rnil A r e sz h =>
    intro x hx
    cases x with
    | row q e' sz' n' => simp only [AV.ren, AV.row.injEq] at hx; obtain ⟨rfl, rfl, rfl, rfl⟩ := hx; exact .rnil (ι := fun r => ι (ρ r)) A q e sz h
    | _ => simp only [AV.ren] at hx; cases hx
  | cut r e sz lo n c ex h1 h2 h3 hx' h4 h0 =>
    intro x hx
    cases x with
    | cut q e' sz' lo' n' c' ex' => simp only [AV.ren, AV.cut.injEq] at hx; obtain ⟨rfl, rfl, rfl, rfl, rfl, rfl, rfl⟩ := hx; exact .cut (ι := fun r => ι (ρ r)) q e sz lo n c ex h1 h2 h3 hx' h4 h0
    | _ => simp only [AV.ren] at hx; cases hx
  | cnil A r e sz lo ex h =>
    intro x hx
    cases x with
    | cut q e' sz' lo' n' c' ex' => simp only [AV.ren, AV.cut.injEq] at hx; obtain ⟨rfl, rfl, rfl, rfl, rfl, rfl, rfl⟩ := hx; exact .cnil (ι := fun r => ι (ρ r)) A q e sz lo ex h
    | _ => simp only [AV.ren] at hx; cases hx
  | ep b o us cs hl hne hS h4 h5 => intro x hx; cases x <;> simp only [AV.ren] at hx <;> first | (cases hx; exact .ep b o us _ hl hne hS h4 h5) | cases hx
  | fn f us cs hl _ ih =>
    intro x hx
    cases x with
    | fn f' ds =>
      simp only [AV.ren, AV.fn.injEq] at hx
      obtain ⟨rfl, rfl⟩ := hx
      rw [renL_length] at hl
      exact .fn f us ds hl fun j u x hu hx => ih j u (AV.ren ρ x) hu (by rw [renL_get, hx]; rfl) x rfl
    | _ => simp only [AV.ren] at hx; cases hx
/-- and back, under a naming that goes with it -/
theorem RV.reren {S : Nat → Prop} {κ ι : Nat → Nat × Nat × Nat} {ρ : Nat → Nat} {w : World} {N : List Nat} (hN : ∀ r ∈ N, ι (ρ r) = κ r) {v : Value} {x : AV} (h : RV S κ w v x) : AV.inN N x = true → RV S ι w v (AV.ren ρ x) := by
  induction h with
  | any v => exact fun _ => .any _
  | c v p hp => exact fun _ => .c _ _ hp
  | agg us cs hl h1 _ ih =>
    intro hx
    refine .agg us _ (by rw [renL_length]; exact hl) h1 fun j u y hu hy => ?_
    rw [renL_get, Option.map_eq_some_iff] at hy
    obtain ⟨x, hx', rfl⟩ := hy
    exact ih j u x hu hx' (inNL_get hx j x hx')
  | tup us cs hl _ ih =>
    intro hx
    refine .tup us _ (by rw [renL_length]; exact hl) fun j u y hu hy => ?_
    rw [renL_get, Option.map_eq_some_iff] at hy
    obtain ⟨x, hx', rfl⟩ := hy
    exact ih j u x hu hx' (inNL_get hx j x hx')
  | ptr r off => intro hx; rw [← hN r (by simpa [AV.inN] using hx)]; exact .ptr (ρ r) off
  | row r e sz n c h1 h2 h3 h4 h0 => intro hx; have e' := hN r (by simpa [AV.inN] using hx); rw [← e'] at h3 h4 h0 ⊢; exact .row (ρ r) e sz n c h1 h2 h3 h4 h0
  | rnil A r e sz h => intro hx; have e' := hN r (by simpa [AV.inN] using hx); rw [← e'] at h; exact .rnil A (ρ r) e sz h
  | cut r e sz lo n c ex h1 h2 h3 hx' h4 h0 => intro hx; have e' := hN r (by simpa [AV.inN] using hx); rw [← e'] at h3 hx' h4 h0 ⊢; exact .cut (ρ r) e sz lo n c ex h1 h2 h3 hx' h4 h0
  | cnil A r e sz lo ex h => intro hx; have e' := hN r (by simpa [AV.inN] using hx); rw [← e'] at h; exact .cnil A (ρ r) e sz lo ex h
  | ep b o us cs hl hne hS h4 h5 => exact fun _ => .ep b o us cs hl hne hS h4 h5
  | fn f us cs hl _ ih =>
    intro hx
    refine .fn f us _ (by rw [renL_length]; exact hl) fun j u y hu hy => ?_
    rw [renL_get, Option.map_eq_some_iff] at hy
    obtain ⟨x, hx', rfl⟩ := hy
    exact ih j u x hu hx' (inNL_get hx j x hx')
theorem inN_refs {N : List Nat} : True := trivial

/-! a function -/
def Fn (P : Program) (f : FuncId) (args : List AV) (H0 : List (Nat × List AV)) (res : AV) (H1 : List (Nat × List AV)) : Prop :=
  ∀ (E : Env) (vs : List Value), E.D = H0.map (·.1) → (∀ r cs b, hget H0 r = some cs → (E.ι r).2.1 ≠ 0 → E.S b → (E.ι r).1 ≠ b) → ConcH E.S E.ι H0 E.w → vs.length = args.length → (∀ (j : Nat) (v : Value) (x : AV), vs[j]? = some v → args[j]? = some x → RV E.S E.ι E.w v x) →
    Calls P f vs.toArray E.w fun e w' => ∃ v ι', e = .returned v ∧ RV (Sx E ι' H1) ι' w' v res ∧ ConcH (Sx E ι' H1) ι' H1 w' ∧ Keep E ι' H1 w'
/-- a load, reckoned -/
def ldA (P : Program) (σ : St) (t : TypeId) (x : AV) : Option AV :=
  match x, szT P t, aggT P t with
  | .ptr r off, some s, some true => match hget σ.H r with
    | some cs => if off + s ≤ cs.length ∧ 0 < s then some (.agg ((cs.drop off).take s)) else none
    | none => none
  | .ptr r off, some s, some false => match hget σ.H r with
    | some cs => cs[off]?
    | none => none
  | _, _, _ => none
theorem ldA_run {P : Program} {E : Env} {ι : Nat → Nat × Nat × Nat} {σ : St} {a : Act} {w : World} (h : Conc E ι σ a w) {t : TypeId} {x y : AV} {v : Value} (hv : RV (Sx E ι σ.H) ι w v x) (hy : ldA P σ t x = some y) :
    ∃ ad u, (asAddr v).run P w = .ok ad w ∧ (loadVar t ad).run P w = .ok u w ∧ RV (Sx E ι σ.H) ι w u y := by
  unfold ldA at hy
  split at hy
  · rename_i r off s e1 e2
    split at hy
    · rename_i cs hr
      split at hy
      · rename_i hcond
        obtain ⟨hle, h0⟩ := hcond
        cases hy
        cases hv with
        | ptr =>
          rcases h.heap.blk r cs hr with ⟨_, rfl⟩ | ⟨cur, hh, hsz, hl, hc, hone1⟩
          · simp only [List.length_nil] at hle; omega
          · have hlen : ((cur.toList.drop off).take s).length = s := by simp; omega
            have hrun := run_loadCells_list (P := P) w ⟨(ι r).1, off, none⟩ ((cur.toList.drop off).take s) fun j v hv => by
              rw [add_none, World.cell?, hh]
              rw [List.getElem?_take] at hv
              split at hv
              · rw [List.getElem?_drop] at hv; simpa using hv
              · cases hv
            rw [hlen] at hrun
            refine ⟨_, .agg ((cur.toList.drop off).take s).toArray, rfl, by simp [loadVar, run_aggT e2, run_szT e1, hrun], RVs.agg ⟨by simp; omega, fun j u x hu hx => ?_⟩⟩
            rw [List.getElem?_take] at hu hx
            split at hu
            · rename_i hj
              rw [if_pos hj] at hx
              rw [List.getElem?_drop] at hu hx
              exact hc (off + j) u x (by simpa using hu) hx
            · cases hu
      · cases hy
    · cases hy
  · rename_i r off s e1 e2
    split at hy
    · rename_i cs hr
      cases hv with
      | ptr =>
        rcases h.heap.blk r cs hr with ⟨_, rfl⟩ | ⟨cur, hh, hsz, hl, hc, hone1⟩
        · simp at hy
        · have hlt : off < cur.size := by have := (List.getElem?_eq_some_iff.1 hy).1; omega
          have hcell : w.cell? ⟨(ι r).1, off, none⟩ = some cur[off] := by simp [World.cell?, hh, hlt]
          exact ⟨_, cur[off], rfl, by simp [loadVar, run_aggT e2, hcell], (hc off _ _ (Array.getElem?_eq_getElem hlt) hy).1⟩
    · cases hy
  · cases hy
/-- what a body leaves in its result variables -/
def resL (P : Program) (σ : St) : List ResultVar → Option (List AV)
  | [] => some []
  | .tmp t :: l => (resL P σ l).map (σ.T.getD t .any :: ·)
  | .cell p t :: l => match ldA P σ t (σ.T.getD p .any) with
    | some y => (resL P σ l).map (y :: ·)
    | none => none
def oneOf : List AV → AV
  | [y] => y
  | ys => .tup ys
def resOne (a : Act) : ResultVar → Sem Value
  | .tmp t => pure (a.tmps.getD t undef)
  | .cell p t => do loadVar t (← asAddr (a.tmps.getD p undef))
theorem resL_run {P : Program} {E : Env} {ι : Nat → Nat × Nat × Nat} {σ : St} {a : Act} {w : World} (h : Conc E ι σ a w) : ∀ (rs : List ResultVar) (ys : List AV), resL P σ rs = some ys →
    ∃ us : List Value, (rs.mapM (resOne a)).run P w = .ok us w ∧ us.length = ys.length ∧ ∀ (j : Nat) (u : Value) (x : AV), us[j]? = some u → ys[j]? = some x → RV (Sx E ι σ.H) ι w u x
  | [], ys, hy => by cases hy; exact ⟨[], by simp, rfl, fun j u x hu => by cases hu⟩
  | .tmp t :: rs, ys, hy => by
    simp only [resL, Option.map_eq_some_iff] at hy
    obtain ⟨ys', h1, rfl⟩ := hy
    obtain ⟨us, h2, h3, h4⟩ := resL_run h rs ys' h1
    refine ⟨a.tmps.getD t undef :: us, by simp only [List.mapM_cons, resOne, Sem.run_bind, Sem.run_pure, Result.andThen_ok, h2], by simp [h3], fun j u x hu hx => ?_⟩
    cases j with
    | zero => simp only [List.getElem?_cons_zero, Option.some.injEq] at hu hx; subst hu hx; exact h.tmp t
    | succ j => simp only [List.getElem?_cons_succ] at hu hx; exact h4 j u x hu hx
  | .cell p t :: rs, ys, hy => by
    unfold resL at hy
    split at hy
    · rename_i y hld
      simp only [Option.map_eq_some_iff] at hy
      obtain ⟨ys', h1, rfl⟩ := hy
      obtain ⟨us, h2, h3, h4⟩ := resL_run h rs ys' h1
      obtain ⟨ad, u0, g1, g2, g3⟩ := ldA_run h (h.tmp p) hld
      refine ⟨u0 :: us, by simp only [List.mapM_cons, resOne, Sem.run_bind, Sem.run_pure, Result.andThen_ok, g1, g2, h2], by simp [h3], fun j u x hu hx => ?_⟩
      cases j with
      | zero => simp only [List.getElem?_cons_zero, Option.some.injEq] at hu hx; subst hu hx; exact g3
      | succ j => simp only [List.getElem?_cons_succ] at hu hx; exact h4 j u x hu hx
    · cases hy
def FnEnd (P : Program) (rs : List ResultVar) (res : AV) (H1 : List (Nat × List AV)) (ex : Exit) (σ : St) : Prop :=
  (ex = .normal ∨ ex = .ret) ∧ (∃ r : AV, (resL P σ rs).map oneOf = some r ∧ r.le res) ∧ ∀ r cs, hget H1 r = some cs → hget σ.H r = some cs
theorem Conc.leH {E : Env} {ι : Nat → Nat × Nat × Nat} {σ : St} {a : Act} {w : World} {H1 : List (Nat × List AV)} (h : Conc E ι σ a w) (hH : ∀ r cs, hget H1 r = some cs → hget σ.H r = some cs) : Conc E ι ⟨σ.T, H1⟩ a w :=
  h.le ⟨rfl, fun i => AV.le_refl _, hH⟩
theorem cells_of_cell {w : World} {b o : Nat} {u : Value} (h : w.cell? ⟨b, o, none⟩ = some u) : ∃ cur e z, w.heap[b]? = some (Obj.cells cur e z) := by
  unfold World.cell? at h
  split at h
  · rename_i c e z hh; exact ⟨c, e, z, hh⟩
  · cases h
/-- a value of a world is one of another, if the blocks of cells are as they were -/
theorem RVp.cmono {S S' : Nat → Prop} {w w' : World} (hS : ∀ b cur e z, S b → w.heap[b]? = some (Obj.cells cur e z) → S' b ∧ w'.heap[b]? = w.heap[b]?) {v : Value} {p : PV} (h : RVp S w v p) : RVp S' w' v p := by
  induction h with
  | v x h => exact .v x h
  | sl ex sz A n c us cs h1 h2 h3 hx hl hn h4 _ ih =>
    refine .sl ex sz A n c us cs h1 h2 h3 hx hl hn (fun hne => ?_) ih
    obtain ⟨b, o, hA, hb, hc⟩ := h4 hne
    obtain ⟨u, rest, hu⟩ := List.exists_cons_of_ne_nil hne
    obtain ⟨cur, e, z, hh0⟩ := cells_of_cell (hc 0 u (by rw [hu]; rfl))
    obtain ⟨hS', hh⟩ := hS b cur e z hb hh0
    exact ⟨b, o, hA, hS', fun j u hu => (World.cell?_of_block (w := w) (a := ⟨b, o + j, none⟩) hh).trans (hc j u hu)⟩
theorem RV.cmono {S S' : Nat → Prop} {ι : Nat → Nat × Nat × Nat} {w w' : World} (hS : ∀ b cur e z, S b → w.heap[b]? = some (Obj.cells cur e z) → S' b ∧ w'.heap[b]? = w.heap[b]?) {v : Value} {x : AV} (h : RV S ι w v x) : RV S' ι w' v x := by
  induction h with
  | any x => exact .any x
  | c x p h => exact .c x p (h.cmono hS)
  | agg us cs hl h1 _ ih => exact .agg us cs hl h1 ih
  | tup us cs hl _ ih => exact .tup us cs hl ih
  | ptr r off => exact .ptr r off
  | row r e sz n c h1 h2 h3 h4 h0 => exact .row r e sz n c h1 h2 h3 h4 h0
  | rnil A r e sz h => exact .rnil A r e sz h
  | cut r e sz lo n c ex h1 h2 h3 hx h4 h0 => exact .cut r e sz lo n c ex h1 h2 h3 hx h4 h0
  | cnil A r e sz lo ex h => exact .cnil A r e sz lo ex h
  | ep b o us cs hl hne hb h4 h5 =>
    obtain ⟨u0, rest, hu0⟩ := List.exists_cons_of_ne_nil hne
    obtain ⟨cur, e, z, hh0⟩ := cells_of_cell (h4 0 u0 (by rw [hu0]; rfl))
    obtain ⟨hS', hh⟩ := hS b cur e z hb hh0
    exact .ep b o _ cs hl hne hS' (fun j u hu => (World.cell?_of_block (w := w) (a := ⟨b, o + j, none⟩) hh).trans (h4 j u hu)) (fun j u x hu hx => (h5 j u x hu hx).cmono hS)
  | fn f us cs hl _ ih => exact .fn f us cs hl ih
def oCells : Obj → Bool
  | .cells .. => true
  | _ => false
/-- a block of the call's own that holds no cells is turned -/
theorem Conc.turn {E : Env} {ι : Nat → Nat × Nat × Nat} {σ : St} {a : Act} {w : World} (h : Conc E ι σ a w) {l : Nat} {o : Obj} (o' : Obj) (hl : w.heap[l]? = some o) (hn : oCells o = false) (hE : E.w.heap.size ≤ l) {ds : List Deferred} (hd : Marks E (Sx E ι σ.H) (w.putObj l o') ds) : Conc E ι σ { a with defers := ds } (w.putObj l o') := by
  have hne : ∀ b cur e z, w.heap[b]? = some (Obj.cells cur e z) → (w.putObj l o').heap[b]? = w.heap[b]? := fun b cur e z hb => World.putObj_heap_other fun e => by
    subst e; rw [hb] at hl; cases hl; cases hn
  have hR : ∀ {v : Value} {x : AV}, RV (Sx E ι σ.H) ι w v x → RV (Sx E ι σ.H) ι (w.putObj l o') v x := fun hv => hv.cmono fun b cur e z hS hb => ⟨hS, hne b cur e z hb⟩
  refine ⟨hd, h.size, fun i => hR (h.tmp i), ⟨fun r cs hr => ?_, h.heap.inj⟩, ⟨h.keep.os, h.keep.tape, h.keep.output, by simpa using h.keep.size, fun b hb hbD => ?_, h.keep.mine⟩⟩
  · rcases h.heap.blk r cs hr with h0 | ⟨cur, hh, hs, hlen, hc, hone1⟩
    · exact .inl h0
    · exact .inr ⟨cur, (hne _ _ _ _ hh).trans hh, hs, hlen, fun j u x hu hx => ⟨hR (hc j u x hu hx).1, (hc j u x hu hx).2⟩, hone1⟩
  · rw [World.putObj_heap_other (by omega)]; exact h.keep.block b hb hbD
theorem Conc.bare {E : Env} {ι : Nat → Nat × Nat × Nat} {σ : St} {a : Act} {w : World} (h : Conc E ι σ a w) : Conc E ι σ { a with defers := [] } w :=
  ⟨.nil, h.size, h.tmp, h.heap, h.keep⟩
/-- a frame leaves, mark by mark -/
theorem leaves_marks {P : Program} {fn : Func} {R : Ending → World → Prop} {E : Env} {ι : Nat → Nat × Nat × Nat} {σ : St} {t : Array Value} (hend : ∀ w', Conc E ι σ { tmps := t, defers := [] } w' → ∃ v, (results fn t).run P w' = .ok v w' ∧ R (.returned v) w') :
    ∀ (Ds : List Nat) (w : World), Ds.Nodup → (∀ D ∈ Ds, E.w.heap.size ≤ D ∧ w.heap[D]? = some (.deferred (some []))) → Conc E ι σ { tmps := t, defers := [] } w → LeavesInM Fence.wide 0 P fn t R (Ds.map fun D => ({ target := .collected D, args := #[] } : Deferred)) .returning w
  | [], w, _, _, hc => hend w hc
  | D :: Ds, w, hnd, hD, hc => by
    obtain ⟨h1, h2⟩ := hD D (by simp)
    rw [List.nodup_cons] at hnd
    refine ⟨by simp, .inl ⟨D, _, rfl, run_takeDeferred h2, leaves_marks hend Ds _ hnd.2 (fun D' hD' => ?_) (hc.turn _ h2 rfl h1 .nil)⟩⟩
    obtain ⟨g1, g2⟩ := hD D' (by simp [hD'])
    exact ⟨g1, (World.putObj_heap_other fun (e : D' = D) => hnd.1 (by rw [← e]; exact hD')).trans g2⟩
/-- a code, reckoned where something is known of what the call began with -/
def AWE (p : Env → Prop) (P : Program) (c : Code) (σ : St) (Φ : Exit → St → Prop) : Prop :=
  ∀ (E : Env) (ι : Nat → Nat × Nat × Nat) (a : Act) (w : World), p E → Conc E ι σ a w → c.wp P (fun ex a' w' => ∃ ι' σ', Conc E ι' σ' a' w' ∧ Φ ex σ') a w
def FnW (p : Env → Prop) (P : Program) (f : FuncId) (args : List AV) (H0 : List (Nat × List AV)) (res : AV) (H1 : List (Nat × List AV)) : Prop :=
  ∀ (E : Env) (vs : List Value), p E → E.D = H0.map (·.1) → (∀ r cs b, hget H0 r = some cs → (E.ι r).2.1 ≠ 0 → E.S b → (E.ι r).1 ≠ b) → ConcH E.S E.ι H0 E.w → vs.length = args.length → (∀ (j : Nat) (v : Value) (x : AV), vs[j]? = some v → args[j]? = some x → RV E.S E.ι E.w v x) →
    Calls P f vs.toArray E.w fun e w' => ∃ v ι', e = .returned v ∧ RV (Sx E ι' H1) ι' w' v res ∧ ConcH (Sx E ι' H1) ι' H1 w' ∧ Keep E ι' H1 w'
/-- A FUNCTION's CONTRACT, out of the reckoning of its body -/
theorem fnW_of {p : Env → Prop} {P : Program} {f : FuncId} {fn : Func} {c : Code} {args : List AV} {H0 H1 : List (Nat × List AV)} {res : AV} (hf : P.funcs[f]? = some fn) (hb : fn.body = some c) (hD : H0.all (fun x => decide (1000 ≤ x.1)) = true)
    (h : AWE p P c ⟨args ++ List.replicate (fn.ntmps - args.length) AV.any, H0⟩ (FnEnd P fn.results.toList res H1)) : FnW p P f args H0 res H1 := by
  intro E vs hpE hED hS hH hlen hargs
  refine (callsIn_wide (n := 0)).1 (callsIn_of_wp_marks hf hb trivial (wpIn_wide.2 ?_))
  have hc0 : Conc E E.ι ⟨args ++ List.replicate (fn.ntmps - args.length) AV.any, H0⟩ { tmps := vs.toArray ++ Array.replicate (fn.ntmps - vs.toArray.size) undef, defers := [] } E.w := by
    have hSx : ∀ b, E.S b → b < E.w.heap.size → Sx E E.ι H0 b ∧ E.w.heap[b]? = E.w.heap[b]? := fun b hb _ => ⟨⟨.inl hb, fun r cs hr hz => hS r cs b hr hz hb⟩, rfl⟩
    have hR : ∀ {v : Value} {x : AV}, RV E.S E.ι E.w v x → RV (Sx E E.ι H0) E.ι E.w v x := fun hv => hv.mono hSx fun _ _ => rfl
    refine ⟨.nil, by simp [hlen], fun i => ?_, ⟨fun r cs hr => ?_, hH.inj⟩, ⟨rfl, rfl, rfl, Nat.le_refl _, fun _ _ _ => rfl, fun r cs hr => ⟨fun _ => rfl, fun hn => ?_⟩⟩⟩
    · show RV (Sx E E.ι H0) E.ι E.w ((vs.toArray ++ Array.replicate (fn.ntmps - vs.toArray.size) undef).getD i undef) ((args ++ List.replicate (fn.ntmps - args.length) AV.any).getD i .any)
      by_cases hi : i < args.length
      · have e1 : (vs.toArray ++ Array.replicate (fn.ntmps - vs.toArray.size) undef).getD i undef = vs[i]'(by omega) := by
          rw [Array.getD_eq_getD_getElem?, Array.getElem?_append_left (by simp; omega)]
          simp [show i < vs.length by omega]
        have e2 : (args ++ List.replicate (fn.ntmps - args.length) AV.any).getD i .any = args[i] := by
          rw [List.getD_eq_getElem?_getD, List.getElem?_append_left hi]; simp [hi]
        rw [e1, e2]
        exact hR (hargs i _ _ (List.getElem?_eq_getElem (by omega)) (List.getElem?_eq_getElem hi))
      · have e2 : (args ++ List.replicate (fn.ntmps - args.length) AV.any).getD i .any = .any := by
          rw [List.getD_eq_getElem?_getD, List.getElem?_append_right (by omega), List.getElem?_replicate]
          split <;> rfl
        rw [e2]; exact .any _
    · rcases hH.blk r cs hr with h0 | ⟨cur, hh, hs, hl, hc, hone1⟩
      · exact .inl h0
      · exact .inr ⟨cur, hh, hs, hl, fun j u x hu hx => ⟨hR (hc j u x hu hx).1, (hc j u x hu hx).2⟩, hone1⟩
    · exfalso
      apply hn
      rw [hED]
      have : ∀ (H : List (Nat × List AV)) (r : Nat) (cs : List AV), hget H r = some cs → r ∈ H.map (·.1) := by
        intro H
        induction H with
        | nil => intro r cs h; cases h
        | cons x H ih =>
          obtain ⟨k, ds⟩ := x
          intro r cs h
          unfold hget at h
          split at h
          · rename_i e; simp [e]
          · simp [ih r cs h]
      exact this H0 r cs hr
  refine wp_mono (h E E.ι _ E.w hpE hc0) fun ex a' w' => ?_
  rintro ⟨ι', σ', hc', hex, ⟨r, hres, hler⟩, hH1⟩
  have key : LeavesInM Fence.wide 0 P fn a'.tmps (fun e w' => ∃ v ι', e = Ending.returned v ∧ RV (Sx E ι' H1) ι' w' v res ∧ ConcH (Sx E ι' H1) ι' H1 w' ∧ Keep E ι' H1 w') a'.defers .returning w' := by
    obtain ⟨Ds, hnd, hds, hDs⟩ := hc'.defers
    rw [hds]
    refine leaves_marks (E := E) (ι := ι') (σ := σ') (fun w' hc' => ?_) Ds w' hnd (fun D hD => ⟨(hDs D hD).1, (hDs D hD).2.2⟩) hc'.bare
    rw [Option.map_eq_some_iff] at hres
    obtain ⟨ys, hys, rfl⟩ := hres
    obtain ⟨us, hrun, hul, hrv⟩ := resL_run hc' fn.results.toList ys hys
    have hle := hc'.leH hH1
    have hSx : ∀ b, Sx E ι' σ'.H b → b < w'.heap.size → Sx E ι' H1 b ∧ w'.heap[b]? = w'.heap[b]? := fun b ⟨h1, h2⟩ _ => ⟨⟨h1, fun r cs hr => h2 r cs (hH1 r cs hr)⟩, rfl⟩
    have hR : ∀ {v : Value} {x : AV}, RV (Sx E ι' σ'.H) ι' w' v x → RV (Sx E ι' H1) ι' w' v x := fun hv => hv.mono hSx fun _ _ => rfl
    have hres' : (results fn a'.tmps).run P w' = .ok (if h : us.toArray.size = 1 then us.toArray[0] else .tuple us.toArray) w' := by
      have e0 : results fn a'.tmps = (fn.results.mapM (resOne { tmps := a'.tmps, defers := [] }) >>= fun vs => pure (if h : vs.size = 1 then vs[0] else .tuple vs)) := by
        unfold results
        congr 2
      have e : fn.results = fn.results.toList.toArray := by simp
      rw [e0, Sem.run_bind, e, List.mapM_toArray, Sem.run_map, hrun]
      simp only [Result.andThen_ok, Sem.run_pure]
    refine ⟨_, hres', _, ι', rfl, hler _ _ _ _ ?_, hle.heap, hle.keep⟩
    rcases ys with _ | ⟨y1, _ | ⟨y2, ys⟩⟩
    · obtain rfl := List.eq_nil_of_length_eq_zero hul
      exact .tup [] [] rfl fun j u x hu => by cases hu
    · rcases us with _ | ⟨u1, _ | ⟨u2, us⟩⟩
      · simp at hul
      · simpa [oneOf] using hR (hrv 0 u1 y1 rfl rfl)
      · simp at hul
    · rcases us with _ | ⟨u1, _ | ⟨u2, us⟩⟩
      · simp at hul
      · simp at hul
      · have : ¬ (u1 :: u2 :: us).toArray.size = 1 := by simp
        rw [dif_neg this]
        exact .tup _ _ hul fun j u x hu hx => hR (hrv j u x hu hx)
  rcases hex with rfl | rfl
  · exact key
  · exact key
theorem fn_of {P : Program} {f : FuncId} {fn : Func} {c : Code} {args : List AV} {H0 H1 : List (Nat × List AV)} {res : AV} (hf : P.funcs[f]? = some fn) (hb : fn.body = some c) (hD : H0.all (fun x => decide (1000 ≤ x.1)) = true)
    (h : evC P c ⟨args ++ List.replicate (fn.ntmps - args.length) AV.any, H0⟩ (FnEnd P fn.results.toList res H1)) : Fn P f args H0 res H1 :=
  fun E vs => fnW_of (p := fun _ => True) hf hb hD (fun E ι a w _ hc => evC_sound c _ _ h E ι a w hc) E vs trivial
end Go.Proofs.Ytiggambibcohcaa
