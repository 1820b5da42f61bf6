/-
  Calls that are lent blocks to read; loops of a known number of rounds. No program in sight.
-/
import Derived.Test.YtiggambibcohcaaAvR
import Derived.LoopN
namespace Go.Proofs.Ytiggambibcohcaa
open Go.RowKit
set_option linter.unusedSimpArgs false
set_option linter.unusedVariables false

/-- so many rounds of a loop, at most -/
def evR (P : Program) (c : Code) (Φ : Exit → St → Prop) : Nat → St → Prop
  | 0, _ => False
  | n + 1, σ => AW P c σ fun ex σ' => match ex with | .normal => evR P c Φ n σ' | ex => Φ ex σ'
theorem evR_rounds {P : Program} {c : Code} {Φ : Exit → St → Prop} {E : Env} : ∀ (n : Nat) (σ : St) (ι : Nat → Nat × Nat × Nat) (a : Act) (w : World), evR P c Φ n σ → Conc E ι σ a w →
    Code.rounds P c (fun ex a' w' => ∃ ι' σ', Conc E ι' σ' a' w' ∧ Φ ex σ') n a w
  | 0, σ, ι, a, w, h, _ => h.elim
  | n + 1, σ, ι, a, w, h, hc => by
    rw [rounds_succ]
    refine wp_mono (h E ι a w hc) fun ex a' w' => ?_
    rintro ⟨ι', σ', hc', hq⟩
    cases ex with
    | normal => exact evR_rounds n σ' ι' a' w' hq hc'
    | _ => exact ⟨ι', σ', hc', hq⟩
theorem evC_rounds {P : Program} {c : Code} {σ : St} {Φ : Exit → St → Prop} (n : Nat) (h : evR P c Φ n σ) : evC P (.loop c) σ Φ :=
  fun E ι a w hc => wp_loop_rounds n (evR_rounds n σ ι a w h hc)
theorem evR_succ {P : Program} {c : Code} {σ : St} {Φ : Exit → St → Prop} {n : Nat} (h : ∀ Ψ : Exit → St → Prop, (∀ σ', evR P c Φ n σ' → Ψ .normal σ') → (∀ ex σ', ex ≠ .normal → Φ ex σ' → Ψ ex σ') → evC P c σ Ψ) : evR P c Φ (n + 1) σ :=
  evC_sound c σ _ (h _ (fun _ h => h) fun ex σ' hne h => by cases ex <;> first | exact absurd rfl hne | exact h)
theorem evR_weak {P : Program} {c : Code} {σ τ : St} {Φ : Exit → St → Prop} {n : Nat} (hle : σ.le τ) (h : evR P c Φ n τ) : evR P c Φ n σ := by
  cases n with
  | zero => exact h
  | succ n => exact AW.weak hle h

/-! lent blocks -/
def unC : List AV → Option (List PV)
  | [] => some []
  | .c x :: l => (unC l).map (x :: ·)
  | _ => none
@[simp] theorem unC_map (l : List PV) : unC (l.map .c) = some l := by
  induction l with
  | nil => rfl
  | cons x l ih => simp [unC, ih]
theorem unC_eq : ∀ {cs : List AV} {l : List PV}, unC cs = some l → cs = l.map .c
  | [], l, h => by cases h; rfl
  | .c x :: cs, l, h => by
    simp only [unC, Option.map_eq_some_iff] at h
    obtain ⟨l', h', rfl⟩ := h
    rw [unC_eq h']; rfl
  | .any :: _, _, h => by cases h
  | .agg _ :: _, _, h => by cases h
  | .tup _ :: _, _, h => by cases h
  | .ptr _ _ :: _, _, h => by cases h
  | .row _ _ _ _ :: _, _, h => by cases h
  | .cut _ _ _ _ _ _ _ :: _, _, h => by cases h
  | .ep _ :: _, _, h => by cases h
  | .fn _ _ :: _, _, h => by cases h
def viewRow (H : List (Nat × List AV)) (r e sz n : Nat) : AV :=
  match hget H r with
  | some cs => match unC cs with
    | some l => if l.length = n * sz then .c (.sl false sz n l) else .row r e sz n
    | none => .row r e sz n
  | none => .row r e sz n
def viewCut (H : List (Nat × List AV)) (r e sz lo n c : Nat) (ex : Bool) : AV :=
  match hget H r with
  | some cs => match unC ((cs.drop (lo * sz)).take (n * sz)) with
    | some l => if l.length = n * sz then .c (.sl false sz n l) else .cut r e sz lo n c ex
    | none => .cut r e sz lo n c ex
  | none => .cut r e sz lo n c ex
mutual
def AV.view (H : List (Nat × List AV)) : AV → AV
  | .any => .any
  | .c x => .c x
  | .agg cs => .agg (AV.viewL H cs)
  | .tup cs => .tup (AV.viewL H cs)
  | .ptr r off => .ptr r off
  | .row r e sz n => viewRow H r e sz n
  | .cut r e sz lo n m ex => viewCut H r e sz lo n m ex
  | .ep cs => .ep cs
  | .fn f cs => .fn f (AV.viewL H cs)
def AV.viewL (H : List (Nat × List AV)) : List AV → List AV
  | [] => []
  | x :: l => AV.view H x :: AV.viewL H l
end
theorem viewL_get (H : List (Nat × List AV)) : ∀ (l : List AV) (j : Nat), (AV.viewL H l)[j]? = (l[j]?).map (AV.view H)
  | [], j => by simp [AV.viewL]
  | x :: l, 0 => by simp [AV.viewL]
  | x :: l, j + 1 => by simpa [AV.viewL] using viewL_get H l j
theorem viewL_length (H : List (Nat × List AV)) (l : List AV) : (AV.viewL H l).length = l.length := by
  induction l with
  | nil => rfl
  | cons x l ih => simp [AV.viewL, ih]
@[simp] theorem viewL_map (H : List (Nat × List AV)) (l : List PV) : AV.viewL H (l.map .c) = l.map .c := by
  induction l with
  | nil => rfl
  | cons x l ih => simp [AV.viewL, AV.view, ih]
theorem RV.view {S : Nat → Prop} {ι : Nat → Nat × Nat × Nat} {w : World} {H : List (Nat × List AV)} (hH : ∀ r cs, hget H r = some cs → Blk S ι w r cs) {v : Value} {x : AV} (h : RV S ι w v x) : RV (fun _ => True) ι w v (AV.view H x) := by
  have hS2 : ∀ b, S b → b < w.heap.size → (fun _ : Nat => True) b ∧ w.heap[b]? = w.heap[b]? := fun b h1 h2 => ⟨trivial, rfl⟩
  induction h with
  | any v => exact .any _
  | c v p hp => exact .c _ _ (hp.mono hS2)
  | agg us cs hl h1 _ ih =>
    refine .agg us _ (by rw [viewL_length]; exact hl) h1 fun j u y hu hy => ?_
    rw [viewL_get, Option.map_eq_some_iff] at hy
    obtain ⟨x, hx', rfl⟩ := hy
    exact ih j u x hu hx'
  | tup us cs hl _ ih =>
    refine .tup us _ (by rw [viewL_length]; exact hl) fun j u y hu hy => ?_
    rw [viewL_get, Option.map_eq_some_iff] at hy
    obtain ⟨x, hx', rfl⟩ := hy
    exact ih j u x hu hx'
  | ptr q off => exact .ptr q off
  | row q e sz n c h1 h2 h3 h4 h0 =>
    show RV _ ι w _ (viewRow H q e sz n)
    have plain : RV (fun _ => True) ι w (.slice (some ⟨(ι q).1, 0, none⟩) n c) (.row q e sz n) := .row q e sz n c h1 h2 h3 h4 h0
    unfold viewRow
    split
    · rename_i cs hcs
      split
      · rename_i l hl
        split
        · rename_i hn
          rw [unC_eq hl] at hcs
          rcases hH q _ hcs with ⟨hz, _⟩ | ⟨cur, hh, hs, hlc, hc, hone1⟩
          · exact absurd hz h0
          · simp only [List.length_map] at hlc
            refine .c _ _ (.sl false sz _ n c (cur.toList.take l.length) l h1 h2 (fun e => by cases e) (fun e => by cases e) (by simp; omega) hn (fun _ => ⟨_, _, rfl, trivial, fun j u hu => ?_⟩) fun j u x hu hx => ?_)
            · rw [List.getElem?_take] at hu
              split at hu
              · simp only [World.cell?, hh, Nat.zero_add]; simpa using hu
              · cases hu
            · rw [List.getElem?_take] at hu
              split at hu
              · have := (hc j u (.c x) (by simpa using hu) (by simp [hx])).1
                cases this with
                | c _ _ hp => exact hp.mono hS2
              · cases hu
        · exact plain
      · exact plain
    · exact plain
  | rnil A q e sz hz =>
    show RV _ ι w _ (viewRow H q e sz 0)
    have plain : RV (fun _ => True) ι w (.slice A 0 0) (.row q e sz 0) := .rnil A q e sz hz
    unfold viewRow
    split
    · split
      · rename_i l hl
        split
        · rename_i hn
          have : l = [] := List.eq_nil_of_length_eq_zero (by omega)
          subst this
          exact .c _ _ (.sl false sz A 0 0 [] [] (Nat.le_refl _) (Nat.zero_le _) (fun _ => rfl) (fun e => by cases e) rfl (by simp) (fun h => absurd rfl h) fun j u x hu => by cases hu)
        · exact plain
      · exact plain
    · exact plain
  | cut q e sz lo n c ex h1 h2 h3 hx4 h4 h0 =>
    show RV _ ι w _ (viewCut H q e sz lo n c ex)
    have plain : RV (fun _ => True) ι w (.slice (some ⟨(ι q).1, lo * sz, none⟩) n c) (.cut q e sz lo n c ex) := .cut q e sz lo n c ex h1 h2 h3 hx4 h4 h0
    unfold viewCut
    split
    · rename_i cs hcs
      split
      · rename_i l hl
        split
        · rename_i hn
          have hl' := unC_eq hl
          rcases hH q _ hcs with ⟨hz, _⟩ | ⟨cur, hh, hs, hlc, hc, hone1⟩
          · exact absurd hz h0
          · have e1 : (lo + c) * sz = lo * sz + c * sz := Nat.add_mul _ _ _
            have e2 : n * sz ≤ c * sz := Nat.mul_le_mul_right _ h1
            refine .c _ _ (.sl false sz _ n c ((cur.toList.drop (lo * sz)).take (n * sz)) l h1 h2 (fun e => by cases e) (fun e => by cases e) (by simp; omega) hn (fun _ => ⟨_, _, rfl, trivial, fun j u hu => ?_⟩) fun j u x hu hx => ?_)
            · rw [List.getElem?_take] at hu
              split at hu
              · simp only [World.cell?, hh]; rw [List.getElem?_drop] at hu; simpa using hu
              · cases hu
            · have hx' : (l.map AV.c)[j]? = some (.c x) := by simp [hx]
              rw [← hl', List.getElem?_take] at hx'
              rw [List.getElem?_take] at hu
              split at hu
              · rename_i hj
                rw [if_pos hj] at hx'
                rw [List.getElem?_drop] at hu hx'
                have := (hc (lo * sz + j) u (.c x) (by simpa using hu) hx').1
                cases this with
                | c _ _ hp => exact hp.mono hS2
              · cases hu
        · exact plain
      · exact plain
    · exact plain
  | cnil A q e sz lo ex hz =>
    show RV _ ι w _ (viewCut H q e sz lo 0 0 ex)
    have plain : RV (fun _ => True) ι w (.slice A 0 0) (.cut q e sz lo 0 0 ex) := .cnil A q e sz lo ex hz
    unfold viewCut
    split
    · split
      · rename_i l hl
        split
        · rename_i hn
          have : l = [] := List.eq_nil_of_length_eq_zero (by omega)
          subst this
          exact .c _ _ (.sl false sz A 0 0 [] [] (Nat.le_refl _) (Nat.zero_le _) (fun _ => rfl) (fun e => by cases e) rfl (by simp) (fun h => absurd rfl h) fun j u x hu => by cases hu)
        · exact plain
      · exact plain
    · exact plain
  | ep b o us cs hl hne hb' h4 h5 => exact .ep b o us cs hl hne trivial h4 fun j u x hu hx => (h5 j u x hu hx).mono hS2
  | fn f us cs hl _ ih =>
    refine .fn f us _ (by rw [viewL_length]; exact hl) fun j u y hu hy => ?_
    rw [viewL_get, Option.map_eq_some_iff] at hy
    obtain ⟨x, hx', rfl⟩ := hy
    exact ih j u x hu hx'
mutual
/-- no slice, no pointer in it -/
def AV.flat : AV → Bool
  | .any => true
  | .c (.v _) => true
  | .agg cs => AV.flatL cs
  | .tup cs => AV.flatL cs
  | _ => false
def AV.flatL : List AV → Bool
  | [] => true
  | x :: l => AV.flat x && AV.flatL l
end
theorem flatL_get : ∀ {l : List AV}, AV.flatL l = true → ∀ (j : Nat) (x : AV), l[j]? = some x → AV.flat x = true
  | [], _, j, x, hx => by simp at hx
  | y :: l, h, j, x, hx => by
    unfold AV.flatL at h
    rw [Bool.and_eq_true] at h
    cases j with
    | zero => simp at hx; subst hx; exact h.1
    | succ j => exact flatL_get h.2 j x (by simpa using hx)
theorem RV.of_flat {S S' : Nat → Prop} {ι ι' : Nat → Nat × Nat × Nat} {w w' : World} {v : Value} {x : AV} (h : RV S ι w v x) : AV.flat x = true → RV S' ι' w' v x := by
  induction h with
  | any v => exact fun _ => .any _
  | c v p hp =>
    intro hx
    cases hp with
    | v _ h => exact .c _ _ (.v _ h)
    | sl => cases hx
  | agg us cs hl h1 _ ih => exact fun hx => .agg us cs hl h1 fun j u x hu hx' => ih j u x hu hx' (flatL_get (by unfold AV.flat at hx; exact hx) j x hx')
  | tup us cs hl _ ih => exact fun hx => .tup us cs hl fun j u x hu hx' => ih j u x hu hx' (flatL_get (by unfold AV.flat at hx; exact hx) j x hx')
  | _ => intro hx; cases hx
section
variable {P : Program} {o : Oper} {σ : St} {K : St → Prop} {f : FuncId} {fn : Func} {cargs : List AV} {res : AV} {fo : Operand} {as : Array Operand} {ts : Array TypeId} {caps : List AV}
/-- rows of the call's own are lent to be read; the result holds no slice -/
theorem opA_callv (hF : Fn P f cargs [] res []) (ho : o.op = .call { callee := .value fo, args := as, argTypes := ts }) (hfo : okConst fo = true) (has : as.toList.all okConst = true) (hf : σ.ev fo = .fn f caps)
    (hfn : P.funcs[f]? = some fn) (hname : (fn.name == "runtime.NumGoroutine") = false) (hbody : fn.body.isNone = false)
    (hargs : AV.viewL σ.H (as.toList.map σ.ev ++ caps) = cargs) (hflat : AV.flat res = true) (hK : K (σ.put o.dst res)) : OpA P o σ K := by
  intro E ι a w hc K' Q hK'
  have hfv := hc.ev fo hfo
  rw [hf] at hfv
  generalize hfe : a.eval fo = fv at hfv
  cases hfv with
  | fn _ us _ hul hus =>
    have hvs : ∀ (j : Nat) (v : Value) (y : AV), (as.toList.map a.eval ++ us)[j]? = some v → (as.toList.map σ.ev ++ caps)[j]? = some y → RV (Sx E ι σ.H) ι w v y := fun j v y hv hy => by
      rw [List.getElem?_append] at hv hy
      simp only [List.length_map] at hv hy
      split at hv
      · rename_i hj
        rw [if_pos hj] at hy
        rw [List.getElem?_map, Option.map_eq_some_iff] at hv hy
        obtain ⟨x1, hx1, rfl⟩ := hv
        obtain ⟨x2, hx2, rfl⟩ := hy
        rw [hx1] at hx2; cases hx2
        exact hc.ev x1 (List.all_eq_true.1 has x1 (List.mem_of_getElem? hx1))
      · rename_i hj
        rw [if_neg hj] at hy
        exact hus _ v y hv hy
    have hlen : (as.toList.map a.eval ++ us).length = cargs.length := by rw [← hargs, viewL_length]; simp [hul]
    have hcall := hF { w := w, S := fun _ => True, ι := ι, D := [], hD := fun r hr => (by cases hr) } (as.toList.map a.eval ++ us) rfl (fun r cs b hr => (by cases hr)) ⟨fun r cs hr => (by cases hr), fun r q cs ds hr => (by cases hr)⟩ hlen (fun j v x hv hx => by
      rw [← hargs, viewL_get, Option.map_eq_some_iff] at hx
      obtain ⟨y, hy, rfl⟩ := hx
      exact (hvs j v y hv hy).view hc.heap.blk)
    have hrun : (execOp a.eval o).run P w = .ok (.enter f (as.toList.map a.eval ++ us).toArray) w := by
      have h1 : as.map a.eval = (as.toList.map a.eval).toArray := by rw [← Array.toList_map]
      have hen := run_enter hfn hname hbody ((as.toList.map a.eval).toArray ++ us.toArray) w
      simp only [List.append_toArray] at hen
      simp only [execOp, ho, resolve, hfe, Deferred.ofValue, h1, Sem.run_bind, Sem.run_pure, Result.andThen_ok, invoke, Array.empty_append, List.append_toArray, List.nil_append, hen]
    unfold Oper.wp
    rw [hrun, Oper.upon_enter]
    refine hcall.mono fun e w' => ?_
    rintro ⟨v, ι', rfl, hres, _, hk⟩
    simp only
    have hblk : ∀ b, b < w.heap.size → w'.heap[b]? = w.heap[b]? := fun b hb => hk.block b hb fun r hr => by cases hr
    have hR : ∀ {v : Value} {x : AV}, RV (Sx E ι σ.H) ι w v x → RV (Sx E ι σ.H) ι w' v x := fun hv => hv.mono (fun b hb hlt => ⟨hb, hblk b hlt⟩) fun _ _ => rfl
    have hcn : Conc E ι σ a w' := by
      refine ⟨hc.defers.mono fun b hb hlt => ⟨hb, hblk b hlt⟩, hc.size, fun i => hR (hc.tmp i), ⟨fun r cs hr => ?_, hc.heap.inj⟩, ⟨hk.os.trans hc.keep.os, hk.tape.trans hc.keep.tape, hk.output.trans hc.keep.output, ?_, fun b hb hbD => ?_, hc.keep.mine⟩⟩
      · rcases hc.heap.blk r cs hr with h0 | ⟨cur, hh, hs, hl, hcur, hone1⟩
        · exact .inl h0
        · exact .inr ⟨cur, by rw [hblk _ (Array.getElem?_eq_some_iff.1 hh).1]; exact hh, hs, hl, fun j u x hu hx => ⟨hR (hcur j u x hu hx).1, (hcur j u x hu hx).2⟩, hone1⟩
      · have h1 := hc.keep.size
        have h2 : w.heap.size ≤ w'.heap.size := hk.size
        omega
      · have h1 := hc.keep.size
        rw [hblk b (by omega)]; exact hc.keep.block b hb hbD
    exact hK' ι _ _ _ hK (hcn.put o.dst (hres.of_flat hflat))
mutual
/-- the rows that it names -/
def AV.rows : AV → List Nat
  | .agg cs => AV.rowsL cs
  | .tup cs => AV.rowsL cs
  | .row r _ _ _ => [r]
  | .cut r _ _ _ _ _ _ => [r]
  | .fn _ cs => AV.rowsL cs
  | _ => []
def AV.rowsL : List AV → List Nat
  | [] => []
  | x :: l => AV.rows x ++ AV.rowsL l
end
mutual
theorem view_congr {H H' : List (Nat × List AV)} : ∀ (x : AV), (∀ r ∈ AV.rows x, hget H' r = hget H r) → AV.view H' x = AV.view H x
  | .any, _ => rfl
  | .c _, _ => rfl
  | .agg cs, h => by unfold AV.view; rw [viewL_congr cs (fun r hr => h r (by unfold AV.rows; exact hr))]
  | .tup cs, h => by unfold AV.view; rw [viewL_congr cs (fun r hr => h r (by unfold AV.rows; exact hr))]
  | .ptr _ _, _ => rfl
  | .row r e sz n, h => by unfold AV.view viewRow; rw [h r (by simp [AV.rows])]
  | .cut r e sz lo n c ex, h => by unfold AV.view viewCut; rw [h r (by simp [AV.rows])]
  | .ep _, _ => rfl
  | .fn f cs, h => by unfold AV.view; rw [viewL_congr cs (fun r hr => h r (by unfold AV.rows; exact hr))]
theorem viewL_congr {H H' : List (Nat × List AV)} : ∀ (l : List AV), (∀ r ∈ AV.rowsL l, hget H' r = hget H r) → AV.viewL H' l = AV.viewL H l
  | [], _ => rfl
  | x :: l, h => by
    unfold AV.viewL
    rw [view_congr x (fun r hr => h r (by unfold AV.rowsL; exact List.mem_append_left _ hr)), viewL_congr l (fun r hr => h r (by unfold AV.rowsL; exact List.mem_append_right _ hr))]
end
theorem opF_callv {rd : List Nat} (hF : Fn P f cargs [] res []) (ho : o.op = .call { callee := .value fo, args := as, argTypes := ts }) (hfo : okConst fo = true) (has : as.toList.all okConst = true) (hf : σ.ev fo = .fn f caps)
    (hfn : P.funcs[f]? = some fn) (hname : (fn.name == "runtime.NumGoroutine") = false) (hbody : fn.body.isNone = false)
    (hargs : AV.viewL σ.H (as.toList.map σ.ev ++ caps) = cargs) (hflat : AV.flat res = true) (hrd : AV.rowsL (as.toList.map σ.ev ++ caps) = rd) : OpF P o σ.ev (hget σ.H) res rd [] :=
  fun τ hA hQ => by
    have hA' : ∀ x ∈ fo :: as.toList, τ.ev x = σ.ev x := fun x hx => hA x (by rw [ho]; simpa [Op.operands, Call.operands] using hx)
    have hmap : as.toList.map τ.ev = as.toList.map σ.ev := List.map_congr_left fun x hx => hA' x (by simp [hx])
    refine opA_callv hF ho hfo has (by rw [hA' fo (by simp)]; exact hf) hfn hname hbody (by rw [← hargs, hmap]; exact viewL_congr _ fun r hr => hQ r (by rw [← hrd]; exact hr)) hflat ?_
    cases o.dst <;> rfl
end
end Go.Proofs.Ytiggambibcohcaa
