/-
  Calls whose arguments are known by value; blocks that are only read from now on. No program in sight.
-/
import Derived.Test.YtiggambibcohcaaAvN
namespace Go.Proofs.Ytiggambibcohcaa
open Go.RowKit
set_option linter.unusedSimpArgs false
set_option linter.unusedVariables false

mutual
theorem ren_free (ρ : Nat → Nat) : ∀ (x : AV), AV.inN [] x = true → AV.ren ρ x = x
  | .any, _ => rfl
  | .c _, _ => rfl
  | .agg cs, h => by unfold AV.ren; rw [renL_free ρ cs (by unfold AV.inN at h; exact h)]
  | .tup cs, h => by unfold AV.ren; rw [renL_free ρ cs (by unfold AV.inN at h; exact h)]
  | .ptr r off, h => by simp [AV.inN] at h
  | .row r e sz n, h => by simp [AV.inN] at h
  | .cut r e sz lo n c ex, h => by simp [AV.inN] at h
  | .ep _, _ => rfl
  | .fn f cs, h => by unfold AV.ren; rw [renL_free ρ cs (by unfold AV.inN at h; exact h)]
theorem renL_free (ρ : Nat → Nat) : ∀ (l : List AV), AV.inNL [] l = true → AV.renL ρ l = l
  | [], _ => rfl
  | x :: l, h => by
    unfold AV.inNL at h
    rw [Bool.and_eq_true] at h
    unfold AV.renL
    rw [ren_free ρ x h.1, renL_free ρ l h.2]
end
mutual
theorem inN_sub {N M : List Nat} (hs : ∀ r ∈ N, r ∈ M) : ∀ (x : AV), AV.inN N x = true → AV.inN M x = true
  | .any, _ => rfl
  | .c _, _ => rfl
  | .agg cs, h => by unfold AV.inN at h ⊢; exact inNL_sub hs cs h
  | .tup cs, h => by unfold AV.inN at h ⊢; exact inNL_sub hs cs h
  | .ptr r off, h => by simp [AV.inN] at h ⊢; exact hs r h
  | .row r e sz n, h => by simp [AV.inN] at h ⊢; exact hs r h
  | .cut r e sz lo n c ex, h => by simp [AV.inN] at h ⊢; exact hs r h
  | .ep _, _ => rfl
  | .fn f cs, h => by unfold AV.inN at h ⊢; exact inNL_sub hs cs h
theorem inNL_sub {N M : List Nat} (hs : ∀ r ∈ N, r ∈ M) : ∀ (l : List AV), AV.inNL N l = true → AV.inNL M l = true
  | [], _ => rfl
  | x :: l, h => by
    unfold AV.inNL at h ⊢
    rw [Bool.and_eq_true] at h ⊢
    exact ⟨inN_sub hs x h.1, inNL_sub hs l h.2⟩
end
theorem argsOk_refl (ρ : Nat → Nat) : ∀ {l : List AV}, AV.inNL [] l = true → argsOk ρ l l
  | [], _ => trivial
  | x :: l, h => by
    unfold AV.inNL at h
    rw [Bool.and_eq_true] at h
    exact ⟨.inr (ren_free ρ x h.1).symm, argsOk_refl ρ h.2⟩
section
variable {P : Program} {o : Oper} {σ : St} {K : St → Prop} {f : FuncId} {fn : Func} {cargs : List AV} {res : AV} {fo : Operand} {as : Array Operand} {ts : Array TypeId} {caps : List AV}
/-- everything by value, a result by value -/
theorem opA_call0 (hF : Fn P f cargs [] res []) (ho : o.op = .call { callee := .value fo, args := as, argTypes := ts }) (hfo : okConst fo = true) (has : as.toList.all okConst = true) (hf : σ.ev fo = .fn f caps)
    (hfn : P.funcs[f]? = some fn) (hname : (fn.name == "runtime.NumGoroutine") = false) (hbody : fn.body.isNone = false)
    (hargs : as.toList.map σ.ev ++ caps = cargs) (hno : AV.inNL [] cargs = true) (hin : AV.inN [] res = true)
    (hK : K (σ.put o.dst res)) : OpA P o σ K :=
  opA_call hF id ho hfo has hf hfn hname hbody rfl (by rw [hargs]; exact argsOk_refl id hno) (fun r hr => by cases hr) (fun r hr => by cases hr) trivial hin rfl (by
    rw [ren_free id res hin]
    exact hK)
/-- everything by value, a result with one new row, of cells by value; it is given a name -/
theorem opA_call1 {r0 : Nat} {cells : List AV} (hF : Fn P f cargs [] res [(r0, cells)]) (d : Nat) (ho : o.op = .call { callee := .value fo, args := as, argTypes := ts }) (hfo : okConst fo = true) (has : as.toList.all okConst = true) (hf : σ.ev fo = .fn f caps)
    (hfn : P.funcs[f]? = some fn) (hname : (fn.name == "runtime.NumGoroutine") = false) (hbody : fn.body.isNone = false)
    (hargs : as.toList.map σ.ev ++ caps = cargs) (hno : AV.inNL [] cargs = true) (hfree : σ.free d = true) (hd : d < 1000) (hin : AV.inN [r0] res = true) (hcells : AV.inNL [] cells = true)
    (hK : K ((St.mk σ.T (hput σ.H d cells)).put o.dst (AV.ren (fun _ => d) res))) : OpA P o σ K :=
  opA_call hF (fun _ => d) ho hfo has hf hfn hname hbody rfl (by rw [hargs]; exact argsOk_refl _ hno) (fun r hr => by cases hr) (fun r hr q hq _ => by simp at hr hq; rw [hr, hq]) ⟨.inr ⟨hfree, hd⟩, trivial⟩ hin
    (by simp only [inH, Bool.and_true]; exact inNL_sub (fun r hr => by cases hr) _ hcells) (by
    have : hputs (hdels σ.H (renH (fun _ => d) [])) (renH (fun _ => d) [(r0, cells)]) = hput σ.H d cells := by
      show hput σ.H d (AV.renL (fun _ => d) cells) = _
      rw [renL_free _ _ hcells]
    rw [this]
    exact hK)
end

/-! a block of which only is read from now on -/
mutual
def AV.frz (r : Nat) (pcs : List PV) : AV → AV
  | .any => .any
  | .c x => .c x
  | .agg cs => .agg (AV.frzL r pcs cs)
  | .tup cs => .tup (AV.frzL r pcs cs)
  | .ptr q off => if q = r then (if off < pcs.length then .ep (pcs.drop off) else .any) else .ptr q off
  | .row q e sz n => if q = r then (if n * sz = pcs.length then .c (.sl false sz n pcs) else .any) else .row q e sz n
  | .cut q e sz lo n m ex => if q = r then (if (lo + n) * sz ≤ pcs.length then .c (.sl false sz n ((pcs.drop (lo * sz)).take (n * sz))) else .any) else .cut q e sz lo n m ex
  | .ep cs => .ep cs
  | .fn f cs => .fn f (AV.frzL r pcs cs)
def AV.frzL (r : Nat) (pcs : List PV) : List AV → List AV
  | [] => []
  | x :: l => AV.frz r pcs x :: AV.frzL r pcs l
end
theorem frzL_get (r : Nat) (pcs : List PV) : ∀ (l : List AV) (j : Nat), (AV.frzL r pcs l)[j]? = (l[j]?).map (AV.frz r pcs)
  | [], j => by simp [AV.frzL]
  | x :: l, 0 => by simp [AV.frzL]
  | x :: l, j + 1 => by simpa [AV.frzL] using frzL_get r pcs l j
theorem frzL_length (r : Nat) (pcs : List PV) (l : List AV) : (AV.frzL r pcs l).length = l.length := by
  induction l with
  | nil => rfl
  | cons x l ih => simp [AV.frzL, ih]
@[simp] theorem frzL_map (r : Nat) (pcs l : List PV) : AV.frzL r pcs (l.map .c) = l.map .c := by
  induction l with
  | nil => rfl
  | cons x l ih => simp [AV.frzL, AV.frz, ih]
def frzH (r : Nat) (pcs : List PV) : List (Nat × List AV) → List (Nat × List AV)
  | [] => []
  | (k, cs) :: H => if k = r then frzH r pcs H else (k, AV.frzL r pcs cs) :: frzH r pcs H
theorem hget_frz (r : Nat) (pcs : List PV) : ∀ (H : List (Nat × List AV)) (q : Nat), hget (frzH r pcs H) q = if q = r then none else (hget H q).map (AV.frzL r pcs)
  | [], q => by simp [frzH, hget]
  | (k, cs) :: H, q => by
    unfold frzH
    by_cases hk : k = r
    · rw [if_pos hk, hget_frz r pcs H q, hget_cons]
      by_cases hq : q = r
      · rw [if_pos hq, if_pos hq]
      · rw [if_neg hq, if_neg hq, if_neg (by omega)]
    · rw [if_neg hk, hget_cons, hget_cons, hget_frz r pcs H q]
      by_cases hkq : k = q
      · subst hkq; rw [if_pos rfl, if_neg hk, if_pos rfl]; rfl
      · rw [if_neg hkq, if_neg hkq]
def St.frz (σ : St) (r : Nat) (pcs : List PV) : St := ⟨AV.frzL r pcs σ.T, frzH r pcs σ.H⟩
section
variable {E : Env} {ι : Nat → Nat × Nat × Nat} {σ : St} {a : Act} {w : World}
theorem RV.frz {S S' : Nat → Prop} {r : Nat} {pcs : List PV} (hS : ∀ b, S b → b < w.heap.size → S' b) (hb : Blk S ι w r (pcs.map .c)) (hr : (ι r).2.1 ≠ 0 → S' (ι r).1) {v : Value} {x : AV} (h : RV S ι w v x) : RV S' ι w v (AV.frz r pcs x) := by
  have hS2 : ∀ b, S b → b < w.heap.size → S' b ∧ w.heap[b]? = w.heap[b]? := fun b h1 h2 => ⟨hS b h1 h2, rfl⟩
  induction h with
  | any v => exact .any _
  | c v p hp => exact .c _ _ (hp.mono hS2)
  | agg us cs hl h1 _ ih =>
    refine .agg us _ (by rw [frzL_length]; exact hl) h1 fun j u y hu hy => ?_
    rw [frzL_get, Option.map_eq_some_iff] at hy
    obtain ⟨x, hx', rfl⟩ := hy
    exact ih j u x hu hx'
  | tup us cs hl _ ih =>
    refine .tup us _ (by rw [frzL_length]; exact hl) fun j u y hu hy => ?_
    rw [frzL_get, Option.map_eq_some_iff] at hy
    obtain ⟨x, hx', rfl⟩ := hy
    exact ih j u x hu hx'
  | ptr q off =>
    unfold AV.frz
    split
    · rename_i e'; subst e'
      split
      · rename_i hn
        rcases hb with ⟨_, hz⟩ | ⟨cur, hh, hs, hl, hc, hone1⟩
        · rw [List.map_eq_nil_iff] at hz; subst hz; simp at hn
        · simp only [List.length_map] at hl
          refine .ep (ι q).1 off ((cur.toList.take pcs.length).drop off) (pcs.drop off) (by simp; omega) (fun h => ?_) (hr (by omega)) (fun j u hu => ?_) fun j u x hu hx => ?_
          · have := congrArg List.length h
            simp at this; omega
          · rw [List.getElem?_drop, List.getElem?_take] at hu
            split at hu
            · simp only [World.cell?, hh]; simpa using hu
            · cases hu
          · rw [List.getElem?_drop, List.getElem?_take] at hu
            rw [List.getElem?_drop] at hx
            split at hu
            · have := (hc (off + j) u (.c x) (by simpa using hu) (by simp [hx])).1
              cases this with
              | c _ _ hp => exact hp.mono hS2
            · cases hu
      · exact .any _
    · exact .ptr q off
  | row q e sz n c h1 h2 h3 h4 h0 =>
    unfold AV.frz
    split
    · rename_i e'; subst e'
      split
      · rename_i hn
        rcases hb with ⟨hz, _⟩ | ⟨cur, hh, hs, hl, hc, hone1⟩
        · exact absurd hz h0
        · simp only [List.length_map] at hl
          refine .c _ _ (.sl false sz _ n c (cur.toList.take pcs.length) pcs h1 h2 (fun e => by cases e) (fun e => by cases e) (by simp; omega) hn.symm (fun _ => ⟨_, _, rfl, hr h0, fun j u hu => ?_⟩) fun j u x hu hx => ?_)
          · rw [List.getElem?_take] at hu
            split at hu
            · simp only [World.cell?, hh, Nat.zero_add]; simpa using hu
            · cases hu
          · rw [List.getElem?_take] at hu
            split at hu
            · have := (hc j u (.c x) (by simpa using hu) (by simp [hx])).1
              cases this with
              | c _ _ hp => exact hp.mono hS2
            · cases hu
      · exact .any _
    · exact .row q e sz n c h1 h2 h3 h4 h0
  | rnil A q e sz hz =>
    unfold AV.frz
    split
    · rename_i e'; subst e'
      split
      · rename_i hn
        have : pcs = [] := List.eq_nil_of_length_eq_zero (by omega)
        subst this
        exact .c _ _ (.sl false sz A 0 0 [] [] (Nat.le_refl _) (Nat.zero_le _) (fun _ => rfl) (fun e => by cases e) rfl hn.symm (fun h => absurd rfl h) fun j u x hu => by cases hu)
      · exact .any _
    · exact .rnil A q e sz hz
  | cut q e sz lo n c ex h1 h2 h3 hx4 h4 h0 =>
    unfold AV.frz
    split
    · rename_i e'; subst e'
      split
      · rename_i hn
        rcases hb with ⟨hz, _⟩ | ⟨cur, hh, hs, hl, hc, hone1⟩
        · exact absurd hz h0
        · simp only [List.length_map] at hl
          have e1 : (lo + n) * sz = lo * sz + n * sz := Nat.add_mul _ _ _
          refine .c _ _ (.sl false sz _ n c ((cur.toList.drop (lo * sz)).take (n * sz)) _ h1 h2 (fun e => by cases e) (fun e => by cases e) (by simp; omega) (by simp; omega) (fun _ => ⟨_, _, rfl, hr h0, fun j u hu => ?_⟩) fun j u x hu hx => ?_)
          · rw [List.getElem?_take] at hu
            split at hu
            · simp only [World.cell?, hh]; rw [List.getElem?_drop] at hu; simpa using hu
            · cases hu
          · rw [List.getElem?_take] at hu hx
            split at hu
            · rename_i hj
              rw [if_pos hj] at hx
              rw [List.getElem?_drop] at hu hx
              have := (hc (lo * sz + j) u (.c x) (by simpa using hu) (by simp [hx])).1
              cases this with
              | c _ _ hp => exact hp.mono hS2
            · cases hu
      · exact .any _
    · exact .cut q e sz lo n c ex h1 h2 h3 hx4 h4 h0
  | cnil A q e sz lo ex hz =>
    unfold AV.frz
    split
    · split
      · simp only [Nat.zero_mul, List.take_zero]
        exact .c _ _ (.sl false sz A 0 0 [] [] (Nat.le_refl _) (Nat.zero_le _) (fun _ => rfl) (fun e => by cases e) rfl (by simp) (fun h => absurd rfl h) fun j u x hu => by cases hu)
      · exact .any _
    · exact .cnil A q e sz lo ex hz
  | ep b o us cs hl hne hb' h4 h5 =>
    obtain ⟨u0, rest, hu0⟩ := List.exists_cons_of_ne_nil hne
    have hlt := block_lt_of_cell (h4 0 u0 (by rw [hu0]; rfl))
    exact .ep b o us cs hl hne (hS b hb' hlt) h4 fun j u x hu hx => (h5 j u x hu hx).mono hS2
  | fn f us cs hl _ ih =>
    refine .fn f us _ (by rw [frzL_length]; exact hl) fun j u y hu hy => ?_
    rw [frzL_get, Option.map_eq_some_iff] at hy
    obtain ⟨x, hx', rfl⟩ := hy
    exact ih j u x hu hx'
theorem Conc.frz (h : Conc E ι σ a w) {r : Nat} {pcs : List PV} (hr : hget σ.H r = some (pcs.map .c)) : Conc E ι (σ.frz r pcs) a w := by
  have hblk := h.heap.blk r _ hr
  have hS : ∀ b, Sx E ι σ.H b → b < w.heap.size → Sx E ι (frzH r pcs σ.H) b := fun b ⟨h1, h2⟩ _ => ⟨h1, fun q ds hq hz => by
    rw [hget_frz] at hq
    split at hq
    · cases hq
    · rw [Option.map_eq_some_iff] at hq
      obtain ⟨cs, hcs, _⟩ := hq
      exact h2 q cs hcs hz⟩
  have hrS : (ι r).2.1 ≠ 0 → Sx E ι (frzH r pcs σ.H) (ι r).1 := fun hz => by
    refine ⟨.inr (by
      by_cases hm : r ∈ E.D
      · have m1 := (h.keep.mine r _ hr).1 hm
        rw [m1] at hz ⊢; exact .inr ⟨r, hm, hz, rfl⟩
      · exact (h.keep.mine r _ hr).2 hm hz), fun q ds hq hz' => ?_⟩
    rw [hget_frz] at hq
    split at hq
    · cases hq
    · rename_i hne
      rw [Option.map_eq_some_iff] at hq
      obtain ⟨cs, hcs, _⟩ := hq
      exact h.heap.inj q r _ _ hcs hr hne hz' hz
  have hR : ∀ {v : Value} {x : AV}, RV (Sx E ι σ.H) ι w v x → RV (Sx E ι (frzH r pcs σ.H)) ι w v (AV.frz r pcs x) := fun hv => hv.frz hS hblk hrS
  refine ⟨h.defers.mono fun b h1 h2 => ⟨hS b h1 h2, rfl⟩, by show _ = (AV.frzL r pcs σ.T).length; rw [frzL_length]; exact h.size, fun i => ?_, ⟨fun q ds hq => ?_, fun q q' ds es hq hq' hne hz1 hz2 => ?_⟩, ⟨h.keep.os, h.keep.tape, h.keep.output, h.keep.size, h.keep.block, fun q ds hq => ?_⟩⟩
  · show RV _ ι w _ ((AV.frzL r pcs σ.T).getD i .any)
    have : (AV.frzL r pcs σ.T).getD i .any = AV.frz r pcs (σ.T.getD i .any) := by
      rw [List.getD_eq_getElem?_getD, List.getD_eq_getElem?_getD, frzL_get]
      cases σ.T[i]? <;> rfl
    rw [this]
    exact hR (h.tmp i)
  · have hq1 : hget (frzH r pcs σ.H) q = some ds := hq
    rw [hget_frz] at hq1
    split at hq1
    · cases hq1
    · rw [Option.map_eq_some_iff] at hq1
      obtain ⟨cs, hcs, rfl⟩ := hq1
      rcases h.heap.blk q cs hcs with ⟨h0, rfl⟩ | ⟨cur, hh, hs, hl, hc, hone1⟩
      · exact .inl ⟨h0, rfl⟩
      · refine .inr ⟨cur, hh, hs, by rw [frzL_length]; exact hl, fun j u y hu hy => ?_, hone1⟩
        rw [frzL_get, Option.map_eq_some_iff] at hy
        obtain ⟨x, hx, rfl⟩ := hy
        exact ⟨hR (hc j u x hu hx).1, (hc j u x hu hx).2⟩
  · have hq1 : hget (frzH r pcs σ.H) q = some ds := hq
    have hq2 : hget (frzH r pcs σ.H) q' = some es := hq'
    rw [hget_frz] at hq1 hq2
    split at hq1
    · cases hq1
    · split at hq2
      · cases hq2
      · rw [Option.map_eq_some_iff] at hq1 hq2
        obtain ⟨cs, hcs, _⟩ := hq1
        obtain ⟨cs', hcs', _⟩ := hq2
        exact h.heap.inj q q' cs cs' hcs hcs' hne hz1 hz2
  · have hq1 : hget (frzH r pcs σ.H) q = some ds := hq
    rw [hget_frz] at hq1
    split at hq1
    · cases hq1
    · rw [Option.map_eq_some_iff] at hq1
      obtain ⟨cs, hcs, _⟩ := hq1
      exact h.keep.mine q cs hcs
/-- from now on block r only is read: ahead of an operation, or of code -/
theorem OpA.frz {P : Program} {o : Oper} {K : St → Prop} (r : Nat) {pcs : List PV} (hr : hget σ.H r = some (pcs.map .c)) (h : OpA P o (σ.frz r pcs) K) : OpA P o σ K :=
  fun E ι a w hc => h E ι a w (hc.frz hr)
theorem AW.frz {P : Program} {c : Code} {Φ : Exit → St → Prop} (r : Nat) {pcs : List PV} (hr : hget σ.H r = some (pcs.map .c)) (h : AW P c (σ.frz r pcs) Φ) : AW P c σ Φ :=
  fun E ι a w hc => h E ι a w (hc.frz hr)
end
end Go.Proofs.Ytiggambibcohcaa
