/-
  Loops over functions, reckoned: rounds, calls of yield, the statement. No program in sight.
-/
import Derived.Test.YtgdjkkapgghdbaaDoorAvW
namespace Go.Proofs.YtgdjkkapgghdbaaDoor
open Go.RowKit Go.Lib
set_option linter.unusedSimpArgs false
set_option linter.unusedVariables false

/-! codes in frames of whatever kind -/
abbrev Fr (ro : Option Nat) : Fence := { Fence.wide with round := ro }
def opNd (o : Oper) : Bool := match o.op with | .defer _ => false | _ => true
theorem opNd_ne {o : Oper} (h : opNd o = true) : ∀ c, o.op ≠ .defer c := fun c e => by simp [opNd, e] at h
theorem wpIn_of_wp {P : Program} {ro : Option Nat} {o : Oper} {a : Act} {w : World} {K : Act → World → Prop} {Q : Exit → Act → World → Prop} (hd : opNd o = true) (h : o.wp P a w K Q) : o.wpIn (Fr ro) 0 P a w K Q := by
  refine ⟨fun _ _ => trivial, ?_⟩
  rw [Oper.semAt_eq _ _ _ (opNd_ne hd)]
  unfold Oper.wp at h
  generalize (execOp a.eval o).run P w = r at h ⊢
  cases r with
  | ok x w' =>
    cases x with
    | value v => exact h
    | skip => exact h
    | defer d => exact h
    | enter f args => exact ⟨fun e => (by cases e), (callsIn_wide (n := 0 - 1)).2 h⟩
    | row row args => exact ⟨fun e => (by cases e), fun c cs _ => let ⟨v, w', r, s⟩ := h c cs; ⟨v, w', r, stepsIn_wide.2 s⟩⟩
    | _ => exact h.elim
  | halt x w' => cases x <;> first | exact h | exact h.elim
theorem evL_R {P : Program} {ops : Array Oper} {K : St → Prop} {ro : Option Nat} {Q : Exit → Act → World → Prop} {more : List Oper} : ∀ (l : List Oper), l.all opNd = true → ∀ (σ : St), evL P ops l σ K → ∀ (E : Env) (ι : Nat → Nat × Nat × Nat) (a : Act) (w : World), Conc E ι σ a w →
    (∀ ι' σ' a' w', K σ' → Conc E ι' σ' a' w' → wpListIn (Fr ro) 0 P ops Q more a' w') → wpListIn (Fr ro) 0 P ops Q (l ++ more) a w
  | [], _, σ, h, E, ι, a, w, hc, hk => hk ι σ a w h hc
  | o :: rest, hnd, σ, h, E, ι, a, w, hc, hk => by
    rw [List.all_cons, Bool.and_eq_true] at hnd
    obtain ⟨hn1, hn2⟩ := hnd
    unfold evL at h
    split at h
    · rename_i hg
      refine wpListIn_plain hg fun K hK => ?_
      exact wpIn_of_wp hn1 (h E ι a w hc K _ fun ι' σ' a' w' hk' hc' => hK _ _ (evL_R rest hn2 σ' hk' E ι' a' w' hc' hk))
    · rename_i j want hg
      split at h
      · rename_i d hd
        split at h
        · rename_i b hb
          have hv := hc.tmp d
          rw [hb] at hv
          obtain ⟨e, _⟩ := hv.v_inv
          have hlt : d < a.tmps.size := by
            rw [hc.size]
            rcases Nat.lt_or_ge d σ.T.length with h | h
            · exact h
            · rw [List.getD_eq_getElem?_getD, List.getElem?_eq_none h] at hb; cases hb
          have hy : yielded ops a.tmps j = some b := by
            unfold yielded
            rw [hd]
            simp only [Option.bind_some]
            have : a.tmps[d]? = some (.bool b) := by
              rw [Array.getElem?_eq_getElem hlt]
              simp only [Array.getD, hlt, dif_pos] at e
              simpa using e
            rw [this]
          refine wpListIn_step fun K hK => ?_
          have hw : Region.wanted o (yielded ops a.tmps) = (some b == some want) := by
            unfold Region.wanted
            rw [hg]
            simp only [hy]
          rw [hw]
          by_cases hbw : b = want
          · subst hbw
            simp only [beq_self_eq_true, if_true]
            have h1 := h.1 rfl
            rw [put_same hb (by simp)] at h1
            exact wpIn_of_wp hn1 (h1 E ι a w hc K _ fun ι' σ' a' w' hk' hc' => hK _ _ (evL_R rest hn2 σ' hk' E ι' a' w' hc' hk))
          · have hbw' : b = !want := by cases b <;> cases want <;> simp_all
            have : (some b == some want) = false := by simp [hbw]
            simp only [this, Bool.false_eq_true, if_false]
            have h2 := h.2 hbw'
            rw [put_same (by rw [hb, hbw']) (by simp)] at h2
            exact ⟨fun _ _ => trivial, hK _ _ (evL_R rest hn2 _ h2 E ι _ w (hc.put o.dst .undef) hk)⟩
        · rename_i hb
          have hv := hc.tmp d
          rw [hb] at hv
          have e := hv.undef_inv
          have hy : yielded ops a.tmps j = none := by
            unfold yielded
            rw [hd]
            simp only [Option.bind_some]
            simp only [Array.getD_eq_getD_getElem?] at e
            cases hh : a.tmps[d]? with
            | none => rfl
            | some u => rw [hh] at e; simp only [Option.getD_some] at e; rw [e]; rfl
          refine wpListIn_step fun K hK => ?_
          have hw : Region.wanted o (yielded ops a.tmps) = false := by
            unfold Region.wanted
            rw [hg]
            simp only [hy]
            rfl
          rw [hw]
          simp only [Bool.false_eq_true, if_false]
          exact ⟨fun _ _ => trivial, hK _ _ (evL_R rest hn2 _ h E ι _ w (hc.put o.dst .undef) hk)⟩
        · exact h.elim
      · exact h.elim
def codeR : Code → Bool
  | .skip => true
  | .region _ ops d => !d && ops.toList.all opNd
  | .seq a b => codeR a && codeR b
  | .cond _ a b => codeR a && codeR b
  | .block _ c => codeR c
  | .exit _ => true
  | .ret => true
  | _ => false
theorem evC_R {P : Program} {ro : Option Nat} : ∀ (c : Code), codeR c = true → ∀ (σ : St) (Φ : Exit → St → Prop), evC P c σ Φ → ∀ (E : Env) (ι : Nat → Nat × Nat × Nat) (a : Act) (w : World), Conc E ι σ a w → c.wpIn (Fr ro) 0 P (fun ex a' w' => ∃ ι' σ', Conc E ι' σ' a' w' ∧ Φ ex σ') a w
  | .skip, _, σ, Φ, h, E, ι, a, w, hc => wpIn_skip ⟨ι, σ, hc, h⟩
  | .region id ops false, hr, σ, Φ, h, E, ι, a, w, hc => by
    have hr' : ops.toList.all opNd = true := by simpa [codeR] using hr
    refine wpIn_region_list ?_
    have := evL_R (ro := ro) (Q := fun ex a' w' => ∃ ι' σ', Conc E ι' σ' a' w' ∧ Φ ex σ') (more := []) ops.toList hr' σ h E ι a w hc fun ι' σ' a' w' hk hc' => wpListIn_nil ⟨ι', σ', hc', hk⟩
    rwa [List.append_nil] at this
  | .region id ops true, hr, σ, Φ, h, E, ι, a, w, hc => by simp [codeR] at hr
  | .seq x y, hr, σ, Φ, h, E, ι, a, w, hc => by
    rw [codeR, Bool.and_eq_true] at hr
    refine wpIn_seq (wpIn_mono (evC_R x hr.1 σ _ h E ι a w hc) fun ex a' w' => ?_)
    rintro ⟨ι', σ', hc', hΦ⟩
    cases ex with
    | normal => exact evC_R y hr.2 σ' Φ hΦ E ι' a' w' hc'
    | _ => exact ⟨ι', σ', hc', hΦ⟩
  | .cond c x y, hr, σ, Φ, h, E, ι, a, w, hc => by
    rw [codeR, Bool.and_eq_true] at hr
    unfold evC at h
    obtain ⟨h0, h⟩ := h
    split at h
    · rename_i t ht
      have hv := hc.ev c h0
      rw [ht] at hv
      obtain ⟨e, _⟩ := hv.v_inv
      exact wpIn_cond_split e (fun h' => evC_R x hr.1 σ Φ (h.1 h') E ι a w hc) (fun h' => evC_R y hr.2 σ Φ (h.2 h') E ι a w hc)
    · exact h.elim
  | .block id c, hr, σ, Φ, h, E, ι, a, w, hc => by
    rw [codeR] at hr
    refine wpIn_block (wpIn_mono (evC_R c hr σ _ h E ι a w hc) fun ex a' w' => ?_)
    rintro ⟨ι', σ', hc', hΦ⟩
    cases ex with
    | exit j =>
      unfold Exit.inBlock
      simp only at hΦ ⊢
      split at hΦ
      · rename_i e; rw [if_pos e]; exact ⟨ι', σ', hc', hΦ⟩
      · rename_i e; rw [if_neg e]; exact ⟨ι', σ', hc', hΦ⟩
    | _ => exact ⟨ι', σ', hc', hΦ⟩
  | .exit id, _, σ, Φ, h, E, ι, a, w, hc => wpIn_exit ⟨ι, σ, hc, h⟩
  | .ret, _, σ, Φ, h, E, ι, a, w, hc => wpIn_ret ⟨ι, σ, hc, h⟩
  | .loop c, hr, _, _, _, _, _, _, _, _ => by simp [codeR] at hr
  | .rangeFunc _ _ _ _, hr, _, _, _, _, _, _, _, _ => by simp [codeR] at hr
  | .scope _, hr, _, _, _, _, _, _, _, _ => by simp [codeR] at hr
  | .label _, hr, _, _, _, _, _, _, _, _ => by simp [codeR] at hr

/-! worlds -/
theorem putObj_back {w : World} {l : Nat} {o o' : Obj} (h : w.heap[l]? = some o) : (w.putObj l o').putObj l o = w := by
  have : ((w.heap.setIfInBounds l o').setIfInBounds l o) = w.heap := by
    apply Array.ext_getElem?
    intro i
    by_cases hi : i = l
    · subst hi
      have hlt := (Array.getElem?_eq_some_iff.1 h).1
      rw [Array.getElem?_setIfInBounds_self_of_lt (by simpa using hlt), h]
    · rw [Array.getElem?_setIfInBounds_ne (Ne.symm hi), Array.getElem?_setIfInBounds_ne (Ne.symm hi)]
  unfold World.putObj
  simp only [this]
mutual
theorem refs_inN {N : List Nat} {r : Nat} : ∀ x : AV, AV.inN N x = true → AV.refs r x = true → r ∈ N
  | .any, _, h => by simp [AV.refs] at h
  | .c _, _, h => by simp [AV.refs] at h
  | .agg cs, hi, h => refsL_inN cs (by simpa [AV.inN] using hi) (by simpa [AV.refs] using h)
  | .tup cs, hi, h => refsL_inN cs (by simpa [AV.inN] using hi) (by simpa [AV.refs] using h)
  | .ptr q _, hi, h => by simp [AV.refs] at h; subst h; simpa [AV.inN] using hi
  | .row q _ _ _, hi, h => by simp [AV.refs] at h; subst h; simpa [AV.inN] using hi
  | .cut q _ _ _ _ _ _, hi, h => by simp [AV.refs] at h; subst h; simpa [AV.inN] using hi
  | .ep _, _, h => by simp [AV.refs] at h
  | .fn _ cs, hi, h => refsL_inN cs (by simpa [AV.inN] using hi) (by simpa [AV.refs] using h)
theorem refsL_inN {N : List Nat} {r : Nat} : ∀ l : List AV, AV.inNL N l = true → AV.refsL r l = true → r ∈ N
  | [], _, h => by simp [AV.refsL] at h
  | x :: l, hi, h => by
    rw [AV.inNL, Bool.and_eq_true] at hi
    rw [AV.refsL, Bool.or_eq_true] at h
    exact h.elim (refs_inN x hi.1) (refsL_inN l hi.2)
end
theorem Conc.begin (E : Env) {H0 : List (Nat × List AV)} {T : List AV} {t : Array Value} (hED : E.D = H0.map (·.1)) (hS : ∀ r cs b, hget H0 r = some cs → (E.ι r).2.1 ≠ 0 → E.S b → (E.ι r).1 ≠ b) (hH : ConcH E.S E.ι H0 E.w) (hsz : t.size = T.length) (ht : ∀ i, RV E.S E.ι E.w (t.getD i undef) (T.getD i .any)) :
    Conc E E.ι ⟨T, H0⟩ { tmps := t, defers := [] } E.w := by
  have hSx : ∀ b, E.S b → b < E.w.heap.size → Sx E E.ι H0 b ∧ E.w.heap[b]? = E.w.heap[b]? := fun b hb _ => ⟨⟨.inl hb, fun r cs hr hz => hS r cs b hr hz hb⟩, rfl⟩
  have hR : ∀ {v : Value} {x : AV}, RV E.S E.ι E.w v x → RV (Sx E E.ι H0) E.ι E.w v x := fun hv => hv.mono hSx fun _ _ => rfl
  refine ⟨.nil, hsz, fun i => hR (ht i), ⟨fun r cs hr => ?_, hH.inj⟩, ⟨rfl, rfl, rfl, Nat.le_refl _, fun _ _ _ => rfl, fun r cs hr => ⟨fun _ => rfl, fun hn => absurd (by rw [hED]; exact hget_keys hr) hn⟩⟩⟩
  rcases hH.blk r cs hr with h0 | ⟨cur, hh, hs, hl, hc, hone1⟩
  · exact .inl h0
  · exact .inr ⟨cur, hh, hs, hl, fun j u x hu hx => ⟨hR (hc j u x hu hx).1, (hc j u x hu hx).2⟩, hone1⟩
theorem GlobOK.putObj {w : World} {S : Nat → Prop} {ι : Nat → Nat × Nat × Nat} {D : List Nat} {l : Nat} {o o' : Obj} (h : GlobOK w S ι D) (hl : w.heap[l]? = some o) (hn : oData o = false) : GlobOK (w.putObj l o') S ι D := fun g cs hg => by
  obtain ⟨h1, h2, h3, h4, h5⟩ := h g cs hg
  refine ⟨h1, h2, h3, h4, fun j u hu => ?_⟩
  have hj := h5 j u hu
  have hne : g ≠ l := fun e => by
    subst e
    unfold World.cell? at hj
    dsimp only at hj
    rw [hl] at hj
    cases o <;> simp [oData] at hn hj
  exact (World.cell?_of_block (w := w) (a := ⟨g, j, none⟩) (World.putObj_heap_other hne)).trans hj
theorem Conc.rebase {E : Env} {ι : Nat → Nat × Nat × Nat} {σ : St} {a : Act} {w : World} (h : Conc E ι σ a w) {l : Nat} {o : Obj} (o' : Obj) (hE : E.w.heap[l]? = some o) (hl : w.heap[l]? = some o) (hn : oData o = false) : Conc { E with w := E.w.putObj l o', hG := E.hG.putObj hE hn } ι σ a (w.putObj l o') := by
  have hlt := (Array.getElem?_eq_some_iff.1 hE).1
  have hlt' := (Array.getElem?_eq_some_iff.1 hl).1
  have hM : ∀ b, Mine { E with w := E.w.putObj l o', hG := E.hG.putObj hE hn } b ↔ Mine E b := fun b => by unfold Mine; rw [World.putObj_size]
  have hSx : ∀ ι H b, Sx { E with w := E.w.putObj l o', hG := E.hG.putObj hE hn } ι H b ↔ Sx E ι H b := fun ι H b => by unfold Sx; rw [hM]
  have hne : ∀ b o1, w.heap[b]? = some o1 → oData o1 = true → (w.putObj l o').heap[b]? = w.heap[b]? := fun b o1 hb h1 => World.putObj_heap_other fun e => by
    subst e; rw [hb] at hl; cases hl; rw [hn] at h1; cases h1
  have hR : ∀ {v : Value} {x : AV}, RV (Sx E ι σ.H) ι w v x → RV (Sx { E with w := E.w.putObj l o', hG := E.hG.putObj hE hn } ι σ.H) ι (w.putObj l o') v x := fun hv => hv.cmono fun b o1 hS hb h1 => ⟨(hSx _ _ _).2 hS, hne b o1 hb h1⟩
  refine ⟨?_, h.size, fun i => hR (h.tmp i), ⟨fun r cs hr => ?_, h.heap.inj⟩, ⟨h.keep.os, h.keep.tape, h.keep.output, by simpa using h.keep.size, fun b hb hbD => ?_, fun r cs hr => ⟨(h.keep.mine r cs hr).1, fun h1 h2 => (hM _).2 ((h.keep.mine r cs hr).2 h1 h2)⟩⟩⟩
  · obtain ⟨Ds, h1, h2, h3⟩ := h.defers
    refine ⟨Ds, h1, h2, fun D hD => ?_⟩
    obtain ⟨g1, g2, g3⟩ := h3 D hD
    exact ⟨by simpa using g1, (hSx _ _ _).2 g2, (World.putObj_heap_other (by omega)).trans g3⟩
  · rcases h.heap.blk r cs hr with h0 | ⟨cur, hh, hs, hlen, hc, hone1⟩
    · exact .inl h0
    · exact .inr ⟨cur, (hne _ _ hh rfl).trans hh, hs, hlen, fun j u x hu hx => ⟨hR (hc j u x hu hx).1, (hc j u x hu hx).2⟩, hone1⟩
  · show (w.putObj l o').heap[b]? = (E.w.putObj l o').heap[b]?
    have hb' : b < E.w.heap.size := by simpa using hb
    by_cases hbl : b = l
    · subst hbl; rw [World.putObj_heap_same hlt, World.putObj_heap_same hlt']
    · rw [World.putObj_heap_other hbl, World.putObj_heap_other hbl]; exact h.keep.block b hb' hbD

/-! rounds -/
abbrev recOf (ps : Array Tmp) (assign body : Code) (f : FuncId) (t : Array Value) (D : Nat) : Loop := { state := .ready, pending := none, fn := f, tmps := t, params := ps, assign, body, defers := D }
def YC (P : Program) (t : Tmp) (assign body : Code) (T0 : List AV) (l : Nat) (x : AV) (H0 H1 : List (Nat × List AV)) : Prop :=
  ∀ (E : Env) (v : Value) (f : FuncId) (ts : Array Value) (D : Nat), E.D = H0.map (·.1) → (∀ r cs b, hget H0 r = some cs → (E.ι r).2.1 ≠ 0 → E.S b → (E.ι r).1 ≠ b) → ConcH E.S E.ι H0 E.w → RV E.S E.ι E.w v x →
    E.w.heap[l]? = some (.loop (recOf #[t] assign body f ts D)) → ts.size = T0.length → (∀ i, RV E.S E.ι E.w (ts.getD i undef) (T0.getD i .any)) →
    RoundIn Fence.wide 0 P l f (ts.setIfInBounds t v) assign body E.w fun e w' => ∃ v ι', e = .returned v ∧ RV (Sx E ι' H1) ι' w' v (.c (.v (.bool true))) ∧ ConcH (Sx E ι' H1) ι' H1 w' ∧ Keep E ι' H1 w'
theorem blk_ne {S : Nat → Prop} {ι : Nat → Nat × Nat × Nat} {w : World} {H : List (Nat × List AV)} (hH : ConcH S ι H w) {l : Nat} {o : Obj} (hl : w.heap[l]? = some o) (hn : oData o = false) : ∀ r ∈ H.map (·.1), (ι r).2.1 ≠ 0 → (ι r).1 ≠ l := fun r hr hz e => by
  obtain ⟨cs, hcs⟩ := hget_of_key hr
  rcases hH.blk r cs hcs with ⟨h0, _⟩ | ⟨cur, hh, _⟩
  · exact hz h0
  · rw [e, hl] at hh; cases hh; cases hn
structure LoopAt (t : Tmp) (assign body : Code) (T0 : List AV) (DD : List Nat) (l : Nat) (E : Env) : Prop where
  rc : ∃ f ts D, E.w.heap[l]? = some (.loop (recOf #[t] assign body f ts D)) ∧ ts.size = T0.length ∧ ∀ i, RV E.S E.ι E.w (ts.getD i undef) (T0.getD i .any)
  free : ∀ r ∈ E.D, (E.ι r).2.1 ≠ 0 → (E.ι r).1 ≠ l
  dis : ∀ r ∈ E.D, (E.ι r).2.1 ≠ 0 → ∀ b, E.S b → (E.ι r).1 ≠ b
  names : E.D = DD
def OpE (p : Env → Prop) (P : Program) (o : Oper) (σ : St) (K : St → Prop) : Prop :=
  ∀ (E : Env) (ι : Nat → Nat × Nat × Nat) (a : Act) (w : World), p E → Conc E ι σ a w → ∀ (K' : Act → World → Prop) (Q : Exit → Act → World → Prop), (∀ ι' σ' a' w', K σ' → Conc E ι' σ' a' w' → K' a' w') → o.wpIn Fence.wide 0 P a w K' Q
theorem opE_yield {P : Program} {o : Oper} {σ : St} {K : St → Prop} {t : Tmp} {assign body : Code} {T0 : List AV} {DD : List Nat} {l : Nat} {x : AV} {H0 H1 : List (Nat × List AV)} (hY : YC P t assign body T0 l x H0 H1) (ρ : Nat → Nat)
    {fo ao : Operand} {ts : Array TypeId} (ho : o.op = .call { callee := .value fo, args := #[ao], argTypes := ts }) (hfo : okConst fo = true) (hao : okConst ao = true) (hf : σ.ev fo = .c (.v (.func (.yield l) #[] #[]))) (hx : argOk ρ x (σ.ev ao))
    (hD0 : H0.all (fun x => decide (1000 ≤ x.1)) = true) (hH0 : ∀ r ∈ H0.map (·.1), hget σ.H (ρ r) = (hget H0 r).map (AV.renL ρ)) (hinj : ∀ r ∈ H0.map (·.1) ++ H1.map (·.1), ∀ q ∈ H0.map (·.1) ++ H1.map (·.1), ρ r = ρ q → r = q)
    (hnew : newOk σ ρ H0 H1) (hinH : inH (H1.map (·.1)) H1 = true) (NT : List Nat) (hT0 : AV.inNL NT T0 = true) (hNT : ∀ r ∈ NT, r ∈ DD ∧ ρ r = r ∧ (hget σ.H r).isSome = true)
    (hK : K ((St.mk σ.T (hputs (hdels σ.H (renH ρ H0)) (renH ρ H1))).put o.dst (.c (.v (.bool true))))) : OpE (LoopAt t assign body T0 DD l) P o σ K := by
  intro E ι a w hp hc K' Q hK'
  obtain ⟨⟨f, tt, D, hl, hsz, htt⟩, hfree, hdis, hnames⟩ := hp
  have hlt := (Array.getElem?_eq_some_iff.1 hl).1
  have hlw : w.heap[l]? = some (.loop (recOf #[t] assign body f tt D)) := (hc.keep.block l hlt hfree).trans hl
  have hfv := hc.ev fo hfo
  rw [hf] at hfv
  obtain ⟨hfe, _⟩ := hfv.v_inv
  have hav := hc.ev ao hao
  have hD0' : ∀ r ∈ H0.map (·.1), 1000 ≤ r := fun r hr => by
    obtain ⟨y, hy, rfl⟩ := List.mem_map.1 hr
    have := List.all_eq_true.1 hD0 y hy
    simpa using this
  have hH0' : ∀ r cs, hget H0 r = some cs → hget σ.H (ρ r) = some (AV.renL ρ cs) := fun r cs hr => by rw [hH0 r (hget_keys hr), hr]; rfl
  obtain ⟨E', hE'⟩ : ∃ E' : Env, E' = { w := w, S := Sx E ι σ.H, ι := fun r => ι (ρ r), D := H0.map (·.1), hD := hD0', hG := hc.glob hH0' } := ⟨_, rfl⟩
  have hconcH : ConcH E'.S E'.ι H0 E'.w := by
    subst hE'
    exact hc.enter ρ hH0' fun r hr q hq => hinj r (List.mem_append_left _ hr) q (List.mem_append_left _ hq)
  have hSE : ∀ b, E.S b → b < E.w.heap.size → Sx E ι σ.H b ∧ w.heap[b]? = E.w.heap[b]? := fun b hb hlt => by
    refine ⟨⟨.inl hb, fun r cs hr hz => ?_⟩, hc.keep.block b hlt fun r hr hz => hdis r hr hz b hb⟩
    obtain ⟨m1, m2⟩ := hc.keep.mine r cs hr
    by_cases hm : r ∈ E.D
    · rw [m1 hm] at hz ⊢; exact hdis r hm hz b hb
    · rcases m2 hm hz with h1 | ⟨q, hq, hqz, h1⟩
      · omega
      · rw [← h1]; exact hdis q hq hqz b hb
  have hround := hY E' (a.eval ao) f tt D (by rw [hE']) (fun r cs b hr hz hS => by
    subst hE'
    exact hS.2 (ρ r) _ (hH0' r cs hr) hz) hconcH (by
      subst hE'
      rcases hx with rfl | e
      · exact .any _
      · exact hav.unren x e) (by rw [hE']; exact hlw) hsz (fun i => by
        subst hE'
        refine (htt i).mono hSE fun r hr => ?_
        have hin : AV.inN NT (T0.getD i .any) = true := inL_get hT0 i
        obtain ⟨g1, g2, g3⟩ := hNT r (refs_inN _ hin hr)
        obtain ⟨cs, hcs⟩ := Option.isSome_iff_exists.1 g3
        show ι (ρ r) = E.ι r
        rw [g2]
        exact (hc.keep.mine r cs hcs).1 (by rw [hnames]; exact g1))
  have hwE : E'.w = w := by rw [hE']
  rw [hwE] at hround
  have hrun : (execOp a.eval o).run P w = .ok (.round l f (tt.setIfInBounds t (a.eval ao)) assign body) w := by
    have hy := run_yield (P := P) (args := #[a.eval ao]) hlw rfl
    simp only [execOp, ho, resolve, hfe, Deferred.ofValue, List.map_toArray, List.map_cons, List.map_nil, Sem.run_bind, Sem.run_pure, Result.andThen_ok, invoke, callFunc, Array.empty_append, List.append_toArray, List.nil_append, List.append_nil]
    simpa using hy
  refine ⟨fun _ _ => trivial, ?_⟩
  rw [Oper.semAt_eq _ _ _ (fun c e => by rw [ho] at e; cases e), hrun, Oper.uponIn_round]
  refine ⟨fun e => (by cases e), RoundIn.mono hround fun e w' => ?_⟩
  rintro ⟨v, ι', rfl, hres, hcH, hk⟩
  simp only
  obtain ⟨ι2, hcn, hrv⟩ := hc.back ρ hD0' hH0' hinj hnew rfl hinH hE' hres hcH hk
  exact hK' ι2 _ _ _ hK (hcn.put o.dst hrv)

/-! codes where something is known -/
section
variable {p : Env → Prop} {P : Program} {σ : St} {Φ : Exit → St → Prop}
theorem AWE.of {c : Code} (h : evC P c σ Φ) : AWE p P c σ Φ := fun E ι a w _ hc => evC_sound c σ Φ h E ι a w hc
theorem AWE.mono {c : Code} {Ψ : Exit → St → Prop} (h : AWE p P c σ Φ) (hΦ : ∀ ex σ, Φ ex σ → Ψ ex σ) : AWE p P c σ Ψ :=
  fun E ι a w hp hc => wp_mono (h E ι a w hp hc) fun ex a' w' ⟨ι', σ', hc', h'⟩ => ⟨ι', σ', hc', hΦ _ _ h'⟩
theorem AWE.to {c : Code} {τ : St} (ht : σ.to τ) (h : AWE p P c τ Φ) : AWE p P c σ Φ := fun E ι a w hp hc => by
  obtain ⟨ι', hc'⟩ := ht E ι a w hc
  exact h E ι' a w hp hc'
theorem AWE.seq {x y : Code} (h : AWE p P x σ fun ex σ' => match ex with | .normal => AWE p P y σ' Φ | ex => Φ ex σ') : AWE p P (.seq x y) σ Φ := fun E ι a w hp hc => by
  refine wp_seq (wp_mono (h E ι a w hp hc) fun ex a' w' => ?_)
  rintro ⟨ι', σ', hc', hΦ⟩
  cases ex with
  | normal => exact hΦ E ι' a' w' hp hc'
  | _ => exact ⟨ι', σ', hc', hΦ⟩
theorem AWE.cond {c : Operand} {x y : Code} {t : Bool} (h0 : okConst c = true) (ht : σ.ev c = .c (.v (.bool t))) (h1 : t = true → AWE p P x σ Φ) (h2 : t = false → AWE p P y σ Φ) : AWE p P (.cond c x y) σ Φ := fun E ι a w hp hc => by
  have hv := hc.ev c h0
  rw [ht] at hv
  obtain ⟨e, _⟩ := hv.v_inv
  exact wp_cond_split e (fun h' => h1 h' E ι a w hp hc) (fun h' => h2 h' E ι a w hp hc)
theorem AWE.block {id : Nat} {c : Code} (h : AWE p P c σ fun ex σ' => match ex with | .exit j => if j = id then Φ .normal σ' else Φ (.exit j) σ' | ex => Φ ex σ') : AWE p P (.block id c) σ Φ := fun E ι a w hp hc => by
  refine wp_block (wp_mono (h E ι a w hp hc) fun ex a' w' => ?_)
  rintro ⟨ι', σ', hc', hΦ⟩
  cases ex with
  | exit j =>
    unfold Exit.inBlock
    simp only at hΦ ⊢
    split at hΦ
    · rename_i e; rw [if_pos e]; exact ⟨ι', σ', hc', hΦ⟩
    · rename_i e; rw [if_neg e]; exact ⟨ι', σ', hc', hΦ⟩
  | _ => exact ⟨ι', σ', hc', hΦ⟩
theorem AWE.loop {c : Code} {α : Type} (I : α → St) (μ : α → Nat) (x0 : α) (h0 : σ.to (I x0))
    (round : ∀ x, AWE p P c (I x) fun ex σ' => match ex with | .normal => ∃ y, μ y < μ x ∧ σ'.to (I y) | ex => Φ ex σ') : AWE p P (.loop c) σ Φ := by
  intro E ι a w hp hc b k cs
  have key : ∀ n x ι a w, μ x = n → Conc E ι (I x) a w → ∃ e a' w', (∃ ι' σ', Conc E ι' σ' a' w' ∧ Φ e σ') ∧ Arrives P (lone (b.at a (.code c :: .inLoop c :: k)) cs w) b k cs e a' w' := by
    intro n
    induction n using Nat.strongRecOn with
    | _ n ih =>
      intro x ι a w hn hI
      obtain ⟨e, a₁, w₁, ⟨ι₁, σ₁, hc₁, hq⟩, harr⟩ := round x E ι a w hp hI b (.inLoop c :: k) cs
      cases e with
      | normal =>
        obtain ⟨y, hlt, hle⟩ := hq
        obtain ⟨ι2, hc2⟩ := hle E ι₁ a₁ w₁ hc₁
        obtain ⟨e₂, a₂, w₂, hq₂, harr₂⟩ := ih (μ y) (hn ▸ hlt) y ι2 a₁ w₁ rfl hc2
        exact ⟨e₂, a₂, w₂, hq₂, .of_steps (Steps.trans harr (.one step_inLoop)) harr₂⟩
      | exit id => exact ⟨_, a₁, w₁, ⟨ι₁, σ₁, hc₁, hq⟩, .pass (x := .inLoop c) rfl (fun _ _ => .inl (by simp)) harr⟩
      | goto l => exact ⟨_, a₁, w₁, ⟨ι₁, σ₁, hc₁, hq⟩, .pass (x := .inLoop c) rfl (fun _ _ => .inl (by simp)) harr⟩
      | ret => exact ⟨_, a₁, w₁, ⟨ι₁, σ₁, hc₁, hq⟩, .pass (x := .inLoop c) rfl (fun _ _ => .inl (by simp)) harr⟩
      | panic ch => exact ⟨_, a₁, w₁, ⟨ι₁, σ₁, hc₁, hq⟩, .pass (x := .inLoop c) rfl (fun _ _ => .inl (by simp)) harr⟩
      | outgrown => exact ⟨_, a₁, w₁, ⟨ι₁, σ₁, hc₁, hq⟩, .pass (x := .inLoop c) rfl (fun _ _ => .inl (by simp)) harr⟩
  obtain ⟨ι0, hc0⟩ := h0 E ι a w hc
  obtain ⟨e, a', w', hq, harr⟩ := key _ x0 ι0 a w rfl hc0
  exact ⟨e, a', w', hq, .of_steps (.one step_loop) harr⟩
theorem AWE.region {id : Nat} {ops : Array Oper} (l1 : List Oper) (o : Oper) (l2 : List Oper) (hops : ops.toList = l1 ++ o :: l2) (n1 : l1.all opNd = true) (n2 : l2.all opNd = true)
    (h : evL P ops l1 σ fun σ1 => (o.guard = none ∨ ∃ j want d, o.guard = some (j, want) ∧ (ops[j]?).bind (·.dst) = some d ∧ σ1.T.getD d .any = .c (.v (.bool want))) ∧ OpE p P o σ1 fun σ2 => evL P ops l2 σ2 (Φ .normal)) : AWE p P (.region id ops false) σ Φ := by
  intro E ι a w hp hc
  refine (wpIn_wide (n := 0)).1 (wpIn_region_list ?_)
  rw [hops]
  refine evL_R (ro := none) l1 n1 σ h E ι a w hc fun ι1 σ1 a1 w1 => ?_
  rintro ⟨hg, hop⟩ hc1
  refine wpListIn_step fun K hK => ?_
  have hw : Region.wanted o (yielded ops a1.tmps) = true := by
    rcases hg with hg | ⟨j, want, d, hg, hd, hb⟩
    · simp only [Region.wanted, hg]
    · have hv := hc1.tmp d
      rw [hb] at hv
      obtain ⟨e, _⟩ := hv.v_inv
      have hlt : d < a1.tmps.size := by
        rw [hc1.size]
        rcases Nat.lt_or_ge d σ1.T.length with h | h
        · exact h
        · rw [List.getD_eq_getElem?_getD, List.getElem?_eq_none h] at hb; cases hb
      have hy : yielded ops a1.tmps j = some want := by
        unfold yielded
        rw [hd]
        simp only [Option.bind_some]
        have : a1.tmps[d]? = some (.bool want) := by
          rw [Array.getElem?_eq_getElem hlt]
          simp only [Array.getD, hlt, dif_pos] at e
          simpa using e
        rw [this]
      unfold Region.wanted
      rw [hg]
      simp only [hy, beq_self_eq_true]
  rw [hw, if_pos rfl]
  refine hop E ι1 a1 w1 hp hc1 K _ fun ι2 σ2 a2 w2 hk hc2 => hK _ _ ?_
  have := evL_R (ro := none) (Q := fun ex a' w' => ∃ ι' σ', Conc E ι' σ' a' w' ∧ Φ ex σ') (more := []) l2 n2 σ2 hk E ι2 a2 w2 hc2 fun ι' σ' a' w' hk hc' => wpListIn_nil ⟨ι', σ', hc', hk⟩
  rwa [List.append_nil] at this
end
theorem AWE.region_at {p : Env → Prop} {P : Program} {σ : St} {Φ : Exit → St → Prop} {id : Nat} {ops : Array Oper} (k : Nat) {o : Oper} (hk : ops.toList[k]? = some o) (n0 : ops.toList.all (fun x => opNd x) = true)
    (h : ∀ R : St → Prop, (∀ σ1, ((o.guard = none ∨ ∃ j want d, o.guard = some (j, want) ∧ (ops[j]?).bind (·.dst) = some d ∧ σ1.T.getD d .any = .c (.v (.bool want))) ∧ OpE p P o σ1 fun σ2 => ∀ R2 : St → Prop, (∀ σ', Φ .normal σ' → R2 σ') → evL P ops (ops.toList.drop (k + 1)) σ2 R2) → R σ1) → evL P ops (ops.toList.take k) σ R) : AWE p P (.region id ops false) σ Φ := by
  obtain ⟨hlt, rfl⟩ := List.getElem?_eq_some_iff.1 hk
  have n0' := List.all_eq_true.1 n0
  refine AWE.region (ops.toList.take k) ops.toList[k] (ops.toList.drop (k + 1)) (by rw [← List.drop_eq_getElem_cons hlt, List.take_append_drop]) (List.all_eq_true.2 fun x hx => n0' x (List.mem_of_mem_take hx)) (List.all_eq_true.2 fun x hx => n0' x (List.mem_of_mem_drop hx)) ?_
  refine h _ fun σ1 ⟨h1, h2⟩ => ⟨h1, fun E ι a w hp hc K' Q hK' => h2 E ι a w hp hc K' Q fun ι' σ' a' w' hk hc' => hK' ι' σ' a' w' (hk _ fun _ h => h) hc'⟩
abbrev yv (l : Nat) : AV := .c (.v (.func (.yield l) #[] #[]))
theorem AW.range {P : Program} {σ : St} {Φ : Exit → St → Prop} {g : Operand} {t : Tmp} {assign body : Code} {gf : FuncId} {fn : Func} {caps : List AV} {cargs : List AV} {H0 H1 : List (Nat × List AV)} {res : AV} {T0 : List AV} (ρ : Nat → Nat)
    (hF : ∀ l, FnW (LoopAt t assign body T0 (H0.map (·.1)) l) P gf (yv l :: cargs) H0 res H1) (hg0 : okConst g = true) (hg : σ.ev g = .fn gf caps) (hfn : P.funcs[gf]? = some fn) (hname : (fn.name == "runtime.NumGoroutine") = false) (hbody : fn.body.isNone = false)
    (hD0 : H0.all (fun x => decide (1000 ≤ x.1)) = true) (hargs : argsOk ρ cargs caps) (hT0 : argsOk ρ T0 σ.T) (hH0 : ∀ r ∈ H0.map (·.1), hget σ.H (ρ r) = (hget H0 r).map (AV.renL ρ)) (hinj : ∀ r ∈ H0.map (·.1) ++ H1.map (·.1), ∀ q ∈ H0.map (·.1) ++ H1.map (·.1), ρ r = ρ q → r = q)
    (hnew : newOk σ ρ H0 H1) (hin : AV.inN (H1.map (·.1)) res = true) (hinH : inH (H1.map (·.1)) H1 = true)
    (hK : Φ .normal ⟨σ.T, hputs (hdels σ.H (renH ρ H0)) (renH ρ H1)⟩) : AW P (.rangeFunc g #[t] assign body) σ Φ := by
  intro E ι a w hc
  have hfv := hc.ev g hg0
  rw [hg] at hfv
  generalize hge : a.eval g = fv at hfv
  cases hfv with
  | fn _ us _ hul hus =>
    refine (wpIn_wide (n := 0)).1 (wpIn_rangeFunc fun f _ => ?_)
    obtain ⟨w1, hw1⟩ : ∃ w1, (w.alloc (.deferred (some []))).alloc (.loop (recOf #[t] assign body f a.tmps w.heap.size)) = w1 := ⟨_, rfl⟩
    have hc1 : Conc E ι σ a w1 := hw1 ▸ (hc.alloc _).alloc _
    have hL : w1.heap[w.heap.size + 1]? = some (.loop (recOf #[t] assign body f a.tmps w.heap.size)) := by
      rw [← hw1]
      have := World.alloc_heap_new (w.alloc (.deferred (some []))) (.loop (recOf #[t] assign body f a.tmps w.heap.size))
      rwa [World.size_alloc] at this
    have hB : w1.heap[w.heap.size]? = some (.deferred (some [])) := by
      rw [← hw1, Below.heap_alloc _ _ _ (by rw [World.size_alloc]; omega)]
      exact World.alloc_heap_new _ _
    have hD0' : ∀ r ∈ H0.map (·.1), 1000 ≤ r := fun r hr => by
      obtain ⟨y, hy, rfl⟩ := List.mem_map.1 hr
      have := List.all_eq_true.1 hD0 y hy
      simpa using this
    have hH0' : ∀ r cs, hget H0 r = some cs → hget σ.H (ρ r) = some (AV.renL ρ cs) := fun r cs hr => by rw [hH0 r (hget_keys hr), hr]; rfl
    obtain ⟨E', hE'⟩ : ∃ E' : Env, E' = { w := w1, S := Sx E ι σ.H, ι := fun r => ι (ρ r), D := H0.map (·.1), hD := hD0', hG := hc1.glob hH0' } := ⟨_, rfl⟩
    have hwE : E'.w = w1 := by rw [hE']
    have hED : E'.D = H0.map (·.1) := by rw [hE']
    have hconcH : ConcH E'.S E'.ι H0 E'.w := by
      subst hE'
      exact hc1.enter ρ hH0' fun r hr q hq => hinj r (List.mem_append_left _ hr) q (List.mem_append_left _ hq)
    have hdis : ∀ r cs b, hget H0 r = some cs → (E'.ι r).2.1 ≠ 0 → E'.S b → (E'.ι r).1 ≠ b := fun r cs b hr hz hS => by
      subst hE'
      exact hS.2 (ρ r) _ (hH0' r cs hr) hz
    have hneL : ∀ r ∈ E'.D, (E'.ι r).2.1 ≠ 0 → (E'.ι r).1 ≠ w.heap.size + 1 := by
      rw [hED]; exact blk_ne hconcH (by rw [hwE]; exact hL) rfl
    have hneB : ∀ r ∈ E'.D, (E'.ι r).2.1 ≠ 0 → (E'.ι r).1 ≠ w.heap.size := by
      rw [hED]; exact blk_ne hconcH (by rw [hwE]; exact hB) rfl
    obtain ⟨hTl, hTg⟩ := argsOk_get hT0
    obtain ⟨hal, hag⟩ := argsOk_get hargs
    have hat : LoopAt t assign body T0 (H0.map (·.1)) (w.heap.size + 1) E' := by
      refine ⟨⟨f, a.tmps, w.heap.size, by rw [hwE]; exact hL, hc1.size.trans hTl.symm, fun i => ?_⟩, hneL, fun r hr hz b hb => ?_, hED⟩
      · subst hE'
        have hv := hc1.tmp i
        rw [List.getD_eq_getElem?_getD] at hv ⊢
        cases hi : T0[i]? with
        | none => exact .any _
        | some x =>
          have hlt := (List.getElem?_eq_some_iff.1 hi).1
          rw [List.getElem?_eq_getElem (by omega)] at hv
          rcases hTg i x _ hi (List.getElem?_eq_getElem (by omega)) with rfl | e
          · exact .any _
          · exact hv.unren x e
      · obtain ⟨cs, hcs⟩ := hget_of_key (hED ▸ hr)
        exact hdis r cs b hcs hz hb
    have hcall := hF (w.heap.size + 1) E' (.func (.yield (w.heap.size + 1)) #[] #[] :: us) hat hED hdis hconcH (by simp [hul, hal]) (fun j v x hv hx => by
      cases j with
      | zero => cases hv; cases hx; exact .c _ _ (.v _ rfl)
      | succ j =>
        simp only [List.getElem?_cons_succ] at hv hx
        have hlt := (List.getElem?_eq_some_iff.1 hx).1
        subst hE'
        rcases hag j x _ hx (List.getElem?_eq_getElem (by omega)) with rfl | e
        · exact .any _
        · have := hus j v _ hv (List.getElem?_eq_getElem (by omega))
          exact (this.mono (S' := Sx E ι σ.H) (w' := w1) (fun b hb hlt => ⟨hb, by rw [← hw1, Below.heap_alloc _ _ _ (by rw [World.size_alloc]; omega), Below.heap_alloc _ _ _ hlt]⟩) fun _ _ => rfl).unren x e)
    rw [hwE] at hcall
    refine ⟨w.heap.size + 1, [{ target := .collected w.heap.size, args := #[] }], w1, { target := .fn (.func gf) us.toArray, args := #[.func (.yield (w.heap.size + 1)) #[] #[]] }, w1, gf, (.func (.yield (w.heap.size + 1)) #[] #[] :: us : List Value).toArray, w1, ?_, ?_, fun _ _ => trivial, ?_, fun e => (by cases e), (callsIn_wide (n := 0 - 1)).2 (hcall.mono fun e w' => ?_)⟩
    · rw [← hw1]; exact run_enterLoop_outer f a.tmps #[t] assign body
    · simp only [resolve, hge, Deferred.ofValue, List.map_toArray, List.map_cons, List.map_nil, Sem.run_bind, Sem.run_pure, Result.andThen_ok, Array.empty_append]
      rfl
    · have hen := run_enter hfn hname hbody (.func (.yield (w.heap.size + 1)) #[] #[] :: us : List Value).toArray w1
      simpa only [invoke, List.append_toArray, List.cons_append, List.nil_append] using hen
    · rintro ⟨v, ι', rfl, hres, hcH, hk⟩
      obtain ⟨ι2, hcn, -⟩ := hc1.back ρ hD0' hH0' hinj hnew hin hinH hE' hres hcH hk
      have hlt1 : w.heap.size + 1 < w1.heap.size := (Array.getElem?_eq_some_iff.1 hL).1
      have hL' : w'.heap[w.heap.size + 1]? = some (.loop (recOf #[t] assign body f a.tmps w.heap.size)) := by
        rw [hk.block _ (by rw [hwE]; exact hlt1) hneL, hwE]; exact hL
      have hB' : w'.heap[w.heap.size]? = some (.deferred (some [])) := by
        rw [hk.block _ (by rw [hwE]; omega) hneB, hwE]; exact hB
      refine ⟨none, _, run_endLoop hL' (by simp), ?_⟩
      have hE0 := hc.keep.size
      have hMk : Marks E (Sx E ι2 (hputs (hdels σ.H (renH ρ H0)) (renH ρ H1))) (w'.putObj (w.heap.size + 1) (.loop { recOf #[t] assign body f a.tmps w.heap.size with state := .exhausted })) ({ target := .collected w.heap.size, args := #[] } :: a.defers) := by
        obtain ⟨Ds, g1, g2, g3⟩ := hcn.defers
        obtain ⟨Ds0, k1, k2, k3⟩ := hc.defers
        have hinjm : Ds = Ds0 := by
          have := g2.symm.trans k2
          exact (List.map_inj_right (fun x y e => by simpa using e)).1 this
        subst hinjm
        refine ⟨w.heap.size :: Ds, List.nodup_cons.2 ⟨fun hm => ?_, g1⟩, by rw [List.map_cons, ← g2], fun D hD => ?_⟩
        · have := (Array.getElem?_eq_some_iff.1 (k3 _ hm).2.2).1; omega
        · rcases List.mem_cons.1 hD with rfl | hD
          · refine ⟨hE0, ⟨.inr (.inl hE0), fun r cs hr hz e => ?_⟩, (World.putObj_heap_other (by omega)).trans hB'⟩
            rcases hcn.heap.blk r cs hr with ⟨h0, _⟩ | ⟨cur, hh, _⟩
            · exact hz h0
            · rw [e, hB'] at hh; cases hh
          · obtain ⟨m1, m2, m3⟩ := g3 D hD
            have := (Array.getElem?_eq_some_iff.1 (k3 D hD).2.2).1
            exact ⟨m1, m2, (World.putObj_heap_other (by omega)).trans m3⟩
      exact ⟨ι2, _, hcn.turn _ hL' rfl (by omega) hMk, hK⟩
end Go.Proofs.YtgdjkkapgghdbaaDoor

