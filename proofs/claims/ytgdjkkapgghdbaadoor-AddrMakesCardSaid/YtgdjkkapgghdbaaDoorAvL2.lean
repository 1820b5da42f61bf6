/-
  Loops over functions of two values a round, reckoned. No program in sight.
-/
import Derived.Test.YtgdjkkapgghdbaaDoorAvL
import Derived.OrdersIn
namespace Go.Proofs.YtgdjkkapgghdbaaDoor
open Go.RowKit Go.Lib
set_option linter.unusedSimpArgs false
set_option linter.unusedVariables false
def YC2 (P : Program) (t u : Tmp) (assign body : Code) (T0 : List AV) (l : Nat) (x y : AV) (H0 H1 : List (Nat × List AV)) : Prop :=
  ∀ (E : Env) (v v2 : Value) (f : FuncId) (ts : Array Value) (D : Nat), E.D = H0.map (·.1) → (∀ r cs b, hget H0 r = some cs → (E.ι r).2.1 ≠ 0 → E.S b → (E.ι r).1 ≠ b) → ConcH E.S E.ι H0 E.w → RV E.S E.ι E.w v x → RV E.S E.ι E.w v2 y →
    E.w.heap[l]? = some (.loop (recOf #[t, u] assign body f ts D)) → ts.size = T0.length → (∀ i, RV E.S E.ι E.w (ts.getD i undef) (T0.getD i .any)) →
    RoundIn Fence.wide 0 P l f ((ts.setIfInBounds t v).setIfInBounds u v2) assign body E.w fun e w' => ∃ v ι', e = .returned v ∧ RV (Sx E ι' H1) ι' w' v (.c (.v (.bool true))) ∧ ConcH (Sx E ι' H1) ι' H1 w' ∧ Keep E ι' H1 w'
/-! codes in rounds that draw their order -/
theorem drawAny_in {P : Program} {ro : Option Nat} {ops : Array Oper} {Q : Exit → Act → World → Prop} (hnd : ops.toList.all opNd = true) : ∀ (fuel : Nat) (listed : Array Bool) (a : Act) (w : World), drawAny P ops Q fuel listed a w → wpAnyIn (Fr ro) 0 P .any ops Q fuel listed a w
  | 0, _, _, _, h => h
  | fuel + 1, listed, a, w, h => ⟨h.1, fun i hi => by
    have h2 := h.2 i hi
    unfold drawOp at h2
    unfold wpOpIn
    split
    · rename_i e; simp only [e] at h2; exact drawAny_in hnd fuel _ _ _ h2
    · rename_i o e
      simp only [e] at h2
      have ho : opNd o = true := List.all_eq_true.1 hnd o (by rw [← Array.getElem?_toList] at e; exact List.mem_of_getElem? e)
      split at h2
      · rename_i hw
        rw [if_pos hw]
        exact wpIn_of_wp ho (Oper.wp_mono (fun a w h => drawAny_in hnd fuel _ a w h) h2)
      · rename_i hw
        rw [if_neg hw]
        exact ⟨fun _ _ => trivial, drawAny_in hnd fuel _ _ _ h2⟩⟩
def AWR (ro : Option Nat) (P : Program) (c : Code) (σ : St) (Φ : Exit → St → Prop) : Prop :=
  ∀ (E : Env) (ι : Nat → Nat × Nat × Nat) (a : Act) (w : World), Conc E ι σ a w → c.wpIn (Fr ro) 0 P (fun ex a' w' => ∃ ι' σ', Conc E ι' σ' a' w' ∧ Φ ex σ') a w
section
variable {ro : Option Nat} {P : Program} {σ : St} {Φ : Exit → St → Prop}
theorem AWR.of {c : Code} (hr : codeR c = true) (h : evC P c σ Φ) : AWR ro P c σ Φ := fun E ι a w hc => evC_R c hr σ Φ h E ι a w hc
theorem AWR.seq {x y : Code} (h : AWR ro P x σ fun ex σ' => match ex with | .normal => AWR ro P y σ' Φ | ex => Φ ex σ') : AWR ro P (.seq x y) σ Φ := fun E ι a w hc => by
  refine wpIn_seq (wpIn_mono (h E ι a w hc) fun ex a' w' => ?_)
  rintro ⟨ι', σ', hc', hΦ⟩
  cases ex with
  | normal => exact hΦ E ι' a' w' hc'
  | _ => exact ⟨ι', σ', hc', hΦ⟩
theorem AWR.block {id : Nat} {c : Code} (h : AWR ro P c σ fun ex σ' => match ex with | .exit j => if j = id then Φ .normal σ' else Φ (.exit j) σ' | ex => Φ ex σ') : AWR ro P (.block id c) σ Φ := fun E ι a w hc => by
  refine wpIn_block (wpIn_mono (h E ι a w hc) fun ex a' w' => ?_)
  rintro ⟨ι', σ', hc', hΦ⟩
  cases ex with
  | exit j =>
    unfold Exit.inBlock
    simp only at hΦ ⊢
    split at hΦ
    · rename_i e; rw [if_pos e]; exact ⟨ι', σ', hc', hΦ⟩
    · rename_i e; rw [if_neg e]; exact ⟨ι', σ', hc', hΦ⟩
  | _ => exact ⟨ι', σ', hc', hΦ⟩
theorem AWR.draw {id : Nat} {l0 : List Oper} (hnd : l0.all opNd = true) (hm : P.follows .mixedOrders = true) (hback : edgesBack l0 = true) (hnew : (newNames l0).all (fun d => σ.free d) = true) (h : ∀ R : St → Prop, (∀ σ', Φ .normal σ' → R σ') → evD P l0 l0 σ [] R) : AWR ro P (.region id l0.toArray true) σ Φ := fun E ι a w hc => by
  obtain ⟨es, h1, _, h3, h4, h5⟩ := evD_spec (P := P) (l0 := l0) (σ0 := σ) l0 σ [] 0 rfl rfl (Nat.zero_le _) (fun _ _ => rfl) (h _ fun _ h => h)
  exact wpIn_region_any hm (drawAny_in (by simpa using hnd) _ _ _ _ (region_draw_any hm h1 h3 hback (fun d hd => List.all_eq_true.1 hnew d hd) (fun i o e ho he => h4 i o e (Nat.zero_le _) ho he) h5 E ι a w hc))
end
theorem yc_of2R {P : Program} {t u : Tmp} {assign body : Code} {T0 : List AV} {l : Nat} {x y : AV} {H0 H1 : List (Nat × List AV)} (hA : codeR assign = true)
    (h : evC P assign ⟨(T0.set t x).set u y, H0⟩ fun ex σ1 => ex = .normal ∧ ∀ ro, AWR ro P body σ1 fun ex σ2 => ex = .normal ∧ ∀ r cs, hget H1 r = some cs → hget σ2.H r = some cs) : YC2 P t u assign body T0 l x y H0 H1 := by
  intro E v v2 f ts D hED hS hH hv hvy hl hsz hts
  have hlt := (Array.getElem?_eq_some_iff.1 hl).1
  have hne : ∀ r ∈ E.D, (E.ι r).2.1 ≠ 0 → (E.ι r).1 ≠ l := by rw [hED]; exact blk_ne hH hl rfl
  have hv' : RV (Sx E E.ι H0) E.ι E.w v x := hv.mono (fun b hb _ => ⟨⟨.inl hb, fun r cs hr hz => hS r cs b hr hz hb⟩, rfl⟩) fun _ _ => rfl
  have hv2' : RV (Sx E E.ι H0) E.ι E.w v2 y := hvy.mono (fun b hb _ => ⟨⟨.inl hb, fun r cs hr hz => hS r cs b hr hz hb⟩, rfl⟩) fun _ _ => rfl
  have hc0 := ((Conc.begin E hED hS hH hsz hts).put (some t) hv').put (some u) hv2'
  refine roundIn_of_wpIn trivial ?_
  refine wpIn_mono (evC_R (ro := some l) assign hA _ _ h E E.ι _ E.w hc0) ?_
  rintro ex a1 w1 ⟨ι1, σ1, hc1, rfl, h2⟩
  have hl1 : w1.heap[l]? = some (.loop (recOf #[t, u] assign body f ts D)) := (hc1.keep.block l hlt hne).trans hl
  refine ⟨_, run_beginRound hl1 rfl, ?_⟩
  have hc2 := hc1.rebase (.loop { recOf #[t, u] assign body f ts D with state := .busy }) hl hl1 rfl
  refine wpIn_mono (h2 (some l) _ ι1 _ _ hc2) ?_
  rintro ex a2 w3 ⟨ι2, σ2, hc3, rfl, h3⟩
  have hlb : (E.w.putObj l (.loop { recOf #[t, u] assign body f ts D with state := .busy })).heap[l]? = some (.loop { recOf #[t, u] assign body f ts D with state := .busy }) := World.putObj_heap_same hlt
  have hl3 : w3.heap[l]? = some (.loop { recOf #[t, u] assign body f ts D with state := .busy }) := (hc3.keep.block l (by simpa using hlt) hne).trans hlb
  refine ⟨_, _, run_endRound none hl3, ?_⟩
  have hc4 := hc3.rebase (.loop (recOf #[t, u] assign body f ts D)) hlb hl3 rfl
  have key : ∀ (w' : World) (hG' : GlobOK w' E.S E.ι E.D), w' = E.w → Conc { E with w := w', hG := hG' } ι2 σ2 a2 (w3.putObj l (.loop (recOf #[t, u] assign body f ts D))) → Conc E ι2 σ2 a2 (w3.putObj l (.loop (recOf #[t, u] assign body f ts D))) := by
    rintro _ _ rfl h; exact h
  have hc5 : Conc E ι2 σ2 a2 (w3.putObj l (.loop (recOf #[t, u] assign body f ts D))) := key _ _ (putObj_back hl) hc4
  have hc6 := hc5.leH h3
  exact ⟨_, ι2, rfl, .c _ _ (.v _ rfl), hc6.heap, hc6.keep⟩

structure LoopAt2 (t u : Tmp) (assign body : Code) (T0 : List AV) (DD : List Nat) (l : Nat) (E : Env) : Prop where
  rc : ∃ f ts D, E.w.heap[l]? = some (.loop (recOf #[t, u] assign body f ts D)) ∧ ts.size = T0.length ∧ ∀ i, RV E.S E.ι E.w (ts.getD i undef) (T0.getD i .any)
  free : ∀ r ∈ E.D, (E.ι r).2.1 ≠ 0 → (E.ι r).1 ≠ l
  dis : ∀ r ∈ E.D, (E.ι r).2.1 ≠ 0 → ∀ b, E.S b → (E.ι r).1 ≠ b
  names : E.D = DD
theorem opE_yield2 {P : Program} {o : Oper} {σ : St} {K : St → Prop} {t u : Tmp} {assign body : Code} {T0 : List AV} {DD : List Nat} {l : Nat} {x y : AV} {H0 H1 : List (Nat × List AV)} (hY : YC2 P t u assign body T0 l x y H0 H1) (ρ : Nat → Nat)
    {fo ao bo : Operand} {ts : Array TypeId} (ho : o.op = .call { callee := .value fo, args := #[ao, bo], argTypes := ts }) (hfo : okConst fo = true) (hao : okConst ao = true) (hbo : okConst bo = true) (hf : σ.ev fo = .c (.v (.func (.yield l) #[] #[]))) (hx : argOk ρ x (σ.ev ao)) (hy : argOk ρ y (σ.ev bo))
    (hD0 : H0.all (fun x => decide (1000 ≤ x.1)) = true) (hH0 : ∀ r ∈ H0.map (·.1), hget σ.H (ρ r) = (hget H0 r).map (AV.renL ρ)) (hinj : ∀ r ∈ H0.map (·.1) ++ H1.map (·.1), ∀ q ∈ H0.map (·.1) ++ H1.map (·.1), ρ r = ρ q → r = q)
    (hnew : newOk σ ρ H0 H1) (hinH : inH (H1.map (·.1)) H1 = true) (NT : List Nat) (hT0 : AV.inNL NT T0 = true) (hNT : ∀ r ∈ NT, r ∈ DD ∧ ρ r = r ∧ (hget σ.H r).isSome = true)
    (hK : K ((St.mk σ.T (hputs (hdels σ.H (renH ρ H0)) (renH ρ H1))).put o.dst (.c (.v (.bool true))))) : OpE (LoopAt2 t u assign body T0 DD l) P o σ K := by
  intro E ι a w hp hc K' Q hK'
  obtain ⟨⟨f, tt, D, hl, hsz, htt⟩, hfree, hdis, hnames⟩ := hp
  have hlt := (Array.getElem?_eq_some_iff.1 hl).1
  have hlw : w.heap[l]? = some (.loop (recOf #[t, u] assign body f tt D)) := (hc.keep.block l hlt hfree).trans hl
  have hfv := hc.ev fo hfo
  rw [hf] at hfv
  obtain ⟨hfe, _⟩ := hfv.v_inv
  have hav := hc.ev ao hao
  have hbv := hc.ev bo hbo
  have hD0' : ∀ r ∈ H0.map (·.1), 1000 ≤ r := fun r hr => by
    obtain ⟨y, hy, rfl⟩ := List.mem_map.1 hr
    have := List.all_eq_true.1 hD0 y hy
    simpa using this
  have hH0' : ∀ r cs, hget H0 r = some cs → hget σ.H (ρ r) = some (AV.renL ρ cs) := fun r cs hr => by rw [hH0 r (hget_keys hr), hr]; rfl
  obtain ⟨E', hE'⟩ : ∃ E' : Env, E' = { w := w, S := Sx E ι σ.H, ι := fun r => ι (ρ r), D := H0.map (·.1), hD := hD0', hG := hc.glob hH0' } := ⟨_, rfl⟩
  have hconcH : ConcH E'.S E'.ι H0 E'.w := by
    subst hE'
    exact hc.enter ρ hH0' fun r hr q hq => hinj r (List.mem_append_left _ hr) q (List.mem_append_left _ hq)
  have hSE : ∀ b, E.S b → b < E.w.heap.size → Sx E ι σ.H b ∧ w.heap[b]? = E.w.heap[b]? := fun b hb hlt => by
    refine ⟨⟨.inl hb, fun r cs hr hz => ?_⟩, hc.keep.block b hlt fun r hr hz => hdis r hr hz b hb⟩
    obtain ⟨m1, m2⟩ := hc.keep.mine r cs hr
    by_cases hm : r ∈ E.D
    · rw [m1 hm] at hz ⊢; exact hdis r hm hz b hb
    · rcases m2 hm hz with h1 | ⟨q, hq, hqz, h1⟩
      · omega
      · rw [← h1]; exact hdis q hq hqz b hb
  have hround := hY E' (a.eval ao) (a.eval bo) f tt D (by rw [hE']) (fun r cs b hr hz hS => by
    subst hE'
    exact hS.2 (ρ r) _ (hH0' r cs hr) hz) hconcH (by
      subst hE'
      rcases hx with rfl | e
      · exact .any _
      · exact hav.unren x e) (by
      subst hE'
      rcases hy with rfl | e
      · exact .any _
      · exact hbv.unren y e) (by rw [hE']; exact hlw) hsz (fun i => by
        subst hE'
        refine (htt i).mono hSE fun r hr => ?_
        have hin : AV.inN NT (T0.getD i .any) = true := inL_get hT0 i
        obtain ⟨g1, g2, g3⟩ := hNT r (refs_inN _ hin hr)
        obtain ⟨cs, hcs⟩ := Option.isSome_iff_exists.1 g3
        show ι (ρ r) = E.ι r
        rw [g2]
        exact (hc.keep.mine r cs hcs).1 (by rw [hnames]; exact g1))
  have hwE : E'.w = w := by rw [hE']
  rw [hwE] at hround
  have hrun : (execOp a.eval o).run P w = .ok (.round l f ((tt.setIfInBounds t (a.eval ao)).setIfInBounds u (a.eval bo)) assign body) w := by
    have hyy := run_yield (P := P) (args := #[a.eval ao, a.eval bo]) hlw rfl
    simp only [execOp, ho, resolve, hfe, Deferred.ofValue, List.map_toArray, List.map_cons, List.map_nil, Sem.run_bind, Sem.run_pure, Result.andThen_ok, invoke, callFunc, Array.empty_append, List.append_toArray, List.nil_append, List.append_nil]
    simpa using hyy
  refine ⟨fun _ _ => trivial, ?_⟩
  rw [Oper.semAt_eq _ _ _ (fun c e => by rw [ho] at e; cases e), hrun, Oper.uponIn_round]
  refine ⟨fun e => (by cases e), RoundIn.mono hround fun e w' => ?_⟩
  rintro ⟨v, ι', rfl, hres, hcH, hk⟩
  simp only
  obtain ⟨ι2, hcn, hrv⟩ := hc.back ρ hD0' hH0' hinj hnew rfl hinH hE' hres hcH hk
  exact hK' ι2 _ _ _ hK (hcn.put o.dst hrv)

theorem AW.range2 {P : Program} {σ : St} {Φ : Exit → St → Prop} {g : Operand} {t u : Tmp} {assign body : Code} {gf : FuncId} {fn : Func} {caps : List AV} {cargs : List AV} {H0 H1 : List (Nat × List AV)} {res : AV} {T0 : List AV} (ρ : Nat → Nat)
    (hF : ∀ l, FnW (LoopAt2 t u assign body T0 (H0.map (·.1)) l) P gf (yv l :: cargs) H0 res H1) (hg0 : okConst g = true) (hg : σ.ev g = .fn gf caps) (hfn : P.funcs[gf]? = some fn) (hname : (fn.name == "runtime.NumGoroutine") = false) (hbody : fn.body.isNone = false)
    (hD0 : H0.all (fun x => decide (1000 ≤ x.1)) = true) (hargs : argsOk ρ cargs caps) (hT0 : argsOk ρ T0 σ.T) (hH0 : ∀ r ∈ H0.map (·.1), hget σ.H (ρ r) = (hget H0 r).map (AV.renL ρ)) (hinj : ∀ r ∈ H0.map (·.1) ++ H1.map (·.1), ∀ q ∈ H0.map (·.1) ++ H1.map (·.1), ρ r = ρ q → r = q)
    (hnew : newOk σ ρ H0 H1) (hin : AV.inN (H1.map (·.1)) res = true) (hinH : inH (H1.map (·.1)) H1 = true)
    (hK : Φ .normal ⟨σ.T, hputs (hdels σ.H (renH ρ H0)) (renH ρ H1)⟩) : AW P (.rangeFunc g #[t, u] assign body) σ Φ := by
  intro E ι a w hc
  have hfv := hc.ev g hg0
  rw [hg] at hfv
  generalize hge : a.eval g = fv at hfv
  cases hfv with
  | fn _ us _ hul hus =>
    refine (wpIn_wide (n := 0)).1 (wpIn_rangeFunc fun f _ => ?_)
    obtain ⟨w1, hw1⟩ : ∃ w1, (w.alloc (.deferred (some []))).alloc (.loop (recOf #[t, u] assign body f a.tmps w.heap.size)) = w1 := ⟨_, rfl⟩
    have hc1 : Conc E ι σ a w1 := hw1 ▸ (hc.alloc _).alloc _
    have hL : w1.heap[w.heap.size + 1]? = some (.loop (recOf #[t, u] assign body f a.tmps w.heap.size)) := by
      rw [← hw1]
      have := World.alloc_heap_new (w.alloc (.deferred (some []))) (.loop (recOf #[t, u] assign body f a.tmps w.heap.size))
      rwa [World.size_alloc] at this
    have hB : w1.heap[w.heap.size]? = some (.deferred (some [])) := by
      rw [← hw1, Below.heap_alloc _ _ _ (by rw [World.size_alloc]; omega)]
      exact World.alloc_heap_new _ _
    have hD0' : ∀ r ∈ H0.map (·.1), 1000 ≤ r := fun r hr => by
      obtain ⟨y, hy, rfl⟩ := List.mem_map.1 hr
      have := List.all_eq_true.1 hD0 y hy
      simpa using this
    have hH0' : ∀ r cs, hget H0 r = some cs → hget σ.H (ρ r) = some (AV.renL ρ cs) := fun r cs hr => by rw [hH0 r (hget_keys hr), hr]; rfl
    obtain ⟨E', hE'⟩ : ∃ E' : Env, E' = { w := w1, S := Sx E ι σ.H, ι := fun r => ι (ρ r), D := H0.map (·.1), hD := hD0', hG := hc1.glob hH0' } := ⟨_, rfl⟩
    have hwE : E'.w = w1 := by rw [hE']
    have hED : E'.D = H0.map (·.1) := by rw [hE']
    have hconcH : ConcH E'.S E'.ι H0 E'.w := by
      subst hE'
      exact hc1.enter ρ hH0' fun r hr q hq => hinj r (List.mem_append_left _ hr) q (List.mem_append_left _ hq)
    have hdis : ∀ r cs b, hget H0 r = some cs → (E'.ι r).2.1 ≠ 0 → E'.S b → (E'.ι r).1 ≠ b := fun r cs b hr hz hS => by
      subst hE'
      exact hS.2 (ρ r) _ (hH0' r cs hr) hz
    have hneL : ∀ r ∈ E'.D, (E'.ι r).2.1 ≠ 0 → (E'.ι r).1 ≠ w.heap.size + 1 := by
      rw [hED]; exact blk_ne hconcH (by rw [hwE]; exact hL) rfl
    have hneB : ∀ r ∈ E'.D, (E'.ι r).2.1 ≠ 0 → (E'.ι r).1 ≠ w.heap.size := by
      rw [hED]; exact blk_ne hconcH (by rw [hwE]; exact hB) rfl
    obtain ⟨hTl, hTg⟩ := argsOk_get hT0
    obtain ⟨hal, hag⟩ := argsOk_get hargs
    have hat : LoopAt2 t u assign body T0 (H0.map (·.1)) (w.heap.size + 1) E' := by
      refine ⟨⟨f, a.tmps, w.heap.size, by rw [hwE]; exact hL, hc1.size.trans hTl.symm, fun i => ?_⟩, hneL, fun r hr hz b hb => ?_, hED⟩
      · subst hE'
        have hv := hc1.tmp i
        rw [List.getD_eq_getElem?_getD] at hv ⊢
        cases hi : T0[i]? with
        | none => exact .any _
        | some x =>
          have hlt := (List.getElem?_eq_some_iff.1 hi).1
          rw [List.getElem?_eq_getElem (by omega)] at hv
          rcases hTg i x _ hi (List.getElem?_eq_getElem (by omega)) with rfl | e
          · exact .any _
          · exact hv.unren x e
      · obtain ⟨cs, hcs⟩ := hget_of_key (hED ▸ hr)
        exact hdis r cs b hcs hz hb
    have hcall := hF (w.heap.size + 1) E' (.func (.yield (w.heap.size + 1)) #[] #[] :: us) hat hED hdis hconcH (by simp [hul, hal]) (fun j v x hv hx => by
      cases j with
      | zero => cases hv; cases hx; exact .c _ _ (.v _ rfl)
      | succ j =>
        simp only [List.getElem?_cons_succ] at hv hx
        have hlt := (List.getElem?_eq_some_iff.1 hx).1
        subst hE'
        rcases hag j x _ hx (List.getElem?_eq_getElem (by omega)) with rfl | e
        · exact .any _
        · have := hus j v _ hv (List.getElem?_eq_getElem (by omega))
          exact (this.mono (S' := Sx E ι σ.H) (w' := w1) (fun b hb hlt => ⟨hb, by rw [← hw1, Below.heap_alloc _ _ _ (by rw [World.size_alloc]; omega), Below.heap_alloc _ _ _ hlt]⟩) fun _ _ => rfl).unren x e)
    rw [hwE] at hcall
    refine ⟨w.heap.size + 1, [{ target := .collected w.heap.size, args := #[] }], w1, { target := .fn (.func gf) us.toArray, args := #[.func (.yield (w.heap.size + 1)) #[] #[]] }, w1, gf, (.func (.yield (w.heap.size + 1)) #[] #[] :: us : List Value).toArray, w1, ?_, ?_, fun _ _ => trivial, ?_, fun e => (by cases e), (callsIn_wide (n := 0 - 1)).2 (hcall.mono fun e w' => ?_)⟩
    · rw [← hw1]; exact run_enterLoop_outer f a.tmps #[t, u] assign body
    · simp only [resolve, hge, Deferred.ofValue, List.map_toArray, List.map_cons, List.map_nil, Sem.run_bind, Sem.run_pure, Result.andThen_ok, Array.empty_append]
      rfl
    · have hen := run_enter hfn hname hbody (.func (.yield (w.heap.size + 1)) #[] #[] :: us : List Value).toArray w1
      simpa only [invoke, List.append_toArray, List.cons_append, List.nil_append] using hen
    · rintro ⟨v, ι', rfl, hres, hcH, hk⟩
      obtain ⟨ι2, hcn, -⟩ := hc1.back ρ hD0' hH0' hinj hnew hin hinH hE' hres hcH hk
      have hlt1 : w.heap.size + 1 < w1.heap.size := (Array.getElem?_eq_some_iff.1 hL).1
      have hL' : w'.heap[w.heap.size + 1]? = some (.loop (recOf #[t, u] assign body f a.tmps w.heap.size)) := by
        rw [hk.block _ (by rw [hwE]; exact hlt1) hneL, hwE]; exact hL
      have hB' : w'.heap[w.heap.size]? = some (.deferred (some [])) := by
        rw [hk.block _ (by rw [hwE]; omega) hneB, hwE]; exact hB
      refine ⟨none, _, run_endLoop hL' (by simp), ?_⟩
      have hE0 := hc.keep.size
      have hMk : Marks E (Sx E ι2 (hputs (hdels σ.H (renH ρ H0)) (renH ρ H1))) (w'.putObj (w.heap.size + 1) (.loop { recOf #[t, u] assign body f a.tmps w.heap.size with state := .exhausted })) ({ target := .collected w.heap.size, args := #[] } :: a.defers) := by
        obtain ⟨Ds, g1, g2, g3⟩ := hcn.defers
        obtain ⟨Ds0, k1, k2, k3⟩ := hc.defers
        have hinjm : Ds = Ds0 := by
          have := g2.symm.trans k2
          exact (List.map_inj_right (fun x y e => by simpa using e)).1 this
        subst hinjm
        refine ⟨w.heap.size :: Ds, List.nodup_cons.2 ⟨fun hm => ?_, g1⟩, by rw [List.map_cons, ← g2], fun D hD => ?_⟩
        · have := (Array.getElem?_eq_some_iff.1 (k3 _ hm).2.2).1; omega
        · rcases List.mem_cons.1 hD with rfl | hD
          · refine ⟨hE0, ⟨.inr (.inl hE0), fun r cs hr hz e => ?_⟩, (World.putObj_heap_other (by omega)).trans hB'⟩
            rcases hcn.heap.blk r cs hr with ⟨h0, _⟩ | ⟨cur, hh, _⟩
            · exact hz h0
            · rw [e, hB'] at hh; cases hh
          · obtain ⟨m1, m2, m3⟩ := g3 D hD
            have := (Array.getElem?_eq_some_iff.1 (k3 D hD).2.2).1
            exact ⟨m1, m2, (World.putObj_heap_other (by omega)).trans m3⟩
      exact ⟨ι2, _, hcn.turn _ hL' rfl (by omega) hMk, hK⟩
end Go.Proofs.YtgdjkkapgghdbaaDoor

