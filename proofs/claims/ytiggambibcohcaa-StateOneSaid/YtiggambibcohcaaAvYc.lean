/-
  What a function hands back, told otherwise. No program in sight.
-/
import Derived.Test.YtiggambibcohcaaAvY
import Derived.Test.YtiggambibcohcaaAvT
namespace Go.Proofs.Ytiggambibcohcaa
open Go.RowKit
set_option linter.unusedVariables false
set_option linter.unusedSimpArgs false
theorem Fn.to {P : Program} {f : FuncId} {args : List AV} {H0 H1 H2 : List (Nat × List AV)} {res res' : AV} (h : Fn P f args H0 res H1) (k : St.to ⟨[res], H1⟩ ⟨[res'], H2⟩) : Fn P f args H0 res' H2 := by
  intro E vs hD hS hH hlen hargs
  refine (h E vs hD hS hH hlen hargs).mono fun e w' => ?_
  rintro ⟨v, ι', rfl, hres, hcH, hk⟩
  have hc : Conc E ι' ⟨[res], H1⟩ { tmps := #[v], defers := [] } w' := by
    refine ⟨Marks.nil, rfl, fun i => ?_, hcH, hk⟩
    cases i with
    | zero => exact hres
    | succ i => exact .any _
  obtain ⟨ι'', hc'⟩ := k E ι' _ w' hc
  exact ⟨v, ι'', rfl, hc'.tmp 0, hc'.heap, hc'.keep⟩
theorem Fn.frzN {P : Program} {f : FuncId} {args : List AV} {H0 H1 : List (Nat × List AV)} {res : AV} {d : Nat} {pcs : List PV} (h : Fn P f args H0 res H1) (hd : hget H1 d = some (pcs.map .c)) : Fn P f args H0 (AV.frz d pcs res) (frzH d pcs H1) :=
  h.to (St.to.frz (σ := ⟨[res], H1⟩) d hd)
theorem AV.le_agg {a b : List AV} (h : leL a b) : (AV.agg a).le (.agg b) := fun S ι w v hv => by
  obtain ⟨g1, g2⟩ := leL_get h
  cases hv with
  | agg us _ hl h1 hg =>
    refine .agg us _ (by rw [hl, g1]) h1 fun j u y hu hy => ?_
    have hj := (List.getElem?_eq_some_iff.1 hy).1
    rw [← g1] at hj
    exact g2 j _ y (List.getElem?_eq_getElem hj) hy S ι w u (hg j u _ hu (List.getElem?_eq_getElem hj))
theorem AV.le_tupL {a b : List AV} (h : leL a b) : (AV.tup a).le (.tup b) := fun S ι w v hv => by
  obtain ⟨g1, g2⟩ := leL_get h
  cases hv with
  | tup us _ hl hg =>
    refine .tup us _ (by rw [hl, g1]) fun j u y hu hy => ?_
    have hj := (List.getElem?_eq_some_iff.1 hy).1
    rw [← g1] at hj
    exact g2 j _ y (List.getElem?_eq_getElem hj) hy S ι w u (hg j u _ hu (List.getElem?_eq_getElem hj))
/-- nothing, in what is made up, as a row of no element -/
theorem St.to.nilagg {σ : St} (i j d e sz : Nat) {cs : List AV} (h1 : σ.T.getD i .any = .agg cs) (hj : cs[j]? = some (.c (.v (.slice none 0 0)))) (h0 : i < σ.T.length) (hf : σ.free d = true) (hd : d < 1000) : σ.to ⟨σ.T.set i (.agg (cs.set j (.row d e sz 0))), hput σ.H d []⟩ := fun E ι a w hc' => by
  have hg := hc'.grow (w' := w) hf hd (World.grownBy.refl w none) none (fun b hb => by cases hb) (0, 0, e) (cs := []) (fun h => absurd rfl h) rfl (.inl ⟨rfl, rfl⟩)
  refine ⟨_, hg.defers, by simpa using hg.size, fun k => ?_, hg.heap, hg.keep⟩
  by_cases hk : k = i
  · subst hk
    have hv := hg.tmp k
    have : (σ.T.set k (.agg (cs.set j (.row d e sz 0)))).getD k .any = .agg (cs.set j (.row d e sz 0)) := by simp [List.getD, List.getElem?_set, h0]
    show RV _ _ w _ ((σ.T.set k (.agg (cs.set j (.row d e sz 0)))).getD k .any)
    rw [this]
    have hv2 : RV (Sx E (upd ι d (0, 0, e)) (hput σ.H d [])) (upd ι d (0, 0, e)) w (a.tmps.getD k undef) (.agg cs) := by rw [← h1]; exact hv
    generalize a.tmps.getD k undef = v at hv2 ⊢
    cases hv2 with
    | agg us _ hl g1 g2 =>
      refine .agg us _ (by rw [List.length_set]; exact hl) g1 fun m u x hu hx => ?_
      by_cases em : m = j
      · subst em
        have hlt := (List.getElem?_eq_some_iff.1 hj).1
        rw [List.getElem?_set_self hlt] at hx
        cases hx
        have := g2 m u _ hu hj
        cases this with
        | c _ _ hp => cases hp; exact .rnil none d e sz (by rw [upd_same])
      · rw [List.getElem?_set_ne (Ne.symm em)] at hx
        exact g2 m u x hu hx
  · have : (σ.T.set i (.agg (cs.set j (.row d e sz 0)))).getD k .any = σ.T.getD k .any := by simp [List.getD, List.getElem?_set, Ne.symm hk]
    show RV _ _ w _ ((σ.T.set i (.agg (cs.set j (.row d e sz 0)))).getD k .any)
    rw [this]; exact hg.tmp k
/-! effects that are alike to whoever looks at names alone -/
def Ef.sim (e e' : Ef) : Prop := e.rd = e'.rd ∧ e.wn = e'.wn ∧ e.nw = e'.nw ∧ ∀ d, e.names d = e'.names d
theorem Ef.sim_refl (e : Ef) : e.sim e := ⟨rfl, rfl, rfl, fun _ => rfl⟩
theorem Ef.sim_row {v : AV} {rd nw : List Nat} {k : Nat} {X : List AV} (h : ∀ d, AV.refsL d X = false) : Ef.sim ⟨v, rd, [(k, X)], nw⟩ ⟨v, rd, [(k, [])], nw⟩ := ⟨rfl, rfl, rfl, fun d => by unfold Ef.names; simp [h, AV.refsL]⟩
inductive Sims : List Ef → List Ef → Prop
  | nil : Sims [] []
  | cons {e e' : Ef} {es es' : List Ef} : e.sim e' → Sims es es' → Sims (e :: es) (e' :: es')
theorem Sims.snoc {es es' : List Ef} {e e' : Ef} (h : Sims es es') (hs : e.sim e') : Sims (es ++ [e]) (es' ++ [e']) := by
  induction h with
  | nil => exact .cons hs .nil
  | cons h _ ih => exact .cons h ih
theorem Sims.rev {es es' : List Ef} (h : Sims es es') : Sims es.reverse es'.reverse := by
  induction h with
  | nil => exact .nil
  | cons h _ ih => rw [List.reverse_cons, List.reverse_cons]; exact ih.snoc h
theorem Sims.opt {es es' : List Ef} (h : Sims es es') : ∀ i : Nat, (es[i]? = none ∧ es'[i]? = none) ∨ ∃ e e' : Ef, es[i]? = some e ∧ es'[i]? = some e' ∧ Ef.sim e e' := by
  induction h with
  | nil => exact fun i => .inl ⟨by simp, by simp⟩
  | cons h _ ih =>
    intro i
    cases i with
    | zero => exact .inr ⟨_, _, rfl, rfl, h⟩
    | succ i => simpa using ih i
theorem drawOK_sim {l : List Oper} {es es' : List Ef} (h : Sims es es') (k : drawOK l es'.reverse = true) : drawOK l es.reverse = true := by
  have ho := h.rev.opt
  generalize es.reverse = a at ho ⊢
  generalize es'.reverse = b at ho k
  have e1 : freshOK l a = freshOK l b := by
    unfold freshOK
    congr 1
    funext i
    rcases ho i with ⟨h1, h2⟩ | ⟨e, e', h1, h2, hs⟩
    · rw [h1, h2]
    · rw [h1, h2]
      simp only
      rw [hs.2.2.1]
      congr 1
      funext d
      congr 2
      funext j
      congr 1
      rcases ho j with ⟨g1, g2⟩ | ⟨f, f', g1, g2, gs⟩
      · rw [g1, g2]
      · rw [g1, g2]
        simp only
        rw [gs.2.2.2]
  unfold drawOK at k ⊢
  rw [e1]
  rw [← k]
  congr 2
  funext i
  congr 1
  funext j
  congr 1
  rcases ho i with ⟨h1, h2⟩ | ⟨e, e', h1, h2, hs⟩
  · rw [h1, h2]
    cases l[i]? <;> cases l[j]? <;> rfl
  · rcases ho j with ⟨g1, g2⟩ | ⟨f, f', g1, g2, gs⟩
    · rw [h1, h2, g1, g2]
      cases l[i]? <;> cases l[j]? <;> rfl
    · rw [h1, h2, g1, g2]
      cases l[i]? <;> cases l[j]? <;> simp only
      unfold apartE
      rw [hs.1, hs.2.1, gs.1, gs.2.1]
end Go.Proofs.Ytiggambibcohcaa
