/-
  What is forgotten at a loop's head; elements of rows. No program in sight.
-/
import Derived.Test.YtiggambibcohcaaAvS
namespace Go.Proofs.Ytiggambibcohcaa
open Go.RowKit
set_option linter.unusedSimpArgs false
set_option linter.unusedVariables false
def leT : List AV → List AV → Prop
  | [], [] => True
  | x :: a, y :: b => (y = .any ∨ x = y) ∧ leT a b
  | _, _ => False
def leH (H : List (Nat × List AV)) : List (Nat × List AV) → Prop
  | [] => True
  | (k, cs) :: l => hget H k = some cs ∧ leH H l
theorem leT_length : ∀ {a b : List AV}, leT a b → a.length = b.length
  | [], [], _ => rfl
  | x :: a, y :: b, h => by simp [leT_length h.2]
  | [], _ :: _, h => h.elim
  | _ :: _, [], h => h.elim
theorem leT_get : ∀ {a b : List AV}, leT a b → ∀ i, (a.getD i .any).le (b.getD i .any)
  | [], [], _, i => AV.le_of rfl
  | x :: a, y :: b, h, 0 => h.1.elim (fun e => by show x.le y; rw [e]; exact AV.le_any x) AV.le_of
  | x :: a, y :: b, h, i + 1 => by
    have := leT_get h.2 i
    simpa [List.getD_eq_getElem?_getD] using this
  | [], _ :: _, h, _ => h.elim
  | _ :: _, [], h, _ => h.elim
theorem leH_get {H : List (Nat × List AV)} : ∀ {l : List (Nat × List AV)}, leH H l → ∀ r cs, hget l r = some cs → hget H r = some cs
  | (k, ds) :: l, h, r, cs, hr => by
    unfold hget at hr
    split at hr
    · rename_i hk; cases hr; subst hk; exact h.1
    · exact leH_get h.2 r cs hr
theorem St.le_of {σ τ : St} (h : leT σ.T τ.T) (hH : leH σ.H τ.H) : σ.le τ := ⟨leT_length h, leT_get h, leH_get hH⟩
/-- a loop whose rounds are told by a number that rises to n -/
theorem evC_upto {P : Program} {c : Code} {σ : St} {Φ : Exit → St → Prop} (n : Nat) (I : Nat → St) (h0 : σ.le (I 0))
    (round : ∀ i, i ≤ n → ∀ Ψ : Exit → St → Prop, (∀ σ', i + 1 ≤ n → σ'.le (I (i + 1)) → Ψ .normal σ') → (∀ ex σ', ex ≠ .normal → Φ ex σ' → Ψ ex σ') → evC P c (I i) Ψ) : evC P (.loop c) σ Φ :=
  evC_loop (α := { i : Nat // i ≤ n }) (fun x => I x.1) (fun x => n - x.1) ⟨0, Nat.zero_le _⟩ h0 fun x Ψ h1 h2 =>
    round x.1 x.2 Ψ (fun σ' hlt hle => h1 σ' ⟨x.1 + 1, hlt⟩ (by have := x.2; simp only; omega) hle) h2
section
variable {α : Type} {f : α → List PV} {sz : Nat} (hf : ∀ x, (f x).length = sz)
include hf
theorem flat_length : ∀ (l : List α), (l.flatMap f).length = l.length * sz
  | [] => by simp
  | x :: l => by simp [flat_length l, hf, Nat.add_mul, Nat.add_comm]
theorem flat_drop : ∀ (l : List α) (i : Nat), (l.flatMap f).drop (i * sz) = (l.drop i).flatMap f
  | l, 0 => by simp
  | [], i + 1 => by simp
  | x :: l, i + 1 => by
    rw [List.flatMap_cons, List.drop_append, hf, show (i + 1) * sz - sz = i * sz by rw [Nat.add_mul]; omega, List.drop_eq_nil_of_le (by rw [hf, Nat.add_mul]; omega), List.nil_append, flat_drop l i]; rfl
theorem flat_take : ∀ (l : List α) (i : Nat), (l.flatMap f).take (i * sz) = (l.take i).flatMap f
  | l, 0 => by simp
  | [], i + 1 => by simp
  | x :: l, i + 1 => by
    rw [List.flatMap_cons, List.take_append, hf, show (i + 1) * sz - sz = i * sz by rw [Nat.add_mul]; omega, List.take_of_length_le (by rw [hf, Nat.add_mul]; omega), flat_take l i]; rfl
theorem flat_at {l : List α} {i : Nat} {y : α} (h : l[i]? = some y) : ((l.flatMap f).drop (i * sz)).take sz = f y := by
  rw [flat_drop hf]
  obtain ⟨h1, h2⟩ := List.getElem?_eq_some_iff.1 h
  rw [List.drop_eq_getElem_cons h1, h2, List.flatMap_cons, List.take_append, List.take_of_length_le (by rw [hf]; exact Nat.le_refl _), hf, Nat.sub_self, List.take_zero, List.append_nil]
end
/-- a slice held against nil -/
theorem opA_isnil {P : Program} {o : Oper} {σ : St} {K : St → Prop} {op : BinOp} {t t' sz n : Nat} {ex : Bool} {cs : List PV} {x : Operand} (hop : op = .eql ∨ op = .neq) (ho : o.op = .binOp op t x (.const (.slice none 0 0)) t') (ht : (slcT P t).isSome = true) (hx : okConst x = true) (h1 : σ.ev x = .c (.sl ex sz n cs))
    (hK : ∀ b : Bool, (b = true → n = 0) → K (σ.put o.dst (.c (.v (.bool (if op = .eql then b else !b)))))) : OpA P o σ K := by
  intro E ι a w hc K' Q hK'
  have hxv := hc.ev x hx
  rw [h1] at hxv
  generalize he : a.eval x = v at hxv
  cases hxv with
  | c _ _ hp =>
    cases hp with
    | sl _ _ A _ c us _ g1 g2 g3 =>
      obtain ⟨e, hu⟩ : ∃ e, P.underlying t = some (.slice e) := by
        unfold slcT at ht
        cases hu : P.underlying t with
        | none => simp [hu] at ht
        | some d => cases d <;> simp [hu] at ht; exact ⟨_, rfl⟩
      have heq : (Op.equal t (.slice A n c) (.slice none 0 0)).run P w = .ok A.isNone w := by
        unfold Op.equal
        rw [show Op.maxDepth = 9999 + 1 from rfl]
        unfold Op.equalIn
        rw [Sem.run_bind, run_underlying hu, Result.andThen_ok]
        cases A <;> rfl
      have g1' : binOp .eql t (.slice A n c) (.slice none 0 0) = (do pure (.bool (← Op.equal t (.slice A n c) (.slice none 0 0)))) := rfl
      have g2' : binOp .neq t (.slice A n c) (.slice none 0 0) = (do pure (.bool (!(← Op.equal t (.slice A n c) (.slice none 0 0))))) := rfl
      have hn : A.isNone = true → n = 0 := fun h => by
        have := g3 (by simpa using h)
        omega
      have key : (execOp a.eval o).run P w = .ok (.value (.bool (if op = .eql then A.isNone else !A.isNone))) w := by
        have hg : (eqGuard op t x (.const (.slice none 0 0)) (.slice A n c) (.slice none 0 0)).run P w = .ok () w := run_eqGuard rfl (by simp) t _ _ w
        have e2 : a.eval (.const (.slice none 0 0)) = .slice none 0 0 := rfl
        rcases hop with rfl | rfl
        · simp only [execOp, ho, he, e2, Sem.run_bind, hg, Result.andThen_ok, g1', heq, Sem.run_pure, if_true]
        · simp only [execOp, ho, he, e2, Sem.run_bind, hg, Result.andThen_ok, g2', heq, Sem.run_pure, reduceCtorEq, if_false]
      unfold Oper.wp
      rw [key]
      exact hK' _ _ _ _ (hK _ hn) (hc.put o.dst (.c _ _ (.v _ rfl)))
theorem evO_isnil {P : Program} {o : Oper} {σ : St} {K : St → Prop} {op : BinOp} {t t' sz n : Nat} {ex : Bool} {cs : List PV} {x : Operand} (ho : o.op = .binOp op t x (.const (.slice none 0 0)) t') (h1 : σ.ev x = .c (.sl ex sz n cs)) (hop : op = .eql ∨ op = .neq) (ht : (slcT P t).isSome = true) (hx : okConst x = true)
    (hK : ∀ b : Bool, (b = true → n = 0) → K (σ.put o.dst (.c (.v (.bool (if op = .eql then b else !b)))))) : evO P o σ K := by
  unfold evO
  rw [ho]
  simp only [h1]
  exact ⟨hx, rfl, opA_isnil hop ho ht hx h1 hK⟩
/-- nil held against nil -/
theorem evO_nilnil {P : Program} {o : Oper} {σ : St} {K : St → Prop} {op : BinOp} {t t' : Nat} {x : Operand} (ho : o.op = .binOp op t x (.const (.slice none 0 0)) t') (h1 : σ.ev x = .c (.v (.slice none 0 0))) (hop : op = .eql ∨ op = .neq) (ht : (slcT P t).isSome = true) (hx : okConst x = true)
    (hK : K (σ.put o.dst (.c (.v (.bool (if op = .eql then true else false)))))) : OpA P o σ K := by
  intro E ι a w hc K' Q hK'
  have hxv := hc.ev x hx
  rw [h1] at hxv
  obtain ⟨he, _⟩ := hxv.v_inv
  obtain ⟨e, hu⟩ : ∃ e, P.underlying t = some (.slice e) := by
    unfold slcT at ht
    cases hu : P.underlying t with
    | none => simp [hu] at ht
    | some d => cases d <;> simp [hu] at ht; exact ⟨_, rfl⟩
  have heq : (Op.equal t (.slice none 0 0) (.slice none 0 0)).run P w = .ok true w := by
    unfold Op.equal
    rw [show Op.maxDepth = 9999 + 1 from rfl]
    unfold Op.equalIn
    rw [Sem.run_bind, run_underlying hu, Result.andThen_ok]
    rfl
  have g1' : binOp .eql t (.slice none 0 0) (.slice none 0 0) = (do pure (.bool (← Op.equal t (.slice none 0 0) (.slice none 0 0)))) := rfl
  have g2' : binOp .neq t (.slice none 0 0) (.slice none 0 0) = (do pure (.bool (!(← Op.equal t (.slice none 0 0) (.slice none 0 0))))) := rfl
  have key : (execOp a.eval o).run P w = .ok (.value (.bool (if op = .eql then true else false))) w := by
    have hg : (eqGuard op t x (.const (.slice none 0 0)) (.slice none 0 0) (.slice none 0 0)).run P w = .ok () w := run_eqGuard rfl (by simp) t _ _ w
    have e2 : a.eval (.const (.slice none 0 0)) = .slice none 0 0 := rfl
    rcases hop with rfl | rfl
    · simp only [execOp, ho, he, e2, Sem.run_bind, hg, Result.andThen_ok, g1', heq, Sem.run_pure, if_true]
    · simp only [execOp, ho, he, e2, Sem.run_bind, hg, Result.andThen_ok, g2', heq, Sem.run_pure, reduceCtorEq, if_false]
      rfl
  unfold Oper.wp
  rw [key]
  exact hK' _ _ _ _ hK (hc.put o.dst (.c _ _ (.v _ rfl)))
/-- nil, cut from its beginning -/
theorem opA_cut_nil {P : Program} {o : Oper} {σ : St} {K : St → Prop} {t sz : Nat} {x lo : Operand} (ho : o.op = .slice t x (some lo) none none) (hx : okConst x = true) (hlo : okConst lo = true) (h1 : σ.ev x = .c (.v (.slice none 0 0))) (hs : (slcT P t).map (fun p => p.2.1) = some sz) (hl : σ.ev lo = .c (.v (.int .i64 0)))
    (hK : K (σ.put o.dst .any)) : OpA P o σ K := by
  obtain ⟨e, by_, hs⟩ := slcT_of hs
  have hput : ∀ y, (σ.put o.dst y).le (σ.put o.dst .any) := fun y => by
    cases hd : o.dst with
    | none => exact ⟨rfl, fun i => AV.le_refl _, fun r cs h => h⟩
    | some d =>
      refine ⟨by simp [St.put], fun i => ?_, fun r cs h => h⟩
      show AV.le ((σ.T.set d y).getD i .any) ((σ.T.set d .any).getD i .any)
      rw [List.getD_eq_getElem?_getD, List.getD_eq_getElem?_getD]
      by_cases hi : d = i
      · subst hi
        by_cases hlt : d < σ.T.length
        · rw [List.getElem?_set_self hlt, List.getElem?_set_self hlt]; exact AV.le_any _
        · rw [List.getElem?_eq_none (by rw [List.length_set]; exact Nat.le_of_not_lt hlt), List.getElem?_eq_none (by rw [List.length_set]; exact Nat.le_of_not_lt hlt)]; exact AV.le_refl _
      · rw [List.getElem?_set_ne hi, List.getElem?_set_ne hi]; exact AV.le_refl _
  intro E ι a w hc K' Q hK'
  exact opA_slice (K := fun σ' => σ'.le (σ.put o.dst .any)) ho hx (by simpa using hlo) rfl rfl hs (n := 0) (ex := true) (cs := []) (by rw [h1]; exact AV.le_nil true sz) (l := 0) (h := 0) (m := 0) (by simp [bnd, hl]) rfl rfl (by simp) (by simp) (hput _) E ι a w hc K' Q fun ι' σ' a' w' hk hc' => hK' ι' _ a' w' hK (hc'.le hk)
def leL : List AV → List AV → Prop
  | [], [] => True
  | x :: a, y :: b => x.le y ∧ leL a b
  | _, _ => False
theorem leL_get : ∀ {a b : List AV}, leL a b → a.length = b.length ∧ ∀ (j : Nat) (x y : AV), a[j]? = some x → b[j]? = some y → x.le y
  | [], [], _ => ⟨rfl, fun j x y hx => by cases hx⟩
  | x :: a, y :: b, h => by
    obtain ⟨h1, h2⟩ := leL_get h.2
    refine ⟨by simp [h1], fun j u v hu hv => ?_⟩
    cases j with
    | zero => simp at hu hv; subst hu hv; exact h.1
    | succ j => exact h2 j u v (by simpa using hu) (by simpa using hv)
  | [], _ :: _, h => h.elim
  | _ :: _, [], h => h.elim
/-- of more that is known -/
theorem Fn.args {P : Program} {f : FuncId} {args args' : List AV} {H0 H1 : List (Nat × List AV)} {res : AV} (h : Fn P f args H0 res H1) (hle : leL args' args) : Fn P f args' H0 res H1 := by
  obtain ⟨h1, h2⟩ := leL_get hle
  intro E vs hD hS hH hl hv
  refine h E vs hD hS hH (hl.trans h1) fun j v x hj hx => ?_
  have : j < args'.length := by rw [h1]; exact (List.getElem?_eq_some_iff.1 hx).1
  exact h2 j _ x (List.getElem?_eq_getElem this) hx _ _ _ _ (hv j v _ hj (List.getElem?_eq_getElem this))
/-- what is used at every step -/
theorem evz : type_of% (And.intro @ofV.eq_1 <| And.intro @ofV.eq_2 <| And.intro @ofV.eq_3 <| And.intro @AV.cells.eq_1 <| And.intro @AV.cells.eq_2 <| And.intro @AV.cells.eq_3 <| And.intro @AV.cells.eq_4 <| And.intro @pickAV.eq_1 <| And.intro @pickAV.eq_2 <| And.intro @bop.eq_1 <| And.intro @bop.eq_2 <| And.intro @bop.eq_3 <| And.intro @bop.eq_4 <| And.intro @bop.eq_5 <| And.intro @bop.eq_6 <| And.intro @bop.eq_7 <| And.intro @bop.eq_8 <| And.intro @bop.eq_9 <| And.intro @bop.eq_10 <| And.intro @bop.eq_11 <| And.intro @bop.eq_12 <| And.intro @bop.eq_13 <| And.intro @bop.eq_14 <| And.intro @bop.eq_15 <| And.intro @bop.eq_16 <| And.intro @bop.eq_17 <| And.intro @bop.eq_18 <| And.intro @bop.eq_19 <| And.intro @bnd.eq_1 <| And.intro @bnd.eq_2 <| And.intro @tightB.eq_1 <| And.intro @lenA.eq_1 <| And.intro @lenA.eq_2 <| And.intro @lenA.eq_3 <| And.intro @lenA.eq_4 <| And.intro @lenA.eq_5 <| And.intro @St.src.eq_1 <| And.intro @St.src.eq_2 <| And.intro @St.src.eq_3 <| And.intro @St.src.eq_4 <| And.intro @St.dst.eq_1 <| And.intro @St.dst.eq_2 <| And.intro @St.dst.eq_3 <| And.intro @ne_eq.{1} <| And.intro @cond_true.{1} <| And.intro @cond_false.{1} <| And.intro @beq_self_eq_true.{0} <| And.intro @St.ev.eq_1 <| And.intro @St.ev.eq_2 <| And.intro @St.ev.eq_3 <| And.intro @St.ev.eq_4 <| And.intro @St.put.eq_1 <| And.intro @St.put.eq_2 <| And.intro @okConst.eq_1 <| And.intro @okConst.eq_2 <| And.intro @hget.eq_1 <| And.intro @hget.eq_2 <| And.intro @hput.eq_1 <| And.intro @hput.eq_2 <| And.intro @hdel.eq_1 <| And.intro @hdel.eq_2 <| And.intro @hdelO.eq_1 <| And.intro @hdelO.eq_2 <| And.intro @spl.eq_1 <| And.intro @AV.refs.eq_1 <| And.intro @AV.refs.eq_2 <| And.intro @AV.refs.eq_3 <| And.intro @AV.refs.eq_4 <| And.intro @AV.refs.eq_5 <| And.intro @AV.refs.eq_6 <| And.intro @AV.refs.eq_7 <| And.intro @AV.refs.eq_8 <| And.intro @AV.refsL.eq_1 <| And.intro @AV.refsL.eq_2 <| And.intro @refsL_map <| And.intro @refsL_app <| And.intro @Value.oneCell'.eq_1 <| And.intro @Value.oneCell'.eq_2 <| And.intro @Value.oneCell'.eq_3 <| And.intro @eqAV.eq_1 <| And.intro @eqAV.eq_2 <| And.intro @eqAV.eq_3 <| And.intro @fillA.eq_1 <| And.intro @fillA.eq_2 <| And.intro @plsFrom.eq_1 <| And.intro @plsFrom.eq_2 <| And.intro @rowOk.eq_1 <| And.intro @rowOk.eq_2 <| And.intro @List.getD_cons_zero.{0} <| And.intro @List.getD_cons_succ.{0} <| And.intro @List.set.eq_1.{0} <| And.intro @List.set.eq_2.{0} <| And.intro @List.set.eq_3.{0} <| And.intro @List.map_cons.{0,0} <| And.intro @List.map_nil.{0,0} <| And.intro @List.all_cons.{0} <| And.intro @List.all_nil.{0} <| And.intro @List.length_cons.{0} <| And.intro @List.length_nil.{0} <| And.intro @List.take.eq_1.{0} <| And.intro @List.take.eq_2.{0} <| And.intro @List.take.eq_3.{0} <| And.intro @List.drop.eq_1.{0} <| And.intro @List.drop.eq_2.{0} <| And.intro @List.drop.eq_3.{0} <| And.intro @List.getElem?_cons_zero.{0} <| And.intro @List.getElem?_cons_succ.{0} <| And.intro @List.cons_append.{0} <| And.intro @List.nil_append.{0} <| And.intro @List.replicate.eq_1.{0} <| And.intro @List.replicate.eq_2.{0} <| And.intro @List.flatMap_cons.{0,0} <| And.intro @List.flatMap_nil.{0,0} <| And.intro @List.append_nil.{0} <| And.intro @Option.toList.eq_1.{0} <| And.intro @Option.toList.eq_2.{0} <| And.intro @Bool.or_false <| And.intro @Bool.false_or <| And.intro @Bool.and_true <| And.intro @Bool.true_and <| And.intro @Bool.not_false <| And.intro @Bool.not_true <| And.intro @Bool.or_true <| And.intro @Bool.true_or <| And.intro @true_and <| And.intro @and_true <| And.intro @Option.some.injEq.{0} <| And.intro @or_true <| And.intro @true_or <| And.intro @or_false <| And.intro @false_or <| And.intro @not_false_eq_true <| And.intro @not_true_eq_false <| And.intro @Option.map_some.{0,0} <| And.intro @Option.map_none.{0,0} <| And.intro @Option.isSome_some.{0} <| And.intro @Option.isSome_none.{0} <| And.intro @Int.ofNat_eq_natCast <| And.intro @Int.toNat_natCast <| And.intro @Nat.zero_add <| And.intro @Nat.add_zero <| And.intro @Nat.sub_zero <| And.intro @Nat.zero_mul <| And.intro @Nat.mul_zero <| And.intro @implies_true.{0} <| And.intro @false_implies <| And.intro @Bool.false_eq_true <| True.intro) := And.intro @ofV.eq_1 <| And.intro @ofV.eq_2 <| And.intro @ofV.eq_3 <| And.intro @AV.cells.eq_1 <| And.intro @AV.cells.eq_2 <| And.intro @AV.cells.eq_3 <| And.intro @AV.cells.eq_4 <| And.intro @pickAV.eq_1 <| And.intro @pickAV.eq_2 <| And.intro @bop.eq_1 <| And.intro @bop.eq_2 <| And.intro @bop.eq_3 <| And.intro @bop.eq_4 <| And.intro @bop.eq_5 <| And.intro @bop.eq_6 <| And.intro @bop.eq_7 <| And.intro @bop.eq_8 <| And.intro @bop.eq_9 <| And.intro @bop.eq_10 <| And.intro @bop.eq_11 <| And.intro @bop.eq_12 <| And.intro @bop.eq_13 <| And.intro @bop.eq_14 <| And.intro @bop.eq_15 <| And.intro @bop.eq_16 <| And.intro @bop.eq_17 <| And.intro @bop.eq_18 <| And.intro @bop.eq_19 <| And.intro @bnd.eq_1 <| And.intro @bnd.eq_2 <| And.intro @tightB.eq_1 <| And.intro @lenA.eq_1 <| And.intro @lenA.eq_2 <| And.intro @lenA.eq_3 <| And.intro @lenA.eq_4 <| And.intro @lenA.eq_5 <| And.intro @St.src.eq_1 <| And.intro @St.src.eq_2 <| And.intro @St.src.eq_3 <| And.intro @St.src.eq_4 <| And.intro @St.dst.eq_1 <| And.intro @St.dst.eq_2 <| And.intro @St.dst.eq_3 <| And.intro @ne_eq.{1} <| And.intro @cond_true.{1} <| And.intro @cond_false.{1} <| And.intro @beq_self_eq_true.{0} <| And.intro @St.ev.eq_1 <| And.intro @St.ev.eq_2 <| And.intro @St.ev.eq_3 <| And.intro @St.ev.eq_4 <| And.intro @St.put.eq_1 <| And.intro @St.put.eq_2 <| And.intro @okConst.eq_1 <| And.intro @okConst.eq_2 <| And.intro @hget.eq_1 <| And.intro @hget.eq_2 <| And.intro @hput.eq_1 <| And.intro @hput.eq_2 <| And.intro @hdel.eq_1 <| And.intro @hdel.eq_2 <| And.intro @hdelO.eq_1 <| And.intro @hdelO.eq_2 <| And.intro @spl.eq_1 <| And.intro @AV.refs.eq_1 <| And.intro @AV.refs.eq_2 <| And.intro @AV.refs.eq_3 <| And.intro @AV.refs.eq_4 <| And.intro @AV.refs.eq_5 <| And.intro @AV.refs.eq_6 <| And.intro @AV.refs.eq_7 <| And.intro @AV.refs.eq_8 <| And.intro @AV.refsL.eq_1 <| And.intro @AV.refsL.eq_2 <| And.intro @refsL_map <| And.intro @refsL_app <| And.intro @Value.oneCell'.eq_1 <| And.intro @Value.oneCell'.eq_2 <| And.intro @Value.oneCell'.eq_3 <| And.intro @eqAV.eq_1 <| And.intro @eqAV.eq_2 <| And.intro @eqAV.eq_3 <| And.intro @fillA.eq_1 <| And.intro @fillA.eq_2 <| And.intro @plsFrom.eq_1 <| And.intro @plsFrom.eq_2 <| And.intro @rowOk.eq_1 <| And.intro @rowOk.eq_2 <| And.intro @List.getD_cons_zero.{0} <| And.intro @List.getD_cons_succ.{0} <| And.intro @List.set.eq_1.{0} <| And.intro @List.set.eq_2.{0} <| And.intro @List.set.eq_3.{0} <| And.intro @List.map_cons.{0,0} <| And.intro @List.map_nil.{0,0} <| And.intro @List.all_cons.{0} <| And.intro @List.all_nil.{0} <| And.intro @List.length_cons.{0} <| And.intro @List.length_nil.{0} <| And.intro @List.take.eq_1.{0} <| And.intro @List.take.eq_2.{0} <| And.intro @List.take.eq_3.{0} <| And.intro @List.drop.eq_1.{0} <| And.intro @List.drop.eq_2.{0} <| And.intro @List.drop.eq_3.{0} <| And.intro @List.getElem?_cons_zero.{0} <| And.intro @List.getElem?_cons_succ.{0} <| And.intro @List.cons_append.{0} <| And.intro @List.nil_append.{0} <| And.intro @List.replicate.eq_1.{0} <| And.intro @List.replicate.eq_2.{0} <| And.intro @List.flatMap_cons.{0,0} <| And.intro @List.flatMap_nil.{0,0} <| And.intro @List.append_nil.{0} <| And.intro @Option.toList.eq_1.{0} <| And.intro @Option.toList.eq_2.{0} <| And.intro @Bool.or_false <| And.intro @Bool.false_or <| And.intro @Bool.and_true <| And.intro @Bool.true_and <| And.intro @Bool.not_false <| And.intro @Bool.not_true <| And.intro @Bool.or_true <| And.intro @Bool.true_or <| And.intro @true_and <| And.intro @and_true <| And.intro @Option.some.injEq.{0} <| And.intro @or_true <| And.intro @true_or <| And.intro @or_false <| And.intro @false_or <| And.intro @not_false_eq_true <| And.intro @not_true_eq_false <| And.intro @Option.map_some.{0,0} <| And.intro @Option.map_none.{0,0} <| And.intro @Option.isSome_some.{0} <| And.intro @Option.isSome_none.{0} <| And.intro @Int.ofNat_eq_natCast <| And.intro @Int.toNat_natCast <| And.intro @Nat.zero_add <| And.intro @Nat.add_zero <| And.intro @Nat.sub_zero <| And.intro @Nat.zero_mul <| And.intro @Nat.mul_zero <| And.intro @implies_true.{0} <| And.intro @false_implies <| And.intro @Bool.false_eq_true <| True.intro
end Go.Proofs.Ytiggambibcohcaa
