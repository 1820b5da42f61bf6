/-
  A deed, by value.
-/
import Derived.Test.YtmibmodibicibaaLl
import Derived.Test.YtmibmodibicibaaLm
namespace Go.Proofs.Ytmibmodibicibaa
open Go.RowKit
open Nat (reduceBEq)
set_option linter.unusedVariables false
set_option linter.unusedSimpArgs false
set_option maxRecDepth 20000
set_option maxHeartbeats 2000000
theorem Fn.res {P : Program} {f : FuncId} {args : List AV} {H0 H1 : List (Nat × List AV)} {res res' : AV} (h : Fn P f args H0 res H1) (hr : ∀ S ι w v, RV S ι w v res → RV S ι w v res') : Fn P f args H0 res' H1 := by
  intro E vs hD hS hH hlen hargs
  refine (h E vs hD hS hH hlen hargs).mono fun e w' => ?_
  rintro ⟨v, ι', rfl, hres, hc, hk⟩
  exact ⟨v, ι', rfl, hr _ _ _ _ hres, hc, hk⟩
theorem imp_nil {S : Nat → Prop} {ι : Nat → Nat × Nat × Nat} {w : World} {v : Value} (h : RV S ι w v nilS) : RV S ι w v (hsl false []) := by
  cases h with
  | c _ _ hp =>
    cases hp with
    | v _ _ => exact .c _ _ (.sl false 11 none 0 0 [] [] (Nat.le_refl _) (Nat.zero_le _) (fun _ => rfl) (fun h => by cases h) rfl rfl (fun h => absurd rfl h) (fun j u x hu => by cases hu))
theorem imp_lgN {S : Nat → Prop} {ι : Nat → Nat × Nat × Nat} {w : World} {v : Value} (h : RV S ι w v lgN) : RV S ι w v (lg false []) := by
  cases h with
  | agg us _ hl h1 h =>
    refine .agg us _ hl h1 fun j u x hu hx => ?_
    cases j with
    | zero =>
      simp only [List.getElem?_cons_zero, Option.some.injEq] at hx
      subst hx
      exact imp_nil (h 0 u nilS hu rfl)
    | succ j => simp at hx
theorem imp_tup {S : Nat → Prop} {ι : Nat → Nat × Nat × Nat} {w : World} {v : Value} {r : List AV} (h : RV S ι w v (.tup (lgN :: r))) : RV S ι w v (.tup (lg false [] :: r)) := by
  cases h with
  | tup us _ hl h =>
    refine .tup us _ hl fun j u x hu hx => ?_
    cases j with
    | zero =>
      simp only [List.getElem?_cons_zero, Option.some.injEq] at hx
      subst hx
      exact imp_lgN (h 0 u lgN hu rfl)
    | succ j => exact h (j + 1) u x hu (by simpa using hx)
theorem val_tup {P : Program} {f : FuncId} {args r : List AV} {m : List Hd} (hr : ∀ pcs, AV.frzL 44 pcs r = r) (h : Fn P f args [] (.tup (.agg [.row 44 39 11 m.length] :: r)) [(44, rcH m)]) : Fn P f args [] (.tup (lg false m :: r)) [] := by
  have h2 := Fn.frzG (pcs := m.flatMap Hd.pv) h
  simpa [AV.frz, AV.frzL, hr, flat_length hd_len, -List.length_flatMap] using h2
theorem val2 {P : Program} {f : FuncId} {args : List AV} {E : Int} {m : List Hd} (hno : (E == 0) = false → Fn P f args [] (.tup [lgN, vi .i64 E]) []) (hok : E = 0 → Fn P f args [] (.tup [.agg [.row 44 39 11 m.length], vi .i64 0]) [(44, rcH m)]) :
    Fn P f args [] (.tup [lg false (if E = 0 then m else []), vi .i64 E]) [] := by
  by_cases h : E = 0
  · subst h
    rw [if_pos rfl]
    exact val_tup (fun _ => rfl) (hok rfl)
  · rw [if_neg h]
    exact (hno (by simp [h])).res fun _ _ _ _ => imp_tup
theorem val3 {P : Program} {f : FuncId} {args : List AV} {E : Int} {m : List Hd} {s : Nat} (hno : (E == 0) = false → Fn P f args [] (.tup [lgN, wN 0, vi .i64 E]) []) (hok : E = 0 → Fn P f args [] (.tup [.agg [.row 44 39 11 m.length], wN s, vi .i64 0]) [(44, rcH m)]) :
    Fn P f args [] (.tup [lg false (if E = 0 then m else []), wN (if E = 0 then s else 0), vi .i64 E]) [] := by
  by_cases h : E = 0
  · subst h
    rw [if_pos rfl, if_pos rfl]
    exact val_tup (fun _ => rfl) (hok rfl)
  · rw [if_neg h, if_neg h]
    exact (hno (by simp [h])).res fun _ _ _ _ => imp_tup
structure Dd where
  k : Int
  a : Int
  n : Nat
  y : Int
  t : Int
def Dd.ok (D : Dd) : Prop := U D.a ∧ D.n < WW ∧ U D.y ∧ U D.t
def Dd.q (D : Dd) : Int := (IntKind.u64.wrap D.k).tmod 5
abbrev dA (D : Dd) : AV := .agg [vi .i64 D.k, vi .u64 D.a, vi .u64 (l0 D.n), vi .u64 (l1 D.n), vi .u64 (l2 D.n), vi .u64 (l3 D.n), vi .u64 D.y, vi .u64 D.t]
def Dd.er (D : Dd) (l : List Hd) (h : Hd) : Int := if D.q = 0 then fitsE l D.a D.n else if D.q = 1 then wdrE h D.n else if D.q = 2 then bondE l D.a h D.n D.y else if D.q = 3 then unlE h D.t else relE h D.t
def Dd.row (D : Dd) (h : Hd) : Hd := if D.q = 0 then depH h D.n else if D.q = 1 then wdrH h D.n else if D.q = 2 then bondH h D.n D.y else if D.q = 3 then unlH h D.t else relH h
def Dd.E (D : Dd) (l : List Hd) : Int := gate l D.a (D.er l (findH l D.a))
def Dd.M (D : Dd) (l : List Hd) : List Hd := if D.E l = 0 then putL l (D.row (findH l D.a)) else []
def Dd.W (D : Dd) (l : List Hd) : Nat := if D.q = 0 ∨ D.q = 1 ∨ D.q = 2 ∨ D.q = 3 then 0 else if D.E l = 0 then (findH l D.a).s else 0
theorem does_fn (ex : Bool) (l : List Hd) (hl : l.length ≤ maxLen) (ok : ∀ h ∈ l, h.ok) (D : Dd) (hD : D.ok) : Fn Try.prog 9 [dA D, lg ex l] [] (.tup [lg false (D.M l), wN (D.W l), vi .i64 (D.E l)]) [] := by
  obtain ⟨k, a, n, y, t⟩ := D
  obtain ⟨ua, un, uy, ut⟩ := hD
  dsimp only at ua un uy ut
  have hq : (IntKind.u64.wrap k).tmod 5 = Dd.q ⟨k, a, n, y, t⟩ := rfl
  have hE : Dd.E ⟨k, a, n, y, t⟩ l = gate l a (Dd.er ⟨k, a, n, y, t⟩ l (findH l a)) := rfl
  unfold Dd.M Dd.W
  rw [hE]
  unfold Dd.er Dd.row
  dsimp only [dA]
  generalize Dd.q ⟨k, a, n, y, t⟩ = q at hq ⊢
  by_cases q0 : q = 0
  · subst q0
    simp only [if_true, true_or]
    have C := val2 (dep_no ex l hl ok a ua n un) (dep_ok ex l hl ok a ua n un)
    generalize (if gate l a (fitsE l a n) = 0 then putL l (depH (findH l a) n) else []) = m at C ⊢
    generalize gate l a (fitsE l a n) = e at C ⊢
    simp only [wN, w4, l0_zero, l1_zero, l2_zero, l3_zero]
    (refine fn_of Try.func9 rfl (by rfl) ?_; simp only [Try.ntmps9, List.length_cons, List.length_nil, Nat.reduceAdd, Nat.reduceSub, List.replicate, List.cons_append, List.nil_append])
    (repeat (any_goals (first | ((with_reducible refine evL_call ?_ ?_ ?_); rfl; rfl; intro K hK; ((apply opA_callB (C); rfl; rfl; rfl; rfl; exact Try.func19); kernel_rfl; rfl; (simp only [go_sem, hq, Int.reduceEq, Int.reduceBEq]; rfl); (first | rfl | simp [AV.inNL, AV.inN])); (simp only [go_sem, hq, Int.reduceEq, Int.reduceBEq]; refine hK _ ?_; clear hK K)) | ((with_reducible refine evL_one ?_ ?_); rfl; intro K hK; simp only [go_sem, hq, Int.reduceEq, Int.reduceBEq]; ((repeat (refine ndI (by first | assumption | omega | rfl) ?_)); refine hK _ ?_; clear hK K)) | (with_reducible first | (refine evL_nil ?_; refine hR _ ?_; clear hR R) | ((first | refine evC_seq ?_ | refine evC_block ?_); intro Ψ hΨ hΨ') | (refine evC_region ?_; intro R hR) | (refine hΨ _ ?_; clear hΨ hΨ' Ψ) | refine evC_skip ?_ | refine evC_ret ?_ | refine evC_exit ?_) | ((with_reducible refine hΨ' _ _ ?_ ?_); (focus (simp; done)); clear hΨ hΨ' Ψ) | ((with_reducible apply evC_cond); rfl; rfl; all_goals (intro hc; first | (cases hc; done) | (try simp only at hc))) | ((with_reducible refine evD_nil ?_ ?_); kernel_rfl; (with_reducible refine hR _ ?_); clear hR R) | (((with_reducible apply evD_any); rfl; rfl; (simp only [rdE, rdOf, go_sem, hq, Int.reduceEq, Int.reduceBEq]; rfl); (intro τ hA hQ hN; ((try simp only [agree, Op.operands, Call.operands, go_sem, hq, Int.reduceEq, Int.reduceBEq, go_sem, List.mem_cons, List.not_mem_nil, forall_eq_or_imp, forall_eq, List.append_toArray, Option.toArray] at hA); (try simp only [go_sem, hq, Int.reduceEq, Int.reduceBEq, List.mem_cons, List.not_mem_nil, forall_eq_or_imp, forall_eq] at hQ hN); (first | (revert hA; intro hA) | have hA := trivial); (first | (revert hQ; intro hQ) | have hQ := trivial); (first | (revert hN; intro hN) | have hN := trivial); simp only [go_sem, hq, Int.reduceEq, Int.reduceBEq, go_sem, hA, hQ, hN]; (repeat (refine ndI (by first | assumption | omega | rfl) ?_)); (first | apply eff_rd | apply eff_st | apply eff_nw)))); (simp only [St.eff, setO, hputs, go_sem, hq, Int.reduceEq, Int.reduceBEq])) | ((with_reducible refine evC_draw ?_ ?_ ?_ ?_); kernel_rfl; kernel_rfl; (first | kernel_rfl | simp [newNames, isNew, St.free, freeH, AV.refsL, AV.refs]); intro R hR))))
    all_goals (refine ⟨by simp, ⟨_, ?_, AV.le_refl _⟩, leH_get (by simp [leH, hget])⟩; simp only [Try.results9, resL, ldA, oneOf, go_sem])
  by_cases q1 : q = 1
  · subst q1
    simp only [if_neg q0, if_true, true_or, or_true]
    have C := val2 (wdr_no ex l hl ok a ua n un) (wdr_ok ex l hl ok a ua n un)
    generalize (if gate l a (wdrE (findH l a) n) = 0 then putL l (wdrH (findH l a) n) else []) = m at C ⊢
    generalize gate l a (wdrE (findH l a) n) = e at C ⊢
    simp only [wN, w4, l0_zero, l1_zero, l2_zero, l3_zero]
    (refine fn_of Try.func9 rfl (by rfl) ?_; simp only [Try.ntmps9, List.length_cons, List.length_nil, Nat.reduceAdd, Nat.reduceSub, List.replicate, List.cons_append, List.nil_append])
    (repeat (any_goals (first | ((with_reducible refine evL_call ?_ ?_ ?_); rfl; rfl; intro K hK; ((apply opA_callB (C); rfl; rfl; rfl; rfl; exact Try.func21); kernel_rfl; rfl; (simp only [go_sem, hq, Int.reduceEq, Int.reduceBEq]; rfl); (first | rfl | simp [AV.inNL, AV.inN])); (simp only [go_sem, hq, Int.reduceEq, Int.reduceBEq]; refine hK _ ?_; clear hK K)) | ((with_reducible refine evL_one ?_ ?_); rfl; intro K hK; simp only [go_sem, hq, Int.reduceEq, Int.reduceBEq]; ((repeat (refine ndI (by first | assumption | omega | rfl) ?_)); refine hK _ ?_; clear hK K)) | (with_reducible first | (refine evL_nil ?_; refine hR _ ?_; clear hR R) | ((first | refine evC_seq ?_ | refine evC_block ?_); intro Ψ hΨ hΨ') | (refine evC_region ?_; intro R hR) | (refine hΨ _ ?_; clear hΨ hΨ' Ψ) | refine evC_skip ?_ | refine evC_ret ?_ | refine evC_exit ?_) | ((with_reducible refine hΨ' _ _ ?_ ?_); (focus (simp; done)); clear hΨ hΨ' Ψ) | ((with_reducible apply evC_cond); rfl; rfl; all_goals (intro hc; first | (cases hc; done) | (try simp only at hc))) | ((with_reducible refine evD_nil ?_ ?_); kernel_rfl; (with_reducible refine hR _ ?_); clear hR R) | (((with_reducible apply evD_any); rfl; rfl; (simp only [rdE, rdOf, go_sem, hq, Int.reduceEq, Int.reduceBEq]; rfl); (intro τ hA hQ hN; ((try simp only [agree, Op.operands, Call.operands, go_sem, hq, Int.reduceEq, Int.reduceBEq, go_sem, List.mem_cons, List.not_mem_nil, forall_eq_or_imp, forall_eq, List.append_toArray, Option.toArray] at hA); (try simp only [go_sem, hq, Int.reduceEq, Int.reduceBEq, List.mem_cons, List.not_mem_nil, forall_eq_or_imp, forall_eq] at hQ hN); (first | (revert hA; intro hA) | have hA := trivial); (first | (revert hQ; intro hQ) | have hQ := trivial); (first | (revert hN; intro hN) | have hN := trivial); simp only [go_sem, hq, Int.reduceEq, Int.reduceBEq, go_sem, hA, hQ, hN]; (repeat (refine ndI (by first | assumption | omega | rfl) ?_)); (first | apply eff_rd | apply eff_st | apply eff_nw)))); (simp only [St.eff, setO, hputs, go_sem, hq, Int.reduceEq, Int.reduceBEq])) | ((with_reducible refine evC_draw ?_ ?_ ?_ ?_); kernel_rfl; kernel_rfl; (first | kernel_rfl | simp [newNames, isNew, St.free, freeH, AV.refsL, AV.refs]); intro R hR))))
    all_goals (refine ⟨by simp, ⟨_, ?_, AV.le_refl _⟩, leH_get (by simp [leH, hget])⟩; simp only [Try.results9, resL, ldA, oneOf, go_sem])
  by_cases q2 : q = 2
  · subst q2
    simp only [if_neg q0, if_neg q1, if_true, true_or, or_true]
    have C := val2 (bond_no ex l hl ok a ua n y un) (bond_ok ex l hl ok a ua n y un)
    generalize (if gate l a (bondE l a (findH l a) n y) = 0 then putL l (bondH (findH l a) n y) else []) = m at C ⊢
    generalize gate l a (bondE l a (findH l a) n y) = e at C ⊢
    simp only [wN, w4, l0_zero, l1_zero, l2_zero, l3_zero]
    (refine fn_of Try.func9 rfl (by rfl) ?_; simp only [Try.ntmps9, List.length_cons, List.length_nil, Nat.reduceAdd, Nat.reduceSub, List.replicate, List.cons_append, List.nil_append])
    (repeat (any_goals (first | ((with_reducible refine evL_call ?_ ?_ ?_); rfl; rfl; intro K hK; ((apply opA_callB (C); rfl; rfl; rfl; rfl; exact Try.func20); kernel_rfl; rfl; (simp only [go_sem, hq, Int.reduceEq, Int.reduceBEq]; rfl); (first | rfl | simp [AV.inNL, AV.inN])); (simp only [go_sem, hq, Int.reduceEq, Int.reduceBEq]; refine hK _ ?_; clear hK K)) | ((with_reducible refine evL_one ?_ ?_); rfl; intro K hK; simp only [go_sem, hq, Int.reduceEq, Int.reduceBEq]; ((repeat (refine ndI (by first | assumption | omega | rfl) ?_)); refine hK _ ?_; clear hK K)) | (with_reducible first | (refine evL_nil ?_; refine hR _ ?_; clear hR R) | ((first | refine evC_seq ?_ | refine evC_block ?_); intro Ψ hΨ hΨ') | (refine evC_region ?_; intro R hR) | (refine hΨ _ ?_; clear hΨ hΨ' Ψ) | refine evC_skip ?_ | refine evC_ret ?_ | refine evC_exit ?_) | ((with_reducible refine hΨ' _ _ ?_ ?_); (focus (simp; done)); clear hΨ hΨ' Ψ) | ((with_reducible apply evC_cond); rfl; rfl; all_goals (intro hc; first | (cases hc; done) | (try simp only at hc))) | ((with_reducible refine evD_nil ?_ ?_); kernel_rfl; (with_reducible refine hR _ ?_); clear hR R) | (((with_reducible apply evD_any); rfl; rfl; (simp only [rdE, rdOf, go_sem, hq, Int.reduceEq, Int.reduceBEq]; rfl); (intro τ hA hQ hN; ((try simp only [agree, Op.operands, Call.operands, go_sem, hq, Int.reduceEq, Int.reduceBEq, go_sem, List.mem_cons, List.not_mem_nil, forall_eq_or_imp, forall_eq, List.append_toArray, Option.toArray] at hA); (try simp only [go_sem, hq, Int.reduceEq, Int.reduceBEq, List.mem_cons, List.not_mem_nil, forall_eq_or_imp, forall_eq] at hQ hN); (first | (revert hA; intro hA) | have hA := trivial); (first | (revert hQ; intro hQ) | have hQ := trivial); (first | (revert hN; intro hN) | have hN := trivial); simp only [go_sem, hq, Int.reduceEq, Int.reduceBEq, go_sem, hA, hQ, hN]; (repeat (refine ndI (by first | assumption | omega | rfl) ?_)); (first | apply eff_rd | apply eff_st | apply eff_nw)))); (simp only [St.eff, setO, hputs, go_sem, hq, Int.reduceEq, Int.reduceBEq])) | ((with_reducible refine evC_draw ?_ ?_ ?_ ?_); kernel_rfl; kernel_rfl; (first | kernel_rfl | simp [newNames, isNew, St.free, freeH, AV.refsL, AV.refs]); intro R hR))))
    all_goals (refine ⟨by simp, ⟨_, ?_, AV.le_refl _⟩, leH_get (by simp [leH, hget])⟩; simp only [Try.results9, resL, ldA, oneOf, go_sem])
  by_cases q3 : q = 3
  · subst q3
    simp only [if_neg q0, if_neg q1, if_neg q2, if_true, true_or, or_true]
    have C := val2 (unl_no ex l hl ok a ua t ut) (unl_ok ex l hl ok a ua t ut)
    generalize (if gate l a (unlE (findH l a) t) = 0 then putL l (unlH (findH l a) t) else []) = m at C ⊢
    generalize gate l a (unlE (findH l a) t) = e at C ⊢
    simp only [wN, w4, l0_zero, l1_zero, l2_zero, l3_zero]
    (refine fn_of Try.func9 rfl (by rfl) ?_; simp only [Try.ntmps9, List.length_cons, List.length_nil, Nat.reduceAdd, Nat.reduceSub, List.replicate, List.cons_append, List.nil_append])
    (repeat (any_goals (first | ((with_reducible refine evL_call ?_ ?_ ?_); rfl; rfl; intro K hK; ((apply opA_callB (C); rfl; rfl; rfl; rfl; exact Try.func22); kernel_rfl; rfl; (simp only [go_sem, hq, Int.reduceEq, Int.reduceBEq]; rfl); (first | rfl | simp [AV.inNL, AV.inN])); (simp only [go_sem, hq, Int.reduceEq, Int.reduceBEq]; refine hK _ ?_; clear hK K)) | ((with_reducible refine evL_one ?_ ?_); rfl; intro K hK; simp only [go_sem, hq, Int.reduceEq, Int.reduceBEq]; ((repeat (refine ndI (by first | assumption | omega | rfl) ?_)); refine hK _ ?_; clear hK K)) | (with_reducible first | (refine evL_nil ?_; refine hR _ ?_; clear hR R) | ((first | refine evC_seq ?_ | refine evC_block ?_); intro Ψ hΨ hΨ') | (refine evC_region ?_; intro R hR) | (refine hΨ _ ?_; clear hΨ hΨ' Ψ) | refine evC_skip ?_ | refine evC_ret ?_ | refine evC_exit ?_) | ((with_reducible refine hΨ' _ _ ?_ ?_); (focus (simp; done)); clear hΨ hΨ' Ψ) | ((with_reducible apply evC_cond); rfl; rfl; all_goals (intro hc; first | (cases hc; done) | (try simp only at hc))) | ((with_reducible refine evD_nil ?_ ?_); kernel_rfl; (with_reducible refine hR _ ?_); clear hR R) | (((with_reducible apply evD_any); rfl; rfl; (simp only [rdE, rdOf, go_sem, hq, Int.reduceEq, Int.reduceBEq]; rfl); (intro τ hA hQ hN; ((try simp only [agree, Op.operands, Call.operands, go_sem, hq, Int.reduceEq, Int.reduceBEq, go_sem, List.mem_cons, List.not_mem_nil, forall_eq_or_imp, forall_eq, List.append_toArray, Option.toArray] at hA); (try simp only [go_sem, hq, Int.reduceEq, Int.reduceBEq, List.mem_cons, List.not_mem_nil, forall_eq_or_imp, forall_eq] at hQ hN); (first | (revert hA; intro hA) | have hA := trivial); (first | (revert hQ; intro hQ) | have hQ := trivial); (first | (revert hN; intro hN) | have hN := trivial); simp only [go_sem, hq, Int.reduceEq, Int.reduceBEq, go_sem, hA, hQ, hN]; (repeat (refine ndI (by first | assumption | omega | rfl) ?_)); (first | apply eff_rd | apply eff_st | apply eff_nw)))); (simp only [St.eff, setO, hputs, go_sem, hq, Int.reduceEq, Int.reduceBEq])) | ((with_reducible refine evC_draw ?_ ?_ ?_ ?_); kernel_rfl; kernel_rfl; (first | kernel_rfl | simp [newNames, isNew, St.free, freeH, AV.refsL, AV.refs]); intro R hR))))
    all_goals (refine ⟨by simp, ⟨_, ?_, AV.le_refl _⟩, leH_get (by simp [leH, hget])⟩; simp only [Try.results9, resL, ldA, oneOf, go_sem])
  · have hno : ¬ (q = 0 ∨ q = 1 ∨ q = 2 ∨ q = 3) := by simp [q0, q1, q2, q3]
    simp only [if_neg q0, if_neg q1, if_neg q2, if_neg q3, if_neg hno]
    have C := val3 (rel_no ex l hl ok a ua t) (rel_ok ex l hl ok a ua t)
    generalize (if gate l a (relE (findH l a) t) = 0 then putL l (relH (findH l a)) else []) = m at C ⊢
    generalize (if gate l a (relE (findH l a) t) = 0 then (findH l a).s else 0) = s at C ⊢
    generalize gate l a (relE (findH l a) t) = e at C ⊢
    have b0 : (q == 0) = false := by simp [q0]
    have b1 : (q == 1) = false := by simp [q1]
    have b2 : (q == 2) = false := by simp [q2]
    have b3 : (q == 3) = false := by simp [q3]
    (refine fn_of Try.func9 rfl (by rfl) ?_; simp only [Try.ntmps9, List.length_cons, List.length_nil, Nat.reduceAdd, Nat.reduceSub, List.replicate, List.cons_append, List.nil_append])
    (have W := ndI b0 (ndI b1 (ndI b2 b3)); (repeat (any_goals (first | ((with_reducible refine evL_call ?_ ?_ ?_); rfl; rfl; intro K hK; ((apply opA_callB (C); rfl; rfl; rfl; rfl; exact Try.func23); kernel_rfl; rfl; (simp only [go_sem, W, hq, Int.reduceEq]; rfl); (first | rfl | simp [AV.inNL, AV.inN])); (simp only [go_sem, W, hq, Int.reduceEq]; refine hK _ ?_; clear hK K)) | ((with_reducible refine evL_one ?_ ?_); rfl; intro K hK; simp only [go_sem, W, hq, Int.reduceEq]; ((repeat (refine ndI (by first | assumption | omega | rfl) ?_)); refine hK _ ?_; clear hK K)) | (with_reducible first | (refine evL_nil ?_; refine hR _ ?_; clear hR R) | ((first | refine evC_seq ?_ | refine evC_block ?_); intro Ψ hΨ hΨ') | (refine evC_region ?_; intro R hR) | (refine hΨ _ ?_; clear hΨ hΨ' Ψ) | refine evC_skip ?_ | refine evC_ret ?_ | refine evC_exit ?_) | ((with_reducible refine hΨ' _ _ ?_ ?_); (focus (simp; done)); clear hΨ hΨ' Ψ) | ((with_reducible apply evC_cond); rfl; rfl; all_goals (intro hc; first | (cases hc; done) | (try simp only at hc))) | ((with_reducible refine evD_nil ?_ ?_); kernel_rfl; (with_reducible refine hR _ ?_); clear hR R) | (((with_reducible apply evD_any); rfl; rfl; (simp only [rdE, rdOf, go_sem, W, hq, Int.reduceEq]; rfl); (intro τ hA hQ hN; ((try simp only [agree, Op.operands, Call.operands, go_sem, W, hq, Int.reduceEq, go_sem, List.mem_cons, List.not_mem_nil, forall_eq_or_imp, forall_eq, List.append_toArray, Option.toArray] at hA); (try simp only [go_sem, W, hq, Int.reduceEq, List.mem_cons, List.not_mem_nil, forall_eq_or_imp, forall_eq] at hQ hN); (first | (revert hA; intro hA) | have hA := trivial); (first | (revert hQ; intro hQ) | have hQ := trivial); (first | (revert hN; intro hN) | have hN := trivial); simp only [go_sem, W, hq, Int.reduceEq, go_sem, hA, hQ, hN]; (repeat (refine ndI (by first | assumption | omega | rfl) ?_)); (first | apply eff_rd | apply eff_st | apply eff_nw)))); (simp only [St.eff, setO, hputs, go_sem, W, hq, Int.reduceEq])) | ((with_reducible refine evC_draw ?_ ?_ ?_ ?_); kernel_rfl; kernel_rfl; (first | kernel_rfl | simp [newNames, isNew, St.free, freeH, AV.refsL, AV.refs]); intro R hR)))))
    all_goals (refine ⟨by simp, ⟨_, ?_, AV.le_refl _⟩, leH_get (by simp [leH, hget])⟩; simp only [Try.results9, resL, ldA, oneOf, go_sem])
end Go.Proofs.Ytmibmodibicibaa
