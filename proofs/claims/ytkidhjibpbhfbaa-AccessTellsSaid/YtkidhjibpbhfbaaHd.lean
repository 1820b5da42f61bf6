/-
  What a slot holds, and what is warm, as the document has it; reckoned.
-/
import Derived.Test.YtkidhjibpbhfbaaHc
namespace Go.Proofs.Ytkidhjibpbhfbaa
open Go.RowKit
open Nat (reduceBEq)
set_option linter.unusedVariables false
set_option linter.unusedSimpArgs false
set_option maxRecDepth 20000
set_option maxHeartbeats 2000000
theorem rload_fn (x : Xs) (hx : x.ok) (v : Vx x) (s : Sp) (os : s.ok) : Fn Try.prog 19 [xsA x, spA s] [] (wN (loadL x s)) [] := by
  rw [loadL_fnd v]
  obtain ⟨A, S, P⟩ := x
  have op := hx.2.2
  have lp := v.lp
  have rp := v.rp
  dsimp only at *
  by_cases hex : ∃ p ∈ P, p.s = s
  · obtain ⟨p0, hp0, e0⟩ := hex
    obtain ⟨i1, hi1⟩ := List.mem_iff_getElem?.1 hp0
    obtain ⟨i0, h0, h1, h2⟩ := first_out (L := fun j => !(match P[j]? with | some p => decide (p.s = s) | none => false)) (n := P.length) ⟨i1, (List.getElem?_eq_some_iff.1 hi1).1, by simp [hi1, e0]⟩
    obtain ⟨p, hp⟩ : ∃ p, P[i0]? = some p := ⟨_, List.getElem?_eq_getElem h0⟩
    have hps : p.s = s := by rw [hp] at h1; simpa using h1
    have hf := fnd_mem rp (List.mem_of_getElem? hp)
    rw [show Pg.key p = s.key by rw [← hps]] at hf
    rw [hf]
    dsimp only
    (refine fn_of Try.func19 rfl (by rfl) ?_; simp only [Try.ntmps19, List.length_cons, List.length_nil, Nat.reduceAdd, Nat.reduceSub, List.replicate, List.cons_append, List.nil_append])
    (repeat (any_goals (first | ((with_reducible refine evL_one ?_ ?_); rfl; intro K hK; simp only [go_sem]; ((repeat (refine And.intro (by first | assumption | omega | rfl) ?_)); (with_reducible refine hK _ ?_); clear hK K)) | ((with_reducible refine evL_nil ?_); (with_reducible refine hR _ ?_); clear hR R) | ((with_reducible first | refine evC_seq ?_ | refine evC_block ?_); intro Ψ hΨ hΨ') | ((with_reducible refine evC_region ?_); intro R hR) | ((with_reducible refine hΨ _ ?_); clear hΨ hΨ' Ψ) | ((with_reducible refine hΨ' _ _ ?_ ?_); (focus (first | ((intro hx; cases hx); done) | ((intro j hj; cases hj); done) | (intro j hj; cases hj; (decide); done))); clear hΨ hΨ' Ψ) | (with_reducible first | refine evC_skip ?_ | refine evC_ret ?_ | refine evC_exit ?_) | ((with_reducible apply evC_cond); rfl; rfl; all_goals (intro hc; first | (exact absurd hc (by decide)) | (try simp only at hc))) | ((with_reducible refine evD_nil ?_ ?_); kernel_rfl; (with_reducible refine hR _ ?_); clear hR R) | (((with_reducible apply evD_any); rfl; rfl; (simp only [rdE, rdOf, go_sem]; rfl); (intro τ hA hQ hN; ((try simp only [agree, Op.operands, Call.operands, go_sem, List.mem_cons, List.not_mem_nil, forall_eq_or_imp, forall_eq, List.append_toArray, Option.toArray] at hA); (try simp only [go_sem, List.mem_cons, List.not_mem_nil, forall_eq_or_imp, forall_eq] at hQ hN); (first | (revert hA; intro hA) | (have hA := True.intro)); (first | (revert hQ; intro hQ) | (have hQ := True.intro)); (first | (revert hN; intro hN) | (have hN := True.intro)); simp only [go_sem, hA, hQ, hN]; (repeat (refine And.intro (by first | assumption | omega | rfl) ?_)); (first | exact eff_rd _ _ _ | exact eff_st _ _ _ | exact eff_nw _ _ _ _)))); (simp only [St.eff, setO, hputs, go_sem])) | ((with_reducible refine evC_draw ?_ ?_ ?_ ?_); kernel_rfl; kernel_rfl; (first | kernel_rfl | simp [newNames, isNew, St.free, freeH, AV.refsL, AV.refs]); intro R hR))))
    refine evC_upto i0 (fun i => ⟨[.any, .any, .ptr 2 0, .ptr 3 0, .ptr 4 0, vi .i64 (i : Int), .any, .any, .any, .any, .any, .any, .any, .any, .any, .any, .any, .any, .any, .any, .any, .any, .any, .any, .any, .any, .any, .any], [(2, [asl false A, spl5 false S, pgl9 false P]), (3, [vi .u64 s.a, vi .u64 (l0 s.k), vi .u64 (l1 s.k), vi .u64 (l2 s.k), vi .u64 (l3 s.k)]), (4, [vi .u64 0, vi .u64 0, vi .u64 0, vi .u64 0])]⟩) (St.le_of (by simp [leT]) (by simp [leH, hget])) ?_
    intro i hi Ψ hΨ hΨ'
    (try dsimp only at hΨ ⊢)
    have hlt : i < P.length := by omega
    obtain ⟨y, hy⟩ : ∃ x, P[i]? = some x := ⟨_, List.getElem?_eq_getElem hlt⟩
    have k1 : (decide ((i : Int) < (P.length : Int))) = true := decide_eq_true (by omega)
    have k2 := pgl9_at hy
    have k7 : (i : Int) + 1 = ((i + 1 : Nat) : Int) := by omega
    have k3 := sp_eq (op y (List.mem_of_getElem? hy)).1 os
    rcases Nat.lt_or_ge i i0 with hlt2 | hge
    · rw [decide_eq_false (show ¬ y.s = s from fun e => by have := h2 i hlt2; rw [hy] at this; simp [e] at this)] at k3
      (repeat (any_goals (first | ((with_reducible refine evL_one ?_ ?_); rfl; intro K hK; simp (disch := omega) only [go_sem, k1, k2, k3, k7, wrI, go_sem]; ((repeat (refine And.intro (by first | assumption | omega | rfl) ?_)); (with_reducible refine hK _ ?_); clear hK K)) | ((with_reducible refine evL_nil ?_); (with_reducible refine hR _ ?_); clear hR R) | ((with_reducible first | refine evC_seq ?_ | refine evC_block ?_); intro Ψ hΨ hΨ') | ((with_reducible refine evC_region ?_); intro R hR) | ((with_reducible refine hΨ _ ?_); clear hΨ hΨ' Ψ) | ((with_reducible refine hΨ' _ _ ?_ ?_); (focus (first | ((intro hx; cases hx); done) | ((intro j hj; cases hj); done) | (intro j hj; cases hj; (decide); done))); clear hΨ hΨ' Ψ) | (with_reducible first | refine evC_skip ?_ | refine evC_ret ?_ | refine evC_exit ?_) | ((with_reducible apply evC_cond); rfl; rfl; all_goals (intro hc; first | (exact absurd hc (by decide)) | (try simp only at hc))) | ((with_reducible refine evD_nil ?_ ?_); kernel_rfl; (with_reducible refine hR _ ?_); clear hR R) | (((with_reducible apply evD_any); rfl; rfl; (simp (disch := omega) only [rdE, rdOf, go_sem, k1, k2, k3, k7, wrI]; rfl); (intro τ hA hQ hN; ((try simp (disch := omega) only [agree, Op.operands, Call.operands, go_sem, k1, k2, k3, k7, wrI, go_sem, List.mem_cons, List.not_mem_nil, forall_eq_or_imp, forall_eq, List.append_toArray, Option.toArray] at hA); (try simp (disch := omega) only [go_sem, k1, k2, k3, k7, wrI, List.mem_cons, List.not_mem_nil, forall_eq_or_imp, forall_eq] at hQ hN); (first | (revert hA; intro hA) | (have hA := True.intro)); (first | (revert hQ; intro hQ) | (have hQ := True.intro)); (first | (revert hN; intro hN) | (have hN := True.intro)); simp (disch := omega) only [go_sem, k1, k2, k3, k7, wrI, go_sem, hA, hQ, hN]; (repeat (refine And.intro (by first | assumption | omega | rfl) ?_)); (first | exact eff_rd _ _ _ | exact eff_st _ _ _ | exact eff_nw _ _ _ _)))); (simp (disch := omega) only [St.eff, setO, hputs, go_sem, k1, k2, k3, k7, wrI])) | ((with_reducible refine evC_draw ?_ ?_ ?_ ?_); kernel_rfl; kernel_rfl; (first | kernel_rfl | simp [newNames, isNew, St.free, freeH, AV.refsL, AV.refs]); intro R hR))))
      all_goals exact hΨ _ hlt2 (St.le_of (by simp [leT]) (by simp [leH, hget]))
    · have e : i = i0 := by omega
      have ey : y = p := by rw [e, hp] at hy; exact (Option.some.inj hy).symm
      rw [decide_eq_true (show y.s = s by rw [ey]; exact hps)] at k3
      (repeat (any_goals (first | ((with_reducible refine evL_one ?_ ?_); rfl; intro K hK; simp (disch := omega) only [go_sem, k1, k2, k3, wrI, go_sem]; ((repeat (refine And.intro (by first | assumption | omega | rfl) ?_)); (with_reducible refine hK _ ?_); clear hK K)) | ((with_reducible refine evL_nil ?_); (with_reducible refine hR _ ?_); clear hR R) | ((with_reducible first | refine evC_seq ?_ | refine evC_block ?_); intro Ψ hΨ hΨ') | ((with_reducible refine evC_region ?_); intro R hR) | ((with_reducible refine hΨ _ ?_); clear hΨ hΨ' Ψ) | ((with_reducible refine hΨ' _ _ ?_ ?_); (focus (first | ((intro hx; cases hx); done) | ((intro j hj; cases hj); done) | (intro j hj; cases hj; (decide); done))); clear hΨ hΨ' Ψ) | (with_reducible first | refine evC_skip ?_ | refine evC_ret ?_ | refine evC_exit ?_) | ((with_reducible apply evC_cond); rfl; rfl; all_goals (intro hc; first | (exact absurd hc (by decide)) | (try simp only at hc))) | ((with_reducible refine evD_nil ?_ ?_); kernel_rfl; (with_reducible refine hR _ ?_); clear hR R) | (((with_reducible apply evD_any); rfl; rfl; (simp (disch := omega) only [rdE, rdOf, go_sem, k1, k2, k3, wrI]; rfl); (intro τ hA hQ hN; ((try simp (disch := omega) only [agree, Op.operands, Call.operands, go_sem, k1, k2, k3, wrI, go_sem, List.mem_cons, List.not_mem_nil, forall_eq_or_imp, forall_eq, List.append_toArray, Option.toArray] at hA); (try simp (disch := omega) only [go_sem, k1, k2, k3, wrI, List.mem_cons, List.not_mem_nil, forall_eq_or_imp, forall_eq] at hQ hN); (first | (revert hA; intro hA) | (have hA := True.intro)); (first | (revert hQ; intro hQ) | (have hQ := True.intro)); (first | (revert hN; intro hN) | (have hN := True.intro)); simp (disch := omega) only [go_sem, k1, k2, k3, wrI, go_sem, hA, hQ, hN]; (repeat (refine And.intro (by first | assumption | omega | rfl) ?_)); (first | exact eff_rd _ _ _ | exact eff_st _ _ _ | exact eff_nw _ _ _ _)))); (simp (disch := omega) only [St.eff, setO, hputs, go_sem, k1, k2, k3, wrI])) | ((with_reducible refine evC_draw ?_ ?_ ?_ ?_); kernel_rfl; kernel_rfl; (first | kernel_rfl | simp [newNames, isNew, St.free, freeH, AV.refsL, AV.refs]); intro R hR))))
      all_goals rw [← ey]
      all_goals (refine ⟨by simp, ⟨_, ?_, AV.le_refl _⟩, leH_get (by simp [leH, hget])⟩; simp only [Try.results19, resL, ldA, oneOf, go_sem])
  · have hf : fnd Pg.key s.key P = none := fnd_none fun p hp e => hex ⟨p, hp, Sp.key_inj (op p hp).1 os e⟩
    rw [hf]
    simp only [wN, l0_zero, l1_zero, l2_zero, l3_zero]
    (refine fn_of Try.func19 rfl (by rfl) ?_; simp only [Try.ntmps19, List.length_cons, List.length_nil, Nat.reduceAdd, Nat.reduceSub, List.replicate, List.cons_append, List.nil_append])
    (repeat (any_goals (first | ((with_reducible refine evL_one ?_ ?_); rfl; intro K hK; simp only [go_sem]; ((repeat (refine And.intro (by first | assumption | omega | rfl) ?_)); (with_reducible refine hK _ ?_); clear hK K)) | ((with_reducible refine evL_nil ?_); (with_reducible refine hR _ ?_); clear hR R) | ((with_reducible first | refine evC_seq ?_ | refine evC_block ?_); intro Ψ hΨ hΨ') | ((with_reducible refine evC_region ?_); intro R hR) | ((with_reducible refine hΨ _ ?_); clear hΨ hΨ' Ψ) | ((with_reducible refine hΨ' _ _ ?_ ?_); (focus (first | ((intro hx; cases hx); done) | ((intro j hj; cases hj); done) | (intro j hj; cases hj; (decide); done))); clear hΨ hΨ' Ψ) | (with_reducible first | refine evC_skip ?_ | refine evC_ret ?_ | refine evC_exit ?_) | ((with_reducible apply evC_cond); rfl; rfl; all_goals (intro hc; first | (exact absurd hc (by decide)) | (try simp only at hc))) | ((with_reducible refine evD_nil ?_ ?_); kernel_rfl; (with_reducible refine hR _ ?_); clear hR R) | (((with_reducible apply evD_any); rfl; rfl; (simp only [rdE, rdOf, go_sem]; rfl); (intro τ hA hQ hN; ((try simp only [agree, Op.operands, Call.operands, go_sem, List.mem_cons, List.not_mem_nil, forall_eq_or_imp, forall_eq, List.append_toArray, Option.toArray] at hA); (try simp only [go_sem, List.mem_cons, List.not_mem_nil, forall_eq_or_imp, forall_eq] at hQ hN); (first | (revert hA; intro hA) | (have hA := True.intro)); (first | (revert hQ; intro hQ) | (have hQ := True.intro)); (first | (revert hN; intro hN) | (have hN := True.intro)); simp only [go_sem, hA, hQ, hN]; (repeat (refine And.intro (by first | assumption | omega | rfl) ?_)); (first | exact eff_rd _ _ _ | exact eff_st _ _ _ | exact eff_nw _ _ _ _)))); (simp only [St.eff, setO, hputs, go_sem])) | ((with_reducible refine evC_draw ?_ ?_ ?_ ?_); kernel_rfl; kernel_rfl; (first | kernel_rfl | simp [newNames, isNew, St.free, freeH, AV.refsL, AV.refs]); intro R hR))))
    refine evC_upto P.length (fun i => ⟨[.any, .any, .ptr 2 0, .ptr 3 0, .ptr 4 0, vi .i64 (i : Int), .any, .any, .any, .any, .any, .any, .any, .any, .any, .any, .any, .any, .any, .any, .any, .any, .any, .any, .any, .any, .any, .any], [(2, [asl false A, spl5 false S, pgl9 false P]), (3, [vi .u64 s.a, vi .u64 (l0 s.k), vi .u64 (l1 s.k), vi .u64 (l2 s.k), vi .u64 (l3 s.k)]), (4, [vi .u64 0, vi .u64 0, vi .u64 0, vi .u64 0])]⟩) (St.le_of (by simp [leT]) (by simp [leH, hget])) ?_
    intro i hi Ψ hΨ hΨ'
    (try dsimp only at hΨ ⊢)
    rcases Nat.lt_or_ge i P.length with hlt | hge
    · obtain ⟨y, hy⟩ : ∃ x, P[i]? = some x := ⟨_, List.getElem?_eq_getElem hlt⟩
      have k1 : (decide ((i : Int) < (P.length : Int))) = true := decide_eq_true (by omega)
      have k2 := pgl9_at hy
      have k7 : (i : Int) + 1 = ((i + 1 : Nat) : Int) := by omega
      have k3 := sp_eq (op y (List.mem_of_getElem? hy)).1 os
      rw [decide_eq_false (show ¬ y.s = s from fun e => hex ⟨y, List.mem_of_getElem? hy, e⟩)] at k3
      (repeat (any_goals (first | ((with_reducible refine evL_one ?_ ?_); rfl; intro K hK; simp (disch := omega) only [go_sem, k1, k2, k3, k7, wrI, go_sem]; ((repeat (refine And.intro (by first | assumption | omega | rfl) ?_)); (with_reducible refine hK _ ?_); clear hK K)) | ((with_reducible refine evL_nil ?_); (with_reducible refine hR _ ?_); clear hR R) | ((with_reducible first | refine evC_seq ?_ | refine evC_block ?_); intro Ψ hΨ hΨ') | ((with_reducible refine evC_region ?_); intro R hR) | ((with_reducible refine hΨ _ ?_); clear hΨ hΨ' Ψ) | ((with_reducible refine hΨ' _ _ ?_ ?_); (focus (first | ((intro hx; cases hx); done) | ((intro j hj; cases hj); done) | (intro j hj; cases hj; (decide); done))); clear hΨ hΨ' Ψ) | (with_reducible first | refine evC_skip ?_ | refine evC_ret ?_ | refine evC_exit ?_) | ((with_reducible apply evC_cond); rfl; rfl; all_goals (intro hc; first | (exact absurd hc (by decide)) | (try simp only at hc))) | ((with_reducible refine evD_nil ?_ ?_); kernel_rfl; (with_reducible refine hR _ ?_); clear hR R) | (((with_reducible apply evD_any); rfl; rfl; (simp (disch := omega) only [rdE, rdOf, go_sem, k1, k2, k3, k7, wrI]; rfl); (intro τ hA hQ hN; ((try simp (disch := omega) only [agree, Op.operands, Call.operands, go_sem, k1, k2, k3, k7, wrI, go_sem, List.mem_cons, List.not_mem_nil, forall_eq_or_imp, forall_eq, List.append_toArray, Option.toArray] at hA); (try simp (disch := omega) only [go_sem, k1, k2, k3, k7, wrI, List.mem_cons, List.not_mem_nil, forall_eq_or_imp, forall_eq] at hQ hN); (first | (revert hA; intro hA) | (have hA := True.intro)); (first | (revert hQ; intro hQ) | (have hQ := True.intro)); (first | (revert hN; intro hN) | (have hN := True.intro)); simp (disch := omega) only [go_sem, k1, k2, k3, k7, wrI, go_sem, hA, hQ, hN]; (repeat (refine And.intro (by first | assumption | omega | rfl) ?_)); (first | exact eff_rd _ _ _ | exact eff_st _ _ _ | exact eff_nw _ _ _ _)))); (simp (disch := omega) only [St.eff, setO, hputs, go_sem, k1, k2, k3, k7, wrI])) | ((with_reducible refine evC_draw ?_ ?_ ?_ ?_); kernel_rfl; kernel_rfl; (first | kernel_rfl | simp [newNames, isNew, St.free, freeH, AV.refsL, AV.refs]); intro R hR))))
      all_goals exact hΨ _ hlt (St.le_of (by simp [leT]) (by simp [leH, hget]))
    · have k1 : (decide ((i : Int) < (P.length : Int))) = false := decide_eq_false (by omega)
      (repeat (any_goals (first | ((with_reducible refine evL_one ?_ ?_); rfl; intro K hK; simp only [go_sem, k1, go_sem]; ((repeat (refine And.intro (by first | assumption | omega | rfl) ?_)); (with_reducible refine hK _ ?_); clear hK K)) | ((with_reducible refine evL_nil ?_); (with_reducible refine hR _ ?_); clear hR R) | ((with_reducible first | refine evC_seq ?_ | refine evC_block ?_); intro Ψ hΨ hΨ') | ((with_reducible refine evC_region ?_); intro R hR) | ((with_reducible refine hΨ _ ?_); clear hΨ hΨ' Ψ) | ((with_reducible refine hΨ' _ _ ?_ ?_); (focus (first | ((intro hx; cases hx); done) | ((intro j hj; cases hj); done) | (intro j hj; cases hj; (decide); done))); clear hΨ hΨ' Ψ) | (with_reducible first | refine evC_skip ?_ | refine evC_ret ?_ | refine evC_exit ?_) | ((with_reducible apply evC_cond); rfl; rfl; all_goals (intro hc; first | (exact absurd hc (by decide)) | (try simp only at hc))) | ((with_reducible refine evD_nil ?_ ?_); kernel_rfl; (with_reducible refine hR _ ?_); clear hR R) | (((with_reducible apply evD_any); rfl; rfl; (simp only [rdE, rdOf, go_sem, k1]; rfl); (intro τ hA hQ hN; ((try simp only [agree, Op.operands, Call.operands, go_sem, k1, go_sem, List.mem_cons, List.not_mem_nil, forall_eq_or_imp, forall_eq, List.append_toArray, Option.toArray] at hA); (try simp only [go_sem, k1, List.mem_cons, List.not_mem_nil, forall_eq_or_imp, forall_eq] at hQ hN); (first | (revert hA; intro hA) | (have hA := True.intro)); (first | (revert hQ; intro hQ) | (have hQ := True.intro)); (first | (revert hN; intro hN) | (have hN := True.intro)); simp only [go_sem, k1, go_sem, hA, hQ, hN]; (repeat (refine And.intro (by first | assumption | omega | rfl) ?_)); (first | exact eff_rd _ _ _ | exact eff_st _ _ _ | exact eff_nw _ _ _ _)))); (simp only [St.eff, setO, hputs, go_sem, k1])) | ((with_reducible refine evC_draw ?_ ?_ ?_ ?_); kernel_rfl; kernel_rfl; (first | kernel_rfl | simp [newNames, isNew, St.free, freeH, AV.refsL, AV.refs]); intro R hR))))
      all_goals (refine ⟨by simp, ⟨_, ?_, AV.le_refl _⟩, leH_get (by simp [leH, hget])⟩; simp only [Try.results19, resL, ldA, oneOf, go_sem])
/-- an address made warm as the document has it: the access, whether it was cold, whether there is room -/
def rtouchL (x : Xs) (a : Int) : Xs × Bool × Bool := if (lay aKey a (some a) x.ad).length ≤ 400 then (⟨lay aKey a (some a) x.ad, x.sp, x.pg⟩, !decide (a ∈ x.ad), true) else (⟨[], [], []⟩, false, false)
theorem touch_same {x : Xs} (v : Vx x) (a : Int) : touchL x a = ((rtouchL x a).1, (rtouchL x a).2.1, if (rtouchL x a).2.2 then 0 else 6) := by
  have e3 : (fnd aKey a x.ad).isSome = decide (a ∈ x.ad) := by
    by_cases hm : a ∈ x.ad
    · have := fnd_mem (key := aKey) v.ra hm
      rw [show aKey a = a from rfl] at this
      rw [this, decide_eq_true hm]; rfl
    · rw [decide_eq_false hm, fnd_none (key := aKey) (k := a) fun x hx e => hm (by rw [← show x = a from e]; exact hx)]; rfl
  have hg : isG aKey x.ad a = decide (a ∈ x.ad) := by rw [isG_fnd (key := aKey) v.ra, e3]
  unfold touchL rtouchL
  rw [okXs_iff.2 v]
  simp only [if_true]
  cases hm : decide (a ∈ x.ad) with
  | true =>
    have h1 : putL aKey x.ad a = (x.ad, false, 0) := putL_is (key := aKey) (by rw [show aKey a = a from rfl, hg, hm])
    have h2 : lay aKey a (some a) x.ad = x.ad := lay_is (key := aKey) v.ra (injA a) (by rw [show aKey a = a from rfl, hg, hm])
    rw [h1, h2, if_pos rfl, if_pos v.la]; rfl
  | false =>
    have h2 : lay aKey a (some a) x.ad = x.ad.take (posG aKey x.ad a) ++ a :: x.ad.drop (posG aKey x.ad a) := lay_new (key := aKey) v.ra (by rw [show aKey a = a from rfl, hg, hm])
    have hp := posG_le (key := aKey) x.ad a
    have hl : (lay aKey a (some a) x.ad).length = x.ad.length + 1 := by rw [h2, List.length_append, List.length_cons, List.length_take, List.length_drop]; omega
    unfold putL
    rw [show aKey a = a from rfl, hg, hm]
    simp only [Bool.false_eq_true, if_false]
    by_cases h4 : 400 ≤ x.ad.length
    · rw [if_pos h4, if_neg (show ¬ (lay aKey a (some a) x.ad).length ≤ 400 by omega), if_neg (by decide)]; rfl
    · rw [if_neg h4, if_pos (show (lay aKey a (some a) x.ad).length ≤ 400 by omega), if_pos rfl, h2]; rfl
theorem rtouch_fn (x : Xs) (hx : x.ok) (v : Vx x) (a : Int) (ua : U a) : Fn Try.prog 18 [xsA x, vi .u64 a] [] (.tup [xsA (rtouchL x a).1, vb (rtouchL x a).2.1, vb (rtouchL x a).2.2]) [] := by
  have so0 := sortedR_fn false (x.ad ++ [a]) (by rw [List.length_append, List.length_singleton]; have := v.la; omega)
  have hr : Rises aKey (lay aKey a (some a) x.ad) := rises_lay (some_key (key := aKey) a) v.ra
  have hmem : ∀ y, y ∈ lay aKey a (some a) x.ad ↔ y ∈ x.ad ++ [a] := fun y => by
    rw [lay_mem_iff v.ra, List.mem_append, List.mem_singleton]; exact or_comm
  rw [res_uniq hr hmem] at so0
  have so : Fn Try.prog 25 [.c (.sl false 1 (x.ad.length + 1) ((x.ad ++ [a]).flatMap apv))] [] (asl false (lay aKey a (some a) x.ad)) [] := by
    have e : (x.ad ++ [a]).length = x.ad.length + 1 := by simp
    dsimp only [asl] at so0 ⊢
    rwa [e] at so0
  have hlen : (lay aKey a (some a) x.ad).length = if a ∈ x.ad then x.ad.length else x.ad.length + 1 := by
    have hp := posG_le (key := aKey) x.ad a
    have e3 : (fnd aKey a x.ad).isSome = decide (a ∈ x.ad) := by
      by_cases hm : a ∈ x.ad
      · have := fnd_mem (key := aKey) v.ra hm
        rw [show aKey a = a from rfl] at this
        rw [this, decide_eq_true hm]; rfl
      · rw [decide_eq_false hm, fnd_none (key := aKey) (k := a) fun x hx e => hm (by rw [← show x = a from e]; exact hx)]; rfl
    by_cases hm : a ∈ x.ad
    · rw [if_pos hm, lay_is (key := aKey) v.ra (injA a) (by rw [show aKey a = a from rfl, isG_fnd (key := aKey) v.ra, e3, decide_eq_true hm])]
    · rw [if_neg hm, lay_new (key := aKey) v.ra (by rw [show aKey a = a from rfl, isG_fnd (key := aKey) v.ra, e3, decide_eq_false hm]), List.length_append, List.length_cons, List.length_take, List.length_drop]
      have hp2 : posG aKey x.ad (aKey a) ≤ x.ad.length := hp
      omega
  unfold rtouchL
  have la := v.la
  generalize lay aKey a (some a) x.ad = L at so hlen ⊢
  have k2 : decide ((L.length : Int) > (x.ad.length : Int)) = !decide (a ∈ x.ad) := by
    by_cases hm : a ∈ x.ad
    · rw [if_pos hm] at hlen
      rw [decide_eq_true hm]; simp; omega
    · rw [if_neg hm] at hlen
      rw [decide_eq_false hm]; simp; omega
  generalize decide (a ∈ x.ad) = q at k2 ⊢
  obtain ⟨A, S, P⟩ := x
  dsimp only at *
  have e1 : ((A.flatMap apv).map AV.c).length = A.length := by rw [List.length_map, flat_length apv_len, Nat.mul_one]
  have e2 : (A.flatMap apv).length = A.length := by rw [flat_length apv_len, Nat.mul_one]
  have e3 : ((A ++ [a]).flatMap apv).length = A.length + 1 := by rw [flat_length apv_len, Nat.mul_one]; simp
  by_cases h4 : L.length ≤ 400
  · have k1 : decide ((L.length : Int) > 400) = false := decide_eq_false (by omega)
    rw [if_pos h4]
    (refine fn_of Try.func18 rfl (by rfl) ?_; simp only [Try.ntmps18, List.length_cons, List.length_nil, Nat.reduceAdd, Nat.reduceSub, List.replicate, List.cons_append, List.nil_append])
    (repeat (any_goals (first | ((with_reducible refine evL_one ?_ ?_); rfl; intro K hK; simp (disch := omega) only [go_sem, e1, e2, refsL_map, Nat.mul_one, go_sem]; ((repeat (refine And.intro (by first | assumption | omega | rfl) ?_)); (with_reducible refine hK _ ?_); clear hK K)) | ((with_reducible refine evL_nil ?_); (with_reducible refine hR _ ?_); clear hR R) | ((with_reducible first | refine evC_seq ?_ | refine evC_block ?_); intro Ψ hΨ hΨ') | ((with_reducible refine evC_region ?_); intro R hR) | ((with_reducible refine hΨ _ ?_); clear hΨ hΨ' Ψ) | ((with_reducible refine hΨ' _ _ ?_ ?_); (focus (first | ((intro hx; cases hx); done) | ((intro j hj; cases hj); done) | (intro j hj; cases hj; (decide); done))); clear hΨ hΨ' Ψ) | (with_reducible first | refine evC_skip ?_ | refine evC_ret ?_ | refine evC_exit ?_) | ((with_reducible apply evC_cond); rfl; rfl; all_goals (intro hc; first | (exact absurd hc (by decide)) | (try simp only at hc))))))
    refine evL_to rfl (St.to.frz 15 (pcs := (A ++ [a]).flatMap apv) (by simp [hget, apv])) ?_
    simp only [St.frz, AV.frzL, AV.frz, frzH, e3, Nat.mul_one, if_true, eq_self, ↓reduceIte, Nat.reduceEqDiff]
    (repeat (any_goals (first | ((with_reducible refine evL_call ?_ ?_ ?_); rfl; rfl; intro K hK; ((apply opA_callB (so); rfl; rfl; rfl; rfl; exact Try.func25); kernel_rfl; rfl; (simp only [go_sem, k1, k2]; rfl); (simp only [AV.inNL, AV.inN, inNL_map, Bool.and_true])); (simp only [go_sem, k1, k2, go_sem]; (with_reducible refine hK _ ?_); clear hK K)) | ((with_reducible refine evL_one ?_ ?_); rfl; intro K hK; simp only [go_sem, k1, k2, go_sem]; ((repeat (refine And.intro (by first | assumption | omega | rfl) ?_)); (with_reducible refine hK _ ?_); clear hK K)) | ((with_reducible refine evL_nil ?_); (with_reducible refine hR _ ?_); clear hR R) | ((with_reducible first | refine evC_seq ?_ | refine evC_block ?_); intro Ψ hΨ hΨ') | ((with_reducible refine evC_region ?_); intro R hR) | ((with_reducible refine hΨ _ ?_); clear hΨ hΨ' Ψ) | ((with_reducible refine hΨ' _ _ ?_ ?_); (focus (first | ((intro hx; cases hx); done) | ((intro j hj; cases hj); done) | (intro j hj; cases hj; (decide); done))); clear hΨ hΨ' Ψ) | (with_reducible first | refine evC_skip ?_ | refine evC_ret ?_ | refine evC_exit ?_) | ((with_reducible apply evC_cond); rfl; rfl; all_goals (intro hc; first | (exact absurd hc (by decide)) | (try simp only at hc))))))
    all_goals (refine ⟨by simp, ⟨_, ?_, AV.le_refl _⟩, leH_get (by simp [leH, hget])⟩; simp only [Try.results18, resL, ldA, oneOf, go_sem])
  · have k1 : decide ((L.length : Int) > 400) = true := decide_eq_true (by omega)
    rw [if_neg h4]
    (refine fn_of Try.func18 rfl (by rfl) ?_; simp only [Try.ntmps18, List.length_cons, List.length_nil, Nat.reduceAdd, Nat.reduceSub, List.replicate, List.cons_append, List.nil_append])
    (repeat (any_goals (first | ((with_reducible refine evL_one ?_ ?_); rfl; intro K hK; simp (disch := omega) only [go_sem, e1, e2, refsL_map, Nat.mul_one, go_sem]; ((repeat (refine And.intro (by first | assumption | omega | rfl) ?_)); (with_reducible refine hK _ ?_); clear hK K)) | ((with_reducible refine evL_nil ?_); (with_reducible refine hR _ ?_); clear hR R) | ((with_reducible first | refine evC_seq ?_ | refine evC_block ?_); intro Ψ hΨ hΨ') | ((with_reducible refine evC_region ?_); intro R hR) | ((with_reducible refine hΨ _ ?_); clear hΨ hΨ' Ψ) | ((with_reducible refine hΨ' _ _ ?_ ?_); (focus (first | ((intro hx; cases hx); done) | ((intro j hj; cases hj); done) | (intro j hj; cases hj; (decide); done))); clear hΨ hΨ' Ψ) | (with_reducible first | refine evC_skip ?_ | refine evC_ret ?_ | refine evC_exit ?_) | ((with_reducible apply evC_cond); rfl; rfl; all_goals (intro hc; first | (exact absurd hc (by decide)) | (try simp only at hc))))))
    refine evL_to rfl (St.to.frz 15 (pcs := (A ++ [a]).flatMap apv) (by simp [hget, apv])) ?_
    simp only [St.frz, AV.frzL, AV.frz, frzH, e3, Nat.mul_one, if_true, eq_self, ↓reduceIte, Nat.reduceEqDiff]
    (repeat (any_goals (first | ((with_reducible refine evL_call ?_ ?_ ?_); rfl; rfl; intro K hK; ((apply opA_callB (so); rfl; rfl; rfl; rfl; exact Try.func25); kernel_rfl; rfl; (simp only [go_sem, k1, k2]; rfl); (simp only [AV.inNL, AV.inN, inNL_map, Bool.and_true])); (simp only [go_sem, k1, k2, go_sem]; (with_reducible refine hK _ ?_); clear hK K)) | ((with_reducible refine evL_one ?_ ?_); rfl; intro K hK; simp only [go_sem, k1, k2, go_sem]; ((repeat (refine And.intro (by first | assumption | omega | rfl) ?_)); (with_reducible refine hK _ ?_); clear hK K)) | ((with_reducible refine evL_nil ?_); (with_reducible refine hR _ ?_); clear hR R) | ((with_reducible first | refine evC_seq ?_ | refine evC_block ?_); intro Ψ hΨ hΨ') | ((with_reducible refine evC_region ?_); intro R hR) | ((with_reducible refine hΨ _ ?_); clear hΨ hΨ' Ψ) | ((with_reducible refine hΨ' _ _ ?_ ?_); (focus (first | ((intro hx; cases hx); done) | ((intro j hj; cases hj); done) | (intro j hj; cases hj; (decide); done))); clear hΨ hΨ' Ψ) | (with_reducible first | refine evC_skip ?_ | refine evC_ret ?_ | refine evC_exit ?_) | ((with_reducible apply evC_cond); rfl; rfl; all_goals (intro hc; first | (exact absurd hc (by decide)) | (try simp only at hc))))))
    all_goals exact ⟨by simp, ⟨_, rfl, AV.le_tupL ⟨nilX_le, AV.le_refl _, AV.le_refl _, trivial⟩⟩, leH_get (by simp [leH, hget])⟩
end Go.Proofs.Ytkidhjibpbhfbaa
