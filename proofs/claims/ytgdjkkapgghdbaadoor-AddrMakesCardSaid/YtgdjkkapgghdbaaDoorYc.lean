/-
  Mix and Rows of the code: what they compute, lane by lane. Reckoned.
-/
import Derived.Test.YtgdjkkapgghdbaaDoorYb
namespace Go.Proofs.YtgdjkkapgghdbaaDoor
open Go.RowKit
open Nat (reduceBEq)
set_option linter.unusedVariables false
set_option linter.unusedSimpArgs false
set_option maxRecDepth 20000
set_option maxHeartbeats 4000000
abbrev lnA (l : List UInt64) : AV := .agg (rcV l)
theorem rcV_getD {l : List UInt64} {i : Nat} (h : i < l.length) : (rcV l)[i]? = some (lvA (l.getD i 0)) := rcV_at (by rw [List.getD_eq_getElem?_getD, List.getElem?_eq_getElem h]; rfl)
def zer (n : Nat) : List UInt64 := List.replicate n 0
theorem zer_len (n : Nat) : (zer n).length = n := List.length_replicate
def cA (l : List UInt64) : Nat → List UInt64
  | 0 => zer 5
  | k + 1 => (cA l k).set (k % 5) ((cA l k).getD (k % 5) 0 ^^^ l.getD k 0)
theorem cA_len (l : List UInt64) : ∀ k, (cA l k).length = 5
  | 0 => rfl
  | k + 1 => by unfold cA; rw [List.length_set, cA_len l k]
def turnN (k : Nat) : Nat := (turnsL.getD k 0).toNat
def bA (l c : List UInt64) : Nat → List UInt64
  | 0 => zer 25
  | k + 1 => (bA l c k).set (5 * ((2 * (k % 5) + 3 * (k / 5)) % 5) + (k / 5) % 5) (rotU (l.getD k 0 ^^^ (c.getD ((k % 5 + 4) % 5) 0 ^^^ rotU (c.getD ((k % 5 + 1) % 5) 0) 1)) (turnN k))
theorem bA_len (l c : List UInt64) : ∀ k, (bA l c k).length = 25
  | 0 => rfl
  | k + 1 => by unfold bA; rw [List.length_set, bA_len l c k]
def mixC (l : List UInt64) : List UInt64 := bA l (cA l 25) 25
def rA (l : List UInt64) : Nat → List UInt64
  | 0 => zer 25
  | k + 1 => (rA l k).set k (l.getD k 0 ^^^ (~~~ l.getD (5 * (k / 5) + (k % 5 + 1) % 5) 0 &&& l.getD (5 * (k / 5) + (k % 5 + 2) % 5) 0))
theorem rA_len (l : List UInt64) : ∀ k, (rA l k).length = 25
  | 0 => rfl
  | k + 1 => by unfold rA; rw [List.length_set, rA_len l k]
def rowsC (l : List UInt64) : List UInt64 := rA l 25
def turnsP : List PV := turnsL.map fun n => .v (.int .i64 n)
theorem gev_turns : gev 1 = .ep turnsP := rfl
theorem turns_at (k : Nat) (h : k < 25) : (turnsP.drop k)[0]? = some (.v (.int .i64 ((turnN k : Nat) : Int))) ∧ turnN k < 64 := by
  have key : ∀ k : Fin 25, (turnsP.drop k.1)[0]? = some (.v (.int .i64 ((turnN k.1 : Nat) : Int))) ∧ turnN k.1 < 64 := by
    intro k
    refine ⟨?_, ?_⟩
    · have h2 : (turnsL.drop k.1)[0]? = some ((turnN k.1 : Nat) : Int) := by revert k; decide
      unfold turnsP
      rw [← List.map_drop, List.getElem?_map, h2]
      rfl
    · revert k; decide
  exact key ⟨k, h⟩
theorem turnsP_len : turnsP.length = 25 := rfl
theorem rcV_zer25 : rcV (zer 25) = List.replicate 25 (.c (.v (.int .u64 0))) := rfl
theorem rcV_zer5 : rcV (zer 5) = List.replicate 5 (.c (.v (.int .u64 0))) := rfl
theorem opF_turns {o : Oper} {σ : St} {i : Operand} {k : IntKind} {m : Int} (ho : o.op = .indexAddr 100 (.global 1) i) (hi0 : okConst i = true) (hi : σ.ev i = .c (.v (.int k m))) (hb : 0 ≤ m ∧ m < 25) : OpF Tryd.prog o σ.ev (hget σ.H) (.ep (turnsP.drop m.toNat)) [] [] := by
  have h := opF_index_ep (P := Tryd.prog) (σ := σ) (o := o) (n := 25) (sz := 1) (g := false) (cs := turnsP) ho rfl hi0 (show σ.ev (.global 1) = .ep turnsP from gev_turns) hi (by kernel_rfl) hb (by rw [turnsP_len]; omega)
  rwa [Nat.mul_one] at h
theorem mix_fnE (l m : List UInt64) (hl : l.length = 25) (hm : True → bA l (cA l 25) 25 = m) : Fn Tryd.prog 60 [lnA l] [] (lnA m) [] := by
  have r1 := fun d => refsL_rcV d l
  (refine fn_of Tryd.func60 rfl (by rfl) ?_; simp only [Tryd.ntmps60, List.length_cons, List.length_nil, Nat.reduceAdd, Nat.reduceSub, List.replicate, List.cons_append, List.nil_append])
  (repeat (any_goals (first | ((with_reducible refine evL_call ?_ ?_ ?_); rfl; rfl; intro K hK; ((apply opA_callB (places_fn); rfl; rfl; rfl; rfl; exact Tryd.func69); kernel_rfl; rfl; (focus ((simp only [go_sem, r1]); (try rfl); done)); (first | rfl | simp [AV.inNL, AV.inN])); (simp only [go_sem, r1]; refine hK _ ?_; clear hK K)) | ((with_reducible refine evL_one ?_ ?_); rfl; intro K hK; simp only [go_sem, r1]; ((repeat (refine ndI (by first | assumption | omega | rfl) ?_)); refine hK _ ?_; clear hK K)) | (with_reducible first | (refine evL_nil ?_; refine hR _ ?_; clear hR R) | ((first | refine evC_seq ?_ | refine evC_block ?_); intro Ψ hΨ hΨ') | (refine evC_region ?_; intro R hR) | (refine hΨ _ ?_; clear hΨ hΨ' Ψ) | refine evC_skip ?_ | refine evC_ret ?_ | refine evC_exit ?_) | ((with_reducible refine hΨ' _ _ ?_ ?_); (focus (simp; done)); clear hΨ hΨ' Ψ) | ((with_reducible apply evC_cond); rfl; rfl; all_goals (intro hc; first | (cases hc; done) | (try simp only at hc))) | ((with_reducible refine evD_nil ?_ ?_); kernel_rfl; (with_reducible refine hR _ ?_); clear hR R) | (((with_reducible apply evD_any); rfl; rfl; (simp only [rdE, rdOf, go_sem, r1]; rfl); (intro τ hA hQ hN; ((try simp only [agree, Op.operands, Call.operands, go_sem, r1, go_sem, List.mem_cons, List.not_mem_nil, forall_eq_or_imp, forall_eq, List.append_toArray, Option.toArray] at hA); (try simp only [go_sem, r1, List.mem_cons, List.not_mem_nil, forall_eq_or_imp, forall_eq] at hQ hN); (first | (revert hA; intro hA) | have hA := trivial); (first | (revert hQ; intro hQ) | have hQ := trivial); (first | (revert hN; intro hN) | have hN := trivial); simp only [go_sem, r1, go_sem, hA, hQ, hN]; (repeat (refine ndI (by first | assumption | omega | rfl) ?_)); (first | apply eff_rd | apply eff_st | apply eff_nw)))); (simp only [St.eff, setO, hputs, go_sem, r1])) | ((with_reducible refine evC_draw ?_ ?_ ?_ ?_); kernel_rfl; kernel_rfl; (first | kernel_rfl | simp [newNames, isNew, St.free, freeH, AV.refsL, AV.refs]); intro R hR))))
  show AW _ _ _ _
  refine AW.to (St.to.of_le (τ := ⟨[.any, .ptr 1 0, .ptr 2 0, .ptr 3 0, .any, .any, .any, .any, .any, .fn 74 [], .any, .any, .any, .any, .any, .any, .any, .any, .any, .any, .any, .any, .any, .any, .any, .any, .any, .any, .any, .any, .any, .any, .any, .any, .any, .any, .any, .any, .any, .any, .any, .any, .any, .any, .any, .any, .any, .any, .any, .any, .any, .any, .any, .any, .any, .any, .any, .any, .any, .any], [(1, rcV l), (2, rcV (zer 25)), (3, rcV (zer 5))]⟩) (St.le_of (by simp [leT]) (by rw [rcV_zer25, rcV_zer5]; simp [leH, hget]))) ?_
  refine AW.range2 (T0 := [.any, .ptr 1001 0, .ptr 1002 0, .ptr 1003 0, .any, .any, .any, .any, .any, .any, .any, .any, .any, .any, .any, .any, .any, .any, .any, .any, .any, .any, .any, .any, .any, .any, .any, .any, .any, .any, .any, .any, .any, .any, .any, .any, .any, .any, .any, .any, .any, .any, .any, .any, .any, .any, .any, .any, .any, .any, .any, .any, .any, .any, .any, .any, .any, .any, .any, .any]) (cargs := []) (H0 := [(1001, rcV l), (1002, rcV (zer 25)), (1003, rcV (cA l 0))]) (H1 := [(1001, rcV l), (1002, rcV (zer 25)), (1003, rcV (cA l 25))]) (res := .tup []) (fun r => r - 1000) (fun lp => places3 (fun _ => l) (fun _ => zer 25) (cA l) rfl lp fun x y hx hy => yc_of2R rfl ?_) rfl rfl Tryd.func74 (by kernel_rfl) rfl rfl ?_ ?_ ?_ ?_ ?_ rfl ?_ ?_
  · have af := at_fn x y (by omega) (by omega)
    have e0 : 5 * (y % 5) + x % 5 = 5 * y + x := by omega
    rw [e0] at af
    have cl := cA_len l (5 * y + x)
    have e1 : cA l (5 * y + x + 1) = (cA l (5 * y + x)).set x ((cA l (5 * y + x)).getD x 0 ^^^ l.getD (5 * y + x) 0) := by
      show (cA l (5 * y + x)).set ((5 * y + x) % 5) _ = _
      rw [show (5 * y + x) % 5 = x by omega]
    rw [e1]
    have hk : 5 * y + x < 25 := by omega
    generalize cA l (5 * y + x) = c at *
    generalize 5 * y + x = k at *
    have k1 := rcV_getD (l := c) (i := x) (by omega)
    have k2 := rcV_getD (l := l) (i := k) (by omega)
    have k3 := u64_xor (c.getD x 0) (l.getD k 0)
    have k4 := rcV_set c x (c.getD x 0 ^^^ l.getD k 0) (by omega)
    have k5 := rcV_len c
    have r2 := fun d => refsL_rcV d (c.set x (c.getD x 0 ^^^ l.getD k 0))
    generalize c.getD x 0 = cx at *
    generalize l.getD k 0 = lk at *
    generalize cx ^^^ lk = z at *
    simp only [List.set]
    (repeat (any_goals (first | ((with_reducible refine evL_one ?_ ?_); rfl; intro K hK; simp only [go_sem]; ((repeat (refine ndI (by first | assumption | omega | rfl) ?_)); refine hK _ ?_; clear hK K)) | (with_reducible first | (refine evL_nil ?_; refine hR _ ?_; clear hR R) | ((first | refine evC_seq ?_ | refine evC_block ?_); intro Ψ hΨ hΨ') | (refine evC_region ?_; intro R hR) | (refine hΨ _ ?_; clear hΨ hΨ' Ψ) | refine evC_skip ?_ | refine evC_ret ?_ | refine evC_exit ?_) | ((with_reducible refine hΨ' _ _ ?_ ?_); (focus (simp; done)); clear hΨ hΨ' Ψ) | ((with_reducible apply evC_cond); rfl; rfl; all_goals (intro hc; first | (cases hc; done) | (try simp only at hc))) | ((with_reducible refine evD_nil ?_ ?_); kernel_rfl; (with_reducible refine hR _ ?_); clear hR R) | (((with_reducible apply evD_any); rfl; rfl; (simp only [rdE, rdOf, go_sem]; rfl); (intro τ hA hQ hN; ((try simp only [agree, Op.operands, Call.operands, go_sem, List.mem_cons, List.not_mem_nil, forall_eq_or_imp, forall_eq, List.append_toArray, Option.toArray] at hA); (try simp only [go_sem, List.mem_cons, List.not_mem_nil, forall_eq_or_imp, forall_eq] at hQ hN); (first | (revert hA; intro hA) | have hA := trivial); (first | (revert hQ; intro hQ) | have hQ := trivial); (first | (revert hN; intro hN) | have hN := trivial); simp only [go_sem, hA, hQ, hN]; (repeat (refine ndI (by first | assumption | omega | rfl) ?_)); (first | apply eff_rd | apply eff_st | apply eff_nw)))); (simp only [St.eff, setO, hputs, go_sem])) | ((with_reducible refine evC_draw ?_ ?_ ?_ ?_); kernel_rfl; kernel_rfl; (first | kernel_rfl | simp [newNames, isNew, St.free, freeH, AV.refsL, AV.refs]); intro R hR))))
    refine ⟨rfl, fun ro => AWR.block (AWR.draw rfl (by kernel_rfl) (by kernel_rfl) (by simp [newNames, isNew, St.free, freeH, AV.refsL, AV.refs, refsL_rcV]) ?_)⟩
    intro R hR
    (have W := ndI k1 (ndI k2 (ndI k3 (ndI k4 k5))); (repeat (any_goals (first | ((with_reducible refine evL_call ?_ ?_ ?_); rfl; rfl; intro K hK; ((apply opA_callB (af); rfl; rfl; rfl; rfl; exact Tryd.func70); kernel_rfl; rfl; (focus ((simp (disch := omega) only [go_sem, W, Nat.mul_one, Nat.zero_add]); (try rfl); done)); (first | rfl | simp [AV.inNL, AV.inN])); (simp (disch := omega) only [go_sem, W, Nat.mul_one, Nat.zero_add]; refine hK _ ?_; clear hK K)) | ((with_reducible refine evL_one ?_ ?_); rfl; intro K hK; simp (disch := omega) only [go_sem, W, Nat.mul_one, Nat.zero_add]; ((repeat (refine ndI (by first | assumption | omega | rfl) ?_)); refine hK _ ?_; clear hK K)) | (with_reducible first | (refine evL_nil ?_; refine hR _ ?_; clear hR R) | ((first | refine evC_seq ?_ | refine evC_block ?_); intro Ψ hΨ hΨ') | (refine evC_region ?_; intro R hR) | (refine hΨ _ ?_; clear hΨ hΨ' Ψ) | refine evC_skip ?_ | refine evC_ret ?_ | refine evC_exit ?_) | ((with_reducible refine hΨ' _ _ ?_ ?_); (focus (simp; done)); clear hΨ hΨ' Ψ) | ((with_reducible apply evC_cond); rfl; rfl; all_goals (intro hc; first | (cases hc; done) | (try simp only at hc))) | ((with_reducible refine evD_nil ?_ ?_); (apply drawOK_sim); (focus (repeat (first | exact Sims.nil | ((apply Sims.cons); (focus (first | ((apply Ef.sim_row); assumption) | exact Ef.sim_refl _)))))); kernel_rfl; (with_reducible refine hR _ ?_); clear hR R) | ((first | ((with_reducible apply evD_skip); rfl; rfl; rfl; rfl) | ((with_reducible apply evD_unmet); rfl; rfl; rfl) | ((first | ((with_reducible apply evD_fcall); rfl; rfl) | ((with_reducible apply evD_gcall); rfl; rfl; rfl; rfl; rfl)); ((apply opF_callB (af); rfl; rfl; rfl; rfl; exact Tryd.func70); kernel_rfl; rfl; (focus ((simp (disch := omega) only [go_sem, W, Nat.mul_one, Nat.zero_add]); (try rfl); done)); (first | rfl | simp [AV.inNL, AV.inN]))) | ((first | ((with_reducible apply evD_any); rfl; rfl) | ((with_reducible apply evD_gany); rfl; rfl; rfl; rfl; rfl)); (simp (disch := omega) only [rdE, rdOf, go_sem, W, Nat.mul_one, Nat.zero_add]; rfl); (intro τ hA hQ hN; ((try simp only [agree, Op.operands, Call.operands, go_sem, W, Nat.mul_one, Nat.zero_add, go_sem, List.mem_cons, List.not_mem_nil, forall_eq_or_imp, forall_eq, List.append_toArray, Option.toArray] at hA); (try simp only [go_sem, W, Nat.mul_one, Nat.zero_add, List.mem_cons, List.not_mem_nil, forall_eq_or_imp, forall_eq] at hQ hN); (first | (revert hA; intro hA) | have hA := trivial); (first | (revert hQ; intro hQ) | have hQ := trivial); (first | (revert hN; intro hN) | have hN := trivial); simp (disch := omega) only [go_sem, W, Nat.mul_one, Nat.zero_add, go_sem, hA, hQ, hN]; (repeat (refine ndI (by first | assumption | omega | rfl) ?_)); (first | apply eff_rd | apply eff_st | apply eff_nw))))); (simp (disch := omega) only [St.eff, setO, hputs, go_sem, W, Nat.mul_one, Nat.zero_add])) | ((with_reducible apply evD_split); rfl; rfl; rfl; all_goals intro hb; all_goals (simp (disch := omega) only [St.eff, setO, hputs, go_sem, W, Nat.mul_one, Nat.zero_add])) | ((with_reducible refine evC_draw ?_ ?_ ?_ ?_); kernel_rfl; kernel_rfl; (first | kernel_rfl | simp [newNames, isNew, St.free, freeH, AV.refsL, AV.refs]); intro R hR)))))
    exact ⟨rfl, leH_get (by simp [leH, hget])⟩
  · simp [argsOk, argOk, AV.ren]
  · simp [argsOk, argOk, AV.ren]
  · simp [hget, renL_rcV, cA]
  · intro r hr q hq h
    simp only [List.map_cons, List.map_nil, List.cons_append, List.nil_append, List.mem_cons, List.not_mem_nil, or_false] at hr hq
    omega
  · simp [newOk]
  · simp [inH, inNL_rcV]
  · simp only [hputs, hdels, renH, AV.ren, AV.renL, renL_rcV, hput, hdel, hget, Nat.reduceLeDiff, Nat.reduceSub, Nat.reduceEqDiff, ↓reduceIte]
    (repeat (any_goals (first | ((with_reducible refine evL_call ?_ ?_ ?_); rfl; rfl; intro K hK; ((apply opA_callB (places_fn); rfl; rfl; rfl; rfl; exact Tryd.func69); kernel_rfl; rfl; (focus ((simp only [go_sem, r1]); (try rfl); done)); (first | rfl | simp [AV.inNL, AV.inN])); (simp only [go_sem, r1]; refine hK _ ?_; clear hK K)) | ((with_reducible refine evL_one ?_ ?_); rfl; intro K hK; simp only [go_sem, r1]; ((repeat (refine ndI (by first | assumption | omega | rfl) ?_)); refine hK _ ?_; clear hK K)) | (with_reducible first | (refine evL_nil ?_; refine hR _ ?_; clear hR R) | ((first | refine evC_seq ?_ | refine evC_block ?_); intro Ψ hΨ hΨ') | (refine evC_region ?_; intro R hR) | (refine hΨ _ ?_; clear hΨ hΨ' Ψ) | refine evC_skip ?_ | refine evC_ret ?_ | refine evC_exit ?_) | ((with_reducible refine hΨ' _ _ ?_ ?_); (focus (simp; done)); clear hΨ hΨ' Ψ) | ((with_reducible apply evC_cond); rfl; rfl; all_goals (intro hc; first | (cases hc; done) | (try simp only at hc))) | ((with_reducible refine evD_nil ?_ ?_); kernel_rfl; (with_reducible refine hR _ ?_); clear hR R) | (((with_reducible apply evD_any); rfl; rfl; (simp only [rdE, rdOf, go_sem, r1]; rfl); (intro τ hA hQ hN; ((try simp only [agree, Op.operands, Call.operands, go_sem, r1, go_sem, List.mem_cons, List.not_mem_nil, forall_eq_or_imp, forall_eq, List.append_toArray, Option.toArray] at hA); (try simp only [go_sem, r1, List.mem_cons, List.not_mem_nil, forall_eq_or_imp, forall_eq] at hQ hN); (first | (revert hA; intro hA) | have hA := trivial); (first | (revert hQ; intro hQ) | have hQ := trivial); (first | (revert hN; intro hN) | have hN := trivial); simp only [go_sem, r1, go_sem, hA, hQ, hN]; (repeat (refine ndI (by first | assumption | omega | rfl) ?_)); (first | apply eff_rd | apply eff_st | apply eff_nw)))); (simp only [St.eff, setO, hputs, go_sem, r1])) | ((with_reducible refine evC_draw ?_ ?_ ?_ ?_); kernel_rfl; kernel_rfl; (first | kernel_rfl | simp [newNames, isNew, St.free, freeH, AV.refsL, AV.refs]); intro R hR))))
    show AW _ _ _ _
    refine AW.range2 (T0 := [.any, .ptr 1001 0, .ptr 1002 0, .ptr 1003 0, .any, .any, .any, .any, .any, .any, .any, .any, .any, .any, .any, .any, .any, .any, .any, .any, .any, .any, .any, .any, .any, .any, .any, .any, .any, .any, .any, .any, .any, .any, .any, .any, .any, .any, .any, .any, .any, .any, .any, .any, .any, .any, .any, .any, .any, .any, .any, .any, .any, .any, .any, .any, .any, .any, .any, .any]) (cargs := []) (H0 := [(1001, rcV l), (1002, rcV (bA l (cA l 25) 0)), (1003, rcV (cA l 25))]) (H1 := [(1001, rcV l), (1002, rcV (bA l (cA l 25) 25)), (1003, rcV (cA l 25))]) (res := .tup []) (fun r => r - 1000) (fun lp => places3 (fun _ => l) (bA l (cA l 25)) (fun _ => cA l 25) rfl lp fun x y hx hy => yc_of2R rfl ?_) rfl rfl Tryd.func74 (by kernel_rfl) rfl rfl ?_ ?_ ?_ ?_ ?_ rfl ?_ ?_
    · have cl := cA_len l 25
      generalize cA l 25 = c at *
      have af := at_fn x y (by omega) (by omega)
      have ag := at_fn y (2 * x + 3 * y) (by omega) (by omega)
      have e0 : 5 * (y % 5) + x % 5 = 5 * y + x := by omega
      rw [e0] at af
      have bl := bA_len l c (5 * y + x)
      have e1 : bA l c (5 * y + x + 1) = (bA l c (5 * y + x)).set (5 * ((2 * x + 3 * y) % 5) + y % 5) (rotU (l.getD (5 * y + x) 0 ^^^ (c.getD ((x + 4) % 5) 0 ^^^ rotU (c.getD ((x + 1) % 5) 0) 1)) (turnN (5 * y + x))) := by
        show (bA l c (5 * y + x)).set _ _ = _
        rw [show (5 * y + x) % 5 = x by omega, show (5 * y + x) / 5 = y by omega]
      rw [e1]
      have hk : 5 * y + x < 25 := by omega
      generalize bA l c (5 * y + x) = b at *
      generalize 5 * y + x = k at *
      obtain ⟨t1, t2⟩ := turns_at k hk
      have k1 := rcV_getD (l := c) (i := (x + 4) % 5) (by omega)
      have k2 := rcV_getD (l := c) (i := (x + 1) % 5) (by omega)
      have k3 := rcV_getD (l := l) (i := k) (by omega)
      have hi : 5 * ((2 * x + 3 * y) % 5) + y % 5 < 25 := by omega
      have j1 : (x : Int) + 5 = ((x + 5 : Nat) : Int) := by omega
      have j2 : ((x + 5 : Nat) : Int) - 1 = ((x + 4 : Nat) : Int) := by omega
      have j3 : Int.tmod ((x + 4 : Nat) : Int) 5 = (((x + 4) % 5 : Nat) : Int) := by rw [Int.tmod_eq_emod_of_nonneg (by omega)]; omega
      have j4 : (x : Int) + 1 = ((x + 1 : Nat) : Int) := by omega
      have j5 : Int.tmod ((x + 1 : Nat) : Int) 5 = (((x + 1) % 5 : Nat) : Int) := by rw [Int.tmod_eq_emod_of_nonneg (by omega)]; omega
      have j6 : (2 : Int) * (x : Int) = ((2 * x : Nat) : Int) := by omega
      have j7 : (3 : Int) * (y : Int) = ((3 * y : Nat) : Int) := by omega
      have j8 : ((2 * x : Nat) : Int) + ((3 * y : Nat) : Int) = ((2 * x + 3 * y : Nat) : Int) := by omega
      have m1 : (x + 4) % 5 < 5 := by omega
      have m2 : (x + 1) % 5 < 5 := by omega
      generalize c.getD ((x + 4) % 5) 0 = c1 at *
      generalize c.getD ((x + 1) % 5) 0 = c2 at *
      generalize l.getD k 0 = lk at *
      generalize 5 * ((2 * x + 3 * y) % 5) + y % 5 = q at *
      generalize (x + 4) % 5 = x4 at *
      generalize (x + 1) % 5 = x1 at *
      have tu1 : Fn Tryd.prog 71 [lvA c2, vi .i64 1] [] (lvA (rotU c2 1)) [] := turned_fn c2 1 (by decide)
      have u1 := u64_xor c1 (rotU c2 1)
      generalize rotU c2 1 = c3 at *
      generalize c1 ^^^ c3 = d at *
      have u2 := u64_xor lk d
      generalize lk ^^^ d = z at *
      have tu2 := turned_fn z (turnN k) t2
      generalize turnN k = tn at *
      generalize rotU z tn = zz at *
      have k4 := rcV_set b q zz (by omega)
      have k5 := rcV_len b
      have r2 := fun d => refsL_rcV d (b.set q zz)
      have b25 : b.length = 25 := bl
      have hx4 : 2 * x + 3 * y < 100 := by omega
      simp only [List.set]
      (repeat (any_goals (first | ((with_reducible refine evL_one ?_ ?_); rfl; intro K hK; simp only [go_sem]; ((repeat (refine ndI (by first | assumption | omega | rfl) ?_)); refine hK _ ?_; clear hK K)) | (with_reducible first | (refine evL_nil ?_; refine hR _ ?_; clear hR R) | ((first | refine evC_seq ?_ | refine evC_block ?_); intro Ψ hΨ hΨ') | (refine evC_region ?_; intro R hR) | (refine hΨ _ ?_; clear hΨ hΨ' Ψ) | refine evC_skip ?_ | refine evC_ret ?_ | refine evC_exit ?_) | ((with_reducible refine hΨ' _ _ ?_ ?_); (focus (simp; done)); clear hΨ hΨ' Ψ) | ((with_reducible apply evC_cond); rfl; rfl; all_goals (intro hc; first | (cases hc; done) | (try simp only at hc))) | ((with_reducible refine evD_nil ?_ ?_); kernel_rfl; (with_reducible refine hR _ ?_); clear hR R) | (((with_reducible apply evD_any); rfl; rfl; (simp only [rdE, rdOf, go_sem]; rfl); (intro τ hA hQ hN; ((try simp only [agree, Op.operands, Call.operands, go_sem, List.mem_cons, List.not_mem_nil, forall_eq_or_imp, forall_eq, List.append_toArray, Option.toArray] at hA); (try simp only [go_sem, List.mem_cons, List.not_mem_nil, forall_eq_or_imp, forall_eq] at hQ hN); (first | (revert hA; intro hA) | have hA := trivial); (first | (revert hQ; intro hQ) | have hQ := trivial); (first | (revert hN; intro hN) | have hN := trivial); simp only [go_sem, hA, hQ, hN]; (repeat (refine ndI (by first | assumption | omega | rfl) ?_)); (first | apply eff_rd | apply eff_st | apply eff_nw)))); (simp only [St.eff, setO, hputs, go_sem])) | ((with_reducible refine evC_draw ?_ ?_ ?_ ?_); kernel_rfl; kernel_rfl; (first | kernel_rfl | simp [newNames, isNew, St.free, freeH, AV.refsL, AV.refs]); intro R hR))))
      refine ⟨rfl, fun ro => AWR.block (AWR.seq (AWR.draw rfl (by kernel_rfl) (by kernel_rfl) (by simp [newNames, isNew, St.free, freeH, AV.refsL, AV.refs, refsL_rcV]) ?_))⟩
      intro R hR
      (have W := ndI j1 (ndI j2 (ndI j3 (ndI j4 (ndI j5 (ndI k1 (ndI k2 (ndI u1 @wrI))))))); (repeat (any_goals (first | ((with_reducible refine evL_call ?_ ?_ ?_); rfl; rfl; intro K hK; ((apply opA_callB (tu1); rfl; rfl; rfl; rfl; exact Tryd.func71); kernel_rfl; rfl; (focus ((simp (disch := omega) only [go_sem, W, Nat.mul_one, Nat.zero_add]); (try rfl); done)); (first | rfl | simp [AV.inNL, AV.inN])); (simp (disch := omega) only [go_sem, W, Nat.mul_one, Nat.zero_add]; refine hK _ ?_; clear hK K)) | ((with_reducible refine evL_one ?_ ?_); rfl; intro K hK; simp (disch := omega) only [go_sem, W, Nat.mul_one, Nat.zero_add]; ((repeat (refine ndI (by first | assumption | omega | rfl) ?_)); refine hK _ ?_; clear hK K)) | (with_reducible first | (refine evL_nil ?_; refine hR _ ?_; clear hR R) | ((first | refine evC_seq ?_ | refine evC_block ?_); intro Ψ hΨ hΨ') | (refine evC_region ?_; intro R hR) | (refine hΨ _ ?_; clear hΨ hΨ' Ψ) | refine evC_skip ?_ | refine evC_ret ?_ | refine evC_exit ?_) | ((with_reducible refine hΨ' _ _ ?_ ?_); (focus (simp; done)); clear hΨ hΨ' Ψ) | ((with_reducible apply evC_cond); rfl; rfl; all_goals (intro hc; first | (cases hc; done) | (try simp only at hc))) | ((with_reducible refine evD_nil ?_ ?_); (apply drawOK_sim); (focus (repeat (first | exact Sims.nil | ((apply Sims.cons); (focus (first | ((apply Ef.sim_row); assumption) | exact Ef.sim_refl _)))))); kernel_rfl; (with_reducible refine hR _ ?_); clear hR R) | ((first | ((with_reducible apply evD_skip); rfl; rfl; rfl; rfl) | ((with_reducible apply evD_unmet); rfl; rfl; rfl) | ((first | ((with_reducible apply evD_fcall); rfl; rfl) | ((with_reducible apply evD_gcall); rfl; rfl; rfl; rfl; rfl)); ((apply opF_callB (tu1); rfl; rfl; rfl; rfl; exact Tryd.func71); kernel_rfl; rfl; (focus ((simp (disch := omega) only [go_sem, W, Nat.mul_one, Nat.zero_add]); (try rfl); done)); (first | rfl | simp [AV.inNL, AV.inN]))) | ((first | ((with_reducible apply evD_any); rfl; rfl) | ((with_reducible apply evD_gany); rfl; rfl; rfl; rfl; rfl)); (simp (disch := omega) only [rdE, rdOf, go_sem, W, Nat.mul_one, Nat.zero_add]; rfl); (intro τ hA hQ hN; ((try simp only [agree, Op.operands, Call.operands, go_sem, W, Nat.mul_one, Nat.zero_add, go_sem, List.mem_cons, List.not_mem_nil, forall_eq_or_imp, forall_eq, List.append_toArray, Option.toArray] at hA); (try simp only [go_sem, W, Nat.mul_one, Nat.zero_add, List.mem_cons, List.not_mem_nil, forall_eq_or_imp, forall_eq] at hQ hN); (first | (revert hA; intro hA) | have hA := trivial); (first | (revert hQ; intro hQ) | have hQ := trivial); (first | (revert hN; intro hN) | have hN := trivial); simp (disch := omega) only [go_sem, W, Nat.mul_one, Nat.zero_add, go_sem, hA, hQ, hN]; (repeat (refine ndI (by first | assumption | omega | rfl) ?_)); (first | apply eff_rd | apply eff_st | apply eff_nw))))); (simp (disch := omega) only [St.eff, setO, hputs, go_sem, W, Nat.mul_one, Nat.zero_add])) | ((with_reducible apply evD_split); rfl; rfl; rfl; all_goals intro hb; all_goals (simp (disch := omega) only [St.eff, setO, hputs, go_sem, W, Nat.mul_one, Nat.zero_add])) | ((with_reducible refine evC_draw ?_ ?_ ?_ ?_); kernel_rfl; kernel_rfl; (first | kernel_rfl | simp [newNames, isNew, St.free, freeH, AV.refsL, AV.refs]); intro R hR)))))
      show AWR _ _ _ _ _
      refine AWR.draw rfl (by kernel_rfl) (by kernel_rfl) (by simp [newNames, isNew, St.free, freeH, AV.refsL, AV.refs, refsL_rcV]) ?_
      intro R hR
      (have W := ndI j6 (ndI j7 (ndI j8 (ndI k3 (ndI k4 (ndI k5 (ndI t1 (ndI u2 @wrI))))))); (repeat (any_goals (first | ((with_reducible refine evL_call ?_ ?_ ?_); rfl; rfl; intro K hK; (first | ((apply opA_callB (tu2); rfl; rfl; rfl; rfl; exact Tryd.func71); kernel_rfl; rfl; (focus ((simp (disch := omega) only [go_sem, W, Nat.mul_one, Nat.zero_add]); (try rfl); done)); (first | rfl | simp [AV.inNL, AV.inN])) | ((apply opA_callB (af); rfl; rfl; rfl; rfl; exact Tryd.func70); kernel_rfl; rfl; (focus ((simp (disch := omega) only [go_sem, W, Nat.mul_one, Nat.zero_add]); (try rfl); done)); (first | rfl | simp [AV.inNL, AV.inN])) | ((apply opA_callB (ag); rfl; rfl; rfl; rfl; exact Tryd.func70); kernel_rfl; rfl; (focus ((simp (disch := omega) only [go_sem, W, Nat.mul_one, Nat.zero_add]); (try rfl); done)); (first | rfl | simp [AV.inNL, AV.inN]))); (simp (disch := omega) only [go_sem, W, Nat.mul_one, Nat.zero_add]; refine hK _ ?_; clear hK K)) | ((with_reducible refine evL_one ?_ ?_); rfl; intro K hK; simp (disch := omega) only [go_sem, W, Nat.mul_one, Nat.zero_add]; ((repeat (refine ndI (by first | assumption | omega | rfl) ?_)); refine hK _ ?_; clear hK K)) | (with_reducible first | (refine evL_nil ?_; refine hR _ ?_; clear hR R) | ((first | refine evC_seq ?_ | refine evC_block ?_); intro Ψ hΨ hΨ') | (refine evC_region ?_; intro R hR) | (refine hΨ _ ?_; clear hΨ hΨ' Ψ) | refine evC_skip ?_ | refine evC_ret ?_ | refine evC_exit ?_) | ((with_reducible refine hΨ' _ _ ?_ ?_); (focus (simp; done)); clear hΨ hΨ' Ψ) | ((with_reducible apply evC_cond); rfl; rfl; all_goals (intro hc; first | (cases hc; done) | (try simp only at hc))) | ((with_reducible refine evD_nil ?_ ?_); (apply drawOK_sim); (focus (repeat (first | exact Sims.nil | ((apply Sims.cons); (focus (first | ((apply Ef.sim_row); assumption) | exact Ef.sim_refl _)))))); kernel_rfl; (with_reducible refine hR _ ?_); clear hR R) | ((first | ((with_reducible apply evD_skip); rfl; rfl; rfl; rfl) | ((with_reducible apply evD_unmet); rfl; rfl; rfl) | ((first | ((with_reducible apply evD_fcall); rfl; rfl) | ((with_reducible apply evD_gcall); rfl; rfl; rfl; rfl; rfl)); (first | ((apply opF_callB (tu2); rfl; rfl; rfl; rfl; exact Tryd.func71); kernel_rfl; rfl; (focus ((simp (disch := omega) only [go_sem, W, Nat.mul_one, Nat.zero_add]); (try rfl); done)); (first | rfl | simp [AV.inNL, AV.inN])) | ((apply opF_callB (af); rfl; rfl; rfl; rfl; exact Tryd.func70); kernel_rfl; rfl; (focus ((simp (disch := omega) only [go_sem, W, Nat.mul_one, Nat.zero_add]); (try rfl); done)); (first | rfl | simp [AV.inNL, AV.inN])) | ((apply opF_callB (ag); rfl; rfl; rfl; rfl; exact Tryd.func70); kernel_rfl; rfl; (focus ((simp (disch := omega) only [go_sem, W, Nat.mul_one, Nat.zero_add]); (try rfl); done)); (first | rfl | simp [AV.inNL, AV.inN])))) | ((first | ((with_reducible apply evD_any); rfl; rfl) | ((with_reducible apply evD_gany); rfl; rfl; rfl; rfl; rfl)); (simp (disch := omega) only [rdE, rdOf, go_sem, W, Nat.mul_one, Nat.zero_add]; rfl); (intro τ hA hQ hN; ((try simp only [agree, Op.operands, Call.operands, go_sem, W, Nat.mul_one, Nat.zero_add, go_sem, List.mem_cons, List.not_mem_nil, forall_eq_or_imp, forall_eq, List.append_toArray, Option.toArray] at hA); (try simp only [go_sem, W, Nat.mul_one, Nat.zero_add, List.mem_cons, List.not_mem_nil, forall_eq_or_imp, forall_eq] at hQ hN); (first | (revert hA; intro hA) | have hA := trivial); (first | (revert hQ; intro hQ) | have hQ := trivial); (first | (revert hN; intro hN) | have hN := trivial); simp (disch := omega) only [go_sem, W, Nat.mul_one, Nat.zero_add, go_sem, hA, hQ, hN]; (repeat (refine ndI (by first | assumption | omega | rfl) ?_)); (first | apply eff_rd | apply eff_st | apply eff_nw)))) | ((first | ((with_reducible apply evD_one); rfl) | ((with_reducible apply evD_grd); rfl; rfl; rfl; rfl)); apply opF_turns; rfl; rfl; rfl; (first | omega | (dsimp only; omega) | (simp (disch := omega) only [Option.isSome_some, Option.isSome_none]; omega) | (simp; omega) | (focus (simp; done))))); (simp (disch := omega) only [St.eff, setO, hputs, go_sem, W, Nat.mul_one, Nat.zero_add])) | ((with_reducible apply evD_split); rfl; rfl; rfl; all_goals intro hb; all_goals (simp (disch := omega) only [St.eff, setO, hputs, go_sem, W, Nat.mul_one, Nat.zero_add])) | ((with_reducible refine evC_draw ?_ ?_ ?_ ?_); kernel_rfl; kernel_rfl; (first | kernel_rfl | simp [newNames, isNew, St.free, freeH, AV.refsL, AV.refs]); intro R hR)))))
      exact ⟨rfl, leH_get (by simp [leH, hget])⟩
    · simp [argsOk, argOk, AV.ren]
    · simp [argsOk, argOk, AV.ren]
    · simp [hget, renL_rcV, bA]
    · intro r hr q hq h
      simp only [List.map_cons, List.map_nil, List.cons_append, List.nil_append, List.mem_cons, List.not_mem_nil, or_false] at hr hq
      omega
    · simp [newOk]
    · simp [inH, inNL_rcV]
    · simp only [hputs, hdels, renH, AV.ren, AV.renL, renL_rcV, hput, hdel, hget, Nat.reduceLeDiff, Nat.reduceSub, Nat.reduceEqDiff, ↓reduceIte]
      have b1 := rcV_take _ (bA_len l (cA l 25) 25)
      have b2 : (rcV (bA l (cA l 25) 25)).length = 25 := by rw [rcV_len, bA_len]
      rw [hm trivial] at b1 b2 ⊢
      have b3 : List.drop 25 (rcV m) = [] := List.drop_eq_nil_of_le (by omega)
      (have W := ndI b1 (ndI b2 b3); (repeat (any_goals (first | ((with_reducible refine evL_one ?_ ?_); rfl; intro K hK; simp (disch := omega) only [go_sem, W]; ((repeat (refine ndI (by first | assumption | omega | rfl) ?_)); refine hK _ ?_; clear hK K)) | (with_reducible first | (refine evL_nil ?_; refine hR _ ?_; clear hR R) | ((first | refine evC_seq ?_ | refine evC_block ?_); intro Ψ hΨ hΨ') | (refine evC_region ?_; intro R hR) | (refine hΨ _ ?_; clear hΨ hΨ' Ψ) | refine evC_skip ?_ | refine evC_ret ?_ | refine evC_exit ?_) | ((with_reducible refine hΨ' _ _ ?_ ?_); (focus (simp; done)); clear hΨ hΨ' Ψ) | ((with_reducible apply evC_cond); rfl; rfl; all_goals (intro hc; first | (cases hc; done) | (try simp only at hc))) | ((with_reducible refine evD_nil ?_ ?_); kernel_rfl; (with_reducible refine hR _ ?_); clear hR R) | (((with_reducible apply evD_any); rfl; rfl; (simp (disch := omega) only [rdE, rdOf, go_sem, W]; rfl); (intro τ hA hQ hN; ((try simp only [agree, Op.operands, Call.operands, go_sem, W, go_sem, List.mem_cons, List.not_mem_nil, forall_eq_or_imp, forall_eq, List.append_toArray, Option.toArray] at hA); (try simp only [go_sem, W, List.mem_cons, List.not_mem_nil, forall_eq_or_imp, forall_eq] at hQ hN); (first | (revert hA; intro hA) | have hA := trivial); (first | (revert hQ; intro hQ) | have hQ := trivial); (first | (revert hN; intro hN) | have hN := trivial); simp (disch := omega) only [go_sem, W, go_sem, hA, hQ, hN]; (repeat (refine ndI (by first | assumption | omega | rfl) ?_)); (first | apply eff_rd | apply eff_st | apply eff_nw)))); (simp (disch := omega) only [St.eff, setO, hputs, go_sem, W])) | ((with_reducible refine evC_draw ?_ ?_ ?_ ?_); kernel_rfl; kernel_rfl; (first | kernel_rfl | simp [newNames, isNew, St.free, freeH, AV.refsL, AV.refs]); intro R hR)))))
      all_goals (refine ⟨by simp, ⟨_, ?_, AV.le_refl _⟩, leH_get (by simp [leH, hget])⟩; simp only [Tryd.results60, resL, ldA, oneOf, go_sem, b1]; rw [if_pos (by omega)]; rfl)
theorem rows_fnE (l m : List UInt64) (hl : l.length = 25) (hm : True → rA l 25 = m) : Fn Tryd.prog 59 [lnA l] [] (lnA m) [] := by
  have r1 := fun d => refsL_rcV d l
  (refine fn_of Tryd.func59 rfl (by rfl) ?_; simp only [Tryd.ntmps59, List.length_cons, List.length_nil, Nat.reduceAdd, Nat.reduceSub, List.replicate, List.cons_append, List.nil_append])
  (repeat (any_goals (first | ((with_reducible refine evL_call ?_ ?_ ?_); rfl; rfl; intro K hK; ((apply opA_callB (places_fn); rfl; rfl; rfl; rfl; exact Tryd.func69); kernel_rfl; rfl; (focus ((simp only [go_sem, r1]); (try rfl); done)); (first | rfl | simp [AV.inNL, AV.inN])); (simp only [go_sem, r1]; refine hK _ ?_; clear hK K)) | ((with_reducible refine evL_one ?_ ?_); rfl; intro K hK; simp only [go_sem, r1]; ((repeat (refine ndI (by first | assumption | omega | rfl) ?_)); refine hK _ ?_; clear hK K)) | (with_reducible first | (refine evL_nil ?_; refine hR _ ?_; clear hR R) | ((first | refine evC_seq ?_ | refine evC_block ?_); intro Ψ hΨ hΨ') | (refine evC_region ?_; intro R hR) | (refine hΨ _ ?_; clear hΨ hΨ' Ψ) | refine evC_skip ?_ | refine evC_ret ?_ | refine evC_exit ?_) | ((with_reducible refine hΨ' _ _ ?_ ?_); (focus (simp; done)); clear hΨ hΨ' Ψ) | ((with_reducible apply evC_cond); rfl; rfl; all_goals (intro hc; first | (cases hc; done) | (try simp only at hc))) | ((with_reducible refine evD_nil ?_ ?_); kernel_rfl; (with_reducible refine hR _ ?_); clear hR R) | (((with_reducible apply evD_any); rfl; rfl; (simp only [rdE, rdOf, go_sem, r1]; rfl); (intro τ hA hQ hN; ((try simp only [agree, Op.operands, Call.operands, go_sem, r1, go_sem, List.mem_cons, List.not_mem_nil, forall_eq_or_imp, forall_eq, List.append_toArray, Option.toArray] at hA); (try simp only [go_sem, r1, List.mem_cons, List.not_mem_nil, forall_eq_or_imp, forall_eq] at hQ hN); (first | (revert hA; intro hA) | have hA := trivial); (first | (revert hQ; intro hQ) | have hQ := trivial); (first | (revert hN; intro hN) | have hN := trivial); simp only [go_sem, r1, go_sem, hA, hQ, hN]; (repeat (refine ndI (by first | assumption | omega | rfl) ?_)); (first | apply eff_rd | apply eff_st | apply eff_nw)))); (simp only [St.eff, setO, hputs, go_sem, r1])) | ((with_reducible refine evC_draw ?_ ?_ ?_ ?_); kernel_rfl; kernel_rfl; (first | kernel_rfl | simp [newNames, isNew, St.free, freeH, AV.refsL, AV.refs]); intro R hR))))
  show AW _ _ _ _
  refine AW.to (St.to.of_le (τ := ⟨[.any, .ptr 1 0, .ptr 2 0, .any, .any, .fn 74 [], .any, .any, .any, .any, .any, .any, .any, .any, .any, .any, .any, .any, .any, .any, .any, .any, .any, .any, .any, .any, .any, .any, .any, .any, .any, .any, .any], [(1, rcV l), (2, rcV (zer 25))]⟩) (St.le_of (by simp [leT]) (by rw [rcV_zer25]; simp [leH, hget]))) ?_
  refine AW.range2 (T0 := [.any, .ptr 1001 0, .ptr 1002 0, .any, .any, .any, .any, .any, .any, .any, .any, .any, .any, .any, .any, .any, .any, .any, .any, .any, .any, .any, .any, .any, .any, .any, .any, .any, .any, .any, .any, .any, .any]) (cargs := []) (H0 := [(1001, rcV l), (1002, rcV (rA l 0))]) (H1 := [(1001, rcV l), (1002, rcV (rA l 25))]) (res := .tup []) (fun r => r - 1000) (fun lp => places2 (fun _ => l) (rA l) rfl lp fun x y hx hy => yc_of2R rfl ?_) rfl rfl Tryd.func74 (by kernel_rfl) rfl rfl ?_ ?_ ?_ ?_ ?_ rfl ?_ ?_
  · have af := at_fn x y (by omega) (by omega)
    have ag := at_fn (x + 1) y (by omega) (by omega)
    have ah := at_fn (x + 2) y (by omega) (by omega)
    have e0 : 5 * (y % 5) + x % 5 = 5 * y + x := by omega
    have e2 : 5 * (y % 5) + (x + 1) % 5 = 5 * y + (x + 1) % 5 := by omega
    have e3 : 5 * (y % 5) + (x + 2) % 5 = 5 * y + (x + 2) % 5 := by omega
    rw [e0] at af
    rw [e2] at ag
    rw [e3] at ah
    have bl := rA_len l (5 * y + x)
    have e1 : rA l (5 * y + x + 1) = (rA l (5 * y + x)).set (5 * y + x) (l.getD (5 * y + x) 0 ^^^ (~~~ l.getD (5 * y + (x + 1) % 5) 0 &&& l.getD (5 * y + (x + 2) % 5) 0)) := by
      show (rA l (5 * y + x)).set _ _ = _
      rw [show (5 * y + x) % 5 = x by omega, show (5 * y + x) / 5 = y by omega]
    rw [e1]
    have hk : 5 * y + x < 25 := by omega
    have hk1 : 5 * y + (x + 1) % 5 < 25 := by omega
    have hk2 : 5 * y + (x + 2) % 5 < 25 := by omega
    generalize rA l (5 * y + x) = b at *
    generalize 5 * y + x = k at *
    generalize 5 * y + (x + 1) % 5 = p at *
    generalize 5 * y + (x + 2) % 5 = q at *
    have j1 : (x : Int) + 1 = ((x + 1 : Nat) : Int) := by omega
    have j2 : (x : Int) + 2 = ((x + 2 : Nat) : Int) := by omega
    have k1 := rcV_getD (l := l) (i := k) (by omega)
    have k2 := rcV_getD (l := l) (i := p) (by omega)
    have k3 := rcV_getD (l := l) (i := q) (by omega)
    generalize l.getD k 0 = lk at *
    generalize l.getD p 0 = lp' at *
    generalize l.getD q 0 = lq at *
    have u0 := u64_not lp'
    generalize ~~~lp' = n at *
    have u1 := u64_and n lq
    generalize n &&& lq = a at *
    have u2 := u64_xor lk a
    generalize lk ^^^ a = z at *
    have k4 := rcV_set b k z (by omega)
    have k5 := rcV_len b
    have r2 := fun d => refsL_rcV d (b.set k z)
    have b25 : b.length = 25 := bl
    simp only [List.set]
    (repeat (any_goals (first | ((with_reducible refine evL_one ?_ ?_); rfl; intro K hK; simp only [go_sem]; ((repeat (refine ndI (by first | assumption | omega | rfl) ?_)); refine hK _ ?_; clear hK K)) | (with_reducible first | (refine evL_nil ?_; refine hR _ ?_; clear hR R) | ((first | refine evC_seq ?_ | refine evC_block ?_); intro Ψ hΨ hΨ') | (refine evC_region ?_; intro R hR) | (refine hΨ _ ?_; clear hΨ hΨ' Ψ) | refine evC_skip ?_ | refine evC_ret ?_ | refine evC_exit ?_) | ((with_reducible refine hΨ' _ _ ?_ ?_); (focus (simp; done)); clear hΨ hΨ' Ψ) | ((with_reducible apply evC_cond); rfl; rfl; all_goals (intro hc; first | (cases hc; done) | (try simp only at hc))) | ((with_reducible refine evD_nil ?_ ?_); kernel_rfl; (with_reducible refine hR _ ?_); clear hR R) | (((with_reducible apply evD_any); rfl; rfl; (simp only [rdE, rdOf, go_sem]; rfl); (intro τ hA hQ hN; ((try simp only [agree, Op.operands, Call.operands, go_sem, List.mem_cons, List.not_mem_nil, forall_eq_or_imp, forall_eq, List.append_toArray, Option.toArray] at hA); (try simp only [go_sem, List.mem_cons, List.not_mem_nil, forall_eq_or_imp, forall_eq] at hQ hN); (first | (revert hA; intro hA) | have hA := trivial); (first | (revert hQ; intro hQ) | have hQ := trivial); (first | (revert hN; intro hN) | have hN := trivial); simp only [go_sem, hA, hQ, hN]; (repeat (refine ndI (by first | assumption | omega | rfl) ?_)); (first | apply eff_rd | apply eff_st | apply eff_nw)))); (simp only [St.eff, setO, hputs, go_sem])) | ((with_reducible refine evC_draw ?_ ?_ ?_ ?_); kernel_rfl; kernel_rfl; (first | kernel_rfl | simp [newNames, isNew, St.free, freeH, AV.refsL, AV.refs]); intro R hR))))
    refine ⟨rfl, fun ro => AWR.block (AWR.draw rfl (by kernel_rfl) (by kernel_rfl) (by simp [newNames, isNew, St.free, freeH, AV.refsL, AV.refs, refsL_rcV]) ?_)⟩
    intro R hR
    (have W := ndI j1 (ndI j2 (ndI k1 (ndI k2 (ndI k3 (ndI k4 (ndI k5 (ndI u0 (ndI u1 (ndI u2 @wrI))))))))); (repeat (any_goals (first | ((with_reducible refine evL_call ?_ ?_ ?_); rfl; rfl; intro K hK; (first | ((apply opA_callB (af); rfl; rfl; rfl; rfl; exact Tryd.func70); kernel_rfl; rfl; (focus ((simp (disch := omega) only [go_sem, W, Nat.mul_one, Nat.zero_add]); (try rfl); done)); (first | rfl | simp [AV.inNL, AV.inN])) | ((apply opA_callB (ag); rfl; rfl; rfl; rfl; exact Tryd.func70); kernel_rfl; rfl; (focus ((simp (disch := omega) only [go_sem, W, Nat.mul_one, Nat.zero_add]); (try rfl); done)); (first | rfl | simp [AV.inNL, AV.inN])) | ((apply opA_callB (ah); rfl; rfl; rfl; rfl; exact Tryd.func70); kernel_rfl; rfl; (focus ((simp (disch := omega) only [go_sem, W, Nat.mul_one, Nat.zero_add]); (try rfl); done)); (first | rfl | simp [AV.inNL, AV.inN]))); (simp (disch := omega) only [go_sem, W, Nat.mul_one, Nat.zero_add]; refine hK _ ?_; clear hK K)) | ((with_reducible refine evL_one ?_ ?_); rfl; intro K hK; simp (disch := omega) only [go_sem, W, Nat.mul_one, Nat.zero_add]; ((repeat (refine ndI (by first | assumption | omega | rfl) ?_)); refine hK _ ?_; clear hK K)) | (with_reducible first | (refine evL_nil ?_; refine hR _ ?_; clear hR R) | ((first | refine evC_seq ?_ | refine evC_block ?_); intro Ψ hΨ hΨ') | (refine evC_region ?_; intro R hR) | (refine hΨ _ ?_; clear hΨ hΨ' Ψ) | refine evC_skip ?_ | refine evC_ret ?_ | refine evC_exit ?_) | ((with_reducible refine hΨ' _ _ ?_ ?_); (focus (simp; done)); clear hΨ hΨ' Ψ) | ((with_reducible apply evC_cond); rfl; rfl; all_goals (intro hc; first | (cases hc; done) | (try simp only at hc))) | ((with_reducible refine evD_nil ?_ ?_); (apply drawOK_sim); (focus (repeat (first | exact Sims.nil | ((apply Sims.cons); (focus (first | ((apply Ef.sim_row); assumption) | exact Ef.sim_refl _)))))); kernel_rfl; (with_reducible refine hR _ ?_); clear hR R) | ((first | ((with_reducible apply evD_skip); rfl; rfl; rfl; rfl) | ((with_reducible apply evD_unmet); rfl; rfl; rfl) | ((first | ((with_reducible apply evD_fcall); rfl; rfl) | ((with_reducible apply evD_gcall); rfl; rfl; rfl; rfl; rfl)); (first | ((apply opF_callB (af); rfl; rfl; rfl; rfl; exact Tryd.func70); kernel_rfl; rfl; (focus ((simp (disch := omega) only [go_sem, W, Nat.mul_one, Nat.zero_add]); (try rfl); done)); (first | rfl | simp [AV.inNL, AV.inN])) | ((apply opF_callB (ag); rfl; rfl; rfl; rfl; exact Tryd.func70); kernel_rfl; rfl; (focus ((simp (disch := omega) only [go_sem, W, Nat.mul_one, Nat.zero_add]); (try rfl); done)); (first | rfl | simp [AV.inNL, AV.inN])) | ((apply opF_callB (ah); rfl; rfl; rfl; rfl; exact Tryd.func70); kernel_rfl; rfl; (focus ((simp (disch := omega) only [go_sem, W, Nat.mul_one, Nat.zero_add]); (try rfl); done)); (first | rfl | simp [AV.inNL, AV.inN])))) | ((first | ((with_reducible apply evD_any); rfl; rfl) | ((with_reducible apply evD_gany); rfl; rfl; rfl; rfl; rfl)); (simp (disch := omega) only [rdE, rdOf, go_sem, W, Nat.mul_one, Nat.zero_add]; rfl); (intro τ hA hQ hN; ((try simp only [agree, Op.operands, Call.operands, go_sem, W, Nat.mul_one, Nat.zero_add, go_sem, List.mem_cons, List.not_mem_nil, forall_eq_or_imp, forall_eq, List.append_toArray, Option.toArray] at hA); (try simp only [go_sem, W, Nat.mul_one, Nat.zero_add, List.mem_cons, List.not_mem_nil, forall_eq_or_imp, forall_eq] at hQ hN); (first | (revert hA; intro hA) | have hA := trivial); (first | (revert hQ; intro hQ) | have hQ := trivial); (first | (revert hN; intro hN) | have hN := trivial); simp (disch := omega) only [go_sem, W, Nat.mul_one, Nat.zero_add, go_sem, hA, hQ, hN]; (repeat (refine ndI (by first | assumption | omega | rfl) ?_)); (first | apply eff_rd | apply eff_st | apply eff_nw))))); (simp (disch := omega) only [St.eff, setO, hputs, go_sem, W, Nat.mul_one, Nat.zero_add])) | ((with_reducible apply evD_split); rfl; rfl; rfl; all_goals intro hb; all_goals (simp (disch := omega) only [St.eff, setO, hputs, go_sem, W, Nat.mul_one, Nat.zero_add])) | ((with_reducible refine evC_draw ?_ ?_ ?_ ?_); kernel_rfl; kernel_rfl; (first | kernel_rfl | simp [newNames, isNew, St.free, freeH, AV.refsL, AV.refs]); intro R hR)))))
    exact ⟨rfl, leH_get (by simp [leH, hget])⟩
  · simp [argsOk, argOk, AV.ren]
  · simp [argsOk, argOk, AV.ren]
  · simp [hget, renL_rcV, rA]
  · intro r hr q hq h
    simp only [List.map_cons, List.map_nil, List.cons_append, List.nil_append, List.mem_cons, List.not_mem_nil, or_false] at hr hq
    omega
  · simp [newOk]
  · simp [inH, inNL_rcV]
  · simp only [hputs, hdels, renH, AV.ren, AV.renL, renL_rcV, hput, hdel, hget, Nat.reduceLeDiff, Nat.reduceSub, Nat.reduceEqDiff, ↓reduceIte]
    have b1 := rcV_take _ (rA_len l 25)
    have b2 : (rcV (rA l 25)).length = 25 := by rw [rcV_len, rA_len]
    rw [hm trivial] at b1 b2 ⊢
    have b3 : List.drop 25 (rcV m) = [] := List.drop_eq_nil_of_le (by omega)
    (have W := ndI b1 (ndI b2 b3); (repeat (any_goals (first | ((with_reducible refine evL_one ?_ ?_); rfl; intro K hK; simp (disch := omega) only [go_sem, W]; ((repeat (refine ndI (by first | assumption | omega | rfl) ?_)); refine hK _ ?_; clear hK K)) | (with_reducible first | (refine evL_nil ?_; refine hR _ ?_; clear hR R) | ((first | refine evC_seq ?_ | refine evC_block ?_); intro Ψ hΨ hΨ') | (refine evC_region ?_; intro R hR) | (refine hΨ _ ?_; clear hΨ hΨ' Ψ) | refine evC_skip ?_ | refine evC_ret ?_ | refine evC_exit ?_) | ((with_reducible refine hΨ' _ _ ?_ ?_); (focus (simp; done)); clear hΨ hΨ' Ψ) | ((with_reducible apply evC_cond); rfl; rfl; all_goals (intro hc; first | (cases hc; done) | (try simp only at hc))) | ((with_reducible refine evD_nil ?_ ?_); kernel_rfl; (with_reducible refine hR _ ?_); clear hR R) | (((with_reducible apply evD_any); rfl; rfl; (simp (disch := omega) only [rdE, rdOf, go_sem, W]; rfl); (intro τ hA hQ hN; ((try simp only [agree, Op.operands, Call.operands, go_sem, W, go_sem, List.mem_cons, List.not_mem_nil, forall_eq_or_imp, forall_eq, List.append_toArray, Option.toArray] at hA); (try simp only [go_sem, W, List.mem_cons, List.not_mem_nil, forall_eq_or_imp, forall_eq] at hQ hN); (first | (revert hA; intro hA) | have hA := trivial); (first | (revert hQ; intro hQ) | have hQ := trivial); (first | (revert hN; intro hN) | have hN := trivial); simp (disch := omega) only [go_sem, W, go_sem, hA, hQ, hN]; (repeat (refine ndI (by first | assumption | omega | rfl) ?_)); (first | apply eff_rd | apply eff_st | apply eff_nw)))); (simp (disch := omega) only [St.eff, setO, hputs, go_sem, W])) | ((with_reducible refine evC_draw ?_ ?_ ?_ ?_); kernel_rfl; kernel_rfl; (first | kernel_rfl | simp [newNames, isNew, St.free, freeH, AV.refsL, AV.refs]); intro R hR)))))
    all_goals (refine ⟨by simp, ⟨_, ?_, AV.le_refl _⟩, leH_get (by simp [leH, hget])⟩; simp only [Tryd.results59, resL, ldA, oneOf, go_sem, b1]; rw [if_pos (by omega)]; rfl)
theorem rows_fn (l : List UInt64) (hl : l.length = 25) : Fn Tryd.prog 59 [lnA l] [] (lnA (rowsC l)) [] := rows_fnE l _ hl fun _ => rfl
theorem mix_fn (l : List UInt64) (hl : l.length = 25) : Fn Tryd.prog 60 [lnA l] [] (lnA (mixC l)) [] := mix_fnE l _ hl fun _ => rfl
end Go.Proofs.YtgdjkkapgghdbaaDoor

