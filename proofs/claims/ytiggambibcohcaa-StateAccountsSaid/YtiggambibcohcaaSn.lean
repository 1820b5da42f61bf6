/-
  What an address has; whether there is room; reckoned.
-/
import Derived.Test.YtiggambibcohcaaSl
namespace Go.Proofs.Ytiggambibcohcaa
open Go.RowKit
open Nat (reduceBEq)
set_option linter.unusedVariables false
set_option linter.unusedSimpArgs false
set_option maxRecDepth 20000
set_option maxHeartbeats 2000000
def posS (L : List Ac) (a : Int) : Nat := bsr (ltA L a) L.length 0 L.length
def isS (L : List Ac) (a : Int) : Bool := eqA L a (posS L a)
theorem isS_at {L : List Ac} {a : Int} (h : isS L a = true) : ∃ x, L[posS L a]? = some x ∧ x.a = a := by
  unfold isS eqA at h
  cases hx : L[posS L a]? with
  | none => rw [hx] at h; cases h
  | some x =>
    rw [hx] at h
    refine ⟨x, rfl, ?_⟩
    simp only [cmpI, beq_iff_eq] at h
    split at h
    · cases h
    · split at h
      · cases h
      · omega
def ofS (L : List Ac) (a : Int) : Ac := if isS L a then (L[posS L a]?).getD ⟨a, 0, 0, [], []⟩ else ⟨a, 0, 0, [], []⟩
def roomS (L : List Ac) (a : Int) : Bool := decide (a ≠ 0) && (isS L a || (decide (a < 16) || decide (manyL L < 24)))
theorem posS_fn (ex : Bool) (L : List Ac) (hl : L.length ≤ 900) (a : Int) : Fn Try.prog 79 [stA ex L, vi .u64 a] [] (.tup [vi .i64 (posS L a : Nat), vb (isS L a)]) [] := place_fn ex L hl a
abbrev acR (x : Ac) (r s : Nat) : AV := .agg [vi .u64 x.a, vi .u64 (l0 x.b), vi .u64 (l1 x.b), vi .u64 (l2 x.b), vi .u64 (l3 x.b), vi .u64 x.n, .row r 5 1 x.code.length, .row s 42 8 x.store.length]
theorem of_row (ex : Bool) (L : List Ac) (hl : L.length ≤ 900) (ok : ∀ x ∈ L, x.code.length ≤ 1000000 ∧ x.store.length ≤ 1000000) (a : Int) (h : isS L a = true) : Fn Try.prog 49 [stA ex L, vi .u64 a] [] (acR (ofS L a) 5 8) [(5, rcB (ofS L a).code), (8, rcP (ofS L a).store)] := by
  have pl := posS_fn ex L hl a
  obtain ⟨x, hx, rfl⟩ := isS_at h
  have hof : ofS L x.a = x := by unfold ofS; rw [if_pos h, hx]; rfl
  rw [hof]
  rw [h] at pl
  generalize posS L x.a = p at pl hx
  have hp := (List.getElem?_eq_some_iff.1 hx).1
  have k2 := ac_at hx
  obtain ⟨g1, g2⟩ := ok x (List.mem_of_getElem? hx)
  have cp := copied_row x g1 g2
  unfold rcB rcP at cp ⊢
  (refine fn_of Try.func49 rfl (by rfl) ?_; simp only [Try.ntmps49, List.length_cons, List.length_nil, Nat.reduceAdd, Nat.reduceSub, List.replicate, List.cons_append, List.nil_append])
  (repeat (any_goals (first | ((with_reducible refine evL_call ?_ ?_ ?_); rfl; rfl; intro K hK; (first | ((apply opA_callB (pl); rfl; rfl; rfl; rfl; exact Try.func79); kernel_rfl; rfl; (simp (disch := omega) only [St.free, freeH, evO, ofV, AV.cells, pickAV, evz, forall_const, Nat.reduceBEq, Nat.reduceBNe, Nat.reduceAdd, Nat.reduceLT, Nat.reduceLeDiff, ↓reduceIte, Nat.reduceEqDiff, Int.reduceLE, Int.reduceLT, Int.reduceToNat, Nat.reduceMul, Nat.reduceSub, Nat.reduceDiv, Nat.reduceMod, reduceCtorEq, k2, refsL_map]; rfl); (simp (disch := omega) only [AV.inNL, AV.inN, inNL_map, Bool.and_true])) | (apply opA_callR (cp) (fun r => r); rfl; rfl; rfl; rfl; exact Try.func80; kernel_rfl; rfl; rfl; (intro r hr q hq h; simp (disch := omega) only [List.map_cons, List.map_nil, List.cons_append, List.nil_append, List.mem_cons, List.not_mem_nil, or_false] at hr hq; (try dsimp only at h); first | omega | (rcases hr with rfl | rfl | rfl <;> rcases hq with rfl | rfl | rfl <;> simp at h ⊢) | (rcases hr with rfl | rfl <;> rcases hq with rfl | rfl <;> simp at h ⊢) | ((repeat' split at h) <;> omega)); (simp (disch := omega) only [argsOk, argOk, AV.ren, AV.renL, renL_map, List.mem_cons, List.not_mem_nil, forall_eq_or_imp, forall_eq, newOk, List.contains_cons, List.contains_nil, AV.refsL, AV.refs, refsL_map, AV.inN, AV.inNL, inH, inNL_map, St.free, freeH, evO, ofV, AV.cells, pickAV, evz, forall_const, Nat.reduceBEq, Nat.reduceBNe, Nat.reduceAdd, Nat.reduceLT, Nat.reduceLeDiff, ↓reduceIte, Nat.reduceEqDiff, Int.reduceLE, Int.reduceLT, Int.reduceToNat, Nat.reduceMul, Nat.reduceSub, Nat.reduceDiv, Nat.reduceMod, reduceCtorEq, k2, refsL_map]))); (simp (disch := omega) only [hputs, hdels, renH, AV.ren, AV.renL, renL_map, St.free, freeH, evO, ofV, AV.cells, pickAV, evz, forall_const, Nat.reduceBEq, Nat.reduceBNe, Nat.reduceAdd, Nat.reduceLT, Nat.reduceLeDiff, ↓reduceIte, Nat.reduceEqDiff, Int.reduceLE, Int.reduceLT, Int.reduceToNat, Nat.reduceMul, Nat.reduceSub, Nat.reduceDiv, Nat.reduceMod, reduceCtorEq, k2, refsL_map, ty22, ty31, ty38]; (with_reducible refine hK _ ?_); clear hK K)) | ((with_reducible refine evL_one ?_ ?_); rfl; intro K hK; simp (disch := omega) only [St.free, freeH, evO, ofV, AV.cells, pickAV, evz, forall_const, Nat.reduceBEq, Nat.reduceBNe, Nat.reduceAdd, Nat.reduceLT, Nat.reduceLeDiff, ↓reduceIte, Nat.reduceEqDiff, Int.reduceLE, Int.reduceLT, Int.reduceToNat, Nat.reduceMul, Nat.reduceSub, Nat.reduceDiv, Nat.reduceMod, reduceCtorEq, k2, refsL_map, ty22, ty31, ty38]; ((repeat (refine And.intro (by first | assumption | omega | rfl) ?_)); (with_reducible refine hK _ ?_); clear hK K)) | ((with_reducible refine evL_nil ?_); (with_reducible refine hR _ ?_); clear hR R) | ((with_reducible first | refine evC_seq ?_ | refine evC_block ?_); intro Ψ hΨ hΨ') | ((with_reducible refine evC_region ?_); intro R hR) | ((with_reducible refine hΨ _ ?_); clear hΨ hΨ' Ψ) | ((with_reducible refine hΨ' _ _ ?_ ?_); (focus (first | ((intro hx; cases hx); done) | ((intro j hj; cases hj); done) | (intro j hj; cases hj; (decide); done))); clear hΨ hΨ' Ψ) | (with_reducible first | refine evC_skip ?_ | refine evC_ret ?_ | refine evC_exit ?_) | ((with_reducible apply evC_cond); rfl; rfl; all_goals (intro hc; first | (exact absurd hc (by decide)) | (try simp only at hc))))))
  all_goals (refine ⟨by simp, ⟨_, ?_, AV.le_refl _⟩, leH_get (by simp [leH, hget])⟩; simp only [Try.results49, resL, ldA, oneOf, St.free, freeH, evO, ofV, AV.cells, pickAV, evz, forall_const, Nat.reduceBEq, Nat.reduceBNe, Nat.reduceAdd, Nat.reduceLT, Nat.reduceLeDiff, ↓reduceIte, Nat.reduceEqDiff, Int.reduceLE, Int.reduceLT, Int.reduceToNat, Nat.reduceMul, Nat.reduceSub, Nat.reduceDiv, Nat.reduceMod, reduceCtorEq, ty22, ty31, ty38])
theorem of_nil (ex : Bool) (L : List Ac) (hl : L.length ≤ 900) (a : Int) (h : isS L a = false) : Fn Try.prog 49 [stA ex L, vi .u64 a] [] (.agg [vi .u64 a, vi .u64 0, vi .u64 0, vi .u64 0, vi .u64 0, vi .u64 0, .c (.v (.slice none 0 0)), .c (.v (.slice none 0 0))]) [] := by
  have pl := posS_fn ex L hl a
  rw [h] at pl
  generalize posS L a = p at pl
  (refine fn_of Try.func49 rfl (by rfl) ?_; simp only [Try.ntmps49, List.length_cons, List.length_nil, Nat.reduceAdd, Nat.reduceSub, List.replicate, List.cons_append, List.nil_append])
  (repeat (any_goals (first | ((with_reducible refine evL_call ?_ ?_ ?_); rfl; rfl; intro K hK; ((apply opA_callB (pl); rfl; rfl; rfl; rfl; exact Try.func79); kernel_rfl; rfl; (simp only [St.free, freeH, evO, ofV, AV.cells, pickAV, evz, forall_const, Nat.reduceBEq, Nat.reduceBNe, Nat.reduceAdd, Nat.reduceLT, Nat.reduceLeDiff, ↓reduceIte, Nat.reduceEqDiff, Int.reduceLE, Int.reduceLT, Int.reduceToNat, Nat.reduceMul, Nat.reduceSub, Nat.reduceDiv, Nat.reduceMod, reduceCtorEq]; rfl); (simp only [AV.inNL, AV.inN, inNL_map, Bool.and_true])); (simp only [St.free, freeH, evO, ofV, AV.cells, pickAV, evz, forall_const, Nat.reduceBEq, Nat.reduceBNe, Nat.reduceAdd, Nat.reduceLT, Nat.reduceLeDiff, ↓reduceIte, Nat.reduceEqDiff, Int.reduceLE, Int.reduceLT, Int.reduceToNat, Nat.reduceMul, Nat.reduceSub, Nat.reduceDiv, Nat.reduceMod, reduceCtorEq, ty22, ty31, ty38]; (with_reducible refine hK _ ?_); clear hK K)) | ((with_reducible refine evL_one ?_ ?_); rfl; intro K hK; simp only [St.free, freeH, evO, ofV, AV.cells, pickAV, evz, forall_const, Nat.reduceBEq, Nat.reduceBNe, Nat.reduceAdd, Nat.reduceLT, Nat.reduceLeDiff, ↓reduceIte, Nat.reduceEqDiff, Int.reduceLE, Int.reduceLT, Int.reduceToNat, Nat.reduceMul, Nat.reduceSub, Nat.reduceDiv, Nat.reduceMod, reduceCtorEq, ty22, ty31, ty38]; ((repeat (refine And.intro (by first | assumption | omega | rfl) ?_)); (with_reducible refine hK _ ?_); clear hK K)) | ((with_reducible refine evL_nil ?_); (with_reducible refine hR _ ?_); clear hR R) | ((with_reducible first | refine evC_seq ?_ | refine evC_block ?_); intro Ψ hΨ hΨ') | ((with_reducible refine evC_region ?_); intro R hR) | ((with_reducible refine hΨ _ ?_); clear hΨ hΨ' Ψ) | ((with_reducible refine hΨ' _ _ ?_ ?_); (focus (first | ((intro hx; cases hx); done) | ((intro j hj; cases hj); done) | (intro j hj; cases hj; (decide); done))); clear hΨ hΨ' Ψ) | (with_reducible first | refine evC_skip ?_ | refine evC_ret ?_ | refine evC_exit ?_) | ((with_reducible apply evC_cond); rfl; rfl; all_goals (intro hc; first | (exact absurd hc (by decide)) | (try simp only at hc))))))
  all_goals (refine ⟨by simp, ⟨_, ?_, AV.le_refl _⟩, leH_get (by simp [leH, hget])⟩; simp only [Try.results49, resL, ldA, oneOf, St.free, freeH, evO, ofV, AV.cells, pickAV, evz, forall_const, Nat.reduceBEq, Nat.reduceBNe, Nat.reduceAdd, Nat.reduceLT, Nat.reduceLeDiff, ↓reduceIte, Nat.reduceEqDiff, Int.reduceLE, Int.reduceLT, Int.reduceToNat, Nat.reduceMul, Nat.reduceSub, Nat.reduceDiv, Nat.reduceMod, reduceCtorEq, ty22, ty31, ty38])
theorem of_none (ex : Bool) (L : List Ac) (hl : L.length ≤ 900) (a : Int) (h : isS L a = false) : Fn Try.prog 49 [stA ex L, vi .u64 a] [] (acA (ofS L a)) [] := by
  have hof : ofS L a = ⟨a, 0, 0, [], []⟩ := by unfold ofS; rw [h]; rfl
  rw [hof]
  have z := AV.le_agg (a := [vi .u64 a, vi .u64 0, vi .u64 0, vi .u64 0, vi .u64 0, vi .u64 0, .c (.v (.slice none 0 0)), .c (.v (.slice none 0 0))]) (b := ac8 a 0 0 (bsV []) (psV [])) ⟨AV.le_refl _, AV.le_of (by rw [l0_zero]), AV.le_of (by rw [l1_zero]), AV.le_of (by rw [l2_zero]), AV.le_of (by rw [l3_zero]), AV.le_refl _, AV.le_nil _ _, AV.le_nil _ _, trivial⟩
  exact (of_nil ex L hl a h).weaken z fun r cs h => by cases h
theorem of_fn (ex : Bool) (L : List Ac) (hl : L.length ≤ 900) (ok : ∀ x ∈ L, x.code.length ≤ 1000000 ∧ x.store.length ≤ 1000000) (a : Int) : Fn Try.prog 49 [stA ex L, vi .u64 a] [] (acA (ofS L a)) [] := by
  cases h : isS L a with
  | false => exact of_none ex L hl a h
  | true =>
    have k := of_row ex L hl ok a h
    generalize ofS L a = x at k ⊢
    have k1 := k.frzN (d := 5) (pcs := x.code.flatMap bpv) rfl
    have k2 := k1.frzN (d := 8) (pcs := x.store.flatMap Pr.pv) (by simp [frzH, hget_cons, rcP, rcB])
    have e1 : (x.code.flatMap bpv).length = x.code.length * 1 := flat_length bpv_len _
    have e2 : (x.store.flatMap Pr.pv).length = x.store.length * 8 := flat_length pr_len _
    simpa [-List.length_flatMap, e1, e2, ac8, AV.frz, AV.frzL, frzH, acA, vi, bsV, psV] using k2
theorem room_fn (ex : Bool) (L : List Ac) (hl : L.length ≤ 900) (a : Int) : Fn Try.prog 60 [stA ex L, vi .u64 a] [] (vb (roomS L a)) [] := by
  have pl := posS_fn ex L hl a
  have mn := many_fn ex L (Nat.le_trans hl (by decide))
  unfold roomS
  obtain ⟨q1, e1⟩ : ∃ p, decide (a ≠ 0) = p := ⟨_, rfl⟩
  obtain ⟨q2, e2⟩ : ∃ p, isS L a = p := ⟨_, rfl⟩
  obtain ⟨q3, e3⟩ : ∃ p, decide (a < 16) = p := ⟨_, rfl⟩
  obtain ⟨q4, e4⟩ : ∃ p, decide (manyL L < 24) = p := ⟨_, rfl⟩
  have f1 : (a != 0) = q1 := by rw [← e1]; by_cases h : a = 0 <;> simp [h]
  have f4 : decide ((((L.filter fun x => decide (16 ≤ x.a)).length : Nat) : Int) < 24) = q4 := by
    rw [← e4]; exact decide_eq_decide.2 (by unfold manyL; omega)
  rw [e2] at pl
  rw [e1, e2, e3, e4]
  generalize posS L a = p at pl
  clear e1 e2 e4
  cases q1 <;> cases q2 <;> cases q3 <;> cases q4
  all_goals (refine fn_of Try.func60 rfl (by rfl) ?_; simp only [Try.ntmps60, List.length_cons, List.length_nil, Nat.reduceAdd, Nat.reduceSub, List.replicate, List.cons_append, List.nil_append])
  all_goals (repeat (any_goals (first | ((with_reducible refine evL_call ?_ ?_ ?_); rfl; rfl; intro K hK; ((first | (apply opA_callB (pl); rfl; rfl; rfl; rfl; exact Try.func79) | (apply opA_callB (mn); rfl; rfl; rfl; rfl; exact Try.func47)); kernel_rfl; rfl; (simp only [St.free, freeH, evO, ofV, AV.cells, pickAV, evz, forall_const, Nat.reduceBEq, Nat.reduceBNe, Nat.reduceAdd, Nat.reduceLT, Nat.reduceLeDiff, ↓reduceIte, Nat.reduceEqDiff, Int.reduceLE, Int.reduceLT, Int.reduceToNat, Nat.reduceMul, Nat.reduceSub, Nat.reduceDiv, Nat.reduceMod, reduceCtorEq, f1, e3, f4]; rfl); (simp only [AV.inNL, AV.inN, inNL_map, Bool.and_true])); (simp only [St.free, freeH, evO, ofV, AV.cells, pickAV, evz, forall_const, Nat.reduceBEq, Nat.reduceBNe, Nat.reduceAdd, Nat.reduceLT, Nat.reduceLeDiff, ↓reduceIte, Nat.reduceEqDiff, Int.reduceLE, Int.reduceLT, Int.reduceToNat, Nat.reduceMul, Nat.reduceSub, Nat.reduceDiv, Nat.reduceMod, reduceCtorEq, f1, e3, f4, ty3, ty25, ty38]; (with_reducible refine hK _ ?_); clear hK K)) | ((with_reducible refine evL_one ?_ ?_); rfl; intro K hK; simp only [St.free, freeH, evO, ofV, AV.cells, pickAV, evz, forall_const, Nat.reduceBEq, Nat.reduceBNe, Nat.reduceAdd, Nat.reduceLT, Nat.reduceLeDiff, ↓reduceIte, Nat.reduceEqDiff, Int.reduceLE, Int.reduceLT, Int.reduceToNat, Nat.reduceMul, Nat.reduceSub, Nat.reduceDiv, Nat.reduceMod, reduceCtorEq, f1, e3, f4, ty3, ty25, ty38]; ((repeat (refine And.intro (by first | assumption | omega | rfl) ?_)); (with_reducible refine hK _ ?_); clear hK K)) | ((with_reducible refine evL_nil ?_); (with_reducible refine hR _ ?_); clear hR R) | ((with_reducible first | refine evC_seq ?_ | refine evC_block ?_); intro Ψ hΨ hΨ') | ((with_reducible refine evC_region ?_); intro R hR) | ((with_reducible refine hΨ _ ?_); clear hΨ hΨ' Ψ) | ((with_reducible refine hΨ' _ _ ?_ ?_); (focus (first | ((intro hx; cases hx); done) | ((intro j hj; cases hj); done) | (intro j hj; cases hj; (decide); done))); clear hΨ hΨ' Ψ) | (with_reducible first | refine evC_skip ?_ | refine evC_ret ?_ | refine evC_exit ?_) | ((with_reducible apply evL_unmet); rfl; rfl; rfl; (try simp only [St.free, freeH, evO, ofV, AV.cells, pickAV, evz, forall_const, Nat.reduceBEq, Nat.reduceBNe, Nat.reduceAdd, Nat.reduceLT, Nat.reduceLeDiff, ↓reduceIte, Nat.reduceEqDiff, Int.reduceLE, Int.reduceLT, Int.reduceToNat, Nat.reduceMul, Nat.reduceSub, Nat.reduceDiv, Nat.reduceMod, reduceCtorEq, f1, e3, f4, ty3, ty25, ty38])) | ((with_reducible apply evL_grd); rfl; rfl; rfl; all_goals (intro hb; first | (exact absurd hb (by decide)) | ((try simp only [Bool.not_true, Bool.not_false] at hb); (first | ((with_reducible intro K hK); (first | ((apply opA_callB (mn); rfl; rfl; rfl; rfl; exact Try.func47); kernel_rfl; rfl; (simp only [St.free, freeH, evO, ofV, AV.cells, pickAV, evz, forall_const, Nat.reduceBEq, Nat.reduceBNe, Nat.reduceAdd, Nat.reduceLT, Nat.reduceLeDiff, ↓reduceIte, Nat.reduceEqDiff, Int.reduceLE, Int.reduceLT, Int.reduceToNat, Nat.reduceMul, Nat.reduceSub, Nat.reduceDiv, Nat.reduceMod, reduceCtorEq, f1, e3, f4]; rfl); (simp only [AV.inNL, AV.inN, inNL_map, Bool.and_true])) | skip); simp only [St.free, freeH, evO, ofV, AV.cells, pickAV, evz, forall_const, Nat.reduceBEq, Nat.reduceBNe, Nat.reduceAdd, Nat.reduceLT, Nat.reduceLeDiff, ↓reduceIte, Nat.reduceEqDiff, Int.reduceLE, Int.reduceLT, Int.reduceToNat, Nat.reduceMul, Nat.reduceSub, Nat.reduceDiv, Nat.reduceMod, reduceCtorEq, f1, e3, f4, ty3, ty25, ty38]; ((repeat (refine And.intro (by first | assumption | omega | rfl) ?_)); (with_reducible refine hK _ ?_); clear hK K)) | ((fail_if_success (with_reducible intro _)); simp only [St.free, freeH, evO, ofV, AV.cells, pickAV, evz, forall_const, Nat.reduceBEq, Nat.reduceBNe, Nat.reduceAdd, Nat.reduceLT, Nat.reduceLeDiff, ↓reduceIte, Nat.reduceEqDiff, Int.reduceLE, Int.reduceLT, Int.reduceToNat, Nat.reduceMul, Nat.reduceSub, Nat.reduceDiv, Nat.reduceMod, reduceCtorEq, f1, e3, f4, ty3, ty25, ty38]))))) | ((with_reducible apply evC_cond); rfl; rfl; all_goals (intro hc; first | (exact absurd hc (by decide)) | (try simp only at hc))))))
  all_goals (refine ⟨by simp, ⟨_, ?_, AV.le_refl _⟩, leH_get (by simp [leH, hget])⟩; simp only [Try.results60, resL, ldA, oneOf, St.free, freeH, evO, ofV, AV.cells, pickAV, evz, forall_const, Nat.reduceBEq, Nat.reduceBNe, Nat.reduceAdd, Nat.reduceLT, Nat.reduceLeDiff, ↓reduceIte, Nat.reduceEqDiff, Int.reduceLE, Int.reduceLT, Int.reduceToNat, Nat.reduceMul, Nat.reduceSub, Nat.reduceDiv, Nat.reduceMod, reduceCtorEq, ty3, ty25, ty38])
  all_goals rfl
end Go.Proofs.Ytiggambibcohcaa
