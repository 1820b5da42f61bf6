/-
  An address's place and row; reckoned.
-/
import Derived.Test.YtmibmodibicibaaLd
namespace Go.Proofs.Ytmibmodibicibaa
open Go.RowKit
open Nat (reduceBEq)
set_option linter.unusedVariables false
set_option linter.unusedSimpArgs false
set_option maxRecDepth 20000
set_option maxHeartbeats 2000000
/-- where an address stands, or would -/
def posA (l : List Hd) (a : Int) : Nat := l.findIdx fun h => decide (a ≤ h.a)
theorem posA_le (l : List Hd) (a : Int) : posA l a ≤ l.length := List.findIdx_le_length
theorem posA_at {l : List Hd} {a : Int} {i : Nat} {y : Hd} (h : ∀ j, j < i → ∀ n, l[j]? = some n → n.a < a) (hy : l[i]? = some y) (hm : a ≤ y.a) : posA l a = i := by
  obtain ⟨hlt, rfl⟩ := List.getElem?_eq_some_iff.1 hy
  unfold posA
  rw [List.findIdx_eq hlt]
  refine ⟨by simpa using hm, fun j hj => ?_⟩
  have := h j hj _ (List.getElem?_eq_getElem (by omega))
  simp; omega
theorem posA_none {l : List Hd} {a : Int} (h : ∀ j, j < l.length → ∀ n, l[j]? = some n → n.a < a) : posA l a = l.length := by
  unfold posA
  rw [List.findIdx_eq_length]
  intro x hx
  obtain ⟨j, hj⟩ := List.mem_iff_getElem?.1 hx
  have := h j (List.getElem?_eq_some_iff.1 hj).1 x hj
  simp; omega
theorem place1_fn (x : Int) (p s : Nat) (d f a : Int) : Fn Try.prog 63 [h11 x p s d f, .ptr 1003 0] [(1003, [vi .u64 a])] (vb (decide (x ≥ a))) [(1003, [vi .u64 a])] := by
  (refine fn_of Try.func63 rfl (by rfl) ?_; simp only [Try.ntmps63, List.length_cons, List.length_nil, Nat.reduceAdd, Nat.reduceSub, List.replicate, List.cons_append, List.nil_append])
  (repeat (any_goals (first | ((with_reducible refine evL_one ?_ ?_); rfl; intro K hK; simp only [go_sem]; ((repeat (refine ndI (by first | assumption | omega | rfl) ?_)); refine hK _ ?_; clear hK K)) | (with_reducible first | (refine evL_nil ?_; refine hR _ ?_; clear hR R) | ((first | refine evC_seq ?_ | refine evC_block ?_); intro Ψ hΨ hΨ') | (refine evC_region ?_; intro R hR) | (refine hΨ _ ?_; clear hΨ hΨ' Ψ) | refine evC_skip ?_ | refine evC_ret ?_ | refine evC_exit ?_) | ((with_reducible refine hΨ' _ _ ?_ ?_); (focus (simp; done)); clear hΨ hΨ' Ψ) | ((with_reducible apply evC_cond); rfl; rfl; all_goals (intro hc; first | (cases hc; done) | (try simp only at hc))))))
  all_goals (refine ⟨by simp, ⟨_, ?_, AV.le_refl _⟩, leH_get (by simp [leH, hget])⟩; simp only [Try.results63, resL, ldA, oneOf, go_sem])
theorem index_fn (ex : Bool) (l : List Hd) (hl : l.length ≤ 1000) (a : Int) : Fn Try.prog 62 [hsl ex l, .fn 63 [.ptr 1003 0]] [(1003, [vi .u64 a])] (vi .i64 (if posA l a < l.length then (posA l a : Int) else -1)) [(1003, [vi .u64 a])] := by
  obtain ⟨tr, htr⟩ : ∃ r : Int, (if posA l a < l.length then (posA l a : Int) else -1) = r := ⟨_, rfl⟩
  rw [htr]
  (refine fn_of Try.func62 rfl (by rfl) ?_; simp only [Try.ntmps62, List.length_cons, List.length_nil, Nat.reduceAdd, Nat.reduceSub, List.replicate, List.cons_append, List.nil_append])
  (repeat (any_goals (first | ((with_reducible refine evL_one ?_ ?_); rfl; intro K hK; simp only [go_sem]; ((repeat (refine ndI (by first | assumption | omega | rfl) ?_)); refine hK _ ?_; clear hK K)) | (with_reducible first | (refine evL_nil ?_; refine hR _ ?_; clear hR R) | ((first | refine evC_seq ?_ | refine evC_block ?_); intro Ψ hΨ hΨ') | (refine evC_region ?_; intro R hR) | (refine hΨ _ ?_; clear hΨ hΨ' Ψ) | refine evC_skip ?_ | refine evC_ret ?_ | refine evC_exit ?_) | ((with_reducible refine hΨ' _ _ ?_ ?_); (focus (simp; done)); clear hΨ hΨ' Ψ) | ((with_reducible apply evC_cond); rfl; rfl; all_goals (intro hc; first | (cases hc; done) | (try simp only at hc))))))
  refine evC_loop (α := { i : Nat // i ≤ l.length ∧ ∀ j, j < i → ∀ n, l[j]? = some n → n.a < a }) (fun p => ⟨[hsl ex l, .fn 63 [.ptr 1003 0], .any, .any, .any, .any, hsl ex l, vi .i64 l.length, vi .i64 p.1, .any, .any, .any, .any, .any, .any, .any, .any, .any, .any], [(1003, [vi .u64 a])]⟩) (fun p => l.length - p.1) ⟨0, Nat.zero_le _, fun j hj => by omega⟩ (St.le_of (by simp [leT]) (by simp [leH, hget])) ?_
  rintro ⟨i, hi, hno⟩ Ψ hΨ hΨ'
  dsimp only at hi hΨ ⊢
  rcases Nat.lt_or_ge i l.length with hlt | hge
  · obtain ⟨y, hy⟩ : ∃ y, l[i]? = some y := ⟨l[i], List.getElem?_eq_getElem hlt⟩
    have k1 : (decide ((i : Int) < (l.length : Int))) = true := by simpa using hlt
    have k2 := hsl_at hy
    have k7 : (i : Int) + 1 = ((i + 1 : Nat) : Int) := by omega
    have pl := place1_fn y.a y.p y.s y.d y.f a
    by_cases hm : a ≤ y.a
    · have e : (decide (y.a ≥ a)) = true := by simpa using hm
      rw [e] at pl
      have hp := posA_at hno hy hm
      rw [hp, if_pos hlt] at htr
      (have W := ndI k1 (ndI k2 (ndI k7 @wrI)); (repeat (any_goals (first | ((with_reducible refine evL_call ?_ ?_ ?_); rfl; rfl; intro K hK; (apply opA_callR (pl) (fun r => r); rfl; rfl; rfl; rfl; exact Try.func63; kernel_rfl; rfl; rfl; (intro r hr q hq h; simp (disch := omega) only [List.map_cons, List.map_nil, List.cons_append, List.nil_append, List.mem_cons, List.not_mem_nil, or_false] at hr hq; (try dsimp only at h); first | omega | (rcases hr with rfl | rfl | rfl <;> rcases hq with rfl | rfl | rfl <;> simp at h ⊢) | (rcases hr with rfl | rfl <;> rcases hq with rfl | rfl <;> simp at h ⊢) | ((repeat' split at h) <;> omega)); (simp (disch := omega) only [argsOk, argOk, AV.ren, AV.renL, renL_map, List.mem_cons, List.not_mem_nil, forall_eq_or_imp, forall_eq, newOk, List.contains_cons, List.contains_nil, AV.refsL, AV.refs, refsL_map, AV.inN, AV.inNL, inH, inNL_map, go_sem, W])); (simp (disch := omega) only [hputs, hdels, renH, AV.ren, AV.renL, renL_map, go_sem, W]; refine hK _ ?_; clear hK K)) | ((with_reducible refine evL_one ?_ ?_); rfl; intro K hK; simp (disch := omega) only [go_sem, W]; ((repeat (refine ndI (by first | assumption | omega | rfl) ?_)); refine hK _ ?_; clear hK K)) | (with_reducible first | (refine evL_nil ?_; refine hR _ ?_; clear hR R) | ((first | refine evC_seq ?_ | refine evC_block ?_); intro Ψ hΨ hΨ') | (refine evC_region ?_; intro R hR) | (refine hΨ _ ?_; clear hΨ hΨ' Ψ) | refine evC_skip ?_ | refine evC_ret ?_ | refine evC_exit ?_) | ((with_reducible refine hΨ' _ _ ?_ ?_); (focus (simp; done)); clear hΨ hΨ' Ψ) | ((with_reducible apply evC_cond); rfl; rfl; all_goals (intro hc; first | (cases hc; done) | (try simp only at hc)))))))
      all_goals (refine ⟨by simp, ⟨_, ?_, AV.le_refl _⟩, leH_get (by simp [leH, hget])⟩; simp only [Try.results62, resL, ldA, oneOf, go_sem])
      all_goals rw [htr]
    · have e : (decide (y.a ≥ a)) = false := by simp; omega
      rw [e] at pl
      (have W := ndI k1 (ndI k2 (ndI k7 @wrI)); (repeat (any_goals (first | ((with_reducible refine evL_call ?_ ?_ ?_); rfl; rfl; intro K hK; (apply opA_callR (pl) (fun r => r); rfl; rfl; rfl; rfl; exact Try.func63; kernel_rfl; rfl; rfl; (intro r hr q hq h; simp (disch := omega) only [List.map_cons, List.map_nil, List.cons_append, List.nil_append, List.mem_cons, List.not_mem_nil, or_false] at hr hq; (try dsimp only at h); first | omega | (rcases hr with rfl | rfl | rfl <;> rcases hq with rfl | rfl | rfl <;> simp at h ⊢) | (rcases hr with rfl | rfl <;> rcases hq with rfl | rfl <;> simp at h ⊢) | ((repeat' split at h) <;> omega)); (simp (disch := omega) only [argsOk, argOk, AV.ren, AV.renL, renL_map, List.mem_cons, List.not_mem_nil, forall_eq_or_imp, forall_eq, newOk, List.contains_cons, List.contains_nil, AV.refsL, AV.refs, refsL_map, AV.inN, AV.inNL, inH, inNL_map, go_sem, W])); (simp (disch := omega) only [hputs, hdels, renH, AV.ren, AV.renL, renL_map, go_sem, W]; refine hK _ ?_; clear hK K)) | ((with_reducible refine evL_one ?_ ?_); rfl; intro K hK; simp (disch := omega) only [go_sem, W]; ((repeat (refine ndI (by first | assumption | omega | rfl) ?_)); refine hK _ ?_; clear hK K)) | (with_reducible first | (refine evL_nil ?_; refine hR _ ?_; clear hR R) | ((first | refine evC_seq ?_ | refine evC_block ?_); intro Ψ hΨ hΨ') | (refine evC_region ?_; intro R hR) | (refine hΨ _ ?_; clear hΨ hΨ' Ψ) | refine evC_skip ?_ | refine evC_ret ?_ | refine evC_exit ?_) | ((with_reducible refine hΨ' _ _ ?_ ?_); (focus (simp; done)); clear hΨ hΨ' Ψ) | ((with_reducible apply evC_cond); rfl; rfl; all_goals (intro hc; first | (cases hc; done) | (try simp only at hc)))))))
      refine hΨ _ ⟨i + 1, hlt, fun j hj n hn => ?_⟩ (by simp only; omega) (St.le_of (by simp [leT]) (by simp [leH, hget]))
      rcases Nat.lt_or_ge j i with h' | h'
      · exact hno j h' n hn
      · obtain rfl : j = i := by omega
        rw [hy] at hn; cases hn; omega
  · have k1 : (decide ((i : Int) < (l.length : Int))) = false := by simpa using hge
    have hp := posA_none (l := l) (a := a) fun j hj => hno j (by omega)
    rw [hp, if_neg (Nat.lt_irrefl _)] at htr
    (repeat (any_goals (first | ((with_reducible refine evL_one ?_ ?_); rfl; intro K hK; simp only [go_sem, k1]; ((repeat (refine ndI (by first | assumption | omega | rfl) ?_)); refine hK _ ?_; clear hK K)) | (with_reducible first | (refine evL_nil ?_; refine hR _ ?_; clear hR R) | ((first | refine evC_seq ?_ | refine evC_block ?_); intro Ψ hΨ hΨ') | (refine evC_region ?_; intro R hR) | (refine hΨ _ ?_; clear hΨ hΨ' Ψ) | refine evC_skip ?_ | refine evC_ret ?_ | refine evC_exit ?_) | ((with_reducible refine hΨ' _ _ ?_ ?_); (focus (simp; done)); clear hΨ hΨ' Ψ) | ((with_reducible apply evC_cond); rfl; rfl; all_goals (intro hc; first | (cases hc; done) | (try simp only at hc))))))
    all_goals (refine ⟨by simp, ⟨_, ?_, AV.le_refl _⟩, leH_get (by simp [leH, hget])⟩; simp only [Try.results62, resL, ldA, oneOf, go_sem])
    all_goals rw [← htr]
/-- is it there? -/
def isA (l : List Hd) (a : Int) : Bool := match l[posA l a]? with | some y => y.a == a | none => false
theorem place_fn (ex : Bool) (l : List Hd) (hl : l.length ≤ 1000) (a : Int) : Fn Try.prog 56 [lg ex l, vi .u64 a] [] (.tup [vi .i64 (posA l a : Int), vb (isA l a)]) [] := by
  have ix := index_fn ex l hl a
  have hle := posA_le l a
  rcases Nat.lt_or_ge (posA l a) l.length with hlt | hge
  · rw [if_pos hlt] at ix
    obtain ⟨y, hy⟩ : ∃ y, l[posA l a]? = some y := ⟨_, List.getElem?_eq_getElem hlt⟩
    have hA : isA l a = (y.a == a) := by unfold isA; rw [hy]
    rw [hA]
    have k2 := hsl_at hy
    generalize posA l a = i at ix hlt hy k2
    have k3 : (decide ((i : Int) < 0)) = false := by simp
    (refine fn_of Try.func56 rfl (by rfl) ?_; simp only [Try.ntmps56, List.length_cons, List.length_nil, Nat.reduceAdd, Nat.reduceSub, List.replicate, List.cons_append, List.nil_append])
    (repeat (any_goals (first | ((with_reducible refine evL_call ?_ ?_ ?_); rfl; rfl; intro K hK; (apply opA_callR (ix) (fun r => r - 1000); rfl; rfl; rfl; rfl; exact Try.func62; kernel_rfl; rfl; rfl; (intro r hr q hq h; simp (disch := omega) only [List.map_cons, List.map_nil, List.cons_append, List.nil_append, List.mem_cons, List.not_mem_nil, or_false] at hr hq; (try dsimp only at h); first | omega | (rcases hr with rfl | rfl | rfl <;> rcases hq with rfl | rfl | rfl <;> simp at h ⊢) | (rcases hr with rfl | rfl <;> rcases hq with rfl | rfl <;> simp at h ⊢) | ((repeat' split at h) <;> omega)); (simp (disch := omega) only [argsOk, argOk, AV.ren, AV.renL, renL_map, List.mem_cons, List.not_mem_nil, forall_eq_or_imp, forall_eq, newOk, List.contains_cons, List.contains_nil, AV.refsL, AV.refs, refsL_map, AV.inN, AV.inNL, inH, inNL_map, go_sem, k2, k3])); (simp (disch := omega) only [hputs, hdels, renH, AV.ren, AV.renL, renL_map, go_sem, k2, k3]; refine hK _ ?_; clear hK K)) | ((with_reducible refine evL_one ?_ ?_); rfl; intro K hK; simp (disch := omega) only [go_sem, k2, k3]; ((repeat (refine ndI (by first | assumption | omega | rfl) ?_)); refine hK _ ?_; clear hK K)) | (with_reducible first | (refine evL_nil ?_; refine hR _ ?_; clear hR R) | ((first | refine evC_seq ?_ | refine evC_block ?_); intro Ψ hΨ hΨ') | (refine evC_region ?_; intro R hR) | (refine hΨ _ ?_; clear hΨ hΨ' Ψ) | refine evC_skip ?_ | refine evC_ret ?_ | refine evC_exit ?_) | ((with_reducible refine hΨ' _ _ ?_ ?_); (focus (simp; done)); clear hΨ hΨ' Ψ) | ((with_reducible apply evC_cond); rfl; rfl; all_goals (intro hc; first | (cases hc; done) | (try simp only at hc))) | ((with_reducible refine evD_nil ?_ ?_); kernel_rfl; (with_reducible refine hR _ ?_); clear hR R) | (((with_reducible apply evD_any); rfl; rfl; (simp (disch := omega) only [rdE, rdOf, go_sem, k2, k3]; rfl); (intro τ hA hQ hN; ((try simp only [agree, Op.operands, Call.operands, go_sem, k2, k3, go_sem, List.mem_cons, List.not_mem_nil, forall_eq_or_imp, forall_eq, List.append_toArray, Option.toArray] at hA); (try simp only [go_sem, k2, k3, List.mem_cons, List.not_mem_nil, forall_eq_or_imp, forall_eq] at hQ hN); (first | (revert hA; intro hA) | have hA := trivial); (first | (revert hQ; intro hQ) | have hQ := trivial); (first | (revert hN; intro hN) | have hN := trivial); simp (disch := omega) only [go_sem, k2, k3, go_sem, hA, hQ, hN]; (repeat (refine ndI (by first | assumption | omega | rfl) ?_)); (first | apply eff_rd | apply eff_st | apply eff_nw)))); (simp (disch := omega) only [St.eff, setO, hputs, go_sem, k2, k3])) | ((with_reducible refine evC_draw ?_ ?_ ?_ ?_); kernel_rfl; kernel_rfl; (first | kernel_rfl | simp [newNames, isNew, St.free, freeH, AV.refsL, AV.refs]); intro R hR))))
    all_goals (refine ⟨by simp, ⟨_, ?_, AV.le_refl _⟩, leH_get (by simp [leH, hget])⟩; simp only [Try.results56, resL, ldA, oneOf, go_sem])
  · have e : posA l a = l.length := by omega
    have hA : isA l a = false := by unfold isA; rw [e, List.getElem?_eq_none (Nat.le_refl _)]
    rw [hA, e]
    rw [if_neg (by omega)] at ix
    (refine fn_of Try.func56 rfl (by rfl) ?_; simp only [Try.ntmps56, List.length_cons, List.length_nil, Nat.reduceAdd, Nat.reduceSub, List.replicate, List.cons_append, List.nil_append])
    (repeat (any_goals (first | ((with_reducible refine evL_call ?_ ?_ ?_); rfl; rfl; intro K hK; (apply opA_callR (ix) (fun r => r - 1000); rfl; rfl; rfl; rfl; exact Try.func62; kernel_rfl; rfl; rfl; (intro r hr q hq h; simp only [List.map_cons, List.map_nil, List.cons_append, List.nil_append, List.mem_cons, List.not_mem_nil, or_false] at hr hq; (try dsimp only at h); first | omega | (rcases hr with rfl | rfl | rfl <;> rcases hq with rfl | rfl | rfl <;> simp at h ⊢) | (rcases hr with rfl | rfl <;> rcases hq with rfl | rfl <;> simp at h ⊢) | ((repeat' split at h) <;> omega)); (simp only [argsOk, argOk, AV.ren, AV.renL, renL_map, List.mem_cons, List.not_mem_nil, forall_eq_or_imp, forall_eq, newOk, List.contains_cons, List.contains_nil, AV.refsL, AV.refs, refsL_map, AV.inN, AV.inNL, inH, inNL_map, go_sem, Int.reduceLT, Int.reduceNeg, decide_true])); (simp only [hputs, hdels, renH, AV.ren, AV.renL, renL_map, go_sem, Int.reduceLT, Int.reduceNeg, decide_true]; refine hK _ ?_; clear hK K)) | ((with_reducible refine evL_one ?_ ?_); rfl; intro K hK; simp only [go_sem, Int.reduceLT, Int.reduceNeg, decide_true]; ((repeat (refine ndI (by first | assumption | omega | rfl) ?_)); refine hK _ ?_; clear hK K)) | (with_reducible first | (refine evL_nil ?_; refine hR _ ?_; clear hR R) | ((first | refine evC_seq ?_ | refine evC_block ?_); intro Ψ hΨ hΨ') | (refine evC_region ?_; intro R hR) | (refine hΨ _ ?_; clear hΨ hΨ' Ψ) | refine evC_skip ?_ | refine evC_ret ?_ | refine evC_exit ?_) | ((with_reducible refine hΨ' _ _ ?_ ?_); (focus (simp; done)); clear hΨ hΨ' Ψ) | ((with_reducible apply evC_cond); rfl; rfl; all_goals (intro hc; first | (cases hc; done) | (try simp only at hc))) | ((with_reducible refine evD_nil ?_ ?_); kernel_rfl; (with_reducible refine hR _ ?_); clear hR R) | (((with_reducible apply evD_any); rfl; rfl; (simp only [rdE, rdOf, go_sem, Int.reduceLT, Int.reduceNeg, decide_true]; rfl); (intro τ hA hQ hN; ((try simp only [agree, Op.operands, Call.operands, go_sem, Int.reduceLT, Int.reduceNeg, decide_true, go_sem, List.mem_cons, List.not_mem_nil, forall_eq_or_imp, forall_eq, List.append_toArray, Option.toArray] at hA); (try simp only [go_sem, Int.reduceLT, Int.reduceNeg, decide_true, List.mem_cons, List.not_mem_nil, forall_eq_or_imp, forall_eq] at hQ hN); (first | (revert hA; intro hA) | have hA := trivial); (first | (revert hQ; intro hQ) | have hQ := trivial); (first | (revert hN; intro hN) | have hN := trivial); simp only [go_sem, Int.reduceLT, Int.reduceNeg, decide_true, go_sem, hA, hQ, hN]; (repeat (refine ndI (by first | assumption | omega | rfl) ?_)); (first | apply eff_rd | apply eff_st | apply eff_nw)))); (simp only [St.eff, setO, hputs, go_sem, Int.reduceLT, Int.reduceNeg, decide_true])) | ((with_reducible refine evC_draw ?_ ?_ ?_ ?_); kernel_rfl; kernel_rfl; (first | kernel_rfl | simp [newNames, isNew, St.free, freeH, AV.refsL, AV.refs]); intro R hR))))
    all_goals (refine ⟨by simp, ⟨_, ?_, AV.le_refl _⟩, leH_get (by simp [leH, hget])⟩; simp only [Try.results56, resL, ldA, oneOf, go_sem])
def findH (l : List Hd) (a : Int) : Hd := match l[posA l a]? with | some y => if y.a = a then y else ⟨a, 0, 0, 0, 0⟩ | none => ⟨a, 0, 0, 0, 0⟩
abbrev hA (h : Hd) : AV := h11 h.a h.p h.s h.d h.f
theorem find_fn (ex : Bool) (l : List Hd) (hl : l.length ≤ 1000) (a : Int) : Fn Try.prog 32 [lg ex l, vi .u64 a] [] (hA (findH l a)) [] := by
  have pl := place_fn ex l hl a
  by_cases h : isA l a = true
  · rw [h] at pl
    unfold isA at h
    cases hy : l[posA l a]? with
    | none => rw [hy] at h; cases h
    | some y =>
      rw [hy] at h
      simp only [beq_iff_eq] at h
      have hF : findH l a = y := by unfold findH; rw [hy]; simp [h]
      rw [hF]
      have k2 := hsl_at hy
      have hlt := (List.getElem?_eq_some_iff.1 hy).1
      generalize posA l a = i at pl k2 hlt
      (refine fn_of Try.func32 rfl (by rfl) ?_; simp only [Try.ntmps32, List.length_cons, List.length_nil, Nat.reduceAdd, Nat.reduceSub, List.replicate, List.cons_append, List.nil_append])
      (repeat (any_goals (first | ((with_reducible refine evL_call ?_ ?_ ?_); rfl; rfl; intro K hK; ((apply opA_callB (pl); rfl; rfl; rfl; rfl; exact Try.func56); kernel_rfl; rfl; (simp (disch := omega) only [go_sem, k2]; rfl); (first | rfl | simp [AV.inNL, AV.inN])); (simp (disch := omega) only [go_sem, k2]; refine hK _ ?_; clear hK K)) | ((with_reducible refine evL_one ?_ ?_); rfl; intro K hK; simp (disch := omega) only [go_sem, k2]; ((repeat (refine ndI (by first | assumption | omega | rfl) ?_)); refine hK _ ?_; clear hK K)) | (with_reducible first | (refine evL_nil ?_; refine hR _ ?_; clear hR R) | ((first | refine evC_seq ?_ | refine evC_block ?_); intro Ψ hΨ hΨ') | (refine evC_region ?_; intro R hR) | (refine hΨ _ ?_; clear hΨ hΨ' Ψ) | refine evC_skip ?_ | refine evC_ret ?_ | refine evC_exit ?_) | ((with_reducible refine hΨ' _ _ ?_ ?_); (focus (simp; done)); clear hΨ hΨ' Ψ) | ((with_reducible apply evC_cond); rfl; rfl; all_goals (intro hc; first | (cases hc; done) | (try simp only at hc))))))
      all_goals (refine ⟨by simp, ⟨_, ?_, AV.le_refl _⟩, leH_get (by simp [leH, hget])⟩; simp only [Try.results32, resL, ldA, oneOf, go_sem])
  · have h' : isA l a = false := by simpa using h
    rw [h'] at pl
    have hF : findH l a = ⟨a, 0, 0, 0, 0⟩ := by
      unfold findH
      unfold isA at h'
      cases hy : l[posA l a]? with
      | none => rfl
      | some y =>
        rw [hy] at h'
        simp only [beq_eq_false_iff_ne, ne_eq] at h'
        simp [h']
    rw [hF]
    (refine fn_of Try.func32 rfl (by rfl) ?_; simp only [Try.ntmps32, List.length_cons, List.length_nil, Nat.reduceAdd, Nat.reduceSub, List.replicate, List.cons_append, List.nil_append])
    (repeat (any_goals (first | ((with_reducible refine evL_call ?_ ?_ ?_); rfl; rfl; intro K hK; ((apply opA_callB (pl); rfl; rfl; rfl; rfl; exact Try.func56); kernel_rfl; rfl; (simp only [go_sem]; rfl); (first | rfl | simp [AV.inNL, AV.inN])); (simp only [go_sem]; refine hK _ ?_; clear hK K)) | ((with_reducible refine evL_one ?_ ?_); rfl; intro K hK; simp only [go_sem]; ((repeat (refine ndI (by first | assumption | omega | rfl) ?_)); refine hK _ ?_; clear hK K)) | (with_reducible first | (refine evL_nil ?_; refine hR _ ?_; clear hR R) | ((first | refine evC_seq ?_ | refine evC_block ?_); intro Ψ hΨ hΨ') | (refine evC_region ?_; intro R hR) | (refine hΨ _ ?_; clear hΨ hΨ' Ψ) | refine evC_skip ?_ | refine evC_ret ?_ | refine evC_exit ?_) | ((with_reducible refine hΨ' _ _ ?_ ?_); (focus (simp; done)); clear hΨ hΨ' Ψ) | ((with_reducible apply evC_cond); rfl; rfl; all_goals (intro hc; first | (cases hc; done) | (try simp only at hc))))))
    all_goals (refine ⟨by simp, ⟨_, ?_, AV.le_refl _⟩, leH_get (by simp [leH, hget])⟩; simp only [Try.results32, resL, ldA, oneOf, go_sem])
    all_goals simp only [hA, h11, c11, l0_zero, l1_zero, l2_zero, l3_zero]
end Go.Proofs.Ytmibmodibicibaa
