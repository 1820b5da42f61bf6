/-
  What a turn breaks, told of a turn; reckoned.
-/
import Derived.Test.YtgdnmdnhkhpieaaSs
import Derived.Test.YtgdnmdnhkhpieaaSe
import Derived.MapKept
import Derived.WideKeyMaps
set_option linter.unusedSimpArgs false
set_option linter.unusedVariables false
namespace Go.Proofs.Ytgdnmdnhkhpieaa.lg
open Go.RowKit
open Nat (reduceBEq)
set_option maxRecDepth 20000
set_option maxHeartbeats 2000000
def posA (l : List Hd) (a : Int) : Nat := l.findIdx fun h => decide (a ≤ h.a)
theorem posA_le (l : List Hd) (a : Int) : posA l a ≤ l.length := List.findIdx_le_length
theorem posA_at {l : List Hd} {a : Int} {i : Nat} {y : Hd} (h : ∀ j, j < i → ∀ n, l[j]? = some n → n.a < a) (hy : l[i]? = some y) (hm : a ≤ y.a) : posA l a = i := by
  obtain ⟨hlt, rfl⟩ := List.getElem?_eq_some_iff.1 hy
  unfold posA
  rw [List.findIdx_eq hlt]
  refine ⟨by simpa using hm, fun j hj => ?_⟩
  have := h j hj _ (List.getElem?_eq_getElem (by omega))
  simp; omega
theorem posA_none {l : List Hd} {a : Int} (h : ∀ j, j < l.length → ∀ n, l[j]? = some n → n.a < a) : posA l a = l.length := by
  unfold posA
  rw [List.findIdx_eq_length]
  intro x hx
  obtain ⟨j, hj⟩ := List.mem_iff_getElem?.1 hx
  have := h j (List.getElem?_eq_some_iff.1 hj).1 x hj
  simp; omega
theorem place1_fn (x : Int) (p s : Nat) (d f a : Int) : Fn Try.prog 98 [h11 x p s d f, .ptr 1003 0] [(1003, [vi .u64 a])] (vb (decide (x ≥ a))) [(1003, [vi .u64 a])] := by
  (refine fn_of Try.func98 rfl (by rfl) ?_; simp only [Try.ntmps98, List.length_cons, List.length_nil, Nat.reduceAdd, Nat.reduceSub, List.replicate, List.cons_append, List.nil_append])
  (repeat (any_goals (first | ((with_reducible refine evL_one ?_ ?_); rfl; intro K hK; simp only [go_sem]; ((repeat (refine ndI (by first | assumption | omega | rfl) ?_)); refine hK _ ?_; clear hK K)) | (with_reducible first | (refine evL_nil ?_; refine hR _ ?_; clear hR R) | ((first | refine evC_seq ?_ | refine evC_block ?_); intro Ψ hΨ hΨ') | (refine evC_region ?_; intro R hR) | (refine hΨ _ ?_; clear hΨ hΨ' Ψ) | refine evC_skip ?_ | refine evC_ret ?_ | refine evC_exit ?_) | ((with_reducible refine hΨ' _ _ ?_ ?_); (focus (simp; done)); clear hΨ hΨ' Ψ) | ((with_reducible apply evC_cond); rfl; rfl; all_goals (intro hc; first | (cases hc; done) | (try simp only at hc))))))
  all_goals (refine ⟨by simp, ⟨_, ?_, AV.le_refl _⟩, leH_get (by simp [leH, hget])⟩; simp only [Try.results98, resL, ldA, oneOf, go_sem])
theorem index_fn (ex : Bool) (l : List Hd) (hl : l.length ≤ 1000) (a : Int) : Fn Try.prog 97 [hsl ex l, .fn 98 [.ptr 1003 0]] [(1003, [vi .u64 a])] (vi .i64 (if posA l a < l.length then (posA l a : Int) else -1)) [(1003, [vi .u64 a])] := by
  obtain ⟨tr, htr⟩ : ∃ r : Int, (if posA l a < l.length then (posA l a : Int) else -1) = r := ⟨_, rfl⟩
  rw [htr]
  (refine fn_of Try.func97 rfl (by rfl) ?_; simp only [Try.ntmps97, List.length_cons, List.length_nil, Nat.reduceAdd, Nat.reduceSub, List.replicate, List.cons_append, List.nil_append])
  (repeat (any_goals (first | ((with_reducible refine evL_one ?_ ?_); rfl; intro K hK; simp only [go_sem]; ((repeat (refine ndI (by first | assumption | omega | rfl) ?_)); refine hK _ ?_; clear hK K)) | (with_reducible first | (refine evL_nil ?_; refine hR _ ?_; clear hR R) | ((first | refine evC_seq ?_ | refine evC_block ?_); intro Ψ hΨ hΨ') | (refine evC_region ?_; intro R hR) | (refine hΨ _ ?_; clear hΨ hΨ' Ψ) | refine evC_skip ?_ | refine evC_ret ?_ | refine evC_exit ?_) | ((with_reducible refine hΨ' _ _ ?_ ?_); (focus (simp; done)); clear hΨ hΨ' Ψ) | ((with_reducible apply evC_cond); rfl; rfl; all_goals (intro hc; first | (cases hc; done) | (try simp only at hc))))))
  refine evC_loop (α := { i : Nat // i ≤ l.length ∧ ∀ j, j < i → ∀ n, l[j]? = some n → n.a < a }) (fun p => ⟨[hsl ex l, .fn 98 [.ptr 1003 0], .any, .any, .any, .any, hsl ex l, vi .i64 l.length, vi .i64 p.1, .any, .any, .any, .any, .any, .any, .any, .any, .any, .any], [(1003, [vi .u64 a])]⟩) (fun p => l.length - p.1) ⟨0, Nat.zero_le _, fun j hj => by omega⟩ (St.le_of (by simp [leT]) (by simp [leH, hget])) ?_
  rintro ⟨i, hi, hno⟩ Ψ hΨ hΨ'
  dsimp only at hi hΨ ⊢
  rcases Nat.lt_or_ge i l.length with hlt | hge
  · obtain ⟨y, hy⟩ : ∃ y, l[i]? = some y := ⟨l[i], List.getElem?_eq_getElem hlt⟩
    have k1 : (decide ((i : Int) < (l.length : Int))) = true := by simpa using hlt
    have k2 := hsl_at hy
    have k7 : (i : Int) + 1 = ((i + 1 : Nat) : Int) := by omega
    have pl := place1_fn y.a y.p y.s y.d y.f a
    by_cases hm : a ≤ y.a
    · have e : (decide (y.a ≥ a)) = true := by simpa using hm
      rw [e] at pl
      have hp := posA_at hno hy hm
      rw [hp, if_pos hlt] at htr
      (have W := ndI k1 (ndI k2 (ndI k7 @wrI)); (repeat (any_goals (first | ((with_reducible refine evL_call ?_ ?_ ?_); rfl; rfl; intro K hK; (apply opA_callR (pl) (fun r => r); rfl; rfl; rfl; rfl; exact Try.func98; kernel_rfl; rfl; rfl; (intro r hr q hq h; simp (disch := omega) only [List.map_cons, List.map_nil, List.cons_append, List.nil_append, List.mem_cons, List.not_mem_nil, or_false] at hr hq; (try dsimp only at h); first | omega | (rcases hr with rfl | rfl | rfl <;> rcases hq with rfl | rfl | rfl <;> simp at h ⊢) | (rcases hr with rfl | rfl <;> rcases hq with rfl | rfl <;> simp at h ⊢) | ((repeat' split at h) <;> omega)); (simp (disch := omega) only [argsOk, argOk, AV.ren, AV.renL, renL_map, List.mem_cons, List.not_mem_nil, forall_eq_or_imp, forall_eq, newOk, List.contains_cons, List.contains_nil, AV.refsL, AV.refs, refsL_map, AV.inN, AV.inNL, inH, inNL_map, go_sem, W])); (simp (disch := omega) only [hputs, hdels, renH, AV.ren, AV.renL, renL_map, go_sem, W]; refine hK _ ?_; clear hK K)) | ((with_reducible refine evL_one ?_ ?_); rfl; intro K hK; simp (disch := omega) only [go_sem, W]; ((repeat (refine ndI (by first | assumption | omega | rfl) ?_)); refine hK _ ?_; clear hK K)) | (with_reducible first | (refine evL_nil ?_; refine hR _ ?_; clear hR R) | ((first | refine evC_seq ?_ | refine evC_block ?_); intro Ψ hΨ hΨ') | (refine evC_region ?_; intro R hR) | (refine hΨ _ ?_; clear hΨ hΨ' Ψ) | refine evC_skip ?_ | refine evC_ret ?_ | refine evC_exit ?_) | ((with_reducible refine hΨ' _ _ ?_ ?_); (focus (simp; done)); clear hΨ hΨ' Ψ) | ((with_reducible apply evC_cond); rfl; rfl; all_goals (intro hc; first | (cases hc; done) | (try simp only at hc)))))))
      all_goals (refine ⟨by simp, ⟨_, ?_, AV.le_refl _⟩, leH_get (by simp [leH, hget])⟩; simp only [Try.results97, resL, ldA, oneOf, go_sem])
      all_goals rw [htr]
    · have e : (decide (y.a ≥ a)) = false := by simp; omega
      rw [e] at pl
      (have W := ndI k1 (ndI k2 (ndI k7 @wrI)); (repeat (any_goals (first | ((with_reducible refine evL_call ?_ ?_ ?_); rfl; rfl; intro K hK; (apply opA_callR (pl) (fun r => r); rfl; rfl; rfl; rfl; exact Try.func98; kernel_rfl; rfl; rfl; (intro r hr q hq h; simp (disch := omega) only [List.map_cons, List.map_nil, List.cons_append, List.nil_append, List.mem_cons, List.not_mem_nil, or_false] at hr hq; (try dsimp only at h); first | omega | (rcases hr with rfl | rfl | rfl <;> rcases hq with rfl | rfl | rfl <;> simp at h ⊢) | (rcases hr with rfl | rfl <;> rcases hq with rfl | rfl <;> simp at h ⊢) | ((repeat' split at h) <;> omega)); (simp (disch := omega) only [argsOk, argOk, AV.ren, AV.renL, renL_map, List.mem_cons, List.not_mem_nil, forall_eq_or_imp, forall_eq, newOk, List.contains_cons, List.contains_nil, AV.refsL, AV.refs, refsL_map, AV.inN, AV.inNL, inH, inNL_map, go_sem, W])); (simp (disch := omega) only [hputs, hdels, renH, AV.ren, AV.renL, renL_map, go_sem, W]; refine hK _ ?_; clear hK K)) | ((with_reducible refine evL_one ?_ ?_); rfl; intro K hK; simp (disch := omega) only [go_sem, W]; ((repeat (refine ndI (by first | assumption | omega | rfl) ?_)); refine hK _ ?_; clear hK K)) | (with_reducible first | (refine evL_nil ?_; refine hR _ ?_; clear hR R) | ((first | refine evC_seq ?_ | refine evC_block ?_); intro Ψ hΨ hΨ') | (refine evC_region ?_; intro R hR) | (refine hΨ _ ?_; clear hΨ hΨ' Ψ) | refine evC_skip ?_ | refine evC_ret ?_ | refine evC_exit ?_) | ((with_reducible refine hΨ' _ _ ?_ ?_); (focus (simp; done)); clear hΨ hΨ' Ψ) | ((with_reducible apply evC_cond); rfl; rfl; all_goals (intro hc; first | (cases hc; done) | (try simp only at hc)))))))
      refine hΨ _ ⟨i + 1, hlt, fun j hj n hn => ?_⟩ (by simp only; omega) (St.le_of (by simp [leT]) (by simp [leH, hget]))
      rcases Nat.lt_or_ge j i with h' | h'
      · exact hno j h' n hn
      · obtain rfl : j = i := by omega
        rw [hy] at hn; cases hn; omega
  · have k1 : (decide ((i : Int) < (l.length : Int))) = false := by simpa using hge
    have hp := posA_none (l := l) (a := a) fun j hj => hno j (by omega)
    rw [hp, if_neg (Nat.lt_irrefl _)] at htr
    (repeat (any_goals (first | ((with_reducible refine evL_one ?_ ?_); rfl; intro K hK; simp only [go_sem, k1]; ((repeat (refine ndI (by first | assumption | omega | rfl) ?_)); refine hK _ ?_; clear hK K)) | (with_reducible first | (refine evL_nil ?_; refine hR _ ?_; clear hR R) | ((first | refine evC_seq ?_ | refine evC_block ?_); intro Ψ hΨ hΨ') | (refine evC_region ?_; intro R hR) | (refine hΨ _ ?_; clear hΨ hΨ' Ψ) | refine evC_skip ?_ | refine evC_ret ?_ | refine evC_exit ?_) | ((with_reducible refine hΨ' _ _ ?_ ?_); (focus (simp; done)); clear hΨ hΨ' Ψ) | ((with_reducible apply evC_cond); rfl; rfl; all_goals (intro hc; first | (cases hc; done) | (try simp only at hc))))))
    all_goals (refine ⟨by simp, ⟨_, ?_, AV.le_refl _⟩, leH_get (by simp [leH, hget])⟩; simp only [Try.results97, resL, ldA, oneOf, go_sem])
    all_goals rw [← htr]
def isA (l : List Hd) (a : Int) : Bool := match l[posA l a]? with | some y => y.a == a | none => false
theorem place_fn (ex : Bool) (l : List Hd) (hl : l.length ≤ 1000) (a : Int) : Fn Try.prog 86 [lg ex l, vi .u64 a] [] (.tup [vi .i64 (posA l a : Int), vb (isA l a)]) [] := by
  have ix := index_fn ex l hl a
  have hle := posA_le l a
  rcases Nat.lt_or_ge (posA l a) l.length with hlt | hge
  · rw [if_pos hlt] at ix
    obtain ⟨y, hy⟩ : ∃ y, l[posA l a]? = some y := ⟨_, List.getElem?_eq_getElem hlt⟩
    have hA : isA l a = (y.a == a) := by unfold isA; rw [hy]
    rw [hA]
    have k2 := hsl_at hy
    generalize posA l a = i at ix hlt hy k2
    have k3 : (decide ((i : Int) < 0)) = false := by simp
    (refine fn_of Try.func86 rfl (by rfl) ?_; simp only [Try.ntmps86, List.length_cons, List.length_nil, Nat.reduceAdd, Nat.reduceSub, List.replicate, List.cons_append, List.nil_append])
    (repeat (any_goals (first | ((with_reducible refine evL_call ?_ ?_ ?_); rfl; rfl; intro K hK; (apply opA_callR (ix) (fun r => r - 1000); rfl; rfl; rfl; rfl; exact Try.func97; kernel_rfl; rfl; rfl; (intro r hr q hq h; simp (disch := omega) only [List.map_cons, List.map_nil, List.cons_append, List.nil_append, List.mem_cons, List.not_mem_nil, or_false] at hr hq; (try dsimp only at h); first | omega | (rcases hr with rfl | rfl | rfl <;> rcases hq with rfl | rfl | rfl <;> simp at h ⊢) | (rcases hr with rfl | rfl <;> rcases hq with rfl | rfl <;> simp at h ⊢) | ((repeat' split at h) <;> omega)); (simp (disch := omega) only [argsOk, argOk, AV.ren, AV.renL, renL_map, List.mem_cons, List.not_mem_nil, forall_eq_or_imp, forall_eq, newOk, List.contains_cons, List.contains_nil, AV.refsL, AV.refs, refsL_map, AV.inN, AV.inNL, inH, inNL_map, go_sem, k2, k3])); (simp (disch := omega) only [hputs, hdels, renH, AV.ren, AV.renL, renL_map, go_sem, k2, k3]; refine hK _ ?_; clear hK K)) | ((with_reducible refine evL_one ?_ ?_); rfl; intro K hK; simp (disch := omega) only [go_sem, k2, k3]; ((repeat (refine ndI (by first | assumption | omega | rfl) ?_)); refine hK _ ?_; clear hK K)) | (with_reducible first | (refine evL_nil ?_; refine hR _ ?_; clear hR R) | ((first | refine evC_seq ?_ | refine evC_block ?_); intro Ψ hΨ hΨ') | (refine evC_region ?_; intro R hR) | (refine hΨ _ ?_; clear hΨ hΨ' Ψ) | refine evC_skip ?_ | refine evC_ret ?_ | refine evC_exit ?_) | ((with_reducible refine hΨ' _ _ ?_ ?_); (focus (simp; done)); clear hΨ hΨ' Ψ) | ((with_reducible apply evC_cond); rfl; rfl; all_goals (intro hc; first | (cases hc; done) | (try simp only at hc))) | ((with_reducible refine evD_nil ?_ ?_); kernel_rfl; (with_reducible refine hR _ ?_); clear hR R) | (((with_reducible apply evD_any); rfl; rfl; (simp (disch := omega) only [rdE, rdOf, go_sem, k2, k3]; rfl); (intro τ hA hQ hN; ((try simp only [agree, Op.operands, Call.operands, go_sem, k2, k3, go_sem, List.mem_cons, List.not_mem_nil, forall_eq_or_imp, forall_eq, List.append_toArray, Option.toArray] at hA); (try simp only [go_sem, k2, k3, List.mem_cons, List.not_mem_nil, forall_eq_or_imp, forall_eq] at hQ hN); (first | (revert hA; intro hA) | have hA := trivial); (first | (revert hQ; intro hQ) | have hQ := trivial); (first | (revert hN; intro hN) | have hN := trivial); simp (disch := omega) only [go_sem, k2, k3, go_sem, hA, hQ, hN]; (repeat (refine ndI (by first | assumption | omega | rfl) ?_)); (first | apply eff_rd | apply eff_st | apply eff_nw)))); (simp (disch := omega) only [St.eff, setO, hputs, go_sem, k2, k3])) | ((with_reducible refine evC_draw ?_ ?_ ?_ ?_); kernel_rfl; kernel_rfl; (first | kernel_rfl | simp [newNames, isNew, St.free, freeH, AV.refsL, AV.refs]); intro R hR))))
    all_goals (refine ⟨by simp, ⟨_, ?_, AV.le_refl _⟩, leH_get (by simp [leH, hget])⟩; simp only [Try.results86, resL, ldA, oneOf, go_sem])
  · have e : posA l a = l.length := by omega
    have hA : isA l a = false := by unfold isA; rw [e, List.getElem?_eq_none (Nat.le_refl _)]
    rw [hA, e]
    rw [if_neg (by omega)] at ix
    (refine fn_of Try.func86 rfl (by rfl) ?_; simp only [Try.ntmps86, List.length_cons, List.length_nil, Nat.reduceAdd, Nat.reduceSub, List.replicate, List.cons_append, List.nil_append])
    (repeat (any_goals (first | ((with_reducible refine evL_call ?_ ?_ ?_); rfl; rfl; intro K hK; (apply opA_callR (ix) (fun r => r - 1000); rfl; rfl; rfl; rfl; exact Try.func97; kernel_rfl; rfl; rfl; (intro r hr q hq h; simp only [List.map_cons, List.map_nil, List.cons_append, List.nil_append, List.mem_cons, List.not_mem_nil, or_false] at hr hq; (try dsimp only at h); first | omega | (rcases hr with rfl | rfl | rfl <;> rcases hq with rfl | rfl | rfl <;> simp at h ⊢) | (rcases hr with rfl | rfl <;> rcases hq with rfl | rfl <;> simp at h ⊢) | ((repeat' split at h) <;> omega)); (simp only [argsOk, argOk, AV.ren, AV.renL, renL_map, List.mem_cons, List.not_mem_nil, forall_eq_or_imp, forall_eq, newOk, List.contains_cons, List.contains_nil, AV.refsL, AV.refs, refsL_map, AV.inN, AV.inNL, inH, inNL_map, go_sem, Int.reduceLT, Int.reduceNeg, decide_true])); (simp only [hputs, hdels, renH, AV.ren, AV.renL, renL_map, go_sem, Int.reduceLT, Int.reduceNeg, decide_true]; refine hK _ ?_; clear hK K)) | ((with_reducible refine evL_one ?_ ?_); rfl; intro K hK; simp only [go_sem, Int.reduceLT, Int.reduceNeg, decide_true]; ((repeat (refine ndI (by first | assumption | omega | rfl) ?_)); refine hK _ ?_; clear hK K)) | (with_reducible first | (refine evL_nil ?_; refine hR _ ?_; clear hR R) | ((first | refine evC_seq ?_ | refine evC_block ?_); intro Ψ hΨ hΨ') | (refine evC_region ?_; intro R hR) | (refine hΨ _ ?_; clear hΨ hΨ' Ψ) | refine evC_skip ?_ | refine evC_ret ?_ | refine evC_exit ?_) | ((with_reducible refine hΨ' _ _ ?_ ?_); (focus (simp; done)); clear hΨ hΨ' Ψ) | ((with_reducible apply evC_cond); rfl; rfl; all_goals (intro hc; first | (cases hc; done) | (try simp only at hc))) | ((with_reducible refine evD_nil ?_ ?_); kernel_rfl; (with_reducible refine hR _ ?_); clear hR R) | (((with_reducible apply evD_any); rfl; rfl; (simp only [rdE, rdOf, go_sem, Int.reduceLT, Int.reduceNeg, decide_true]; rfl); (intro τ hA hQ hN; ((try simp only [agree, Op.operands, Call.operands, go_sem, Int.reduceLT, Int.reduceNeg, decide_true, go_sem, List.mem_cons, List.not_mem_nil, forall_eq_or_imp, forall_eq, List.append_toArray, Option.toArray] at hA); (try simp only [go_sem, Int.reduceLT, Int.reduceNeg, decide_true, List.mem_cons, List.not_mem_nil, forall_eq_or_imp, forall_eq] at hQ hN); (first | (revert hA; intro hA) | have hA := trivial); (first | (revert hQ; intro hQ) | have hQ := trivial); (first | (revert hN; intro hN) | have hN := trivial); simp only [go_sem, Int.reduceLT, Int.reduceNeg, decide_true, go_sem, hA, hQ, hN]; (repeat (refine ndI (by first | assumption | omega | rfl) ?_)); (first | apply eff_rd | apply eff_st | apply eff_nw)))); (simp only [St.eff, setO, hputs, go_sem, Int.reduceLT, Int.reduceNeg, decide_true])) | ((with_reducible refine evC_draw ?_ ?_ ?_ ?_); kernel_rfl; kernel_rfl; (first | kernel_rfl | simp [newNames, isNew, St.free, freeH, AV.refsL, AV.refs]); intro R hR))))
    all_goals (refine ⟨by simp, ⟨_, ?_, AV.le_refl _⟩, leH_get (by simp [leH, hget])⟩; simp only [Try.results86, resL, ldA, oneOf, go_sem])
def findH (l : List Hd) (a : Int) : Hd := match l[posA l a]? with | some y => if y.a = a then y else ⟨a, 0, 0, 0, 0⟩ | none => ⟨a, 0, 0, 0, 0⟩
abbrev hA (h : Hd) : AV := h11 h.a h.p h.s h.d h.f
theorem find_fn (ex : Bool) (l : List Hd) (hl : l.length ≤ 1000) (a : Int) : Fn Try.prog 66 [lg ex l, vi .u64 a] [] (hA (findH l a)) [] := by
  have pl := place_fn ex l hl a
  by_cases h : isA l a = true
  · rw [h] at pl
    unfold isA at h
    cases hy : l[posA l a]? with
    | none => rw [hy] at h; cases h
    | some y =>
      rw [hy] at h
      simp only [beq_iff_eq] at h
      have hF : findH l a = y := by unfold findH; rw [hy]; simp [h]
      rw [hF]
      have k2 := hsl_at hy
      have hlt := (List.getElem?_eq_some_iff.1 hy).1
      generalize posA l a = i at pl k2 hlt
      (refine fn_of Try.func66 rfl (by rfl) ?_; simp only [Try.ntmps66, List.length_cons, List.length_nil, Nat.reduceAdd, Nat.reduceSub, List.replicate, List.cons_append, List.nil_append])
      (repeat (any_goals (first | ((with_reducible refine evL_call ?_ ?_ ?_); rfl; rfl; intro K hK; ((apply opA_callB (pl); rfl; rfl; rfl; rfl; exact Try.func86); kernel_rfl; rfl; (simp (disch := omega) only [go_sem, k2]; rfl); (first | rfl | simp [AV.inNL, AV.inN])); (simp (disch := omega) only [go_sem, k2]; refine hK _ ?_; clear hK K)) | ((with_reducible refine evL_one ?_ ?_); rfl; intro K hK; simp (disch := omega) only [go_sem, k2]; ((repeat (refine ndI (by first | assumption | omega | rfl) ?_)); refine hK _ ?_; clear hK K)) | (with_reducible first | (refine evL_nil ?_; refine hR _ ?_; clear hR R) | ((first | refine evC_seq ?_ | refine evC_block ?_); intro Ψ hΨ hΨ') | (refine evC_region ?_; intro R hR) | (refine hΨ _ ?_; clear hΨ hΨ' Ψ) | refine evC_skip ?_ | refine evC_ret ?_ | refine evC_exit ?_) | ((with_reducible refine hΨ' _ _ ?_ ?_); (focus (simp; done)); clear hΨ hΨ' Ψ) | ((with_reducible apply evC_cond); rfl; rfl; all_goals (intro hc; first | (cases hc; done) | (try simp only at hc))))))
      all_goals (refine ⟨by simp, ⟨_, ?_, AV.le_refl _⟩, leH_get (by simp [leH, hget])⟩; simp only [Try.results66, resL, ldA, oneOf, go_sem])
  · have h' : isA l a = false := by simpa using h
    rw [h'] at pl
    have hF : findH l a = ⟨a, 0, 0, 0, 0⟩ := by
      unfold findH
      unfold isA at h'
      cases hy : l[posA l a]? with
      | none => rfl
      | some y =>
        rw [hy] at h'
        simp only [beq_eq_false_iff_ne, ne_eq] at h'
        simp [h']
    rw [hF]
    (refine fn_of Try.func66 rfl (by rfl) ?_; simp only [Try.ntmps66, List.length_cons, List.length_nil, Nat.reduceAdd, Nat.reduceSub, List.replicate, List.cons_append, List.nil_append])
    (repeat (any_goals (first | ((with_reducible refine evL_call ?_ ?_ ?_); rfl; rfl; intro K hK; ((apply opA_callB (pl); rfl; rfl; rfl; rfl; exact Try.func86); kernel_rfl; rfl; (simp only [go_sem]; rfl); (first | rfl | simp [AV.inNL, AV.inN])); (simp only [go_sem]; refine hK _ ?_; clear hK K)) | ((with_reducible refine evL_one ?_ ?_); rfl; intro K hK; simp only [go_sem]; ((repeat (refine ndI (by first | assumption | omega | rfl) ?_)); refine hK _ ?_; clear hK K)) | (with_reducible first | (refine evL_nil ?_; refine hR _ ?_; clear hR R) | ((first | refine evC_seq ?_ | refine evC_block ?_); intro Ψ hΨ hΨ') | (refine evC_region ?_; intro R hR) | (refine hΨ _ ?_; clear hΨ hΨ' Ψ) | refine evC_skip ?_ | refine evC_ret ?_ | refine evC_exit ?_) | ((with_reducible refine hΨ' _ _ ?_ ?_); (focus (simp; done)); clear hΨ hΨ' Ψ) | ((with_reducible apply evC_cond); rfl; rfl; all_goals (intro hc; first | (cases hc; done) | (try simp only at hc))))))
    all_goals (refine ⟨by simp, ⟨_, ?_, AV.le_refl _⟩, leH_get (by simp [leH, hget])⟩; simp only [Try.results66, resL, ldA, oneOf, go_sem])
    all_goals simp only [hA, h11, c11, l0_zero, l1_zero, l2_zero, l3_zero]
end Go.Proofs.Ytgdnmdnhkhpieaa.lg
namespace Go.Proofs.Ytgdnmdnhkhpieaa.lg
open Go.RowKit
set_option maxRecDepth 20000
set_option maxHeartbeats 2000000
def fitsE (l : List Hd) (a : Int) (n : Nat) : Int := if WW ≤ n + tot l then 171 else if (!isA l a && (!decide (n = 0) && decide (l.length = 24))) = true then 6 else 0
end Go.Proofs.Ytgdnmdnhkhpieaa.lg
namespace Go.Proofs.Ytgdnmdnhkhpieaa.lg
open Go.RowKit
set_option maxRecDepth 20000
set_option maxHeartbeats 2000000
def remL (l : List Hd) (a : Int) : List Hd := if isA l a = true then l.take (posA l a) ++ l.drop (posA l a + 1) else l
def putL (l : List Hd) (h : Hd) : List Hd := if (decide (h.p = 0) && decide (h.s = 0)) = true then remL l h.a else (remL l h.a).take (posA l h.a) ++ h :: (remL l h.a).drop (posA l h.a)
end Go.Proofs.Ytgdnmdnhkhpieaa.lg
namespace Go.Proofs.Ytgdnmdnhkhpieaa.lg
open Go.RowKit
set_option maxRecDepth 20000
set_option maxHeartbeats 2000000
abbrev cW (n : Nat) : List AV := [vi .u64 (l0 n), vi .u64 (l1 n), vi .u64 (l2 n), vi .u64 (l3 n)]
def dly (d delay : Int) : Bool := (delay == 0) || (decide (delay > 1073741824) || decide (delay < d))
end Go.Proofs.Ytgdnmdnhkhpieaa.lg
namespace Go.Proofs.Ytgdnmdnhkhpieaa.lg
open Go.RowKit
set_option maxRecDepth 20000
set_option maxHeartbeats 2000000
def gate (l : List Hd) (a e : Int) : Int := if okL l = false then 170 else if a = 0 then 2 else e
theorem okL_len {l : List Hd} (h : okL l = true) : l.length ≤ 24 := by
  unfold okL at h
  rw [Bool.and_eq_true] at h
  exact of_decide_eq_true h.1
def depH (h : Hd) (n : Nat) : Hd := ⟨h.a, (h.p + n) % WW, h.s, h.d, h.f⟩
def wdrE (h : Hd) (n : Nat) : Int := if h.p < n then 162 else 0
def wdrH (h : Hd) (n : Nat) : Hd := ⟨h.a, h.p - n, h.s, h.d, h.f⟩
def bondE (l : List Hd) (a : Int) (h : Hd) (n : Nat) (delay : Int) : Int := if dly h.d delay = true then 2 else if (decide (h.s = 0) && decide (n = 0)) = true then 172 else fitsE l a n
def bondH (h : Hd) (n : Nat) (delay : Int) : Hd := ⟨h.a, h.p, (h.s + n) % WW, delay, 0⟩
def unlE (h : Hd) (now : Int) : Int := if now > 1099511627776 then 2 else if (!decide (h.s = 0) && (h.f == 0)) = false then 172 else 0
def unlH (h : Hd) (now : Int) : Hd := ⟨h.a, h.p, h.s, h.d, now + h.d⟩
def relE (h : Hd) (now : Int) : Int := if now > 1099511627776 then 2 else if h.s = 0 then 172 else if h.f = 0 ∨ now < h.f then 173 else 0
def relH (h : Hd) : Hd := ⟨h.a, h.p, 0, 0, 0⟩
end Go.Proofs.Ytgdnmdnhkhpieaa.lg
namespace Go.Proofs.Ytgdnmdnhkhpieaa.lg
open Go.RowKit
open Nat (reduceBEq)
set_option maxRecDepth 20000
set_option maxHeartbeats 2000000
def findP (l : List Hd) (a : Int) : Hd := if a = 0 then ⟨0, 0, 0, 0, 0⟩ else if okL l = true then findH l a else ⟨0, 0, 0, 0, 0⟩
theorem findF_fn (ex : Bool) (l : List Hd) (hl : l.length ≤ maxLen) (ok : ∀ h ∈ l, h.ok) (a : Int) : Fn Try.prog 49 [lg ex l, vi .u64 a] [] (hA (findP l a)) [] := by
  by_cases ha : a = 0
  · subst ha
    rw [show findP l 0 = ⟨0, 0, 0, 0, 0⟩ from if_pos rfl]
    simp only [hA, h11, c11, l0_zero, l1_zero, l2_zero, l3_zero]
    (refine fn_of Try.func49 rfl (by rfl) ?_; simp only [Try.ntmps49, List.length_cons, List.length_nil, Nat.reduceAdd, Nat.reduceSub, List.replicate, List.cons_append, List.nil_append])
    (repeat (any_goals (first | ((with_reducible refine evL_one ?_ ?_); rfl; intro K hK; simp only [go_sem]; ((repeat (refine ndI (by first | assumption | omega | rfl) ?_)); refine hK _ ?_; clear hK K)) | (with_reducible first | (refine evL_nil ?_; refine hR _ ?_; clear hR R) | ((first | refine evC_seq ?_ | refine evC_block ?_); intro Ψ hΨ hΨ') | (refine evC_region ?_; intro R hR) | (refine hΨ _ ?_; clear hΨ hΨ' Ψ) | refine evC_skip ?_ | refine evC_ret ?_ | refine evC_exit ?_) | ((with_reducible refine hΨ' _ _ ?_ ?_); (focus (simp; done)); clear hΨ hΨ' Ψ) | ((with_reducible apply evL_unmet); rfl; rfl; rfl; (try simp only [go_sem])) | ((with_reducible apply evL_grd); rfl; rfl; rfl; all_goals (intro hb; first | (cases hb; done) | ((try simp only [Bool.not_true, Bool.not_false] at hb); (first | ((with_reducible intro K hK); simp only [go_sem]; ((repeat (refine ndI (by first | assumption | omega | rfl) ?_)); refine hK _ ?_; clear hK K)) | ((fail_if_success (with_reducible intro _)); simp only [go_sem]))))) | ((with_reducible apply evC_cond); rfl; rfl; all_goals (intro hc; first | (cases hc; done) | (try simp only at hc))))))
    all_goals (refine ⟨by simp, ⟨_, ?_, AV.le_refl _⟩, leH_get (by simp [leH, hget])⟩; simp only [Try.results49, resL, ldA, oneOf, go_sem])
  · have ck := check_fn ex l hl ok
    have ea : (a == 0) = false := by simp [ha]
    cases hk : okL l with
    | false =>
      rw [hk, if_neg (by decide)] at ck
      rw [show findP l a = ⟨0, 0, 0, 0, 0⟩ by unfold findP; rw [if_neg ha, hk, if_neg (by decide)]]
      simp only [hA, h11, c11, l0_zero, l1_zero, l2_zero, l3_zero]
      (refine fn_of Try.func49 rfl (by rfl) ?_; simp only [Try.ntmps49, List.length_cons, List.length_nil, Nat.reduceAdd, Nat.reduceSub, List.replicate, List.cons_append, List.nil_append])
      (repeat (any_goals (first | ((with_reducible refine evL_one ?_ ?_); rfl; intro K hK; simp only [go_sem, ea]; ((repeat (refine ndI (by first | assumption | omega | rfl) ?_)); refine hK _ ?_; clear hK K)) | (with_reducible first | (refine evL_nil ?_; refine hR _ ?_; clear hR R) | ((first | refine evC_seq ?_ | refine evC_block ?_); intro Ψ hΨ hΨ') | (refine evC_region ?_; intro R hR) | (refine hΨ _ ?_; clear hΨ hΨ' Ψ) | refine evC_skip ?_ | refine evC_ret ?_ | refine evC_exit ?_) | ((with_reducible refine hΨ' _ _ ?_ ?_); (focus (simp; done)); clear hΨ hΨ' Ψ) | ((with_reducible apply evL_unmet); rfl; rfl; rfl; (try simp only [go_sem, ea])) | ((with_reducible apply evL_grd); rfl; rfl; rfl; all_goals (intro hb; first | (cases hb; done) | ((try simp only [Bool.not_true, Bool.not_false] at hb); (first | ((with_reducible intro K hK); (first | ((apply opA_callB (ck); rfl; rfl; rfl; rfl; exact Try.func65); kernel_rfl; rfl; (simp only [go_sem, ea]; rfl); (first | rfl | simp [AV.inNL, AV.inN])) | skip); simp only [go_sem, ea]; ((repeat (refine ndI (by first | assumption | omega | rfl) ?_)); refine hK _ ?_; clear hK K)) | ((fail_if_success (with_reducible intro _)); simp only [go_sem, ea]))))) | ((with_reducible apply evC_cond); rfl; rfl; all_goals (intro hc; first | (cases hc; done) | (try simp only at hc))))))
      all_goals (refine ⟨by simp, ⟨_, ?_, AV.le_refl _⟩, leH_get (by simp [leH, hget])⟩; simp only [Try.results49, resL, ldA, oneOf, go_sem])
    | true =>
      have hl4 := okL_len hk
      have fi := find_fn ex l (by omega) a
      rw [hk, if_pos rfl] at ck
      rw [show findP l a = findH l a by unfold findP; rw [if_neg ha, hk, if_pos rfl]]
      generalize findH l a = h0 at fi ⊢
      obtain ⟨x, p, s, d, f⟩ := h0
      dsimp only [hA] at fi ⊢
      (refine fn_of Try.func49 rfl (by rfl) ?_; simp only [Try.ntmps49, List.length_cons, List.length_nil, Nat.reduceAdd, Nat.reduceSub, List.replicate, List.cons_append, List.nil_append])
      (repeat (any_goals (first | ((with_reducible refine evL_call ?_ ?_ ?_); rfl; rfl; intro K hK; ((apply opA_callB (fi); rfl; rfl; rfl; rfl; exact Try.func66); kernel_rfl; rfl; (simp only [go_sem, ea]; rfl); (first | rfl | simp [AV.inNL, AV.inN])); (simp only [go_sem, ea]; refine hK _ ?_; clear hK K)) | ((with_reducible refine evL_one ?_ ?_); rfl; intro K hK; simp only [go_sem, ea]; ((repeat (refine ndI (by first | assumption | omega | rfl) ?_)); refine hK _ ?_; clear hK K)) | (with_reducible first | (refine evL_nil ?_; refine hR _ ?_; clear hR R) | ((first | refine evC_seq ?_ | refine evC_block ?_); intro Ψ hΨ hΨ') | (refine evC_region ?_; intro R hR) | (refine hΨ _ ?_; clear hΨ hΨ' Ψ) | refine evC_skip ?_ | refine evC_ret ?_ | refine evC_exit ?_) | ((with_reducible refine hΨ' _ _ ?_ ?_); (focus (simp; done)); clear hΨ hΨ' Ψ) | ((with_reducible apply evL_unmet); rfl; rfl; rfl; (try simp only [go_sem, ea])) | ((with_reducible apply evL_grd); rfl; rfl; rfl; all_goals (intro hb; first | (cases hb; done) | ((try simp only [Bool.not_true, Bool.not_false] at hb); (first | ((with_reducible intro K hK); (first | ((apply opA_callB (ck); rfl; rfl; rfl; rfl; exact Try.func65); kernel_rfl; rfl; (simp only [go_sem, ea]; rfl); (first | rfl | simp [AV.inNL, AV.inN])) | skip); simp only [go_sem, ea]; ((repeat (refine ndI (by first | assumption | omega | rfl) ?_)); refine hK _ ?_; clear hK K)) | ((fail_if_success (with_reducible intro _)); simp only [go_sem, ea]))))) | ((with_reducible apply evC_cond); rfl; rfl; all_goals (intro hc; first | (cases hc; done) | (try simp only at hc))))))
      all_goals (refine ⟨by simp, ⟨_, ?_, AV.le_refl _⟩, leH_get (by simp [leH, hget])⟩; simp only [Try.results49, resL, ldA, oneOf, go_sem])
theorem okL_tot {l : List Hd} (h : okL l = true) : tot l < WW := by
  unfold okL at h
  rw [Bool.and_eq_true, Bool.and_eq_true] at h
  exact of_decide_eq_true h.2.2
def sumP (l : List Hd) : Nat := if okL l = true then tot l else 0
theorem sumF_fn (ex : Bool) (l : List Hd) (hl : l.length ≤ maxLen) (ok : ∀ h ∈ l, h.ok) : Fn Try.prog 54 [lg ex l] [] (wN (sumP l)) [] := by
  have ck := check_fn ex l hl ok
  cases hk : okL l with
  | false =>
    rw [hk, if_neg (by decide)] at ck
    rw [show sumP l = 0 by unfold sumP; rw [hk, if_neg (by decide)]]
    simp only [wN, w4, l0_zero, l1_zero, l2_zero, l3_zero]
    (refine fn_of Try.func54 rfl (by rfl) ?_; simp only [Try.ntmps54, List.length_cons, List.length_nil, Nat.reduceAdd, Nat.reduceSub, List.replicate, List.cons_append, List.nil_append])
    (repeat (any_goals (first | ((with_reducible refine evL_call ?_ ?_ ?_); rfl; rfl; intro K hK; ((apply opA_callB (ck); rfl; rfl; rfl; rfl; exact Try.func65); kernel_rfl; rfl; (simp only [go_sem]; rfl); (first | rfl | simp [AV.inNL, AV.inN])); (simp only [go_sem]; refine hK _ ?_; clear hK K)) | ((with_reducible refine evL_one ?_ ?_); rfl; intro K hK; simp only [go_sem]; ((repeat (refine ndI (by first | assumption | omega | rfl) ?_)); refine hK _ ?_; clear hK K)) | (with_reducible first | (refine evL_nil ?_; refine hR _ ?_; clear hR R) | ((first | refine evC_seq ?_ | refine evC_block ?_); intro Ψ hΨ hΨ') | (refine evC_region ?_; intro R hR) | (refine hΨ _ ?_; clear hΨ hΨ' Ψ) | refine evC_skip ?_ | refine evC_ret ?_ | refine evC_exit ?_) | ((with_reducible refine hΨ' _ _ ?_ ?_); (focus (simp; done)); clear hΨ hΨ' Ψ) | ((with_reducible apply evC_cond); rfl; rfl; all_goals (intro hc; first | (cases hc; done) | (try simp only at hc))))))
    all_goals (refine ⟨by simp, ⟨_, ?_, AV.le_refl _⟩, leH_get (by simp [leH, hget])⟩; simp only [Try.results54, resL, ldA, oneOf, go_sem])
  | true =>
    have hl4 := okL_len hk
    have al := all_nil ex l (by omega) ok
    rw [hk, if_pos rfl] at ck
    rw [Nat.mod_eq_of_lt (okL_tot hk), decide_eq_false (by have := okL_tot hk; omega)] at al
    rw [show sumP l = tot l by unfold sumP; rw [hk, if_pos rfl]]
    generalize tot l = n at al ⊢
    (refine fn_of Try.func54 rfl (by rfl) ?_; simp only [Try.ntmps54, List.length_cons, List.length_nil, Nat.reduceAdd, Nat.reduceSub, List.replicate, List.cons_append, List.nil_append])
    (repeat (any_goals (first | ((with_reducible refine evL_call ?_ ?_ ?_); rfl; rfl; intro K hK; ((first | (apply opA_callB (ck); rfl; rfl; rfl; rfl; exact Try.func65) | (apply opA_callB (al); rfl; rfl; rfl; rfl; exact Try.func71)); kernel_rfl; rfl; (simp only [go_sem]; rfl); (first | rfl | simp [AV.inNL, AV.inN])); (simp only [go_sem]; refine hK _ ?_; clear hK K)) | ((with_reducible refine evL_one ?_ ?_); rfl; intro K hK; simp only [go_sem]; ((repeat (refine ndI (by first | assumption | omega | rfl) ?_)); refine hK _ ?_; clear hK K)) | (with_reducible first | (refine evL_nil ?_; refine hR _ ?_; clear hR R) | ((first | refine evC_seq ?_ | refine evC_block ?_); intro Ψ hΨ hΨ') | (refine evC_region ?_; intro R hR) | (refine hΨ _ ?_; clear hΨ hΨ' Ψ) | refine evC_skip ?_ | refine evC_ret ?_ | refine evC_exit ?_) | ((with_reducible refine hΨ' _ _ ?_ ?_); (focus (simp; done)); clear hΨ hΨ' Ψ) | ((with_reducible apply evC_cond); rfl; rfl; all_goals (intro hc; first | (cases hc; done) | (try simp only at hc))))))
    all_goals (refine ⟨by simp, ⟨_, ?_, AV.le_refl _⟩, leH_get (by simp [leH, hget])⟩; simp only [Try.results54, resL, ldA, oneOf, go_sem])
end Go.Proofs.Ytgdnmdnhkhpieaa.lg
namespace Go.Proofs.Ytgdnmdnhkhpieaa
open Go.RowKit
open Nat (reduceBEq)
set_option maxRecDepth 20000
set_option maxHeartbeats 2000000
theorem Wl.ok.kl {w : Wl} (hw : w.ok) : Okl w.S := ⟨Nat.le_trans hw.s.1 (by decide), fun x hx => ⟨(hw.s.2 x hx).1, Nat.le_trans (hw.s.2 x hx).2.1 (by decide), Nat.le_trans (hw.s.2 x hx).2.2 (by decide)⟩⟩
theorem bal_fn (w : Wl) (hw : w.ok) (a : Int) : Fn Try.prog 36 [wlA w, vi .u64 a] [] (wN (OfS w.S a).b) [] := by
  have f := OfS_fn false w.S hw.kl a
  generalize OfS w.S a = x at f ⊢
  obtain ⟨a', b, n, c, s⟩ := x
  dsimp only at f ⊢
  (refine fn_of Try.func36 rfl (by rfl) ?_; simp only [Try.ntmps36, List.length_cons, List.length_nil, Nat.reduceAdd, Nat.reduceSub, List.replicate, List.cons_append, List.nil_append])
  (repeat (any_goals (first | ((with_reducible refine evL_call ?_ ?_ ?_); rfl; rfl; intro K hK; ((apply opA_callB (f); rfl; rfl; rfl; rfl; exact Try.func56); kernel_rfl; rfl; (simp only [go_sem]; rfl); (first | rfl | simp [AV.inNL, AV.inN])); (simp only [go_sem]; refine hK _ ?_; clear hK K)) | ((with_reducible refine evL_one ?_ ?_); rfl; intro K hK; simp only [go_sem]; ((repeat (refine ndI (by first | assumption | omega | rfl) ?_)); refine hK _ ?_; clear hK K)) | (with_reducible first | (refine evL_nil ?_; refine hR _ ?_; clear hR R) | ((first | refine evC_seq ?_ | refine evC_block ?_); intro Ψ hΨ hΨ') | (refine evC_region ?_; intro R hR) | (refine hΨ _ ?_; clear hΨ hΨ' Ψ) | refine evC_skip ?_ | refine evC_ret ?_ | refine evC_exit ?_) | ((with_reducible refine hΨ' _ _ ?_ ?_); (focus (simp; done)); clear hΨ hΨ' Ψ) | ((with_reducible apply evC_cond); rfl; rfl; all_goals (intro hc; first | (cases hc; done) | (try simp only at hc))))))
  all_goals (refine ⟨by simp, ⟨_, ?_, AV.le_refl _⟩, leH_get (by simp [leH, hget])⟩; simp only [Try.results36, resL, ldA, oneOf, go_sem])
def hasN (w : Wl) : Nat := if rightW w then (OfS w.S 1).b else 0
def owesN (w : Wl) : Nat := if rightW w then lg.sumP w.L else 0
def supplyN (w : Wl) : Nat := if rightW w then totalS w.S else 0
def wealthN (w : Wl) (a : Int) : Nat := if a = 0 then 0 else if rightW w then ([(OfS w.S a).b, (lg.findP w.L a).p, (lg.findP w.L a).s].sum % WW) else 0
theorem sumP_lt (l : List lg.Hd) : lg.sumP l < WW := by
  unfold lg.sumP
  split
  · rename_i h
    unfold lg.okL at h
    simp only [Bool.and_eq_true, decide_eq_true_eq] at h
    exact h.2.2
  · decide
theorem totalS_lt (L : List Ac) : totalS L < WW := by
  unfold totalS
  split
  · exact Nat.mod_lt _ (by decide)
  · decide
theorem of_lt {w : Wl} (hw : w.ok) (a : Int) (ha : U a) : (OfS w.S a).b < WW := (OfS_ok hw.kl ha).1.2.1
theorem u1 : U 1 := by unfold U; decide
theorem hasN_lt {w : Wl} (hw : w.ok) : hasN w < WW := by
  unfold hasN
  split
  · exact of_lt hw 1 u1
  · decide
theorem owesN_lt (w : Wl) : owesN w < WW := by
  unfold owesN
  split
  · exact sumP_lt _
  · decide
theorem supplyN_lt (w : Wl) : supplyN w < WW := by
  unfold supplyN
  split
  · exact totalS_lt _
  · decide
theorem has_fn (w : Wl) (hw : w.ok) : Fn Try.prog 26 [wlA w] [] (wN (hasN w)) [] := by
  have f := may1_fn true w hw
  have g := bal_fn w hw 1
  unfold hasN
  cases e : rightW w <;> simp only [e, if_true, if_false, Bool.false_eq_true] at f ⊢
  all_goals (refine fn_of Try.func26 rfl (by rfl) ?_; simp only [Try.ntmps26, List.length_cons, List.length_nil, Nat.reduceAdd, Nat.reduceSub, List.replicate, List.cons_append, List.nil_append])
  all_goals (repeat (any_goals (first | ((with_reducible refine evL_op ?_ ?_); rfl; intro K hK; apply opA_buildSlice_flat; rfl; rfl; (focus (simp only [go_sem]; try rfl)); (focus (simp only [go_sem]; try rfl)); rfl; (first | omega | (dsimp only; omega) | (simp only [Option.isSome_some, Option.isSome_none]; omega) | (simp; omega) | (focus (simp; done))); (first | omega | (dsimp only; omega) | (simp only [Option.isSome_some, Option.isSome_none]; omega) | (simp; omega) | (focus (simp; done))); (first | omega | (dsimp only; omega) | (simp only [Option.isSome_some, Option.isSome_none]; omega) | (simp; omega) | (focus (simp; done))); (simp only [go_sem]; rfl); rfl; (focus ((simp only [unC, Option.map_some]); (try rfl))); (simp only [go_sem]; refine hK _ ?_; clear hK K)) | ((with_reducible refine evL_call ?_ ?_ ?_); rfl; rfl; intro K hK; ((first | (apply opA_callB (f); rfl; rfl; rfl; rfl; exact Try.func22) | (apply opA_callB (g); rfl; rfl; rfl; rfl; exact Try.func36)); kernel_rfl; rfl; (simp only [go_sem]; rfl); (first | rfl | simp [AV.inNL, AV.inN])); (simp only [go_sem]; refine hK _ ?_; clear hK K)) | ((with_reducible refine evL_one ?_ ?_); rfl; intro K hK; simp only [go_sem]; ((repeat (refine ndI (by first | assumption | omega | rfl) ?_)); refine hK _ ?_; clear hK K)) | (with_reducible first | (refine evL_nil ?_; refine hR _ ?_; clear hR R) | ((first | refine evC_seq ?_ | refine evC_block ?_); intro Ψ hΨ hΨ') | (refine evC_region ?_; intro R hR) | (refine hΨ _ ?_; clear hΨ hΨ' Ψ) | refine evC_skip ?_ | refine evC_ret ?_ | refine evC_exit ?_) | ((with_reducible refine hΨ' _ _ ?_ ?_); (focus (simp; done)); clear hΨ hΨ' Ψ) | ((with_reducible apply evC_cond); rfl; rfl; all_goals (intro hc; first | (cases hc; done) | (try simp only at hc))))))
  all_goals (refine ⟨by simp, ⟨_, ?_, AV.le_refl _⟩, leH_get (by simp [leH, hget])⟩; simp only [Try.results26, resL, ldA, oneOf, go_sem])
  all_goals rfl
theorem owes_fn (w : Wl) (hw : w.ok) : Fn Try.prog 27 [wlA w] [] (wN (owesN w)) [] := by
  have f := may1_fn true w hw
  have g := lg.sumF_fn false w.L (Nat.le_trans hw.l.1 (by decide)) hw.l.2
  unfold owesN
  cases e : rightW w <;> simp only [e, if_true, if_false, Bool.false_eq_true] at f ⊢
  all_goals (refine fn_of Try.func27 rfl (by rfl) ?_; simp only [Try.ntmps27, List.length_cons, List.length_nil, Nat.reduceAdd, Nat.reduceSub, List.replicate, List.cons_append, List.nil_append])
  all_goals (repeat (any_goals (first | ((with_reducible refine evL_op ?_ ?_); rfl; intro K hK; apply opA_buildSlice_flat; rfl; rfl; (focus (simp only [go_sem]; try rfl)); (focus (simp only [go_sem]; try rfl)); rfl; (first | omega | (dsimp only; omega) | (simp only [Option.isSome_some, Option.isSome_none]; omega) | (simp; omega) | (focus (simp; done))); (first | omega | (dsimp only; omega) | (simp only [Option.isSome_some, Option.isSome_none]; omega) | (simp; omega) | (focus (simp; done))); (first | omega | (dsimp only; omega) | (simp only [Option.isSome_some, Option.isSome_none]; omega) | (simp; omega) | (focus (simp; done))); (simp only [go_sem]; rfl); rfl; (focus ((simp only [unC, Option.map_some]); (try rfl))); (simp only [go_sem]; refine hK _ ?_; clear hK K)) | ((with_reducible refine evL_call ?_ ?_ ?_); rfl; rfl; intro K hK; ((first | (apply opA_callB (f); rfl; rfl; rfl; rfl; exact Try.func22) | (apply opA_callB (g); rfl; rfl; rfl; rfl; exact Try.func54)); kernel_rfl; rfl; (simp only [go_sem]; rfl); (first | rfl | simp [AV.inNL, AV.inN])); (simp only [go_sem]; refine hK _ ?_; clear hK K)) | ((with_reducible refine evL_one ?_ ?_); rfl; intro K hK; simp only [go_sem]; ((repeat (refine ndI (by first | assumption | omega | rfl) ?_)); refine hK _ ?_; clear hK K)) | (with_reducible first | (refine evL_nil ?_; refine hR _ ?_; clear hR R) | ((first | refine evC_seq ?_ | refine evC_block ?_); intro Ψ hΨ hΨ') | (refine evC_region ?_; intro R hR) | (refine hΨ _ ?_; clear hΨ hΨ' Ψ) | refine evC_skip ?_ | refine evC_ret ?_ | refine evC_exit ?_) | ((with_reducible refine hΨ' _ _ ?_ ?_); (focus (simp; done)); clear hΨ hΨ' Ψ) | ((with_reducible apply evC_cond); rfl; rfl; all_goals (intro hc; first | (cases hc; done) | (try simp only at hc))))))
  all_goals (refine ⟨by simp, ⟨_, ?_, AV.le_refl _⟩, leH_get (by simp [leH, hget])⟩; simp only [Try.results27, resL, ldA, oneOf, go_sem])
  all_goals rfl
theorem supply_fn (w : Wl) (hw : w.ok) : Fn Try.prog 15 [wlA w] [] (wN (supplyN w)) [] := by
  have f := may1_fn true w hw
  have g := totalS_fn false w.S hw.kl
  unfold supplyN
  cases e : rightW w <;> simp only [e, if_true, if_false, Bool.false_eq_true] at f ⊢
  all_goals (refine fn_of Try.func15 rfl (by rfl) ?_; simp only [Try.ntmps15, List.length_cons, List.length_nil, Nat.reduceAdd, Nat.reduceSub, List.replicate, List.cons_append, List.nil_append])
  all_goals (repeat (any_goals (first | ((with_reducible refine evL_op ?_ ?_); rfl; intro K hK; apply opA_buildSlice_flat; rfl; rfl; (focus (simp only [go_sem]; try rfl)); (focus (simp only [go_sem]; try rfl)); rfl; (first | omega | (dsimp only; omega) | (simp only [Option.isSome_some, Option.isSome_none]; omega) | (simp; omega) | (focus (simp; done))); (first | omega | (dsimp only; omega) | (simp only [Option.isSome_some, Option.isSome_none]; omega) | (simp; omega) | (focus (simp; done))); (first | omega | (dsimp only; omega) | (simp only [Option.isSome_some, Option.isSome_none]; omega) | (simp; omega) | (focus (simp; done))); (simp only [go_sem]; rfl); rfl; (focus ((simp only [unC, Option.map_some]); (try rfl))); (simp only [go_sem]; refine hK _ ?_; clear hK K)) | ((with_reducible refine evL_call ?_ ?_ ?_); rfl; rfl; intro K hK; ((first | (apply opA_callB (f); rfl; rfl; rfl; rfl; exact Try.func22) | (apply opA_callB (g); rfl; rfl; rfl; rfl; exact Try.func50)); kernel_rfl; rfl; (simp only [go_sem]; rfl); (first | rfl | simp [AV.inNL, AV.inN])); (simp only [go_sem]; refine hK _ ?_; clear hK K)) | ((with_reducible refine evL_one ?_ ?_); rfl; intro K hK; simp only [go_sem]; ((repeat (refine ndI (by first | assumption | omega | rfl) ?_)); refine hK _ ?_; clear hK K)) | (with_reducible first | (refine evL_nil ?_; refine hR _ ?_; clear hR R) | ((first | refine evC_seq ?_ | refine evC_block ?_); intro Ψ hΨ hΨ') | (refine evC_region ?_; intro R hR) | (refine hΨ _ ?_; clear hΨ hΨ' Ψ) | refine evC_skip ?_ | refine evC_ret ?_ | refine evC_exit ?_) | ((with_reducible refine hΨ' _ _ ?_ ?_); (focus (simp; done)); clear hΨ hΨ' Ψ) | ((with_reducible apply evC_cond); rfl; rfl; all_goals (intro hc; first | (cases hc; done) | (try simp only at hc))))))
  all_goals (refine ⟨by simp, ⟨_, ?_, AV.le_refl _⟩, leH_get (by simp [leH, hget])⟩; simp only [Try.results15, resL, ldA, oneOf, go_sem])
  all_goals rfl
end Go.Proofs.Ytgdnmdnhkhpieaa
namespace Go.Proofs.Ytgdnmdnhkhpieaa
open Go.RowKit
open Nat (reduceBEq)
set_option maxRecDepth 20000
set_option maxHeartbeats 2000000
structure Rp where
  a : Int
  h : Nat
  c : Nat
  g : Int
  k : Bool
  b : Bool
def Rp.ok (r : Rp) : Prop := U r.a ∧ r.h < WW ∧ r.c < WW ∧ U r.g
def Rp.pv (r : Rp) : List PV := [.v (.int .u64 r.a), .v (.int .u64 (l0 r.h)), .v (.int .u64 (l1 r.h)), .v (.int .u64 (l2 r.h)), .v (.int .u64 (l3 r.h)), .v (.int .u64 (l0 r.c)), .v (.int .u64 (l1 r.c)), .v (.int .u64 (l2 r.c)), .v (.int .u64 (l3 r.c)), .v (.int .u64 r.g), .v (.bool r.k), .v (.bool r.b)]
theorem rp_len (r : Rp) : r.pv.length = 12 := rfl
abbrev rpV (l : List Rp) : PV := .sl false 12 l.length (l.flatMap Rp.pv)
abbrev rsl (ex : Bool) (l : List Rp) : AV := .c (.sl ex 12 l.length (l.flatMap Rp.pv))
abbrev rpA (r : Rp) : AV := .agg [vi .u64 r.a, vi .u64 (l0 r.h), vi .u64 (l1 r.h), vi .u64 (l2 r.h), vi .u64 (l3 r.h), vi .u64 (l0 r.c), vi .u64 (l1 r.c), vi .u64 (l2 r.c), vi .u64 (l3 r.c), vi .u64 r.g, vb r.k, vb r.b]
theorem rp_at {l : List Rp} {i : Nat} {y : Rp} (h : l[i]? = some y) : ((l.flatMap Rp.pv).drop (i * 12)).take 12 = [.v (.int .u64 y.a), .v (.int .u64 (l0 y.h)), .v (.int .u64 (l1 y.h)), .v (.int .u64 (l2 y.h)), .v (.int .u64 (l3 y.h)), .v (.int .u64 (l0 y.c)), .v (.int .u64 (l1 y.c)), .v (.int .u64 (l2 y.c)), .v (.int .u64 (l3 y.c)), .v (.int .u64 y.g), .v (.bool y.k), .v (.bool y.b)] := flat_at (f := Rp.pv) rp_len h
def csL (l : List Rp) : List Nat := l.map Rp.c
theorem csL_lt {l : List Rp} (ok : ∀ r ∈ l, r.ok) : ∀ x ∈ csL l, x < WW := fun x hx => by
  obtain ⟨r, hr, rfl⟩ := List.mem_map.1 hx
  exact (ok r hr).2.2.1
abbrev stC (ex : Bool) (l : List Rp) (r : Nat) (out : List Nat) (i : Int) : St := ⟨[rsl ex l, .any, .c (.v (.slice none 0 0)), .row r 35 4 out.length, .any, .any, rsl ex l, vi .i64 l.length, vi .i64 i, .any, .any, .any, .any, .any, .any, .any, .any, .any, .any], [(r, rcW out)]⟩
theorem stC_rn (ex : Bool) (l : List Rp) (out : List Nat) (i : Int) : (stC ex l 16 out i).to (stC ex l 500 out i) := by
  refine (St.to.rn (fun r => if r = 16 then 500 else r) (fun r => if r = 500 then 16 else r) [16] (by simp [AV.inNL, AV.inN]) (by simp) (by simp [inH, AV.inNL, AV.inN, inNL_rcW]) (by simp) (by simp)).trans (St.to.of_le (St.le_of (by simp [leT, AV.renL, AV.ren]) (by simp [leH, hget, renH, AV.renL, AV.ren, renL_rcW])))
theorem costs_row (ex : Bool) (l : List Rp) (hl : l.length ≤ 900) : Fn Try.prog 35 [rsl ex l] [] (.row 500 35 4 l.length) [(500, rcW (csL l))] := by
  (refine fn_of Try.func35 rfl (by rfl) ?_; simp only [Try.ntmps35, List.length_cons, List.length_nil, Nat.reduceAdd, Nat.reduceSub, List.replicate, List.cons_append, List.nil_append])
  (repeat (any_goals (first | ((with_reducible refine evL_one ?_ ?_); rfl; intro K hK; simp only [go_sem]; ((repeat (refine ndI (by first | assumption | omega | rfl) ?_)); refine hK _ ?_; clear hK K)) | (with_reducible first | (refine evL_nil ?_; refine hR _ ?_; clear hR R) | ((first | refine evC_seq ?_ | refine evC_block ?_); intro Ψ hΨ hΨ') | (refine evC_region ?_; intro R hR) | (refine hΨ _ ?_; clear hΨ hΨ' Ψ) | refine evC_skip ?_ | refine evC_ret ?_ | refine evC_exit ?_) | ((with_reducible refine hΨ' _ _ ?_ ?_); (focus (simp; done)); clear hΨ hΨ' Ψ) | ((with_reducible apply evC_cond); rfl; rfl; all_goals (intro hc; first | (cases hc; done) | (try simp only at hc))))))
  refine evC_uptoT l.length (fun i => stC ex l 500 ((l.take i).map Rp.c) i) ?_ ?_
  · refine (St.to.nilrow 3 500 35 4 rfl (by simp) (by simp [St.free, freeH, AV.refs, AV.refsL]) (by omega)).trans (St.to.of_le (St.le_of (by simp [leT]) (by simp [leH, hget, hput, rcW])))
  · intro i hi Ψ hΨ hΨ'
    have k8 : l.length < 9223372036854775808 := by omega
    have ln : ((l.take i).map Rp.c).length ≤ 900 := by rw [List.length_map, List.length_take]; omega
    rcases Nat.lt_or_ge i l.length with hlt | hge
    · obtain ⟨x, hx⟩ : ∃ x, l[i]? = some x := ⟨_, List.getElem?_eq_getElem hlt⟩
      have k1 : (decide ((i : Int) < (l.length : Int))) = true := decide_eq_true (by omega)
      have k2 := rp_at hx
      have k7 : (i : Int) + 1 = ((i + 1 : Nat) : Int) := by omega
      have k3 : (l.take (i + 1)).map Rp.c = (l.take i).map Rp.c ++ [x.c] := by rw [List.take_add_one, hx, List.map_append]; rfl
      (try dsimp only at hΨ ⊢)
      rw [k3] at hΨ
      generalize (l.take i).map Rp.c = out at hΨ ln ⊢
      have e1 := rcW_len out
      have e2 : rcW (out ++ [x.c]) = rcW out ++ (wpv x.c).map .c := by unfold rcW; rw [List.flatMap_append]; simp [List.flatMap_cons]
      have e3 : ∀ r, AV.refsL r (rcW out) = false := fun r => refsL_map r _
      (have W := ndI k1 (ndI k2 (ndI k7 (ndI e1 (ndI e3 @wrI)))); (repeat (any_goals (first | ((with_reducible refine evL_one ?_ ?_); rfl; intro K hK; simp (disch := omega) only [go_sem, W]; ((repeat (refine ndI (by first | assumption | omega | rfl) ?_)); refine hK _ ?_; clear hK K)) | (with_reducible first | (refine evL_nil ?_; refine hR _ ?_; clear hR R) | ((first | refine evC_seq ?_ | refine evC_block ?_); intro Ψ hΨ hΨ') | (refine evC_region ?_; intro R hR) | (refine hΨ _ ?_; clear hΨ hΨ' Ψ) | refine evC_skip ?_ | refine evC_ret ?_ | refine evC_exit ?_) | ((with_reducible refine hΨ' _ _ ?_ ?_); (focus (simp; done)); clear hΨ hΨ' Ψ) | ((with_reducible apply evC_cond); rfl; rfl; all_goals (intro hc; first | (cases hc; done) | (try simp only at hc)))))))
      all_goals exact hΨ _ hlt (St.to.trans (St.to.of_le (τ := stC ex l 16 (out ++ [x.c]) ((i + 1 : Nat) : Int)) (St.le_of (by simp [leT]) (by simp [leH, hget, e2, wpv]))) (stC_rn ex l _ _))
    · have k1 : (decide ((i : Int) < (l.length : Int))) = false := decide_eq_false (by omega)
      rw [List.take_of_length_le hge]
      (try dsimp only)
      (repeat (any_goals (first | ((with_reducible refine evL_one ?_ ?_); rfl; intro K hK; simp only [go_sem, k1]; ((repeat (refine ndI (by first | assumption | omega | rfl) ?_)); refine hK _ ?_; clear hK K)) | (with_reducible first | (refine evL_nil ?_; refine hR _ ?_; clear hR R) | ((first | refine evC_seq ?_ | refine evC_block ?_); intro Ψ hΨ hΨ') | (refine evC_region ?_; intro R hR) | (refine hΨ _ ?_; clear hΨ hΨ' Ψ) | refine evC_skip ?_ | refine evC_ret ?_ | refine evC_exit ?_) | ((with_reducible refine hΨ' _ _ ?_ ?_); (focus (simp; done)); clear hΨ hΨ' Ψ) | ((with_reducible apply evC_cond); rfl; rfl; all_goals (intro hc; first | (cases hc; done) | (try simp only at hc))))))
      exact ⟨by simp, ⟨_, rfl, by show AV.le (AV.row 500 35 4 (l.map Rp.c).length) _; rw [List.length_map]; exact AV.le_refl _⟩, leH_get (by simp [leH, hget, csL])⟩
abbrev twA (n : Nat) : AV := .agg [vb (decide (WW ≤ n)), vi .u64 (l0 (n % WW)), vi .u64 (l1 (n % WW)), vi .u64 (l2 (n % WW)), vi .u64 (l3 (n % WW))]
theorem both_fn (x y : Nat) (hx : x < WW) (hy : y < WW) : Fn Try.prog 25 [wN x, wN y] [] (twA (x + y)) [] := by
  have f := add_fn x y hx hy
  unfold twA
  generalize (x + y) % WW = m at f ⊢
  generalize decide (WW ≤ x + y) = q at f ⊢
  (refine fn_of Try.func25 rfl (by rfl) ?_; simp only [Try.ntmps25, List.length_cons, List.length_nil, Nat.reduceAdd, Nat.reduceSub, List.replicate, List.cons_append, List.nil_append])
  (repeat (any_goals (first | ((with_reducible refine evL_call ?_ ?_ ?_); rfl; rfl; intro K hK; ((apply opA_callB (f); rfl; rfl; rfl; rfl; exact Try.func11); kernel_rfl; rfl; (simp only [go_sem]; rfl); (first | rfl | simp [AV.inNL, AV.inN])); (simp only [go_sem]; refine hK _ ?_; clear hK K)) | ((with_reducible refine evL_one ?_ ?_); rfl; intro K hK; simp only [go_sem]; ((repeat (refine ndI (by first | assumption | omega | rfl) ?_)); refine hK _ ?_; clear hK K)) | (with_reducible first | (refine evL_nil ?_; refine hR _ ?_; clear hR R) | ((first | refine evC_seq ?_ | refine evC_block ?_); intro Ψ hΨ hΨ') | (refine evC_region ?_; intro R hR) | (refine hΨ _ ?_; clear hΨ hΨ' Ψ) | refine evC_skip ?_ | refine evC_ret ?_ | refine evC_exit ?_) | ((with_reducible refine hΨ' _ _ ?_ ?_); (focus (simp; done)); clear hΨ hΨ' Ψ) | ((with_reducible apply evC_cond); rfl; rfl; all_goals (intro hc; first | (cases hc; done) | (try simp only at hc))))))
  all_goals (refine ⟨by simp, ⟨_, ?_, AV.le_refl _⟩, leH_get (by simp [leH, hget])⟩; simp only [Try.results25, resL, ldA, oneOf, go_sem])
theorem less_fn (m n : Nat) (hm : m < 2 * WW) (hn : n < 2 * WW) : Fn Try.prog 24 [twA m, twA n] [] (vb (decide (m < n))) [] := by
  have f := cmp_fn (m % WW) (n % WW) (Nat.mod_lt _ (by decide)) (Nat.mod_lt _ (by decide))
  have hW : 0 < WW := by decide
  unfold twA
  have m1 : m % WW = if WW ≤ m then m - WW else m := by
    split
    · rw [Nat.mod_eq_sub_mod (by assumption), Nat.mod_eq_of_lt (by omega)]
    · exact Nat.mod_eq_of_lt (by omega)
  have n1 : n % WW = if WW ≤ n then n - WW else n := by
    split
    · rw [Nat.mod_eq_sub_mod (by assumption), Nat.mod_eq_of_lt (by omega)]
    · exact Nat.mod_eq_of_lt (by omega)
  generalize hx : m % WW = x at f m1 ⊢
  generalize hy : n % WW = y at f n1 ⊢
  generalize WW = W at *
  by_cases h1 : W ≤ m <;> by_cases h2 : W ≤ n
  · have e : decide ((if x < y then (-1 : Int) else if y < x then 1 else 0) < 0) = decide (m < n) := by
      rw [if_pos h1] at m1
      rw [if_pos h2] at n1
      refine decide_eq_decide.2 ?_
      repeat' split
      all_goals omega
    generalize (if x < y then (-1 : Int) else if y < x then 1 else 0) = z at f e
    rw [← e, decide_eq_true h1, decide_eq_true h2]
    (refine fn_of Try.func24 rfl (by rfl) ?_; simp only [Try.ntmps24, List.length_cons, List.length_nil, Nat.reduceAdd, Nat.reduceSub, List.replicate, List.cons_append, List.nil_append])
    (repeat (any_goals (first | ((with_reducible refine evL_call ?_ ?_ ?_); rfl; rfl; intro K hK; ((apply opA_callB (f); rfl; rfl; rfl; rfl; exact Try.func32); kernel_rfl; rfl; (simp only [go_sem, bne_self_eq_false]; rfl); (first | rfl | simp [AV.inNL, AV.inN])); (simp only [go_sem, bne_self_eq_false]; refine hK _ ?_; clear hK K)) | ((with_reducible refine evL_one ?_ ?_); rfl; intro K hK; simp only [go_sem, bne_self_eq_false]; ((repeat (refine ndI (by first | assumption | omega | rfl) ?_)); refine hK _ ?_; clear hK K)) | (with_reducible first | (refine evL_nil ?_; refine hR _ ?_; clear hR R) | ((first | refine evC_seq ?_ | refine evC_block ?_); intro Ψ hΨ hΨ') | (refine evC_region ?_; intro R hR) | (refine hΨ _ ?_; clear hΨ hΨ' Ψ) | refine evC_skip ?_ | refine evC_ret ?_ | refine evC_exit ?_) | ((with_reducible refine hΨ' _ _ ?_ ?_); (focus (simp; done)); clear hΨ hΨ' Ψ) | ((with_reducible apply evC_cond); rfl; rfl; all_goals (intro hc; first | (cases hc; done) | (try simp only at hc))))))
    all_goals (refine ⟨by simp, ⟨_, ?_, AV.le_refl _⟩, leH_get (by simp [leH, hget])⟩; simp only [Try.results24, resL, ldA, oneOf, go_sem])
  · rw [decide_eq_false (show ¬ m < n by omega), decide_eq_true h1, decide_eq_false h2]
    (refine fn_of Try.func24 rfl (by rfl) ?_; simp only [Try.ntmps24, List.length_cons, List.length_nil, Nat.reduceAdd, Nat.reduceSub, List.replicate, List.cons_append, List.nil_append])
    (repeat (any_goals (first | ((with_reducible refine evL_one ?_ ?_); rfl; intro K hK; simp only [go_sem, bne_self_eq_false]; ((repeat (refine ndI (by first | assumption | omega | rfl) ?_)); refine hK _ ?_; clear hK K)) | (with_reducible first | (refine evL_nil ?_; refine hR _ ?_; clear hR R) | ((first | refine evC_seq ?_ | refine evC_block ?_); intro Ψ hΨ hΨ') | (refine evC_region ?_; intro R hR) | (refine hΨ _ ?_; clear hΨ hΨ' Ψ) | refine evC_skip ?_ | refine evC_ret ?_ | refine evC_exit ?_) | ((with_reducible refine hΨ' _ _ ?_ ?_); (focus (simp; done)); clear hΨ hΨ' Ψ) | ((with_reducible apply evC_cond); rfl; rfl; all_goals (intro hc; first | (cases hc; done) | (try simp only at hc))))))
    all_goals (refine ⟨by simp, ⟨_, ?_, AV.le_refl _⟩, leH_get (by simp [leH, hget])⟩; simp only [Try.results24, resL, ldA, oneOf, go_sem])
  · rw [decide_eq_true (show m < n by omega), decide_eq_false h1, decide_eq_true h2]
    (refine fn_of Try.func24 rfl (by rfl) ?_; simp only [Try.ntmps24, List.length_cons, List.length_nil, Nat.reduceAdd, Nat.reduceSub, List.replicate, List.cons_append, List.nil_append])
    (repeat (any_goals (first | ((with_reducible refine evL_one ?_ ?_); rfl; intro K hK; simp only [go_sem, bne_self_eq_false]; ((repeat (refine ndI (by first | assumption | omega | rfl) ?_)); refine hK _ ?_; clear hK K)) | (with_reducible first | (refine evL_nil ?_; refine hR _ ?_; clear hR R) | ((first | refine evC_seq ?_ | refine evC_block ?_); intro Ψ hΨ hΨ') | (refine evC_region ?_; intro R hR) | (refine hΨ _ ?_; clear hΨ hΨ' Ψ) | refine evC_skip ?_ | refine evC_ret ?_ | refine evC_exit ?_) | ((with_reducible refine hΨ' _ _ ?_ ?_); (focus (simp; done)); clear hΨ hΨ' Ψ) | ((with_reducible apply evC_cond); rfl; rfl; all_goals (intro hc; first | (cases hc; done) | (try simp only at hc))))))
    all_goals (refine ⟨by simp, ⟨_, ?_, AV.le_refl _⟩, leH_get (by simp [leH, hget])⟩; simp only [Try.results24, resL, ldA, oneOf, go_sem])
  · have e : decide ((if x < y then (-1 : Int) else if y < x then 1 else 0) < 0) = decide (m < n) := by
      rw [if_neg h1] at m1
      rw [if_neg h2] at n1
      refine decide_eq_decide.2 ?_
      repeat' split
      all_goals omega
    generalize (if x < y then (-1 : Int) else if y < x then 1 else 0) = z at f e
    rw [← e, decide_eq_false h1, decide_eq_false h2]
    (refine fn_of Try.func24 rfl (by rfl) ?_; simp only [Try.ntmps24, List.length_cons, List.length_nil, Nat.reduceAdd, Nat.reduceSub, List.replicate, List.cons_append, List.nil_append])
    (repeat (any_goals (first | ((with_reducible refine evL_call ?_ ?_ ?_); rfl; rfl; intro K hK; ((apply opA_callB (f); rfl; rfl; rfl; rfl; exact Try.func32); kernel_rfl; rfl; (simp only [go_sem, bne_self_eq_false]; rfl); (first | rfl | simp [AV.inNL, AV.inN])); (simp only [go_sem, bne_self_eq_false]; refine hK _ ?_; clear hK K)) | ((with_reducible refine evL_one ?_ ?_); rfl; intro K hK; simp only [go_sem, bne_self_eq_false]; ((repeat (refine ndI (by first | assumption | omega | rfl) ?_)); refine hK _ ?_; clear hK K)) | (with_reducible first | (refine evL_nil ?_; refine hR _ ?_; clear hR R) | ((first | refine evC_seq ?_ | refine evC_block ?_); intro Ψ hΨ hΨ') | (refine evC_region ?_; intro R hR) | (refine hΨ _ ?_; clear hΨ hΨ' Ψ) | refine evC_skip ?_ | refine evC_ret ?_ | refine evC_exit ?_) | ((with_reducible refine hΨ' _ _ ?_ ?_); (focus (simp; done)); clear hΨ hΨ' Ψ) | ((with_reducible apply evC_cond); rfl; rfl; all_goals (intro hc; first | (cases hc; done) | (try simp only at hc))))))
    all_goals (refine ⟨by simp, ⟨_, ?_, AV.le_refl _⟩, leH_get (by simp [leH, hget])⟩; simp only [Try.results24, resL, ldA, oneOf, go_sem])
end Go.Proofs.Ytgdnmdnhkhpieaa
namespace Go.Proofs.Ytgdnmdnhkhpieaa
open Go.RowKit Go.MapKept
section
variable {S S' : Nat → Prop} {ι : Nat → Nat × Nat × Nat} {w w' : World}
end
section
variable {E : Env} {ι : Nat → Nat × Nat × Nat} {σ : St} {a : Act} {w : World} {b clk clk' : Nat} {X X' : Array MapEntry}
end

/-! maps from numbers, by lists -/
section
variable {V : Type}
end
section
variable {P : Program} {o : Oper} {σ : St} {K : St → Prop} {V : Type}
theorem opE_makeMap {E0 : Env} {t : TypeId} (ho : o.op = .makeMap t none) (hK : ∀ b, E0.w.heap.size ≤ b → K (σ.put o.dst (.c (.mp b [])))) : OpE (fun E => E = E0) P o σ K := by
  intro E ι a w hE hc K' Q hK'
  subst hE
  have hS : Sx E ι σ.H w.heap.size := by
    refine ⟨.inr (.inl hc.keep.size), fun r cs hr hz e => ?_⟩
    rcases hc.heap.blk r cs hr with ⟨h0, _⟩ | ⟨cur, hh, _⟩
    · exact hz h0
    · have := (Array.getElem?_eq_some_iff.1 hh).1
      omega
  have hc1 := hc.alloc (.map #[] 0)
  have hnew : (w.alloc (.map #[] 0)).heap[w.heap.size]? = some (.map #[] 0) := World.alloc_heap_new w _
  have hr : (execOp a.eval o).run P w = .ok (.value (.map (some w.heap.size))) (w.alloc (.map #[] 0)) := by
    unfold execOp
    simp only [ho]
    rfl
  have h2 := hK' ι _ _ _ (hK w.heap.size hc.keep.size) (hc1.put o.dst (.c _ _ (.mp w.heap.size [] #[] 0 hS hnew rfl)))
  refine wpIn_of_wp (by unfold opNd; rw [ho]) ?_
  unfold Oper.wp
  rw [hr]
  exact h2
def OpW (p : Env → Prop) (P : Program) (o : Oper) (σ : St) (K : St → Prop) : Prop :=
  ∀ (E : Env) (ι : Nat → Nat × Nat × Nat) (a : Act) (w : World), p E → Conc E ι σ a w → ∀ (K' : Act → World → Prop) (Q : Exit → Act → World → Prop), (∀ ι' σ' a' w', K σ' → Conc E ι' σ' a' w' → K' a' w') → o.wp P a w K' Q
theorem OpA.toW {p : Env → Prop} (h : OpA P o σ K) : OpW p P o σ K := fun E ι a w _ hc => h E ι a w hc
end
/-! sets, by lists: maps to bools whose keys are of many cells -/
theorem RV.vals {S : Nat → Prop} {ι : Nat → Nat × Nat × Nat} {w : World} {v : Value} {xs : List Value} (h : RV S ι w v (.agg (xs.map fun x => .c (.v x)))) : v = .agg xs.toArray := by
  cases h with
  | agg us _ hl _ hu =>
    have : us = xs := by
      refine List.ext_getElem? fun j => ?_
      rw [List.length_map] at hl
      rcases Nat.lt_or_ge j us.length with h | h
      · have h1 := hu j us[j] (.c (.v xs[j])) (List.getElem?_eq_getElem h) (by simp [show j < xs.length by omega])
        rw [List.getElem?_eq_getElem h, List.getElem?_eq_getElem (show j < xs.length by omega), h1.v_inv.1]
      · rw [List.getElem?_eq_none h, List.getElem?_eq_none (by omega)]
    rw [this]
section
variable {P : Program} {o : Oper} {σ : St} {K : St → Prop} {κ : Type}
end
section
variable {p : Env → Prop} {P : Program} {σ : St} {Φ : Exit → St → Prop}
theorem AWE.seqI {x y : Code} (h : ∀ Ψ : Exit → St → Prop, (∀ σ', AWE p P y σ' Φ → Ψ .normal σ') → (∀ ex σ', ex ≠ .normal → Φ ex σ' → Ψ ex σ') → AWE p P x σ Ψ) : AWE p P (.seq x y) σ Φ :=
  AWE.seq (h _ (fun _ h => h) fun ex σ' hne h' => by
    cases ex with
    | normal => exact absurd rfl hne
    | _ => exact h')
theorem AWE.blockI {id : Nat} {x : Code} (h : ∀ Ψ : Exit → St → Prop, (∀ σ', Φ .normal σ' → Ψ (.exit id) σ') → (∀ ex σ', (∀ j, ex = .exit j → j ≠ id) → Φ ex σ' → Ψ ex σ') → AWE p P x σ Ψ) : AWE p P (.block id x) σ Φ :=
  AWE.block (h _ (fun σ' h' => by show (if id = id then _ else _); rw [if_pos rfl]; exact h') fun ex σ' hne h' => by
    cases ex with
    | exit j => show (if j = id then _ else _); rw [if_neg (hne j rfl)]; exact h'
    | _ => exact h')
theorem AWE.regionI {id : Nat} {l : List Oper} (k : Nat) {o : Oper} (hk : l[k]? = some o) (n0 : l.all (fun x => opNd x) = true) (hg : o.guard = none)
    (h : ∀ R : St → Prop, (∀ σ1, (OpE p P o σ1 fun σ2 => ∀ R2 : St → Prop, (∀ σ', Φ .normal σ' → R2 σ') → evL P l.toArray (l.drop (k + 1)) σ2 R2) → R σ1) → evL P l.toArray (l.take k) σ R) : AWE p P (.region id l.toArray false) σ Φ :=
  AWE.region_at k hk n0 fun R hR => h R fun σ1 h1 => hR σ1 ⟨.inl hg, h1⟩
end
def isMapW (o : Oper) : Bool := match o.op with | .mapUpdate _ _ _ _ => true | .makeMap _ _ => true | _ => false
section
variable {p : Env → Prop} {P : Program} {σ : St} {Φ : Exit → St → Prop}
theorem AWE.regionM {id : Nat} {l : List Oper} {k : Nat} {o : Oper} (hf : l.findIdx? isMapW = some k) (hk : l[k]? = some o) (n0 : l.all (fun x => opNd x) = true) (hg : o.guard = none)
    (h : ∀ R : St → Prop, (∀ σ1, (OpE p P o σ1 fun σ2 => ∀ R2 : St → Prop, (∀ σ', Φ .normal σ' → R2 σ') → evL P l.toArray (l.drop (k + 1)) σ2 R2) → R σ1) → evL P l.toArray (l.take k) σ R) : AWE p P (.region id l.toArray false) σ Φ :=
  AWE.regionI k hk n0 hg h
theorem AWE.ofR {id : Nat} {ops : Array Oper} (h : evC P (.region id ops false) σ Φ) : AWE p P (.region id ops false) σ Φ := AWE.of h
theorem AWE.ofRD {id : Nat} {ops : Array Oper} (h : evC P (.region id ops true) σ Φ) : AWE p P (.region id ops true) σ Φ := AWE.of h
theorem AWE.ofSkip (h : Φ .normal σ) : AWE p P .skip σ Φ := AWE.of (evC_skip h)
theorem AWE.ofRet (h : Φ .ret σ) : AWE p P .ret σ Φ := AWE.of (evC_ret h)
theorem AWE.ofExit {id : Nat} (h : Φ (.exit id) σ) : AWE p P (.exit id) σ Φ := AWE.of (evC_exit h)
end
theorem AWE.drawJ {p : Env → Prop} {P : Program} {id : Nat} {l : List Oper} {σ0 : St} {Φ : Exit → St → Prop} (hm : P.follows .mixedOrders = true) (hback : edgesBack l = true) (hgl : guardless l = true) (J : (Nat → Bool) → St) (h0 : σ0.to (J fun _ => false))
    (hE : ∀ (L : Nat → Bool) (i : Nat) (o : Oper), l[i]? = some o → L i = false → closedL l L → (∀ e ∈ o.after, Region.binds .any e = true → L e.on = true) → isMapW o = false → ∀ R : St → Prop, (∀ σ', σ'.to (J fun j => if j = i then true else L j) → R σ') → evL P #[] [o] (J L) R)
    (hW : ∀ (L : Nat → Bool) (i : Nat) (o : Oper), l[i]? = some o → L i = false → closedL l L → (∀ e ∈ o.after, Region.binds .any e = true → L e.on = true) → isMapW o = true → OpW p P o (J L) fun σ' => σ'.to (J fun j => if j = i then true else L j))
    (hΦ : ∀ L, (∀ j, j < l.length → L j = true) → Φ .normal (J L)) : AWE p P (.region id l.toArray true) σ0 Φ := by
  intro E ι a w hp hc
  refine wp_region_any hm ?_
  obtain ⟨ι0, hc0⟩ := h0 E ι a w hc
  have hd0 := hc0.drawn (w.drawn + 1)
  generalize ({ w with drawn := w.drawn + 1 } : World) = w0 at hd0
  have step : ∀ (L : Nat → Bool) (i : Nat) (o : Oper), l[i]? = some o → L i = false → closedL l L → (∀ e ∈ o.after, Region.binds .any e = true → L e.on = true) → OpW p P o (J L) fun σ' => σ'.to (J fun j => if j = i then true else L j) := fun L i o h1 h2 h3 h4 => by
    cases hk : isMapW o with
    | true => exact hW L i o h1 h2 h3 h4 hk
    | false =>
      have hg : o.guard = none := by
        have := List.all_eq_true.1 hgl o (List.mem_of_getElem? h1)
        simpa using this
      have := hE L i o h1 h2 h3 h4 hk _ fun _ h => h
      unfold evL at this
      rw [hg] at this
      exact OpA.toW this
  have hready : ∀ (listed : Array Bool) (i : Nat), listed.size = l.length → i ∈ Region.ready .any l.toArray listed → ∃ o, l[i]? = some o ∧ listed.getD i false = false ∧ ∀ e ∈ o.after, Region.binds .any e = true → listed.getD e.on false = true := fun listed i hsz hi => ready_of hsz hi
  have key : ∀ (fuel : Nat) (listed : Array Bool) (a : Act) (w : World) (ι : Nat → Nat × Nat × Nat), listed.size = l.length → closedL l (fun j => listed.getD j false) → cntL (fun j => listed.getD j false) l.length ≤ fuel →
      Conc E ι (J fun j => listed.getD j false) a w → wpAny P .any l.toArray (fun ex a' w' => ∃ ι' σ', Conc E ι' σ' a' w' ∧ Φ ex σ') fuel listed a w := by
    intro fuel
    induction fuel with
    | zero =>
      intro listed a w ι hsz hcl hcnt hc
      have hall := cntL_zero (L := fun j => listed.getD j false) l.length (by omega)
      refine ⟨?_, ι, _, hc, hΦ _ hall⟩
      refine List.eq_nil_iff_forall_not_mem.2 fun i hi => ?_
      obtain ⟨o, ho, hu, _⟩ := hready listed i hsz hi
      have : listed.getD i false = true := hall i (List.getElem?_eq_some_iff.1 ho).1
      rw [hu] at this; cases this
    | succ fuel ih =>
      intro listed a w ι hsz hcl hcnt hc
      refine ⟨fun hnil => ⟨ι, _, hc, hΦ _ fun j hj => ?_⟩, fun i hi => ?_⟩
      · refine Classical.byContradiction fun hn => ?_
        have key2 : ∀ m, (∃ j, j < m ∧ j < l.length ∧ listed.getD j false = false) → ∃ j, j < l.length ∧ listed.getD j false = false ∧ ∀ k, k < j → listed.getD k false = true := by
          intro m
          induction m with
          | zero => rintro ⟨j, hj, _⟩; omega
          | succ m ihm =>
            rintro ⟨j, hj, hjl, hju⟩
            by_cases hlow : ∃ k, k < m ∧ k < l.length ∧ listed.getD k false = false
            · exact ihm hlow
            · refine ⟨j, hjl, hju, fun k hk => Classical.byContradiction fun hku => hlow ⟨k, by omega, by omega, by simpa using hku⟩⟩
        obtain ⟨j, hjl, hju, hlow⟩ := key2 l.length ⟨j, hj, hj, by simpa using hn⟩
        have ho : l[j]? = some l[j] := List.getElem?_eq_getElem hjl
        have hb := List.all_eq_true.1 hback j (by simpa using hjl)
        simp only [ho, Array.all_eq_true_iff_forall_mem, Bool.or_eq_true, Bool.not_eq_true', decide_eq_true_eq] at hb
        have hmem : j ∈ Region.ready .any l.toArray listed := by
          unfold Region.ready
          rw [List.mem_filter]
          refine ⟨by simpa using hjl, ?_⟩
          simp only [Bool.and_eq_true, Bool.not_eq_true', List.getElem?_toArray, ho, Option.map_some, Option.getD_some, Array.all_eq_true_iff_forall_mem]
          refine ⟨?_, fun e he => ?_⟩
          · simp only [Array.getD, hsz, hjl, dif_pos] at hju ⊢
            exact hju
          · rcases hb e he with h | h
            · simp [h]
            · simp [hlow e.on h]
        rw [hnil] at hmem; cases hmem
      · obtain ⟨o, ho, hu, hpre⟩ := hready listed i hsz hi
        have hil := (List.getElem?_eq_some_iff.1 ho).1
        have hset : ∀ j, j ≠ i → (listed.setIfInBounds i true).getD j false = listed.getD j false := fun j hj => by
          simp [Array.getD_eq_getD_getElem?, Array.getElem?_setIfInBounds_ne (Ne.symm hj)]
        have hset' : (listed.setIfInBounds i true).getD i false = true := by
          simp [Array.getD, hsz, hil]
        have hcl' : closedL l (fun j => (listed.setIfInBounds i true).getD j false) := fun j x hx hLj ed hed hb => by
          by_cases hj : j = i
          · subst hj
            rw [ho] at hx; cases hx
            have := hpre ed hed hb
            show (listed.setIfInBounds j true).getD ed.on false = true
            by_cases h : ed.on = j
            · rw [h]; exact hset'
            · rw [hset _ h]; exact this
          · have hLj' : listed.getD j false = true := by rw [← hset j hj]; exact hLj
            have := hcl j x hx hLj' ed hed hb
            show (listed.setIfInBounds i true).getD ed.on false = true
            by_cases h : ed.on = i
            · rw [h]; exact hset'
            · rw [hset _ h]; exact this
        have hcnt' : cntL (fun j => (listed.setIfInBounds i true).getD j false) l.length ≤ fuel := by
          have := (cntL_set (L := fun j => listed.getD j false) (L' := fun j => (listed.setIfInBounds i true).getD j false) hu hset' hset l.length).1 hil
          omega
        have hfun : (fun j => (listed.setIfInBounds i true).getD j false) = fun j => if j = i then true else listed.getD j false := by
          funext j
          by_cases hj : j = i
          · rw [if_pos hj, hj]; exact hset'
          · rw [if_neg hj]; exact hset j hj
        have hg : o.guard = none := by
          have := List.all_eq_true.1 hgl o (List.mem_of_getElem? ho)
          simpa using this
        unfold wpOp
        simp only [List.getElem?_toArray, ho]
        have hw : Region.wanted o (yielded l.toArray a.tmps) = true := by simp [Region.wanted, hg]
        rw [if_pos hw]
        refine .inl (step _ i o ho hu hcl hpre E ι a w hp hc _ _ fun ι' σ' a' w' hk hc' => ?_)
        obtain ⟨ι2, hc2⟩ := hk E ι' a' w' hc'
        exact ih _ a' w' ι2 (by simpa using hsz) hcl' hcnt' (by rw [hfun]; exact hc2)
  have hempty : (fun j => (Array.replicate l.length false).getD j false) = fun _ => false := by
    funext j
    simp [Array.getD_eq_getD_getElem?, Array.getElem?_replicate]
    split <;> rfl
  have hkey := key l.length (Array.replicate l.length false) a w0 ι0 (by simp) (by rw [hempty]; intro j x hx hL; cases hL) (by
    rw [hempty]
    have : ∀ k, cntL (fun _ => false) k ≤ k := by
      intro k
      induction k with
      | zero => exact Nat.le_refl _
      | succ k ih => unfold cntL; split <;> omega
    exact this _) (by rw [hempty]; exact hd0)
  simpa using hkey
def ifv (c : Bool) (x : AV) : AV := if c = true then x else .any
theorem ifv_true (x : AV) : ifv true x = x := rfl
theorem Fn.known {P : Program} {f : FuncId} {args : List AV} {H0 H1 : List (Nat × List AV)} {res : AV} (h : ∀ E0, FnW (fun E => E = E0) P f args H0 res H1) : Fn P f args H0 res H1 := fun E vs => h E E vs rfl
end Go.Proofs.Ytgdnmdnhkhpieaa
namespace Go.Proofs.Ytgdnmdnhkhpieaa
open Go.RowKit
open Nat (reduceBEq)
set_option maxRecDepth 20000
set_option maxHeartbeats 2000000
structure Tn where
  w : Wl
  v : Wl
  r : List Rp
  f : Int
  m : Nat
  b : Nat
structure Tn.ok (t : Tn) : Prop where
  w : t.w.ok
  v : t.v.ok
  r : t.r.length ≤ 900 ∧ ∀ x ∈ t.r, x.ok
  f : U t.f
  m : t.m < WW
  b : t.b < WW
def Tn.pv (t : Tn) : List PV := [acV t.w.S, hdV t.w.L, noV t.w.N, acV t.v.S, hdV t.v.L, noV t.v.N, rpV t.r, .v (.int .u64 t.f), .v (.int .u64 (l0 t.m)), .v (.int .u64 (l1 t.m)), .v (.int .u64 (l2 t.m)), .v (.int .u64 (l3 t.m)), .v (.int .u64 (l0 t.b)), .v (.int .u64 (l1 t.b)), .v (.int .u64 (l2 t.b)), .v (.int .u64 (l3 t.b))]
abbrev tnA (t : Tn) : AV := .agg [.c (acV t.w.S), .c (hdV t.w.L), .c (noV t.w.N), .c (acV t.v.S), .c (hdV t.v.L), .c (noV t.v.N), .c (rpV t.r), vi .u64 t.f, vi .u64 (l0 t.m), vi .u64 (l1 t.m), vi .u64 (l2 t.m), vi .u64 (l3 t.m), vi .u64 (l0 t.b), vi .u64 (l1 t.b), vi .u64 (l2 t.b), vi .u64 (l3 t.b)]
def brkE (t : Tn) : Bool := decide (hasN t.v + owesN t.w < hasN t.w + owesN t.v)
def brkS (t : Tn) : Bool := !decide (supplyN t.v + t.b = supplyN t.w + t.m)
def brkC (t : Tn) : Bool := t.r.any fun r => decide (r.h < r.c)
def balN (w : Wl) (a : Int) : Nat := (OfS w.S a).b
def brkF (t : Tn) : Bool := !decide (t.f = 0) && (decide (WW ≤ (csL t.r ++ [balN t.w t.f]).sum) || decide (balN t.v t.f < (csL t.r ++ [balN t.w t.f]).sum % WW))
theorem two_eq (w : World) (p q : Bool) (a b c d a' b' c' d' : Int) : (Op.equal 75 (.agg #[.bool p, .int .u64 a, .int .u64 b, .int .u64 c, .int .u64 d]) (.agg #[.bool q, .int .u64 a', .int .u64 b', .int .u64 c', .int .u64 d'])).run Try.prog w = .ok (p == q && (a == a' && (b == b' && (c == c' && d == d')))) w := by
  have h1 := fun w => run_equalIn_agg (P := Try.prog) w 9999 75 #[.bool p, .int .u64 a, .int .u64 b, .int .u64 c, .int .u64 d] #[.bool q, .int .u64 a', .int .u64 b', .int .u64 c', .int .u64 d'] (by kernel_rfl) (by kernel_rfl)
  have h2 : Op.maxDepth = 9999 + 1 := rfl
  unfold Op.equal
  rw [h2, h1]
  obtain ⟨f1, f2, h3, h4, h5, h6, h7, h8, h9⟩ : ∃ f1 f2 : Field, (Try.prog.fieldsOf 75).toList = [f1, f2] ∧ f1.type = 4 ∧ f2.type = 35 ∧ f1.offset = 0 ∧ f2.offset = 1 ∧ f1.name = "over" ∧ f2.name = "rest" :=
    ⟨(Try.prog.fieldsOf 75).toList.head!, (Try.prog.fieldsOf 75).toList.tail.head!, by kernel_rfl, by kernel_rfl, by kernel_rfl, by kernel_rfl, by kernel_rfl, by kernel_rfl, by kernel_rfl⟩
  have hw := (eqAt_of (P := Try.prog) 3 35 (by kernel_rfl) 9996 4 true w [.int .u64 a, .int .u64 b, .int .u64 c, .int .u64 d] [.int .u64 a', .int .u64 b', .int .u64 c', .int .u64 d'] (a == a' && (b == b' && (c == c' && d == d'))) (by kernel_rfl) (by kernel_rfl) rfl rfl (by simp [eqVs])).1
  have hb := run_equalIn_bool (P := Try.prog) w 9998 4 p q (by kernel_rfl)
  simp only [vOf, if_true, Nat.reduceAdd] at hw hb
  generalize (a == a' && (b == b' && (c == c' && d == d'))) = r at hw ⊢
  rw [h3]
  simp [h4, h5, h6, h7, h8, h9, hw, hb, go_sem]
  by_cases e : p = q <;> cases r <;> simp [e]
theorem two_op {σ : St} {o : Oper} {x y : Operand} {p q : Bool} {a b c d a' b' c' d' : Int} (ho : o.op = .binOp .neq 75 x y 75) (hx : okConst x = true) (hy : okConst y = true)
    (h1 : σ.ev x = .agg [vb p, vi .u64 a, vi .u64 b, vi .u64 c, vi .u64 d]) (h2 : σ.ev y = .agg [vb q, vi .u64 a', vi .u64 b', vi .u64 c', vi .u64 d']) : OpF Try.prog o σ.ev (hget σ.H) (vb (!(p == q && (a == a' && (b == b' && (c == c' && d == d')))))) [] [] := fun τ hA _ => by
  have e1 : τ.ev x = σ.ev x := hA x (by rw [ho]; simp [Op.operands])
  have e2 : τ.ev y = σ.ev y := hA y (by rw [ho]; simp [Op.operands])
  refine opA_val _ (by cases o.dst <;> rfl) fun E ι s w h => ?_
  have hxv := h.ev x hx
  rw [e1, h1] at hxv
  have hyv := h.ev y hy
  rw [e2, h2] at hyv
  have g1 := RV.vals (xs := [.bool p, .int .u64 a, .int .u64 b, .int .u64 c, .int .u64 d]) hxv
  have g2 := RV.vals (xs := [.bool q, .int .u64 a', .int .u64 b', .int .u64 c', .int .u64 d']) hyv
  refine ⟨_, ?_, rv_const _ rfl⟩
  have hguard : ∀ x' y', (eqGuard .neq 75 x' y' (s.eval x) (s.eval y)).run Try.prog w = .ok () w := by
    intro x' y'
    rw [g1, g2]
    unfold eqGuard
    have hgu : Try.prog.eqGuardType Try.prog.depth 75 = false := by kernel_rfl
    simp [hgu]
  have g3 : binOp .neq 75 (s.eval x) (s.eval y) = (do pure (.bool (!(← Op.equal 75 (s.eval x) (s.eval y))))) := by rw [g1, g2]; rfl
  have heq := two_eq w p q a b c d a' b' c' d'
  simp only [execOp, ho, Sem.run_bind, hguard, Result.andThen_ok, g3, Sem.run_pure]
  rw [g1, g2]
  simp only [heq, Sem.run_bind, Result.andThen_ok, Sem.run_pure]
theorem brk1_fn (t : Tn) (ht : t.ok) : Fn Try.prog 23 [.ep t.pv] [] (vb (brkE t)) [] := by
  have f1 := has_fn t.v ht.v
  have f2 := owes_fn t.w ht.w
  have f3 := has_fn t.w ht.w
  have f4 := owes_fn t.v ht.v
  have g1 := both_fn (hasN t.v) (owesN t.w) (hasN_lt ht.v) (owesN_lt _)
  have g2 := both_fn (hasN t.w) (owesN t.v) (hasN_lt ht.w) (owesN_lt _)
  have b1 := hasN_lt ht.v
  have b2 := owesN_lt t.w
  have b3 := hasN_lt ht.w
  have b4 := owesN_lt t.v
  have g3 := less_fn (hasN t.v + owesN t.w) (hasN t.w + owesN t.v) (by omega) (by omega)
  clear b1 b2 b3 b4
  unfold brkE
  generalize decide (hasN t.v + owesN t.w < hasN t.w + owesN t.v) = q at g3 ⊢
  unfold twA at g1 g2 g3
  generalize decide (WW ≤ hasN t.v + owesN t.w) = q1 at g1 g3
  generalize (hasN t.v + owesN t.w) % WW = m1 at g1 g3
  generalize decide (WW ≤ hasN t.w + owesN t.v) = q2 at g2 g3
  generalize (hasN t.w + owesN t.v) % WW = m2 at g2 g3
  generalize hasN t.v = n1 at f1 g1
  generalize owesN t.w = n2 at f2 g1
  generalize hasN t.w = n3 at f3 g2
  generalize owesN t.v = n4 at f4 g2
  unfold Tn.pv
  (refine fn_of Try.func23 rfl (by rfl) ?_; simp only [Try.ntmps23, List.length_cons, List.length_nil, Nat.reduceAdd, Nat.reduceSub, List.replicate, List.cons_append, List.nil_append])
  (repeat (any_goals (first | ((with_reducible refine evL_one ?_ ?_); rfl; intro K hK; simp only [go_sem]; ((repeat (refine ndI (by first | assumption | omega | rfl) ?_)); refine hK _ ?_; clear hK K)) | (with_reducible first | (refine evL_nil ?_; refine hR _ ?_; clear hR R) | ((first | refine evC_seq ?_ | refine evC_block ?_); intro Ψ hΨ hΨ') | (refine evC_region ?_; intro R hR) | (refine hΨ _ ?_; clear hΨ hΨ' Ψ) | refine evC_skip ?_ | refine evC_ret ?_ | refine evC_exit ?_) | ((with_reducible refine hΨ' _ _ ?_ ?_); (focus (simp; done)); clear hΨ hΨ' Ψ) | ((with_reducible apply evC_cond); rfl; rfl; all_goals (intro hc; first | (cases hc; done) | (try simp only at hc))) | ((with_reducible refine evD_nil ?_ ?_); kernel_rfl; (with_reducible refine hR _ ?_); clear hR R) | ((first | ((with_reducible apply evD_fcall); rfl; rfl; (first | ((apply opF_callB (g3); rfl; rfl; rfl; rfl; exact Try.func24); kernel_rfl; rfl; (simp only [go_sem]; rfl); (first | rfl | simp [AV.inNL, AV.inN])) | ((apply opF_callB (f1); rfl; rfl; rfl; rfl; exact Try.func26); kernel_rfl; rfl; (simp only [go_sem]; rfl); (first | rfl | simp [AV.inNL, AV.inN])) | ((apply opF_callB (f2); rfl; rfl; rfl; rfl; exact Try.func27); kernel_rfl; rfl; (simp only [go_sem]; rfl); (first | rfl | simp [AV.inNL, AV.inN])) | ((apply opF_callB (f3); rfl; rfl; rfl; rfl; exact Try.func26); kernel_rfl; rfl; (simp only [go_sem]; rfl); (first | rfl | simp [AV.inNL, AV.inN])) | ((apply opF_callB (f4); rfl; rfl; rfl; rfl; exact Try.func27); kernel_rfl; rfl; (simp only [go_sem]; rfl); (first | rfl | simp [AV.inNL, AV.inN])) | ((apply opF_callB (g1); rfl; rfl; rfl; rfl; exact Try.func25); kernel_rfl; rfl; (simp only [go_sem]; rfl); (first | rfl | simp [AV.inNL, AV.inN])) | ((apply opF_callB (g2); rfl; rfl; rfl; rfl; exact Try.func25); kernel_rfl; rfl; (simp only [go_sem]; rfl); (first | rfl | simp [AV.inNL, AV.inN])))) | ((with_reducible apply evD_any); rfl; rfl; (simp only [rdE, rdOf, go_sem]; rfl); (intro τ hA hQ hN; ((try simp only [agree, Op.operands, Call.operands, go_sem, List.mem_cons, List.not_mem_nil, forall_eq_or_imp, forall_eq, List.append_toArray, Option.toArray] at hA); (try simp only [go_sem, List.mem_cons, List.not_mem_nil, forall_eq_or_imp, forall_eq] at hQ hN); (first | (revert hA; intro hA) | have hA := trivial); (first | (revert hQ; intro hQ) | have hQ := trivial); (first | (revert hN; intro hN) | have hN := trivial); simp only [go_sem, hA, hQ, hN]; (repeat (refine ndI (by first | assumption | omega | rfl) ?_)); (first | apply eff_rd | apply eff_st | apply eff_nw))))); (simp only [St.eff, setO, hputs, go_sem])) | ((with_reducible refine evC_draw ?_ ?_ ?_ ?_); kernel_rfl; kernel_rfl; (first | kernel_rfl | simp [newNames, isNew, St.free, freeH, AV.refsL, AV.refs]); intro R hR))))
  all_goals (refine ⟨by simp, ⟨_, ?_, AV.le_refl _⟩, leH_get (by simp [leH, hget])⟩; simp only [Try.results23, resL, ldA, oneOf, go_sem])
theorem brk2_fn (t : Tn) (ht : t.ok) : Fn Try.prog 28 [.ep t.pv] [] (vb (brkS t)) [] := by
  have f1 := supply_fn t.v ht.v
  have f2 := supply_fn t.w ht.w
  have g1 := both_fn (supplyN t.v) t.b (supplyN_lt _) ht.b
  have g2 := both_fn (supplyN t.w) t.m (supplyN_lt _) ht.m
  have e : (!(decide (WW ≤ supplyN t.v + t.b) == decide (WW ≤ supplyN t.w + t.m) && (l0 ((supplyN t.v + t.b) % WW) == l0 ((supplyN t.w + t.m) % WW) && (l1 ((supplyN t.v + t.b) % WW) == l1 ((supplyN t.w + t.m) % WW) && (l2 ((supplyN t.v + t.b) % WW) == l2 ((supplyN t.w + t.m) % WW) && l3 ((supplyN t.v + t.b) % WW) == l3 ((supplyN t.w + t.m) % WW)))))) = brkS t := by
    unfold brkS
    congr 1
    rw [wN_eq (Nat.mod_lt _ (by decide)) (Nat.mod_lt _ (by decide))]
    have h1 := supplyN_lt t.v
    have h2 := supplyN_lt t.w
    have h3 := ht.b
    have h4 := ht.m
    generalize supplyN t.v = a at *
    generalize supplyN t.w = b at *
    generalize t.b = c at *
    generalize t.m = d at *
    have hW : 0 < WW := by decide
    generalize WW = W at *
    have m0 : ∀ x, x < 2 * W → (W ≤ x ∧ x % W = x - W) ∨ (¬ W ≤ x ∧ x % W = x) := fun x hx => by
      by_cases h : W ≤ x
      · exact .inl ⟨h, by rw [Nat.mod_eq_sub_mod h, Nat.mod_eq_of_lt (by omega)]⟩
      · exact .inr ⟨h, Nat.mod_eq_of_lt (by omega)⟩
    rw [Bool.eq_iff_iff, Bool.and_eq_true, beq_iff_eq, decide_eq_decide, decide_eq_true_eq, decide_eq_true_eq]
    rcases m0 (a + c) (by omega) with ⟨h5, m1⟩ | ⟨h5, m1⟩ <;> rcases m0 (b + d) (by omega) with ⟨h6, m2⟩ | ⟨h6, m2⟩ <;> rw [m1, m2] <;> exact ⟨fun ⟨h7, h8⟩ => by omega, fun h7 => ⟨by omega, by omega⟩⟩
  generalize brkS t = q at e ⊢
  unfold twA at g1 g2
  generalize decide (WW ≤ supplyN t.v + t.b) = q1 at g1 e
  generalize (supplyN t.v + t.b) % WW = m1 at g1 e
  generalize decide (WW ≤ supplyN t.w + t.m) = q2 at g2 e
  generalize (supplyN t.w + t.m) % WW = m2 at g2 e
  generalize supplyN t.v = n1 at f1 g1
  generalize supplyN t.w = n2 at f2 g2
  unfold Tn.pv
  (refine fn_of Try.func28 rfl (by rfl) ?_; simp only [Try.ntmps28, List.length_cons, List.length_nil, Nat.reduceAdd, Nat.reduceSub, List.replicate, List.cons_append, List.nil_append])
  (repeat (any_goals (first | ((with_reducible refine evL_one ?_ ?_); rfl; intro K hK; simp only [go_sem, e]; ((repeat (refine ndI (by first | assumption | omega | rfl) ?_)); refine hK _ ?_; clear hK K)) | (with_reducible first | (refine evL_nil ?_; refine hR _ ?_; clear hR R) | ((first | refine evC_seq ?_ | refine evC_block ?_); intro Ψ hΨ hΨ') | (refine evC_region ?_; intro R hR) | (refine hΨ _ ?_; clear hΨ hΨ' Ψ) | refine evC_skip ?_ | refine evC_ret ?_ | refine evC_exit ?_) | ((with_reducible refine hΨ' _ _ ?_ ?_); (focus (simp; done)); clear hΨ hΨ' Ψ) | ((with_reducible apply evC_cond); rfl; rfl; all_goals (intro hc; first | (cases hc; done) | (try simp only at hc))) | ((with_reducible refine evD_nil ?_ ?_); kernel_rfl; (with_reducible refine hR _ ?_); clear hR R) | ((first | ((with_reducible apply evD_one); rfl; (apply two_op; rfl; rfl; rfl; rfl; rfl)) | ((with_reducible apply evD_fcall); rfl; rfl; (first | ((apply opF_callB (f1); rfl; rfl; rfl; rfl; exact Try.func15); kernel_rfl; rfl; (simp only [go_sem, e]; rfl); (first | rfl | simp [AV.inNL, AV.inN])) | ((apply opF_callB (f2); rfl; rfl; rfl; rfl; exact Try.func15); kernel_rfl; rfl; (simp only [go_sem, e]; rfl); (first | rfl | simp [AV.inNL, AV.inN])) | ((apply opF_callB (g1); rfl; rfl; rfl; rfl; exact Try.func25); kernel_rfl; rfl; (simp only [go_sem, e]; rfl); (first | rfl | simp [AV.inNL, AV.inN])) | ((apply opF_callB (g2); rfl; rfl; rfl; rfl; exact Try.func25); kernel_rfl; rfl; (simp only [go_sem, e]; rfl); (first | rfl | simp [AV.inNL, AV.inN])))) | ((with_reducible apply evD_any); rfl; rfl; (simp only [rdE, rdOf, go_sem, e]; rfl); (intro τ hA hQ hN; ((try simp only [agree, Op.operands, Call.operands, go_sem, e, go_sem, List.mem_cons, List.not_mem_nil, forall_eq_or_imp, forall_eq, List.append_toArray, Option.toArray] at hA); (try simp only [go_sem, e, List.mem_cons, List.not_mem_nil, forall_eq_or_imp, forall_eq] at hQ hN); (first | (revert hA; intro hA) | have hA := trivial); (first | (revert hQ; intro hQ) | have hQ := trivial); (first | (revert hN; intro hN) | have hN := trivial); simp only [go_sem, e, go_sem, hA, hQ, hN]; (repeat (refine ndI (by first | assumption | omega | rfl) ?_)); (first | apply eff_rd | apply eff_st | apply eff_nw))))); (simp only [St.eff, setO, hputs, go_sem, e])) | ((with_reducible refine evC_draw ?_ ?_ ?_ ?_); kernel_rfl; kernel_rfl; (first | kernel_rfl | simp [newNames, isNew, St.free, freeH, AV.refsL, AV.refs]); intro R hR))))
  all_goals (refine ⟨by simp, ⟨_, ?_, AV.le_refl _⟩, leH_get (by simp [leH, hget])⟩; simp only [Try.results28, resL, ldA, oneOf, go_sem])
theorem dear_fn (r : Rp) (hr : r.ok) : Fn Try.prog 31 [rpA r] [] (vb (decide (r.h < r.c))) [] := by
  have f := cmp_fn r.c r.h hr.2.2.1 hr.2.1
  have e : decide ((if r.c < r.h then (-1 : Int) else if r.h < r.c then 1 else 0) > 0) = decide (r.h < r.c) := by
    refine decide_eq_decide.2 ?_
    repeat' split
    all_goals omega
  generalize (if r.c < r.h then (-1 : Int) else if r.h < r.c then 1 else 0) = z at f e
  rw [← e]
  (refine fn_of Try.func31 rfl (by rfl) ?_; simp only [Try.ntmps31, List.length_cons, List.length_nil, Nat.reduceAdd, Nat.reduceSub, List.replicate, List.cons_append, List.nil_append])
  (repeat (any_goals (first | ((with_reducible refine evL_call ?_ ?_ ?_); rfl; rfl; intro K hK; ((apply opA_callB (f); rfl; rfl; rfl; rfl; exact Try.func32); kernel_rfl; rfl; (simp only [go_sem]; rfl); (first | rfl | simp [AV.inNL, AV.inN])); (simp only [go_sem]; refine hK _ ?_; clear hK K)) | ((with_reducible refine evL_one ?_ ?_); rfl; intro K hK; simp only [go_sem]; ((repeat (refine ndI (by first | assumption | omega | rfl) ?_)); refine hK _ ?_; clear hK K)) | (with_reducible first | (refine evL_nil ?_; refine hR _ ?_; clear hR R) | ((first | refine evC_seq ?_ | refine evC_block ?_); intro Ψ hΨ hΨ') | (refine evC_region ?_; intro R hR) | (refine hΨ _ ?_; clear hΨ hΨ' Ψ) | refine evC_skip ?_ | refine evC_ret ?_ | refine evC_exit ?_) | ((with_reducible refine hΨ' _ _ ?_ ?_); (focus (simp; done)); clear hΨ hΨ' Ψ) | ((with_reducible apply evC_cond); rfl; rfl; all_goals (intro hc; first | (cases hc; done) | (try simp only at hc))))))
  all_goals (refine ⟨by simp, ⟨_, ?_, AV.le_refl _⟩, leH_get (by simp [leH, hget])⟩; simp only [Try.results31, resL, ldA, oneOf, go_sem])
theorem indexR_fn (ex : Bool) (l : List Rp) (hl : l.length ≤ 1000) (ok : ∀ w ∈ l, w.ok) : Fn Try.prog 55 [rsl ex l, .fn 31 []] [] (vi .i64 (ixB (fun r => decide (r.h < r.c)) l)) [] := by
  obtain ⟨tr, htr⟩ : ∃ r : Int, ixB (fun r : Rp => decide (r.h < r.c)) l = r := ⟨_, rfl⟩
  rw [htr]
  (refine fn_of Try.func55 rfl (by rfl) ?_; simp only [Try.ntmps55, List.length_cons, List.length_nil, Nat.reduceAdd, Nat.reduceSub, List.replicate, List.cons_append, List.nil_append])
  (repeat (any_goals (first | ((with_reducible refine evL_one ?_ ?_); rfl; intro K hK; simp only [go_sem]; ((repeat (refine ndI (by first | assumption | omega | rfl) ?_)); refine hK _ ?_; clear hK K)) | (with_reducible first | (refine evL_nil ?_; refine hR _ ?_; clear hR R) | ((first | refine evC_seq ?_ | refine evC_block ?_); intro Ψ hΨ hΨ') | (refine evC_region ?_; intro R hR) | (refine hΨ _ ?_; clear hΨ hΨ' Ψ) | refine evC_skip ?_ | refine evC_ret ?_ | refine evC_exit ?_) | ((with_reducible refine hΨ' _ _ ?_ ?_); (focus (simp; done)); clear hΨ hΨ' Ψ) | ((with_reducible apply evC_cond); rfl; rfl; all_goals (intro hc; first | (cases hc; done) | (try simp only at hc))))))
  refine evC_loop (α := { i : Nat // i ≤ l.length ∧ ∀ j, j < i → ∀ n, l[j]? = some n → decide (n.h < n.c) = false }) (fun p => ⟨[rsl ex l, .fn 31 [], .any, .any, .any, .any, rsl ex l, vi .i64 l.length, vi .i64 p.1, .any, .any, .any, .any, .any, .any, .any, .any, .any, .any], []⟩) (fun p => l.length - p.1) ⟨0, Nat.zero_le _, fun j hj => by omega⟩ (St.le_of (by simp [leT]) (by simp [leH, hget])) ?_
  rintro ⟨i, hi, hno⟩ Ψ hΨ hΨ'
  dsimp only at hi hΨ ⊢
  rcases Nat.lt_or_ge i l.length with hlt | hge
  · obtain ⟨y, hy⟩ : ∃ y, l[i]? = some y := ⟨l[i], List.getElem?_eq_getElem hlt⟩
    have k1 : (decide ((i : Int) < (l.length : Int))) = true := by simpa using hlt
    have k2 := rp_at hy
    have k7 : (i : Int) + 1 = ((i + 1 : Nat) : Int) := by omega
    have pl := dear_fn y (ok y (List.mem_of_getElem? hy))
    cases hm : decide (y.h < y.c)
    · rw [hm] at pl
      (have W := ndI k1 (ndI k2 (ndI k7 @wrI)); (repeat (any_goals (first | ((with_reducible refine evL_call ?_ ?_ ?_); rfl; rfl; intro K hK; ((apply opA_callB (pl); rfl; rfl; rfl; rfl; exact Try.func31); kernel_rfl; rfl; (simp (disch := omega) only [go_sem, W]; rfl); (first | rfl | simp [AV.inNL, AV.inN])); (simp (disch := omega) only [go_sem, W]; refine hK _ ?_; clear hK K)) | ((with_reducible refine evL_one ?_ ?_); rfl; intro K hK; simp (disch := omega) only [go_sem, W]; ((repeat (refine ndI (by first | assumption | omega | rfl) ?_)); refine hK _ ?_; clear hK K)) | (with_reducible first | (refine evL_nil ?_; refine hR _ ?_; clear hR R) | ((first | refine evC_seq ?_ | refine evC_block ?_); intro Ψ hΨ hΨ') | (refine evC_region ?_; intro R hR) | (refine hΨ _ ?_; clear hΨ hΨ' Ψ) | refine evC_skip ?_ | refine evC_ret ?_ | refine evC_exit ?_) | ((with_reducible refine hΨ' _ _ ?_ ?_); (focus (simp; done)); clear hΨ hΨ' Ψ) | ((with_reducible apply evC_cond); rfl; rfl; all_goals (intro hc; first | (cases hc; done) | (try simp only at hc)))))))
      refine hΨ _ ⟨i + 1, hlt, fun j hj n hn => ?_⟩ (by simp only; omega) (St.le_of (by simp [leT]) (by simp [leH, hget]))
      rcases Nat.lt_or_ge j i with h' | h'
      · exact hno j h' n hn
      · obtain rfl : j = i := by omega
        rw [hy] at hn; cases hn; exact hm
    · rw [hm] at pl
      have hp := ixB_at (p := fun r : Rp => decide (r.h < r.c)) hno hy hm
      rw [hp] at htr
      (have W := ndI k1 (ndI k2 (ndI k7 @wrI)); (repeat (any_goals (first | ((with_reducible refine evL_call ?_ ?_ ?_); rfl; rfl; intro K hK; ((apply opA_callB (pl); rfl; rfl; rfl; rfl; exact Try.func31); kernel_rfl; rfl; (simp (disch := omega) only [go_sem, W]; rfl); (first | rfl | simp [AV.inNL, AV.inN])); (simp (disch := omega) only [go_sem, W]; refine hK _ ?_; clear hK K)) | ((with_reducible refine evL_one ?_ ?_); rfl; intro K hK; simp (disch := omega) only [go_sem, W]; ((repeat (refine ndI (by first | assumption | omega | rfl) ?_)); refine hK _ ?_; clear hK K)) | (with_reducible first | (refine evL_nil ?_; refine hR _ ?_; clear hR R) | ((first | refine evC_seq ?_ | refine evC_block ?_); intro Ψ hΨ hΨ') | (refine evC_region ?_; intro R hR) | (refine hΨ _ ?_; clear hΨ hΨ' Ψ) | refine evC_skip ?_ | refine evC_ret ?_ | refine evC_exit ?_) | ((with_reducible refine hΨ' _ _ ?_ ?_); (focus (simp; done)); clear hΨ hΨ' Ψ) | ((with_reducible apply evC_cond); rfl; rfl; all_goals (intro hc; first | (cases hc; done) | (try simp only at hc)))))))
      all_goals (refine ⟨by simp, ⟨_, ?_, AV.le_refl _⟩, leH_get (by simp [leH, hget])⟩; simp only [Try.results55, resL, ldA, oneOf, go_sem])
      all_goals rw [htr]
  · have k1 : (decide ((i : Int) < (l.length : Int))) = false := by simpa using hge
    have hp := ixB_none (p := fun r : Rp => decide (r.h < r.c)) (l := l) fun j hj => hno j (by omega)
    rw [hp] at htr
    (repeat (any_goals (first | ((with_reducible refine evL_one ?_ ?_); rfl; intro K hK; simp only [go_sem, k1]; ((repeat (refine ndI (by first | assumption | omega | rfl) ?_)); refine hK _ ?_; clear hK K)) | (with_reducible first | (refine evL_nil ?_; refine hR _ ?_; clear hR R) | ((first | refine evC_seq ?_ | refine evC_block ?_); intro Ψ hΨ hΨ') | (refine evC_region ?_; intro R hR) | (refine hΨ _ ?_; clear hΨ hΨ' Ψ) | refine evC_skip ?_ | refine evC_ret ?_ | refine evC_exit ?_) | ((with_reducible refine hΨ' _ _ ?_ ?_); (focus (simp; done)); clear hΨ hΨ' Ψ) | ((with_reducible apply evC_cond); rfl; rfl; all_goals (intro hc; first | (cases hc; done) | (try simp only at hc))))))
    all_goals (refine ⟨by simp, ⟨_, ?_, AV.le_refl _⟩, leH_get (by simp [leH, hget])⟩; simp only [Try.results55, resL, ldA, oneOf, go_sem])
    all_goals rw [← htr]
theorem containsR_fn (ex : Bool) (l : List Rp) (hl : l.length ≤ 1000) (ok : ∀ w ∈ l, w.ok) : Fn Try.prog 30 [rsl ex l, .fn 31 []] [] (vb (l.any fun r => decide (r.h < r.c))) [] := by
  have f := indexR_fn ex l hl ok
  have e := ixB_any (fun r : Rp => decide (r.h < r.c)) l
  (refine fn_of Try.func30 rfl (by rfl) ?_; simp only [Try.ntmps30, List.length_cons, List.length_nil, Nat.reduceAdd, Nat.reduceSub, List.replicate, List.cons_append, List.nil_append])
  (repeat (any_goals (first | ((with_reducible refine evL_call ?_ ?_ ?_); rfl; rfl; intro K hK; ((apply opA_callB (f); rfl; rfl; rfl; rfl; exact Try.func55); kernel_rfl; rfl; (simp only [go_sem, e]; rfl); (first | rfl | simp [AV.inNL, AV.inN])); (simp only [go_sem, e]; refine hK _ ?_; clear hK K)) | ((with_reducible refine evL_one ?_ ?_); rfl; intro K hK; simp only [go_sem, e]; ((repeat (refine ndI (by first | assumption | omega | rfl) ?_)); refine hK _ ?_; clear hK K)) | (with_reducible first | (refine evL_nil ?_; refine hR _ ?_; clear hR R) | ((first | refine evC_seq ?_ | refine evC_block ?_); intro Ψ hΨ hΨ') | (refine evC_region ?_; intro R hR) | (refine hΨ _ ?_; clear hΨ hΨ' Ψ) | refine evC_skip ?_ | refine evC_ret ?_ | refine evC_exit ?_) | ((with_reducible refine hΨ' _ _ ?_ ?_); (focus (simp; done)); clear hΨ hΨ' Ψ) | ((with_reducible apply evC_cond); rfl; rfl; all_goals (intro hc; first | (cases hc; done) | (try simp only at hc))))))
  all_goals (refine ⟨by simp, ⟨_, ?_, AV.le_refl _⟩, leH_get (by simp [leH, hget])⟩; simp only [Try.results30, resL, ldA, oneOf, go_sem])
theorem brk3_fn (t : Tn) (ht : t.ok) : Fn Try.prog 29 [.ep t.pv] [] (vb (brkC t)) [] := by
  have f := containsR_fn false t.r (Nat.le_trans ht.r.1 (by decide)) ht.r.2
  unfold brkC
  generalize (t.r.any fun r => decide (r.h < r.c)) = q at f ⊢
  unfold Tn.pv
  (refine fn_of Try.func29 rfl (by rfl) ?_; simp only [Try.ntmps29, List.length_cons, List.length_nil, Nat.reduceAdd, Nat.reduceSub, List.replicate, List.cons_append, List.nil_append])
  (repeat (any_goals (first | ((with_reducible refine evL_call ?_ ?_ ?_); rfl; rfl; intro K hK; ((apply opA_callB (f); rfl; rfl; rfl; rfl; exact Try.func30); kernel_rfl; rfl; (simp only [go_sem]; rfl); (first | rfl | simp [AV.inNL, AV.inN])); (simp only [go_sem]; refine hK _ ?_; clear hK K)) | ((with_reducible refine evL_one ?_ ?_); rfl; intro K hK; simp only [go_sem]; ((repeat (refine ndI (by first | assumption | omega | rfl) ?_)); refine hK _ ?_; clear hK K)) | (with_reducible first | (refine evL_nil ?_; refine hR _ ?_; clear hR R) | ((first | refine evC_seq ?_ | refine evC_block ?_); intro Ψ hΨ hΨ') | (refine evC_region ?_; intro R hR) | (refine hΨ _ ?_; clear hΨ hΨ' Ψ) | refine evC_skip ?_ | refine evC_ret ?_ | refine evC_exit ?_) | ((with_reducible refine hΨ' _ _ ?_ ?_); (focus (simp; done)); clear hΨ hΨ' Ψ) | ((with_reducible apply evC_cond); rfl; rfl; all_goals (intro hc; first | (cases hc; done) | (try simp only at hc))))))
  all_goals (refine ⟨by simp, ⟨_, ?_, AV.le_refl _⟩, leH_get (by simp [leH, hget])⟩; simp only [Try.results29, resL, ldA, oneOf, go_sem])
end Go.Proofs.Ytgdnmdnhkhpieaa
namespace Go.Proofs.Ytgdnmdnhkhpieaa
open Go.RowKit
open Nat (reduceBEq)
set_option maxRecDepth 20000
set_option maxHeartbeats 4000000

theorem balN_lt {w : Wl} (hw : w.ok) {a : Int} (ha : U a) : balN w a < WW := (OfS_ok hw.kl ha).1.2.1
theorem frz_ifv (d : Nat) (p : List PV) (b : Bool) (v : AV) : AV.frz d p (ifv b v) = ifv b (AV.frz d p v) := by cases b <;> rfl
theorem ifv_false (v : AV) : ifv false v = .any := rfl
theorem refs_ifv (d : Nat) (b : Bool) (v : AV) : AV.refs d (ifv b v) = (b && AV.refs d v) := by cases b <;> rfl
def hh (a b c d : Bool) (X W : List AV) : List (Nat × List AV) := (if a && !b then [(7, X)] else []) ++ (if c then [(2, if d then W else [vi .u64 0, vi .u64 0, vi .u64 0, vi .u64 0])] else [])
abbrev JF (t : Tn) (X : List AV) (cW : List PV) (s n1 : Nat) (q : Bool) (L : Nat → Bool) : St := ⟨[.ep [acV t.w.S, hdV t.w.L, noV t.w.N, acV t.v.S, hdV t.v.L, noV t.v.N, rpV t.r, .v (.int .u64 t.f), .v (.int .u64 (l0 t.m)), .v (.int .u64 (l1 t.m)), .v (.int .u64 (l2 t.m)), .v (.int .u64 (l3 t.m)), .v (.int .u64 (l0 t.b)), .v (.int .u64 (l1 t.b)), .v (.int .u64 (l2 t.b)), .v (.int .u64 (l3 t.b))], vb false, ifv (L 14) (.ptr 2 0), ifv (L 16) (vb q), ifv (L 11) (.tup [wN s, vb q]), ifv (L 0) (.ep [rpV t.r, .v (.int .u64 t.f), .v (.int .u64 (l0 t.m)), .v (.int .u64 (l1 t.m)), .v (.int .u64 (l2 t.m)), .v (.int .u64 (l3 t.m)), .v (.int .u64 (l0 t.b)), .v (.int .u64 (l1 t.b)), .v (.int .u64 (l2 t.b)), .v (.int .u64 (l3 t.b))]), ifv (L 1) (.c (rpV t.r)), ifv (L 2 && !L 9) (.row 7 35 4 t.r.length), ifv (L 3) (.ep [acV t.w.S, hdV t.w.L, noV t.w.N, acV t.v.S, hdV t.v.L, noV t.v.N, rpV t.r, .v (.int .u64 t.f), .v (.int .u64 (l0 t.m)), .v (.int .u64 (l1 t.m)), .v (.int .u64 (l2 t.m)), .v (.int .u64 (l3 t.m)), .v (.int .u64 (l0 t.b)), .v (.int .u64 (l1 t.b)), .v (.int .u64 (l2 t.b)), .v (.int .u64 (l3 t.b))]), ifv (L 4) (.agg [.c (acV t.w.S), .c (hdV t.w.L), .c (noV t.w.N)]), ifv (L 5) (.ep [.v (.int .u64 t.f), .v (.int .u64 (l0 t.m)), .v (.int .u64 (l1 t.m)), .v (.int .u64 (l2 t.m)), .v (.int .u64 (l3 t.m)), .v (.int .u64 (l0 t.b)), .v (.int .u64 (l1 t.b)), .v (.int .u64 (l2 t.b)), .v (.int .u64 (l3 t.b))]), ifv (L 6) (vi .u64 t.f), ifv (L 7) (wN n1), ifv (L 8) (.c (.sl true 4 1 [.v (.int .u64 (l0 n1)), .v (.int .u64 (l1 n1)), .v (.int .u64 (l2 n1)), .v (.int .u64 (l3 n1))])), ifv (L 9) (.c (.sl false 4 (t.r.length + 1) cW)), ifv (L 10) (.tup [wN s, vb q]), ifv (L 12) (wN s), ifv (L 13) (vb q), .any, .any, .any, .any, .any, .any, .any, .any, .any, .any, .any, .any, .any, .any, .any, .any], hh (L 2) (L 9) (L 14) (L 15) X [vi .u64 (l0 s), vi .u64 (l1 s), vi .u64 (l2 s), vi .u64 (l3 s)]⟩
theorem brk4_fn (t : Tn) (ht : t.ok) : Fn Try.prog 33 [.ep t.pv] [] (vb (brkF t)) [] := by
  have f1 := costs_row false t.r ht.r.1
  have f2 := bal_fn t.w ht.w t.f
  have f3 := bal_fn t.v ht.v t.f
  have cl : ∀ x ∈ csL t.r ++ [balN t.w t.f], x < WW := fun x hx => by
    rcases List.mem_append.1 hx with h | h
    · exact csL_lt ht.r.2 x h
    · rw [List.mem_singleton.1 h]; exact balN_lt ht.w ht.f
  have ll : (csL t.r ++ [balN t.w t.f]).length = t.r.length + 1 := by unfold csL; simp
  have sm := sum_fn false (csL t.r ++ [balN t.w t.f]) (by rw [ll]; have := ht.r.1; omega) cl
  have cm := cmp_fn (balN t.v t.f) ((csL t.r ++ [balN t.w t.f]).sum % WW) (balN_lt ht.v ht.f) (Nat.mod_lt _ (by decide))
  have e1 : (rcW (csL t.r)).length = t.r.length * 4 := by rw [rcW_len]; unfold csL; rw [List.length_map]
  have e2 : rcW (csL t.r ++ [balN t.w t.f]) = rcW (csL t.r) ++ (wpv (balN t.w t.f)).map .c := by unfold rcW; rw [List.flatMap_append]; simp [List.flatMap_cons]
  have e3 : ∀ r, AV.refsL r (rcW (csL t.r)) = false := fun r => refsL_map r _
  have e5 : rcW (csL t.r) ++ [vi .u64 (l0 (balN t.w t.f)), vi .u64 (l1 (balN t.w t.f)), vi .u64 (l2 (balN t.w t.f)), vi .u64 (l3 (balN t.w t.f))] = ((csL t.r ++ [balN t.w t.f]).flatMap wpv).map AV.c := e2.symm
  have e8 : ((csL t.r ++ [balN t.w t.f]).flatMap wpv).length = (t.r.length + 1) * 4 := by rw [flat_length wpv_len, ll]
  unfold wsl at sm
  rw [ll] at sm
  have e6 : decide ((if balN t.v t.f < (csL t.r ++ [balN t.w t.f]).sum % WW then (-1 : Int) else if (csL t.r ++ [balN t.w t.f]).sum % WW < balN t.v t.f then 1 else 0) < 0) = decide (balN t.v t.f < (csL t.r ++ [balN t.w t.f]).sum % WW) := by
    refine decide_eq_decide.2 ?_
    repeat' split
    all_goals omega
  have h900 := ht.r.1
  have e7 : brkF t = (!decide (t.f = 0) && (decide (WW ≤ (csL t.r ++ [balN t.w t.f]).sum) || decide (balN t.v t.f < (csL t.r ++ [balN t.w t.f]).sum % WW))) := rfl
  rw [← e6] at e7
  rw [e7]
  clear e7 e6 cl ll e2
  generalize (if balN t.v t.f < (csL t.r ++ [balN t.w t.f]).sum % WW then (-1 : Int) else if (csL t.r ++ [balN t.w t.f]).sum % WW < balN t.v t.f then 1 else 0) = z at cm ⊢
  generalize decide (WW ≤ (csL t.r ++ [balN t.w t.f]).sum) = q at sm ⊢
  generalize (csL t.r ++ [balN t.w t.f]).sum % WW = s at sm cm
  generalize (csL t.r ++ [balN t.w t.f]).flatMap wpv = cW at sm e5 e8
  unfold balN at cm e5
  generalize (OfS t.v.S t.f).b = n2 at f3 cm
  generalize (OfS t.w.S t.f).b = n1 at f2 e5
  have e9 : ∀ r, AV.renL r (rcW (csL t.r)) = rcW (csL t.r) := fun r => renL_map r _
  have e10 : ∀ r, AV.inNL r (rcW (csL t.r)) = true := fun r => inNL_map r _
  generalize rcW (csL t.r) = X at f1 e1 e3 e5 e9 e10
  unfold Tn.pv
  refine Fn.known fun E0 => ?_
  (refine fnW_of Try.func33 rfl (by rfl) ?_; simp only [Try.ntmps33, List.length_cons, List.length_nil, Nat.reduceAdd, Nat.reduceSub, List.replicate, List.cons_append, List.nil_append])
  (repeat (any_goals (first | ((with_reducible refine evL_one ?_ ?_); rfl; intro K hK; simp only [go_sem]; ((repeat (refine ndI (by first | assumption | omega | rfl) ?_)); refine hK _ ?_; clear hK K)) | ((with_reducible first | refine AWE.seqI ?_ | refine AWE.blockI ?_); intro Ψ hΨ hΨ') | (with_reducible first | refine AWE.ofSkip ?_ | refine AWE.ofRet ?_ | refine AWE.ofExit ?_) | ((with_reducible apply AWE.regionM); rfl; rfl; rfl; rfl; intro R hR; simp only [List.take_succ_cons, List.take_zero, List.drop_succ_cons, List.drop_zero, List.drop_nil] at hR ⊢) | (with_reducible refine AWE.ofR ?_) | ((with_reducible apply AWE.cond); rfl; rfl; all_goals (intro hc; first | (cases hc; done) | (try simp only at hc))) | ((with_reducible apply opE_makeMap); rfl; intro mb umb R hR; simp only [go_sem]) | (with_reducible first | (refine evL_nil ?_; refine hR _ ?_; clear hR R) | ((first | refine evC_seq ?_ | refine evC_block ?_); intro Ψ hΨ hΨ') | (refine evC_region ?_; intro R hR) | (refine hΨ _ ?_; clear hΨ hΨ' Ψ) | refine evC_skip ?_ | refine evC_ret ?_ | refine evC_exit ?_) | ((with_reducible refine hΨ' _ _ ?_ ?_); (focus (simp; done)); clear hΨ hΨ' Ψ) | ((with_reducible apply evC_cond); rfl; rfl; all_goals (intro hc; first | (cases hc; done) | (try simp only at hc))) | ((with_reducible refine evD_nil ?_ ?_); kernel_rfl; (with_reducible refine hR _ ?_); clear hR R) | ((first | ((with_reducible apply evD_skip); rfl; rfl; rfl; rfl) | ((with_reducible apply evD_unmet); rfl; rfl; rfl) | ((first | ((with_reducible apply evD_any); rfl; rfl) | ((with_reducible apply evD_gany); rfl; rfl; rfl; rfl; rfl)); (simp only [rdE, rdOf, go_sem]; rfl); (intro τ hA hQ hN; ((try simp only [agree, Op.operands, Call.operands, go_sem, List.mem_cons, List.not_mem_nil, forall_eq_or_imp, forall_eq, List.append_toArray, Option.toArray] at hA); (try simp only [go_sem, List.mem_cons, List.not_mem_nil, forall_eq_or_imp, forall_eq] at hQ hN); (first | (revert hA; intro hA) | have hA := trivial); (first | (revert hQ; intro hQ) | have hQ := trivial); (first | (revert hN; intro hN) | have hN := trivial); simp only [go_sem, hA, hQ, hN]; (repeat (refine ndI (by first | assumption | omega | rfl) ?_)); (first | apply eff_rd | apply eff_st | apply eff_nw)))) | ((first | ((with_reducible apply evD_new); rfl; rfl; rfl) | ((with_reducible apply evD_grd_new); rfl; rfl; rfl; rfl; rfl; rfl)); (intro τ hA hQ hN; ((try simp only [agree, Op.operands, Call.operands, go_sem, List.mem_cons, List.not_mem_nil, forall_eq_or_imp, forall_eq, List.append_toArray, Option.toArray] at hA); (try simp only [go_sem, List.mem_cons, List.not_mem_nil, forall_eq_or_imp, forall_eq] at hQ); (first | (revert hA; intro hA) | have hA := trivial); (first | (revert hQ; intro hQ) | have hQ := trivial); simp only [go_sem, hA, hQ, hN]; (repeat (refine ndI (by first | assumption | omega | rfl) ?_)); exact eff_nw _ _ _ _)))); (simp only [St.eff, setO, hputs, go_sem])) | ((with_reducible apply evD_split); rfl; rfl; rfl; all_goals intro hb; all_goals (simp only [St.eff, setO, hputs, go_sem])))))
  refine AWE.drawJ (by kernel_rfl) (by kernel_rfl) (by kernel_rfl) (JF t X cW s n1 q) (St.to.of_le (St.le_of (by simp [leT, ifv]) (by simp [leH, hget, hh]))) ?_ ?_ ?_
  · intro L i x hx hu hcl hpre hn R hR
    have hi : i = 0 ∨ i = 1 ∨ i = 2 ∨ i = 3 ∨ i = 4 ∨ i = 5 ∨ i = 6 ∨ i = 7 ∨ i = 8 ∨ i = 9 ∨ i = 10 ∨ i = 11 ∨ i = 12 ∨ i = 13 ∨ i = 14 ∨ i = 15 ∨ i = 16 := by
      have := (List.getElem?_eq_some_iff.1 hx).1
      simp only [List.length_cons, List.length_nil] at this
      omega
    rcases hi with rfl | rfl | rfl | rfl | rfl | rfl | rfl | rfl | rfl | rfl | rfl | rfl | rfl | rfl | rfl | rfl | rfl
    all_goals simp only [List.getElem?_cons_succ, List.getElem?_cons_zero, Option.some.injEq] at hx
    all_goals subst hx
    all_goals simp only [JF, Nat.reduceEqDiff, if_false, if_true, hu] at hR ⊢
    · (try simp only [ifv_true, ifv_false, Bool.and_true, Bool.true_and, Bool.not_false, Bool.not_true, Bool.false_and, Bool.and_false] at hR ⊢)
      generalize hh (L 2) (L 9) (L 14) (L 15) X [vi .u64 (l0 s), vi .u64 (l1 s), vi .u64 (l2 s), vi .u64 (l3 s)] = H at hR ⊢
      (repeat (any_goals (first | ((with_reducible refine evL_one ?_ ?_); rfl; intro K hK; simp only [go_sem]; ((repeat (refine ndI (by first | assumption | omega | rfl) ?_)); refine hK _ ?_; clear hK K)) | (with_reducible first | (refine evL_nil ?_; refine hR _ ?_; clear hR R) | ((first | refine evC_seq ?_ | refine evC_block ?_); intro Ψ hΨ hΨ') | (refine evC_region ?_; intro R hR) | (refine hΨ _ ?_; clear hΨ hΨ' Ψ) | refine evC_skip ?_ | refine evC_ret ?_ | refine evC_exit ?_) | ((with_reducible refine hΨ' _ _ ?_ ?_); (focus (simp; done)); clear hΨ hΨ' Ψ) | ((with_reducible apply evC_cond); rfl; rfl; all_goals (intro hc; first | (cases hc; done) | (try simp only at hc))) | ((with_reducible refine evD_nil ?_ ?_); kernel_rfl; (with_reducible refine hR _ ?_); clear hR R) | ((first | ((with_reducible apply evD_skip); rfl; rfl; rfl; rfl) | ((with_reducible apply evD_unmet); rfl; rfl; rfl) | ((first | ((with_reducible apply evD_any); rfl; rfl) | ((with_reducible apply evD_gany); rfl; rfl; rfl; rfl; rfl)); (simp only [rdE, rdOf, go_sem]; rfl); (intro τ hA hQ hN; ((try simp only [agree, Op.operands, Call.operands, go_sem, List.mem_cons, List.not_mem_nil, forall_eq_or_imp, forall_eq, List.append_toArray, Option.toArray] at hA); (try simp only [go_sem, List.mem_cons, List.not_mem_nil, forall_eq_or_imp, forall_eq] at hQ hN); (first | (revert hA; intro hA) | have hA := trivial); (first | (revert hQ; intro hQ) | have hQ := trivial); (first | (revert hN; intro hN) | have hN := trivial); simp only [go_sem, hA, hQ, hN]; (repeat (refine ndI (by first | assumption | omega | rfl) ?_)); (first | apply eff_rd | apply eff_st | apply eff_nw)))) | ((first | ((with_reducible apply evD_new); rfl; rfl; rfl) | ((with_reducible apply evD_grd_new); rfl; rfl; rfl; rfl; rfl; rfl)); (intro τ hA hQ hN; ((try simp only [agree, Op.operands, Call.operands, go_sem, List.mem_cons, List.not_mem_nil, forall_eq_or_imp, forall_eq, List.append_toArray, Option.toArray] at hA); (try simp only [go_sem, List.mem_cons, List.not_mem_nil, forall_eq_or_imp, forall_eq] at hQ); (first | (revert hA; intro hA) | have hA := trivial); (first | (revert hQ; intro hQ) | have hQ := trivial); simp only [go_sem, hA, hQ, hN]; (repeat (refine ndI (by first | assumption | omega | rfl) ?_)); exact eff_nw _ _ _ _)))); (simp only [St.eff, setO, hputs, go_sem])) | ((with_reducible apply evD_split); rfl; rfl; rfl; all_goals intro hb; all_goals (simp only [St.eff, setO, hputs, go_sem])) | ((with_reducible refine evC_draw ?_ ?_ ?_ ?_); kernel_rfl; kernel_rfl; (first | kernel_rfl | simp [newNames, isNew, St.free, freeH, AV.refsL, AV.refs]); intro R hR))))
      exact St.to.of_le ⟨leT_length (by simp [leT, ifv]), leT_get (by simp [leT, ifv]), fun _ _ h => h⟩
    · have g0 : L 0 = true := hpre ⟨0, .data⟩ (by simp) rfl
      (try simp only [g0, ifv_true, ifv_false, Bool.and_true, Bool.true_and, Bool.not_false, Bool.not_true, Bool.false_and, Bool.and_false] at hR ⊢)
      generalize hh (L 2) (L 9) (L 14) (L 15) X [vi .u64 (l0 s), vi .u64 (l1 s), vi .u64 (l2 s), vi .u64 (l3 s)] = H at hR ⊢
      (repeat (any_goals (first | ((with_reducible refine evL_one ?_ ?_); rfl; intro K hK; simp only [go_sem]; ((repeat (refine ndI (by first | assumption | omega | rfl) ?_)); refine hK _ ?_; clear hK K)) | (with_reducible first | (refine evL_nil ?_; refine hR _ ?_; clear hR R) | ((first | refine evC_seq ?_ | refine evC_block ?_); intro Ψ hΨ hΨ') | (refine evC_region ?_; intro R hR) | (refine hΨ _ ?_; clear hΨ hΨ' Ψ) | refine evC_skip ?_ | refine evC_ret ?_ | refine evC_exit ?_) | ((with_reducible refine hΨ' _ _ ?_ ?_); (focus (simp; done)); clear hΨ hΨ' Ψ) | ((with_reducible apply evC_cond); rfl; rfl; all_goals (intro hc; first | (cases hc; done) | (try simp only at hc))) | ((with_reducible refine evD_nil ?_ ?_); kernel_rfl; (with_reducible refine hR _ ?_); clear hR R) | ((first | ((with_reducible apply evD_skip); rfl; rfl; rfl; rfl) | ((with_reducible apply evD_unmet); rfl; rfl; rfl) | ((first | ((with_reducible apply evD_any); rfl; rfl) | ((with_reducible apply evD_gany); rfl; rfl; rfl; rfl; rfl)); (simp only [rdE, rdOf, go_sem]; rfl); (intro τ hA hQ hN; ((try simp only [agree, Op.operands, Call.operands, go_sem, List.mem_cons, List.not_mem_nil, forall_eq_or_imp, forall_eq, List.append_toArray, Option.toArray] at hA); (try simp only [go_sem, List.mem_cons, List.not_mem_nil, forall_eq_or_imp, forall_eq] at hQ hN); (first | (revert hA; intro hA) | have hA := trivial); (first | (revert hQ; intro hQ) | have hQ := trivial); (first | (revert hN; intro hN) | have hN := trivial); simp only [go_sem, hA, hQ, hN]; (repeat (refine ndI (by first | assumption | omega | rfl) ?_)); (first | apply eff_rd | apply eff_st | apply eff_nw)))) | ((first | ((with_reducible apply evD_new); rfl; rfl; rfl) | ((with_reducible apply evD_grd_new); rfl; rfl; rfl; rfl; rfl; rfl)); (intro τ hA hQ hN; ((try simp only [agree, Op.operands, Call.operands, go_sem, List.mem_cons, List.not_mem_nil, forall_eq_or_imp, forall_eq, List.append_toArray, Option.toArray] at hA); (try simp only [go_sem, List.mem_cons, List.not_mem_nil, forall_eq_or_imp, forall_eq] at hQ); (first | (revert hA; intro hA) | have hA := trivial); (first | (revert hQ; intro hQ) | have hQ := trivial); simp only [go_sem, hA, hQ, hN]; (repeat (refine ndI (by first | assumption | omega | rfl) ?_)); exact eff_nw _ _ _ _)))); (simp only [St.eff, setO, hputs, go_sem])) | ((with_reducible apply evD_split); rfl; rfl; rfl; all_goals intro hb; all_goals (simp only [St.eff, setO, hputs, go_sem])) | ((with_reducible refine evC_draw ?_ ?_ ?_ ?_); kernel_rfl; kernel_rfl; (first | kernel_rfl | simp [newNames, isNew, St.free, freeH, AV.refsL, AV.refs]); intro R hR))))
      exact St.to.of_le ⟨leT_length (by simp [leT, ifv, g0]), leT_get (by simp [leT, ifv, g0]), fun _ _ h => h⟩
    · have g1 : L 1 = true := hpre ⟨1, .data⟩ (by simp) rfl
      cases h7 : L 9 <;> cases h8 : L 14 <;> cases h9 : L 15
      all_goals (try simp only [h7, h8, h9, hu, hh, List.nil_append, List.cons_append, List.append_nil, if_true, if_false, Bool.false_eq_true, g1, ifv_true, ifv_false, Bool.and_true, Bool.true_and, Bool.not_false, Bool.not_true, Bool.false_and, Bool.and_false] at hR ⊢)
      all_goals (have W := ndI e9 (ndI e10 e3); (repeat (any_goals (first | ((with_reducible refine evL_call ?_ ?_ ?_); rfl; rfl; intro K hK; (apply opA_callR (f1) (fun r => 7); rfl; rfl; rfl; rfl; exact Try.func35; kernel_rfl; rfl; rfl; (intro r hr q hq h; simp only [List.map_cons, List.map_nil, List.cons_append, List.nil_append, List.mem_cons, List.not_mem_nil, or_false] at hr hq; (try dsimp only at h); first | omega | (rcases hr with rfl | rfl | rfl <;> rcases hq with rfl | rfl | rfl <;> simp at h ⊢) | (rcases hr with rfl | rfl <;> rcases hq with rfl | rfl <;> simp at h ⊢) | ((repeat' split at h) <;> omega)); (simp only [argsOk, argOk, AV.ren, AV.renL, renL_map, List.mem_cons, List.not_mem_nil, forall_eq_or_imp, forall_eq, newOk, List.contains_cons, List.contains_nil, AV.refsL, AV.refs, refsL_map, AV.inN, AV.inNL, inH, inNL_map, go_sem, W, refs_ifv, Bool.and_false])); (simp only [hputs, hdels, renH, AV.ren, AV.renL, renL_map, go_sem, W, refs_ifv, Bool.and_false]; refine hK _ ?_; clear hK K)) | ((with_reducible refine evL_one ?_ ?_); rfl; intro K hK; simp only [go_sem, W, refs_ifv, Bool.and_false]; ((repeat (refine ndI (by first | assumption | omega | rfl) ?_)); refine hK _ ?_; clear hK K)) | (with_reducible first | (refine evL_nil ?_; refine hR _ ?_; clear hR R) | ((first | refine evC_seq ?_ | refine evC_block ?_); intro Ψ hΨ hΨ') | (refine evC_region ?_; intro R hR) | (refine hΨ _ ?_; clear hΨ hΨ' Ψ) | refine evC_skip ?_ | refine evC_ret ?_ | refine evC_exit ?_) | ((with_reducible refine hΨ' _ _ ?_ ?_); (focus (simp; done)); clear hΨ hΨ' Ψ) | ((with_reducible apply evC_cond); rfl; rfl; all_goals (intro hc; first | (cases hc; done) | (try simp only at hc))) | ((with_reducible refine evD_nil ?_ ?_); kernel_rfl; (with_reducible refine hR _ ?_); clear hR R) | ((first | ((with_reducible apply evD_skip); rfl; rfl; rfl; rfl) | ((with_reducible apply evD_unmet); rfl; rfl; rfl) | ((first | ((with_reducible apply evD_any); rfl; rfl) | ((with_reducible apply evD_gany); rfl; rfl; rfl; rfl; rfl)); (simp only [rdE, rdOf, go_sem, W, refs_ifv, Bool.and_false]; rfl); (intro τ hA hQ hN; ((try simp only [agree, Op.operands, Call.operands, go_sem, W, refs_ifv, Bool.and_false, go_sem, List.mem_cons, List.not_mem_nil, forall_eq_or_imp, forall_eq, List.append_toArray, Option.toArray] at hA); (try simp only [go_sem, W, refs_ifv, Bool.and_false, List.mem_cons, List.not_mem_nil, forall_eq_or_imp, forall_eq] at hQ hN); (first | (revert hA; intro hA) | have hA := trivial); (first | (revert hQ; intro hQ) | have hQ := trivial); (first | (revert hN; intro hN) | have hN := trivial); simp only [go_sem, W, refs_ifv, Bool.and_false, go_sem, hA, hQ, hN]; (repeat (refine ndI (by first | assumption | omega | rfl) ?_)); (first | apply eff_rd | apply eff_st | apply eff_nw)))) | ((first | ((with_reducible apply evD_new); rfl; rfl; rfl) | ((with_reducible apply evD_grd_new); rfl; rfl; rfl; rfl; rfl; rfl)); (intro τ hA hQ hN; ((try simp only [agree, Op.operands, Call.operands, go_sem, W, refs_ifv, Bool.and_false, go_sem, List.mem_cons, List.not_mem_nil, forall_eq_or_imp, forall_eq, List.append_toArray, Option.toArray] at hA); (try simp only [go_sem, W, refs_ifv, Bool.and_false, List.mem_cons, List.not_mem_nil, forall_eq_or_imp, forall_eq] at hQ); (first | (revert hA; intro hA) | have hA := trivial); (first | (revert hQ; intro hQ) | have hQ := trivial); simp only [go_sem, W, refs_ifv, Bool.and_false, go_sem, hA, hQ, hN]; (repeat (refine ndI (by first | assumption | omega | rfl) ?_)); exact eff_nw _ _ _ _)))); (simp only [St.eff, setO, hputs, go_sem, W, refs_ifv, Bool.and_false])) | ((with_reducible apply evD_split); rfl; rfl; rfl; all_goals intro hb; all_goals (simp only [St.eff, setO, hputs, go_sem, W, refs_ifv, Bool.and_false])) | ((with_reducible refine evC_draw ?_ ?_ ?_ ?_); kernel_rfl; kernel_rfl; (first | kernel_rfl | simp [newNames, isNew, St.free, freeH, AV.refsL, AV.refs]); intro R hR)))))
      all_goals exact St.to.of_le (St.le_of (by simp [leT, ifv, h7, h8, h9]) (by simp [leH, hget, hh, h7, h8, h9]))
    · (try simp only [ifv_true, ifv_false, Bool.and_true, Bool.true_and, Bool.not_false, Bool.not_true, Bool.false_and, Bool.and_false] at hR ⊢)
      generalize hh (L 2) (L 9) (L 14) (L 15) X [vi .u64 (l0 s), vi .u64 (l1 s), vi .u64 (l2 s), vi .u64 (l3 s)] = H at hR ⊢
      (repeat (any_goals (first | ((with_reducible refine evL_one ?_ ?_); rfl; intro K hK; simp only [go_sem]; ((repeat (refine ndI (by first | assumption | omega | rfl) ?_)); refine hK _ ?_; clear hK K)) | (with_reducible first | (refine evL_nil ?_; refine hR _ ?_; clear hR R) | ((first | refine evC_seq ?_ | refine evC_block ?_); intro Ψ hΨ hΨ') | (refine evC_region ?_; intro R hR) | (refine hΨ _ ?_; clear hΨ hΨ' Ψ) | refine evC_skip ?_ | refine evC_ret ?_ | refine evC_exit ?_) | ((with_reducible refine hΨ' _ _ ?_ ?_); (focus (simp; done)); clear hΨ hΨ' Ψ) | ((with_reducible apply evC_cond); rfl; rfl; all_goals (intro hc; first | (cases hc; done) | (try simp only at hc))) | ((with_reducible refine evD_nil ?_ ?_); kernel_rfl; (with_reducible refine hR _ ?_); clear hR R) | ((first | ((with_reducible apply evD_skip); rfl; rfl; rfl; rfl) | ((with_reducible apply evD_unmet); rfl; rfl; rfl) | ((first | ((with_reducible apply evD_any); rfl; rfl) | ((with_reducible apply evD_gany); rfl; rfl; rfl; rfl; rfl)); (simp only [rdE, rdOf, go_sem]; rfl); (intro τ hA hQ hN; ((try simp only [agree, Op.operands, Call.operands, go_sem, List.mem_cons, List.not_mem_nil, forall_eq_or_imp, forall_eq, List.append_toArray, Option.toArray] at hA); (try simp only [go_sem, List.mem_cons, List.not_mem_nil, forall_eq_or_imp, forall_eq] at hQ hN); (first | (revert hA; intro hA) | have hA := trivial); (first | (revert hQ; intro hQ) | have hQ := trivial); (first | (revert hN; intro hN) | have hN := trivial); simp only [go_sem, hA, hQ, hN]; (repeat (refine ndI (by first | assumption | omega | rfl) ?_)); (first | apply eff_rd | apply eff_st | apply eff_nw)))) | ((first | ((with_reducible apply evD_new); rfl; rfl; rfl) | ((with_reducible apply evD_grd_new); rfl; rfl; rfl; rfl; rfl; rfl)); (intro τ hA hQ hN; ((try simp only [agree, Op.operands, Call.operands, go_sem, List.mem_cons, List.not_mem_nil, forall_eq_or_imp, forall_eq, List.append_toArray, Option.toArray] at hA); (try simp only [go_sem, List.mem_cons, List.not_mem_nil, forall_eq_or_imp, forall_eq] at hQ); (first | (revert hA; intro hA) | have hA := trivial); (first | (revert hQ; intro hQ) | have hQ := trivial); simp only [go_sem, hA, hQ, hN]; (repeat (refine ndI (by first | assumption | omega | rfl) ?_)); exact eff_nw _ _ _ _)))); (simp only [St.eff, setO, hputs, go_sem])) | ((with_reducible apply evD_split); rfl; rfl; rfl; all_goals intro hb; all_goals (simp only [St.eff, setO, hputs, go_sem])) | ((with_reducible refine evC_draw ?_ ?_ ?_ ?_); kernel_rfl; kernel_rfl; (first | kernel_rfl | simp [newNames, isNew, St.free, freeH, AV.refsL, AV.refs]); intro R hR))))
      exact St.to.of_le ⟨leT_length (by simp [leT, ifv]), leT_get (by simp [leT, ifv]), fun _ _ h => h⟩
    · have g3 : L 3 = true := hpre ⟨3, .data⟩ (by simp) rfl
      (try simp only [g3, ifv_true, ifv_false, Bool.and_true, Bool.true_and, Bool.not_false, Bool.not_true, Bool.false_and, Bool.and_false] at hR ⊢)
      generalize hh (L 2) (L 9) (L 14) (L 15) X [vi .u64 (l0 s), vi .u64 (l1 s), vi .u64 (l2 s), vi .u64 (l3 s)] = H at hR ⊢
      (repeat (any_goals (first | ((with_reducible refine evL_one ?_ ?_); rfl; intro K hK; simp only [go_sem]; ((repeat (refine ndI (by first | assumption | omega | rfl) ?_)); refine hK _ ?_; clear hK K)) | (with_reducible first | (refine evL_nil ?_; refine hR _ ?_; clear hR R) | ((first | refine evC_seq ?_ | refine evC_block ?_); intro Ψ hΨ hΨ') | (refine evC_region ?_; intro R hR) | (refine hΨ _ ?_; clear hΨ hΨ' Ψ) | refine evC_skip ?_ | refine evC_ret ?_ | refine evC_exit ?_) | ((with_reducible refine hΨ' _ _ ?_ ?_); (focus (simp; done)); clear hΨ hΨ' Ψ) | ((with_reducible apply evC_cond); rfl; rfl; all_goals (intro hc; first | (cases hc; done) | (try simp only at hc))) | ((with_reducible refine evD_nil ?_ ?_); kernel_rfl; (with_reducible refine hR _ ?_); clear hR R) | ((first | ((with_reducible apply evD_skip); rfl; rfl; rfl; rfl) | ((with_reducible apply evD_unmet); rfl; rfl; rfl) | ((first | ((with_reducible apply evD_any); rfl; rfl) | ((with_reducible apply evD_gany); rfl; rfl; rfl; rfl; rfl)); (simp only [rdE, rdOf, go_sem]; rfl); (intro τ hA hQ hN; ((try simp only [agree, Op.operands, Call.operands, go_sem, List.mem_cons, List.not_mem_nil, forall_eq_or_imp, forall_eq, List.append_toArray, Option.toArray] at hA); (try simp only [go_sem, List.mem_cons, List.not_mem_nil, forall_eq_or_imp, forall_eq] at hQ hN); (first | (revert hA; intro hA) | have hA := trivial); (first | (revert hQ; intro hQ) | have hQ := trivial); (first | (revert hN; intro hN) | have hN := trivial); simp only [go_sem, hA, hQ, hN]; (repeat (refine ndI (by first | assumption | omega | rfl) ?_)); (first | apply eff_rd | apply eff_st | apply eff_nw)))) | ((first | ((with_reducible apply evD_new); rfl; rfl; rfl) | ((with_reducible apply evD_grd_new); rfl; rfl; rfl; rfl; rfl; rfl)); (intro τ hA hQ hN; ((try simp only [agree, Op.operands, Call.operands, go_sem, List.mem_cons, List.not_mem_nil, forall_eq_or_imp, forall_eq, List.append_toArray, Option.toArray] at hA); (try simp only [go_sem, List.mem_cons, List.not_mem_nil, forall_eq_or_imp, forall_eq] at hQ); (first | (revert hA; intro hA) | have hA := trivial); (first | (revert hQ; intro hQ) | have hQ := trivial); simp only [go_sem, hA, hQ, hN]; (repeat (refine ndI (by first | assumption | omega | rfl) ?_)); exact eff_nw _ _ _ _)))); (simp only [St.eff, setO, hputs, go_sem])) | ((with_reducible apply evD_split); rfl; rfl; rfl; all_goals intro hb; all_goals (simp only [St.eff, setO, hputs, go_sem])) | ((with_reducible refine evC_draw ?_ ?_ ?_ ?_); kernel_rfl; kernel_rfl; (first | kernel_rfl | simp [newNames, isNew, St.free, freeH, AV.refsL, AV.refs]); intro R hR))))
      exact St.to.of_le ⟨leT_length (by simp [leT, ifv, g3]), leT_get (by simp [leT, ifv, g3]), fun _ _ h => h⟩
    · (try simp only [ifv_true, ifv_false, Bool.and_true, Bool.true_and, Bool.not_false, Bool.not_true, Bool.false_and, Bool.and_false] at hR ⊢)
      generalize hh (L 2) (L 9) (L 14) (L 15) X [vi .u64 (l0 s), vi .u64 (l1 s), vi .u64 (l2 s), vi .u64 (l3 s)] = H at hR ⊢
      (repeat (any_goals (first | ((with_reducible refine evL_one ?_ ?_); rfl; intro K hK; simp only [go_sem]; ((repeat (refine ndI (by first | assumption | omega | rfl) ?_)); refine hK _ ?_; clear hK K)) | (with_reducible first | (refine evL_nil ?_; refine hR _ ?_; clear hR R) | ((first | refine evC_seq ?_ | refine evC_block ?_); intro Ψ hΨ hΨ') | (refine evC_region ?_; intro R hR) | (refine hΨ _ ?_; clear hΨ hΨ' Ψ) | refine evC_skip ?_ | refine evC_ret ?_ | refine evC_exit ?_) | ((with_reducible refine hΨ' _ _ ?_ ?_); (focus (simp; done)); clear hΨ hΨ' Ψ) | ((with_reducible apply evC_cond); rfl; rfl; all_goals (intro hc; first | (cases hc; done) | (try simp only at hc))) | ((with_reducible refine evD_nil ?_ ?_); kernel_rfl; (with_reducible refine hR _ ?_); clear hR R) | ((first | ((with_reducible apply evD_skip); rfl; rfl; rfl; rfl) | ((with_reducible apply evD_unmet); rfl; rfl; rfl) | ((first | ((with_reducible apply evD_any); rfl; rfl) | ((with_reducible apply evD_gany); rfl; rfl; rfl; rfl; rfl)); (simp only [rdE, rdOf, go_sem]; rfl); (intro τ hA hQ hN; ((try simp only [agree, Op.operands, Call.operands, go_sem, List.mem_cons, List.not_mem_nil, forall_eq_or_imp, forall_eq, List.append_toArray, Option.toArray] at hA); (try simp only [go_sem, List.mem_cons, List.not_mem_nil, forall_eq_or_imp, forall_eq] at hQ hN); (first | (revert hA; intro hA) | have hA := trivial); (first | (revert hQ; intro hQ) | have hQ := trivial); (first | (revert hN; intro hN) | have hN := trivial); simp only [go_sem, hA, hQ, hN]; (repeat (refine ndI (by first | assumption | omega | rfl) ?_)); (first | apply eff_rd | apply eff_st | apply eff_nw)))) | ((first | ((with_reducible apply evD_new); rfl; rfl; rfl) | ((with_reducible apply evD_grd_new); rfl; rfl; rfl; rfl; rfl; rfl)); (intro τ hA hQ hN; ((try simp only [agree, Op.operands, Call.operands, go_sem, List.mem_cons, List.not_mem_nil, forall_eq_or_imp, forall_eq, List.append_toArray, Option.toArray] at hA); (try simp only [go_sem, List.mem_cons, List.not_mem_nil, forall_eq_or_imp, forall_eq] at hQ); (first | (revert hA; intro hA) | have hA := trivial); (first | (revert hQ; intro hQ) | have hQ := trivial); simp only [go_sem, hA, hQ, hN]; (repeat (refine ndI (by first | assumption | omega | rfl) ?_)); exact eff_nw _ _ _ _)))); (simp only [St.eff, setO, hputs, go_sem])) | ((with_reducible apply evD_split); rfl; rfl; rfl; all_goals intro hb; all_goals (simp only [St.eff, setO, hputs, go_sem])) | ((with_reducible refine evC_draw ?_ ?_ ?_ ?_); kernel_rfl; kernel_rfl; (first | kernel_rfl | simp [newNames, isNew, St.free, freeH, AV.refsL, AV.refs]); intro R hR))))
      exact St.to.of_le ⟨leT_length (by simp [leT, ifv]), leT_get (by simp [leT, ifv]), fun _ _ h => h⟩
    · have g5 : L 5 = true := hpre ⟨5, .data⟩ (by simp) rfl
      (try simp only [g5, ifv_true, ifv_false, Bool.and_true, Bool.true_and, Bool.not_false, Bool.not_true, Bool.false_and, Bool.and_false] at hR ⊢)
      generalize hh (L 2) (L 9) (L 14) (L 15) X [vi .u64 (l0 s), vi .u64 (l1 s), vi .u64 (l2 s), vi .u64 (l3 s)] = H at hR ⊢
      (repeat (any_goals (first | ((with_reducible refine evL_one ?_ ?_); rfl; intro K hK; simp only [go_sem]; ((repeat (refine ndI (by first | assumption | omega | rfl) ?_)); refine hK _ ?_; clear hK K)) | (with_reducible first | (refine evL_nil ?_; refine hR _ ?_; clear hR R) | ((first | refine evC_seq ?_ | refine evC_block ?_); intro Ψ hΨ hΨ') | (refine evC_region ?_; intro R hR) | (refine hΨ _ ?_; clear hΨ hΨ' Ψ) | refine evC_skip ?_ | refine evC_ret ?_ | refine evC_exit ?_) | ((with_reducible refine hΨ' _ _ ?_ ?_); (focus (simp; done)); clear hΨ hΨ' Ψ) | ((with_reducible apply evC_cond); rfl; rfl; all_goals (intro hc; first | (cases hc; done) | (try simp only at hc))) | ((with_reducible refine evD_nil ?_ ?_); kernel_rfl; (with_reducible refine hR _ ?_); clear hR R) | ((first | ((with_reducible apply evD_skip); rfl; rfl; rfl; rfl) | ((with_reducible apply evD_unmet); rfl; rfl; rfl) | ((first | ((with_reducible apply evD_any); rfl; rfl) | ((with_reducible apply evD_gany); rfl; rfl; rfl; rfl; rfl)); (simp only [rdE, rdOf, go_sem]; rfl); (intro τ hA hQ hN; ((try simp only [agree, Op.operands, Call.operands, go_sem, List.mem_cons, List.not_mem_nil, forall_eq_or_imp, forall_eq, List.append_toArray, Option.toArray] at hA); (try simp only [go_sem, List.mem_cons, List.not_mem_nil, forall_eq_or_imp, forall_eq] at hQ hN); (first | (revert hA; intro hA) | have hA := trivial); (first | (revert hQ; intro hQ) | have hQ := trivial); (first | (revert hN; intro hN) | have hN := trivial); simp only [go_sem, hA, hQ, hN]; (repeat (refine ndI (by first | assumption | omega | rfl) ?_)); (first | apply eff_rd | apply eff_st | apply eff_nw)))) | ((first | ((with_reducible apply evD_new); rfl; rfl; rfl) | ((with_reducible apply evD_grd_new); rfl; rfl; rfl; rfl; rfl; rfl)); (intro τ hA hQ hN; ((try simp only [agree, Op.operands, Call.operands, go_sem, List.mem_cons, List.not_mem_nil, forall_eq_or_imp, forall_eq, List.append_toArray, Option.toArray] at hA); (try simp only [go_sem, List.mem_cons, List.not_mem_nil, forall_eq_or_imp, forall_eq] at hQ); (first | (revert hA; intro hA) | have hA := trivial); (first | (revert hQ; intro hQ) | have hQ := trivial); simp only [go_sem, hA, hQ, hN]; (repeat (refine ndI (by first | assumption | omega | rfl) ?_)); exact eff_nw _ _ _ _)))); (simp only [St.eff, setO, hputs, go_sem])) | ((with_reducible apply evD_split); rfl; rfl; rfl; all_goals intro hb; all_goals (simp only [St.eff, setO, hputs, go_sem])) | ((with_reducible refine evC_draw ?_ ?_ ?_ ?_); kernel_rfl; kernel_rfl; (first | kernel_rfl | simp [newNames, isNew, St.free, freeH, AV.refsL, AV.refs]); intro R hR))))
      exact St.to.of_le ⟨leT_length (by simp [leT, ifv, g5]), leT_get (by simp [leT, ifv, g5]), fun _ _ h => h⟩
    · have g4 : L 4 = true := hpre ⟨4, .data⟩ (by simp) rfl
      have g6 : L 6 = true := hpre ⟨6, .data⟩ (by simp) rfl
      (try simp only [g4, g6, ifv_true, ifv_false, Bool.and_true, Bool.true_and, Bool.not_false, Bool.not_true, Bool.false_and, Bool.and_false] at hR ⊢)
      generalize hh (L 2) (L 9) (L 14) (L 15) X [vi .u64 (l0 s), vi .u64 (l1 s), vi .u64 (l2 s), vi .u64 (l3 s)] = H at hR ⊢
      (repeat (any_goals (first | ((with_reducible refine evL_call ?_ ?_ ?_); rfl; rfl; intro K hK; ((apply opA_callB (f2); rfl; rfl; rfl; rfl; exact Try.func36); kernel_rfl; rfl; (simp only [go_sem]; rfl); (first | rfl | simp [AV.inNL, AV.inN])); (simp only [go_sem]; refine hK _ ?_; clear hK K)) | ((with_reducible refine evL_one ?_ ?_); rfl; intro K hK; simp only [go_sem]; ((repeat (refine ndI (by first | assumption | omega | rfl) ?_)); refine hK _ ?_; clear hK K)) | (with_reducible first | (refine evL_nil ?_; refine hR _ ?_; clear hR R) | ((first | refine evC_seq ?_ | refine evC_block ?_); intro Ψ hΨ hΨ') | (refine evC_region ?_; intro R hR) | (refine hΨ _ ?_; clear hΨ hΨ' Ψ) | refine evC_skip ?_ | refine evC_ret ?_ | refine evC_exit ?_) | ((with_reducible refine hΨ' _ _ ?_ ?_); (focus (simp; done)); clear hΨ hΨ' Ψ) | ((with_reducible apply evC_cond); rfl; rfl; all_goals (intro hc; first | (cases hc; done) | (try simp only at hc))) | ((with_reducible refine evD_nil ?_ ?_); kernel_rfl; (with_reducible refine hR _ ?_); clear hR R) | ((first | ((with_reducible apply evD_skip); rfl; rfl; rfl; rfl) | ((with_reducible apply evD_unmet); rfl; rfl; rfl) | ((first | ((with_reducible apply evD_fcall); rfl; rfl) | ((with_reducible apply evD_gcall); rfl; rfl; rfl; rfl; rfl)); ((apply opF_callB (f2); rfl; rfl; rfl; rfl; exact Try.func36); kernel_rfl; rfl; (simp only [go_sem]; rfl); (first | rfl | simp [AV.inNL, AV.inN]))) | ((first | ((with_reducible apply evD_any); rfl; rfl) | ((with_reducible apply evD_gany); rfl; rfl; rfl; rfl; rfl)); (simp only [rdE, rdOf, go_sem]; rfl); (intro τ hA hQ hN; ((try simp only [agree, Op.operands, Call.operands, go_sem, List.mem_cons, List.not_mem_nil, forall_eq_or_imp, forall_eq, List.append_toArray, Option.toArray] at hA); (try simp only [go_sem, List.mem_cons, List.not_mem_nil, forall_eq_or_imp, forall_eq] at hQ hN); (first | (revert hA; intro hA) | have hA := trivial); (first | (revert hQ; intro hQ) | have hQ := trivial); (first | (revert hN; intro hN) | have hN := trivial); simp only [go_sem, hA, hQ, hN]; (repeat (refine ndI (by first | assumption | omega | rfl) ?_)); (first | apply eff_rd | apply eff_st | apply eff_nw)))) | ((first | ((with_reducible apply evD_new); rfl; rfl; rfl) | ((with_reducible apply evD_grd_new); rfl; rfl; rfl; rfl; rfl; rfl)); (intro τ hA hQ hN; ((try simp only [agree, Op.operands, Call.operands, go_sem, List.mem_cons, List.not_mem_nil, forall_eq_or_imp, forall_eq, List.append_toArray, Option.toArray] at hA); (try simp only [go_sem, List.mem_cons, List.not_mem_nil, forall_eq_or_imp, forall_eq] at hQ); (first | (revert hA; intro hA) | have hA := trivial); (first | (revert hQ; intro hQ) | have hQ := trivial); simp only [go_sem, hA, hQ, hN]; (repeat (refine ndI (by first | assumption | omega | rfl) ?_)); exact eff_nw _ _ _ _)))); (simp only [St.eff, setO, hputs, go_sem])) | ((with_reducible apply evD_split); rfl; rfl; rfl; all_goals intro hb; all_goals (simp only [St.eff, setO, hputs, go_sem])) | ((with_reducible refine evC_draw ?_ ?_ ?_ ?_); kernel_rfl; kernel_rfl; (first | kernel_rfl | simp [newNames, isNew, St.free, freeH, AV.refsL, AV.refs]); intro R hR))))
      exact St.to.of_le ⟨leT_length (by simp [leT, ifv, g4, g6]), leT_get (by simp [leT, ifv, g4, g6]), fun _ _ h => h⟩
    · have g7 : L 7 = true := hpre ⟨7, .data⟩ (by simp) rfl
      (try simp only [g7, ifv_true, ifv_false, Bool.and_true, Bool.true_and, Bool.not_false, Bool.not_true, Bool.false_and, Bool.and_false] at hR ⊢)
      generalize hh (L 2) (L 9) (L 14) (L 15) X [vi .u64 (l0 s), vi .u64 (l1 s), vi .u64 (l2 s), vi .u64 (l3 s)] = H at hR ⊢
      (repeat (any_goals (first | ((with_reducible refine evL_op ?_ ?_); rfl; intro K hK; apply opA_buildSlice_flat; rfl; rfl; (focus (simp only [go_sem]; try rfl)); (focus (simp only [go_sem]; try rfl)); rfl; (first | omega | (dsimp only; omega) | (simp only [Option.isSome_some, Option.isSome_none]; omega) | (simp; omega) | (focus (simp; done))); (first | omega | (dsimp only; omega) | (simp only [Option.isSome_some, Option.isSome_none]; omega) | (simp; omega) | (focus (simp; done))); (first | omega | (dsimp only; omega) | (simp only [Option.isSome_some, Option.isSome_none]; omega) | (simp; omega) | (focus (simp; done))); (simp only [go_sem]; rfl); rfl; (focus ((simp only [unC, Option.map_some]); (try rfl))); (simp only [go_sem]; refine hK _ ?_; clear hK K)) | ((with_reducible refine evL_one ?_ ?_); rfl; intro K hK; simp only [go_sem]; ((repeat (refine ndI (by first | assumption | omega | rfl) ?_)); refine hK _ ?_; clear hK K)) | (with_reducible first | (refine evL_nil ?_; refine hR _ ?_; clear hR R) | ((first | refine evC_seq ?_ | refine evC_block ?_); intro Ψ hΨ hΨ') | (refine evC_region ?_; intro R hR) | (refine hΨ _ ?_; clear hΨ hΨ' Ψ) | refine evC_skip ?_ | refine evC_ret ?_ | refine evC_exit ?_) | ((with_reducible refine hΨ' _ _ ?_ ?_); (focus (simp; done)); clear hΨ hΨ' Ψ) | ((with_reducible apply evC_cond); rfl; rfl; all_goals (intro hc; first | (cases hc; done) | (try simp only at hc))) | ((with_reducible refine evD_nil ?_ ?_); kernel_rfl; (with_reducible refine hR _ ?_); clear hR R) | ((first | ((with_reducible apply evD_skip); rfl; rfl; rfl; rfl) | ((with_reducible apply evD_unmet); rfl; rfl; rfl) | ((first | ((with_reducible apply evD_any); rfl; rfl) | ((with_reducible apply evD_gany); rfl; rfl; rfl; rfl; rfl)); (simp only [rdE, rdOf, go_sem]; rfl); (intro τ hA hQ hN; ((try simp only [agree, Op.operands, Call.operands, go_sem, List.mem_cons, List.not_mem_nil, forall_eq_or_imp, forall_eq, List.append_toArray, Option.toArray] at hA); (try simp only [go_sem, List.mem_cons, List.not_mem_nil, forall_eq_or_imp, forall_eq] at hQ hN); (first | (revert hA; intro hA) | have hA := trivial); (first | (revert hQ; intro hQ) | have hQ := trivial); (first | (revert hN; intro hN) | have hN := trivial); simp only [go_sem, hA, hQ, hN]; (repeat (refine ndI (by first | assumption | omega | rfl) ?_)); (first | apply eff_rd | apply eff_st | apply eff_nw)))) | ((first | ((with_reducible apply evD_new); rfl; rfl; rfl) | ((with_reducible apply evD_grd_new); rfl; rfl; rfl; rfl; rfl; rfl)); (intro τ hA hQ hN; ((try simp only [agree, Op.operands, Call.operands, go_sem, List.mem_cons, List.not_mem_nil, forall_eq_or_imp, forall_eq, List.append_toArray, Option.toArray] at hA); (try simp only [go_sem, List.mem_cons, List.not_mem_nil, forall_eq_or_imp, forall_eq] at hQ); (first | (revert hA; intro hA) | have hA := trivial); (first | (revert hQ; intro hQ) | have hQ := trivial); simp only [go_sem, hA, hQ, hN]; (repeat (refine ndI (by first | assumption | omega | rfl) ?_)); exact eff_nw _ _ _ _))) | ((first | ((with_reducible apply evD_one); rfl) | ((with_reducible apply evD_grd); rfl; rfl; rfl; rfl)); apply opF_buildSlice_flat; rfl; rfl; (focus (simp only [go_sem]; try rfl)); (focus (simp only [go_sem]; try rfl)); rfl; (first | omega | (dsimp only; omega) | (simp only [Option.isSome_some, Option.isSome_none]; omega) | (simp; omega) | (focus (simp; done))); (first | omega | (dsimp only; omega) | (simp only [Option.isSome_some, Option.isSome_none]; omega) | (simp; omega) | (focus (simp; done))); (first | omega | (dsimp only; omega) | (simp only [Option.isSome_some, Option.isSome_none]; omega) | (simp; omega) | (focus (simp; done))); (simp only [go_sem]; rfl); rfl; (focus ((simp only [unC, Option.map_some]); (try rfl))))); (simp only [St.eff, setO, hputs, go_sem])) | ((with_reducible apply evD_split); rfl; rfl; rfl; all_goals intro hb; all_goals (simp only [St.eff, setO, hputs, go_sem])) | ((with_reducible refine evC_draw ?_ ?_ ?_ ?_); kernel_rfl; kernel_rfl; (first | kernel_rfl | simp [newNames, isNew, St.free, freeH, AV.refsL, AV.refs]); intro R hR))))
      exact St.to.of_le ⟨leT_length (by simp [leT, ifv, g7]), leT_get (by simp [leT, ifv, g7]), fun _ _ h => h⟩
    · have g2 : L 2 = true := hpre ⟨2, .data⟩ (by simp) rfl
      have g8 : L 8 = true := hpre ⟨8, .data⟩ (by simp) rfl
      cases h7 : L 14 <;> cases h8 : L 15
      all_goals (try simp only [h7, h8, hu, hh, List.nil_append, List.cons_append, List.append_nil, if_true, if_false, Bool.false_eq_true, g2, g8, ifv_true, ifv_false, Bool.and_true, Bool.true_and, Bool.not_false, Bool.not_true, Bool.false_and, Bool.and_false] at hR ⊢)
      all_goals (have W := ndI e1 (ndI e3 @refsL_map); (repeat (any_goals (first | ((with_reducible refine evL_one ?_ ?_); rfl; intro K hK; simp (disch := omega) only [go_sem, W, refs_ifv, Bool.and_false]; ((repeat (refine ndI (by first | assumption | omega | rfl) ?_)); refine hK _ ?_; clear hK K)) | (with_reducible first | (refine evL_nil ?_; refine hR _ ?_; clear hR R) | ((first | refine evC_seq ?_ | refine evC_block ?_); intro Ψ hΨ hΨ') | (refine evC_region ?_; intro R hR) | (refine hΨ _ ?_; clear hΨ hΨ' Ψ) | refine evC_skip ?_ | refine evC_ret ?_ | refine evC_exit ?_) | ((with_reducible refine hΨ' _ _ ?_ ?_); (focus (simp; done)); clear hΨ hΨ' Ψ) | ((with_reducible apply evC_cond); rfl; rfl; all_goals (intro hc; first | (cases hc; done) | (try simp only at hc))) | ((with_reducible refine evD_nil ?_ ?_); kernel_rfl; (with_reducible refine hR _ ?_); clear hR R) | ((first | ((with_reducible apply evD_skip); rfl; rfl; rfl; rfl) | ((with_reducible apply evD_unmet); rfl; rfl; rfl) | ((first | ((with_reducible apply evD_any); rfl; rfl) | ((with_reducible apply evD_gany); rfl; rfl; rfl; rfl; rfl)); (simp (disch := omega) only [rdE, rdOf, go_sem, W, refs_ifv, Bool.and_false]; rfl); (intro τ hA hQ hN; ((try simp only [agree, Op.operands, Call.operands, go_sem, W, refs_ifv, Bool.and_false, go_sem, List.mem_cons, List.not_mem_nil, forall_eq_or_imp, forall_eq, List.append_toArray, Option.toArray] at hA); (try simp only [go_sem, W, refs_ifv, Bool.and_false, List.mem_cons, List.not_mem_nil, forall_eq_or_imp, forall_eq] at hQ hN); (first | (revert hA; intro hA) | have hA := trivial); (first | (revert hQ; intro hQ) | have hQ := trivial); (first | (revert hN; intro hN) | have hN := trivial); simp (disch := omega) only [go_sem, W, refs_ifv, Bool.and_false, go_sem, hA, hQ, hN]; (repeat (refine ndI (by first | assumption | omega | rfl) ?_)); (first | apply eff_rd | apply eff_st | apply eff_nw)))) | ((first | ((with_reducible apply evD_new); rfl; rfl; rfl) | ((with_reducible apply evD_grd_new); rfl; rfl; rfl; rfl; rfl; rfl)); (intro τ hA hQ hN; ((try simp (disch := omega) only [agree, Op.operands, Call.operands, go_sem, W, refs_ifv, Bool.and_false, go_sem, List.mem_cons, List.not_mem_nil, forall_eq_or_imp, forall_eq, List.append_toArray, Option.toArray] at hA); (try simp (disch := omega) only [go_sem, W, refs_ifv, Bool.and_false, List.mem_cons, List.not_mem_nil, forall_eq_or_imp, forall_eq] at hQ); (first | (revert hA; intro hA) | have hA := trivial); (first | (revert hQ; intro hQ) | have hQ := trivial); simp (disch := omega) only [go_sem, W, refs_ifv, Bool.and_false, go_sem, hA, hQ, hN]; (repeat (refine ndI (by first | assumption | omega | rfl) ?_)); exact eff_nw _ _ _ _)))); (simp (disch := omega) only [St.eff, setO, hputs, go_sem, W, refs_ifv, Bool.and_false])) | ((with_reducible apply evD_split); rfl; rfl; rfl; all_goals intro hb; all_goals (simp (disch := omega) only [St.eff, setO, hputs, go_sem, W, refs_ifv, Bool.and_false])) | ((with_reducible refine evC_draw ?_ ?_ ?_ ?_); kernel_rfl; kernel_rfl; (first | kernel_rfl | simp [newNames, isNew, St.free, freeH, AV.refsL, AV.refs]); intro R hR)))))
      all_goals exact St.to.trans (St.to.frz 14 (pcs := cW) (by simp [hget, e5])) (St.to.of_le (St.le_of (by simp [leT, St.frz, frz_ifv, AV.frz, AV.frzL, e8, ifv_true, ifv_false, h7, h8]) (by simp [leH, hget, hh, St.frz, frzH, AV.frzL, AV.frz, h7, h8])))
    · have g9 : L 9 = true := hpre ⟨9, .data⟩ (by simp) rfl
      (try simp only [g9, ifv_true, ifv_false, Bool.and_true, Bool.true_and, Bool.not_false, Bool.not_true, Bool.false_and, Bool.and_false] at hR ⊢)
      generalize hh (L 2) (L 9) (L 14) (L 15) X [vi .u64 (l0 s), vi .u64 (l1 s), vi .u64 (l2 s), vi .u64 (l3 s)] = H at hR ⊢
      (repeat (any_goals (first | ((with_reducible refine evL_call ?_ ?_ ?_); rfl; rfl; intro K hK; ((apply opA_callB (sm); rfl; rfl; rfl; rfl; exact Try.func34); kernel_rfl; rfl; (simp only [go_sem]; rfl); (first | rfl | simp [AV.inNL, AV.inN])); (simp only [go_sem]; refine hK _ ?_; clear hK K)) | ((with_reducible refine evL_one ?_ ?_); rfl; intro K hK; simp only [go_sem]; ((repeat (refine ndI (by first | assumption | omega | rfl) ?_)); refine hK _ ?_; clear hK K)) | (with_reducible first | (refine evL_nil ?_; refine hR _ ?_; clear hR R) | ((first | refine evC_seq ?_ | refine evC_block ?_); intro Ψ hΨ hΨ') | (refine evC_region ?_; intro R hR) | (refine hΨ _ ?_; clear hΨ hΨ' Ψ) | refine evC_skip ?_ | refine evC_ret ?_ | refine evC_exit ?_) | ((with_reducible refine hΨ' _ _ ?_ ?_); (focus (simp; done)); clear hΨ hΨ' Ψ) | ((with_reducible apply evC_cond); rfl; rfl; all_goals (intro hc; first | (cases hc; done) | (try simp only at hc))) | ((with_reducible refine evD_nil ?_ ?_); kernel_rfl; (with_reducible refine hR _ ?_); clear hR R) | ((first | ((with_reducible apply evD_skip); rfl; rfl; rfl; rfl) | ((with_reducible apply evD_unmet); rfl; rfl; rfl) | ((first | ((with_reducible apply evD_fcall); rfl; rfl) | ((with_reducible apply evD_gcall); rfl; rfl; rfl; rfl; rfl)); ((apply opF_callB (sm); rfl; rfl; rfl; rfl; exact Try.func34); kernel_rfl; rfl; (simp only [go_sem]; rfl); (first | rfl | simp [AV.inNL, AV.inN]))) | ((first | ((with_reducible apply evD_any); rfl; rfl) | ((with_reducible apply evD_gany); rfl; rfl; rfl; rfl; rfl)); (simp only [rdE, rdOf, go_sem]; rfl); (intro τ hA hQ hN; ((try simp only [agree, Op.operands, Call.operands, go_sem, List.mem_cons, List.not_mem_nil, forall_eq_or_imp, forall_eq, List.append_toArray, Option.toArray] at hA); (try simp only [go_sem, List.mem_cons, List.not_mem_nil, forall_eq_or_imp, forall_eq] at hQ hN); (first | (revert hA; intro hA) | have hA := trivial); (first | (revert hQ; intro hQ) | have hQ := trivial); (first | (revert hN; intro hN) | have hN := trivial); simp only [go_sem, hA, hQ, hN]; (repeat (refine ndI (by first | assumption | omega | rfl) ?_)); (first | apply eff_rd | apply eff_st | apply eff_nw)))) | ((first | ((with_reducible apply evD_new); rfl; rfl; rfl) | ((with_reducible apply evD_grd_new); rfl; rfl; rfl; rfl; rfl; rfl)); (intro τ hA hQ hN; ((try simp only [agree, Op.operands, Call.operands, go_sem, List.mem_cons, List.not_mem_nil, forall_eq_or_imp, forall_eq, List.append_toArray, Option.toArray] at hA); (try simp only [go_sem, List.mem_cons, List.not_mem_nil, forall_eq_or_imp, forall_eq] at hQ); (first | (revert hA; intro hA) | have hA := trivial); (first | (revert hQ; intro hQ) | have hQ := trivial); simp only [go_sem, hA, hQ, hN]; (repeat (refine ndI (by first | assumption | omega | rfl) ?_)); exact eff_nw _ _ _ _)))); (simp only [St.eff, setO, hputs, go_sem])) | ((with_reducible apply evD_split); rfl; rfl; rfl; all_goals intro hb; all_goals (simp only [St.eff, setO, hputs, go_sem])) | ((with_reducible refine evC_draw ?_ ?_ ?_ ?_); kernel_rfl; kernel_rfl; (first | kernel_rfl | simp [newNames, isNew, St.free, freeH, AV.refsL, AV.refs]); intro R hR))))
      exact St.to.of_le ⟨leT_length (by simp [leT, ifv, g9]), leT_get (by simp [leT, ifv, g9]), fun _ _ h => h⟩
    · have g10 : L 10 = true := hpre ⟨10, .data⟩ (by simp) rfl
      (try simp only [g10, ifv_true, ifv_false, Bool.and_true, Bool.true_and, Bool.not_false, Bool.not_true, Bool.false_and, Bool.and_false] at hR ⊢)
      generalize hh (L 2) (L 9) (L 14) (L 15) X [vi .u64 (l0 s), vi .u64 (l1 s), vi .u64 (l2 s), vi .u64 (l3 s)] = H at hR ⊢
      (repeat (any_goals (first | ((with_reducible refine evL_one ?_ ?_); rfl; intro K hK; simp only [go_sem]; ((repeat (refine ndI (by first | assumption | omega | rfl) ?_)); refine hK _ ?_; clear hK K)) | (with_reducible first | (refine evL_nil ?_; refine hR _ ?_; clear hR R) | ((first | refine evC_seq ?_ | refine evC_block ?_); intro Ψ hΨ hΨ') | (refine evC_region ?_; intro R hR) | (refine hΨ _ ?_; clear hΨ hΨ' Ψ) | refine evC_skip ?_ | refine evC_ret ?_ | refine evC_exit ?_) | ((with_reducible refine hΨ' _ _ ?_ ?_); (focus (simp; done)); clear hΨ hΨ' Ψ) | ((with_reducible apply evC_cond); rfl; rfl; all_goals (intro hc; first | (cases hc; done) | (try simp only at hc))) | ((with_reducible refine evD_nil ?_ ?_); kernel_rfl; (with_reducible refine hR _ ?_); clear hR R) | ((first | ((with_reducible apply evD_skip); rfl; rfl; rfl; rfl) | ((with_reducible apply evD_unmet); rfl; rfl; rfl) | ((first | ((with_reducible apply evD_any); rfl; rfl) | ((with_reducible apply evD_gany); rfl; rfl; rfl; rfl; rfl)); (simp only [rdE, rdOf, go_sem]; rfl); (intro τ hA hQ hN; ((try simp only [agree, Op.operands, Call.operands, go_sem, List.mem_cons, List.not_mem_nil, forall_eq_or_imp, forall_eq, List.append_toArray, Option.toArray] at hA); (try simp only [go_sem, List.mem_cons, List.not_mem_nil, forall_eq_or_imp, forall_eq] at hQ hN); (first | (revert hA; intro hA) | have hA := trivial); (first | (revert hQ; intro hQ) | have hQ := trivial); (first | (revert hN; intro hN) | have hN := trivial); simp only [go_sem, hA, hQ, hN]; (repeat (refine ndI (by first | assumption | omega | rfl) ?_)); (first | apply eff_rd | apply eff_st | apply eff_nw)))) | ((first | ((with_reducible apply evD_new); rfl; rfl; rfl) | ((with_reducible apply evD_grd_new); rfl; rfl; rfl; rfl; rfl; rfl)); (intro τ hA hQ hN; ((try simp only [agree, Op.operands, Call.operands, go_sem, List.mem_cons, List.not_mem_nil, forall_eq_or_imp, forall_eq, List.append_toArray, Option.toArray] at hA); (try simp only [go_sem, List.mem_cons, List.not_mem_nil, forall_eq_or_imp, forall_eq] at hQ); (first | (revert hA; intro hA) | have hA := trivial); (first | (revert hQ; intro hQ) | have hQ := trivial); simp only [go_sem, hA, hQ, hN]; (repeat (refine ndI (by first | assumption | omega | rfl) ?_)); exact eff_nw _ _ _ _)))); (simp only [St.eff, setO, hputs, go_sem])) | ((with_reducible apply evD_split); rfl; rfl; rfl; all_goals intro hb; all_goals (simp only [St.eff, setO, hputs, go_sem])) | ((with_reducible refine evC_draw ?_ ?_ ?_ ?_); kernel_rfl; kernel_rfl; (first | kernel_rfl | simp [newNames, isNew, St.free, freeH, AV.refsL, AV.refs]); intro R hR))))
      exact St.to.of_le ⟨leT_length (by simp [leT, ifv, g10]), leT_get (by simp [leT, ifv, g10]), fun _ _ h => h⟩
    · have g11 : L 11 = true := hpre ⟨11, .data⟩ (by simp) rfl
      (try simp only [g11, ifv_true, ifv_false, Bool.and_true, Bool.true_and, Bool.not_false, Bool.not_true, Bool.false_and, Bool.and_false] at hR ⊢)
      generalize hh (L 2) (L 9) (L 14) (L 15) X [vi .u64 (l0 s), vi .u64 (l1 s), vi .u64 (l2 s), vi .u64 (l3 s)] = H at hR ⊢
      (repeat (any_goals (first | ((with_reducible refine evL_one ?_ ?_); rfl; intro K hK; simp only [go_sem]; ((repeat (refine ndI (by first | assumption | omega | rfl) ?_)); refine hK _ ?_; clear hK K)) | (with_reducible first | (refine evL_nil ?_; refine hR _ ?_; clear hR R) | ((first | refine evC_seq ?_ | refine evC_block ?_); intro Ψ hΨ hΨ') | (refine evC_region ?_; intro R hR) | (refine hΨ _ ?_; clear hΨ hΨ' Ψ) | refine evC_skip ?_ | refine evC_ret ?_ | refine evC_exit ?_) | ((with_reducible refine hΨ' _ _ ?_ ?_); (focus (simp; done)); clear hΨ hΨ' Ψ) | ((with_reducible apply evC_cond); rfl; rfl; all_goals (intro hc; first | (cases hc; done) | (try simp only at hc))) | ((with_reducible refine evD_nil ?_ ?_); kernel_rfl; (with_reducible refine hR _ ?_); clear hR R) | ((first | ((with_reducible apply evD_skip); rfl; rfl; rfl; rfl) | ((with_reducible apply evD_unmet); rfl; rfl; rfl) | ((first | ((with_reducible apply evD_any); rfl; rfl) | ((with_reducible apply evD_gany); rfl; rfl; rfl; rfl; rfl)); (simp only [rdE, rdOf, go_sem]; rfl); (intro τ hA hQ hN; ((try simp only [agree, Op.operands, Call.operands, go_sem, List.mem_cons, List.not_mem_nil, forall_eq_or_imp, forall_eq, List.append_toArray, Option.toArray] at hA); (try simp only [go_sem, List.mem_cons, List.not_mem_nil, forall_eq_or_imp, forall_eq] at hQ hN); (first | (revert hA; intro hA) | have hA := trivial); (first | (revert hQ; intro hQ) | have hQ := trivial); (first | (revert hN; intro hN) | have hN := trivial); simp only [go_sem, hA, hQ, hN]; (repeat (refine ndI (by first | assumption | omega | rfl) ?_)); (first | apply eff_rd | apply eff_st | apply eff_nw)))) | ((first | ((with_reducible apply evD_new); rfl; rfl; rfl) | ((with_reducible apply evD_grd_new); rfl; rfl; rfl; rfl; rfl; rfl)); (intro τ hA hQ hN; ((try simp only [agree, Op.operands, Call.operands, go_sem, List.mem_cons, List.not_mem_nil, forall_eq_or_imp, forall_eq, List.append_toArray, Option.toArray] at hA); (try simp only [go_sem, List.mem_cons, List.not_mem_nil, forall_eq_or_imp, forall_eq] at hQ); (first | (revert hA; intro hA) | have hA := trivial); (first | (revert hQ; intro hQ) | have hQ := trivial); simp only [go_sem, hA, hQ, hN]; (repeat (refine ndI (by first | assumption | omega | rfl) ?_)); exact eff_nw _ _ _ _)))); (simp only [St.eff, setO, hputs, go_sem])) | ((with_reducible apply evD_split); rfl; rfl; rfl; all_goals intro hb; all_goals (simp only [St.eff, setO, hputs, go_sem])) | ((with_reducible refine evC_draw ?_ ?_ ?_ ?_); kernel_rfl; kernel_rfl; (first | kernel_rfl | simp [newNames, isNew, St.free, freeH, AV.refsL, AV.refs]); intro R hR))))
      exact St.to.of_le ⟨leT_length (by simp [leT, ifv, g11]), leT_get (by simp [leT, ifv, g11]), fun _ _ h => h⟩
    · have g11 : L 11 = true := hpre ⟨11, .data⟩ (by simp) rfl
      (try simp only [g11, ifv_true, ifv_false, Bool.and_true, Bool.true_and, Bool.not_false, Bool.not_true, Bool.false_and, Bool.and_false] at hR ⊢)
      generalize hh (L 2) (L 9) (L 14) (L 15) X [vi .u64 (l0 s), vi .u64 (l1 s), vi .u64 (l2 s), vi .u64 (l3 s)] = H at hR ⊢
      (repeat (any_goals (first | ((with_reducible refine evL_one ?_ ?_); rfl; intro K hK; simp only [go_sem]; ((repeat (refine ndI (by first | assumption | omega | rfl) ?_)); refine hK _ ?_; clear hK K)) | (with_reducible first | (refine evL_nil ?_; refine hR _ ?_; clear hR R) | ((first | refine evC_seq ?_ | refine evC_block ?_); intro Ψ hΨ hΨ') | (refine evC_region ?_; intro R hR) | (refine hΨ _ ?_; clear hΨ hΨ' Ψ) | refine evC_skip ?_ | refine evC_ret ?_ | refine evC_exit ?_) | ((with_reducible refine hΨ' _ _ ?_ ?_); (focus (simp; done)); clear hΨ hΨ' Ψ) | ((with_reducible apply evC_cond); rfl; rfl; all_goals (intro hc; first | (cases hc; done) | (try simp only at hc))) | ((with_reducible refine evD_nil ?_ ?_); kernel_rfl; (with_reducible refine hR _ ?_); clear hR R) | ((first | ((with_reducible apply evD_skip); rfl; rfl; rfl; rfl) | ((with_reducible apply evD_unmet); rfl; rfl; rfl) | ((first | ((with_reducible apply evD_any); rfl; rfl) | ((with_reducible apply evD_gany); rfl; rfl; rfl; rfl; rfl)); (simp only [rdE, rdOf, go_sem]; rfl); (intro τ hA hQ hN; ((try simp only [agree, Op.operands, Call.operands, go_sem, List.mem_cons, List.not_mem_nil, forall_eq_or_imp, forall_eq, List.append_toArray, Option.toArray] at hA); (try simp only [go_sem, List.mem_cons, List.not_mem_nil, forall_eq_or_imp, forall_eq] at hQ hN); (first | (revert hA; intro hA) | have hA := trivial); (first | (revert hQ; intro hQ) | have hQ := trivial); (first | (revert hN; intro hN) | have hN := trivial); simp only [go_sem, hA, hQ, hN]; (repeat (refine ndI (by first | assumption | omega | rfl) ?_)); (first | apply eff_rd | apply eff_st | apply eff_nw)))) | ((first | ((with_reducible apply evD_new); rfl; rfl; rfl) | ((with_reducible apply evD_grd_new); rfl; rfl; rfl; rfl; rfl; rfl)); (intro τ hA hQ hN; ((try simp only [agree, Op.operands, Call.operands, go_sem, List.mem_cons, List.not_mem_nil, forall_eq_or_imp, forall_eq, List.append_toArray, Option.toArray] at hA); (try simp only [go_sem, List.mem_cons, List.not_mem_nil, forall_eq_or_imp, forall_eq] at hQ); (first | (revert hA; intro hA) | have hA := trivial); (first | (revert hQ; intro hQ) | have hQ := trivial); simp only [go_sem, hA, hQ, hN]; (repeat (refine ndI (by first | assumption | omega | rfl) ?_)); exact eff_nw _ _ _ _)))); (simp only [St.eff, setO, hputs, go_sem])) | ((with_reducible apply evD_split); rfl; rfl; rfl; all_goals intro hb; all_goals (simp only [St.eff, setO, hputs, go_sem])) | ((with_reducible refine evC_draw ?_ ?_ ?_ ?_); kernel_rfl; kernel_rfl; (first | kernel_rfl | simp [newNames, isNew, St.free, freeH, AV.refsL, AV.refs]); intro R hR))))
      exact St.to.of_le ⟨leT_length (by simp [leT, ifv, g11]), leT_get (by simp [leT, ifv, g11]), fun _ _ h => h⟩
    · have h8 : L 15 = false := by
        cases h15 : L 15 with
        | false => rfl
        | true => have := hcl 15 _ rfl h15 ⟨14, .data⟩ (by simp) rfl; rw [hu] at this; cases this
      cases h7 : (L 2 && !L 9)
      all_goals (try simp only [h7, h8, hu, hh, List.nil_append, List.cons_append, List.append_nil, if_true, if_false, Bool.false_eq_true, ifv_true, ifv_false, Bool.and_true, Bool.true_and, Bool.not_false, Bool.not_true, Bool.false_and, Bool.and_false] at hR ⊢)
      all_goals (repeat (any_goals (first | ((with_reducible refine evL_one ?_ ?_); rfl; intro K hK; simp only [go_sem, refs_ifv, e3, Bool.and_false]; ((repeat (refine ndI (by first | assumption | omega | rfl) ?_)); refine hK _ ?_; clear hK K)) | (with_reducible first | (refine evL_nil ?_; refine hR _ ?_; clear hR R) | ((first | refine evC_seq ?_ | refine evC_block ?_); intro Ψ hΨ hΨ') | (refine evC_region ?_; intro R hR) | (refine hΨ _ ?_; clear hΨ hΨ' Ψ) | refine evC_skip ?_ | refine evC_ret ?_ | refine evC_exit ?_) | ((with_reducible refine hΨ' _ _ ?_ ?_); (focus (simp; done)); clear hΨ hΨ' Ψ) | ((with_reducible apply evC_cond); rfl; rfl; all_goals (intro hc; first | (cases hc; done) | (try simp only at hc))) | ((with_reducible refine evD_nil ?_ ?_); kernel_rfl; (with_reducible refine hR _ ?_); clear hR R) | ((first | ((with_reducible apply evD_skip); rfl; rfl; rfl; rfl) | ((with_reducible apply evD_unmet); rfl; rfl; rfl) | ((first | ((with_reducible apply evD_any); rfl; rfl) | ((with_reducible apply evD_gany); rfl; rfl; rfl; rfl; rfl)); (simp only [rdE, rdOf, go_sem, refs_ifv, e3, Bool.and_false]; rfl); (intro τ hA hQ hN; ((try simp only [agree, Op.operands, Call.operands, go_sem, refs_ifv, e3, Bool.and_false, go_sem, List.mem_cons, List.not_mem_nil, forall_eq_or_imp, forall_eq, List.append_toArray, Option.toArray] at hA); (try simp only [go_sem, refs_ifv, e3, Bool.and_false, List.mem_cons, List.not_mem_nil, forall_eq_or_imp, forall_eq] at hQ hN); (first | (revert hA; intro hA) | have hA := trivial); (first | (revert hQ; intro hQ) | have hQ := trivial); (first | (revert hN; intro hN) | have hN := trivial); simp only [go_sem, refs_ifv, e3, Bool.and_false, go_sem, hA, hQ, hN]; (repeat (refine ndI (by first | assumption | omega | rfl) ?_)); (first | apply eff_rd | apply eff_st | apply eff_nw)))) | ((first | ((with_reducible apply evD_new); rfl; rfl; rfl) | ((with_reducible apply evD_grd_new); rfl; rfl; rfl; rfl; rfl; rfl)); (intro τ hA hQ hN; ((try simp only [agree, Op.operands, Call.operands, go_sem, refs_ifv, e3, Bool.and_false, go_sem, List.mem_cons, List.not_mem_nil, forall_eq_or_imp, forall_eq, List.append_toArray, Option.toArray] at hA); (try simp only [go_sem, refs_ifv, e3, Bool.and_false, List.mem_cons, List.not_mem_nil, forall_eq_or_imp, forall_eq] at hQ); (first | (revert hA; intro hA) | have hA := trivial); (first | (revert hQ; intro hQ) | have hQ := trivial); simp only [go_sem, refs_ifv, e3, Bool.and_false, go_sem, hA, hQ, hN]; (repeat (refine ndI (by first | assumption | omega | rfl) ?_)); exact eff_nw _ _ _ _)))); (simp only [St.eff, setO, hputs, go_sem, refs_ifv, e3, Bool.and_false])) | ((with_reducible apply evD_split); rfl; rfl; rfl; all_goals intro hb; all_goals (simp only [St.eff, setO, hputs, go_sem, refs_ifv, e3, Bool.and_false])) | ((with_reducible refine evC_draw ?_ ?_ ?_ ?_); kernel_rfl; kernel_rfl; (first | kernel_rfl | simp [newNames, isNew, St.free, freeH, AV.refsL, AV.refs]); intro R hR))))
      all_goals exact St.to.of_le (St.le_of (by simp [leT, ifv, h7, h8]) (by simp [leH, hget, hh, h7, h8]))
    · have g14 : L 14 = true := hpre ⟨14, .data⟩ (by simp) rfl
      have g12 : L 12 = true := hpre ⟨12, .data⟩ (by simp) rfl
      have g2 : L 2 = true := hpre ⟨2, .phase⟩ (by simp) rfl
      have g9 : L 9 = true := hpre ⟨9, .phase⟩ (by simp) rfl
      (try simp only [hu, hh, List.nil_append, List.cons_append, List.append_nil, if_true, if_false, Bool.false_eq_true, g14, g12, g2, g9, ifv_true, ifv_false, Bool.and_true, Bool.true_and, Bool.not_false, Bool.not_true, Bool.false_and, Bool.and_false] at hR ⊢)
      (repeat (any_goals (first | ((with_reducible refine evL_one ?_ ?_); rfl; intro K hK; simp only [go_sem, refs_ifv, e3, Bool.and_false]; ((repeat (refine ndI (by first | assumption | omega | rfl) ?_)); refine hK _ ?_; clear hK K)) | (with_reducible first | (refine evL_nil ?_; refine hR _ ?_; clear hR R) | ((first | refine evC_seq ?_ | refine evC_block ?_); intro Ψ hΨ hΨ') | (refine evC_region ?_; intro R hR) | (refine hΨ _ ?_; clear hΨ hΨ' Ψ) | refine evC_skip ?_ | refine evC_ret ?_ | refine evC_exit ?_) | ((with_reducible refine hΨ' _ _ ?_ ?_); (focus (simp; done)); clear hΨ hΨ' Ψ) | ((with_reducible apply evC_cond); rfl; rfl; all_goals (intro hc; first | (cases hc; done) | (try simp only at hc))) | ((with_reducible refine evD_nil ?_ ?_); kernel_rfl; (with_reducible refine hR _ ?_); clear hR R) | ((first | ((with_reducible apply evD_skip); rfl; rfl; rfl; rfl) | ((with_reducible apply evD_unmet); rfl; rfl; rfl) | ((first | ((with_reducible apply evD_any); rfl; rfl) | ((with_reducible apply evD_gany); rfl; rfl; rfl; rfl; rfl)); (simp only [rdE, rdOf, go_sem, refs_ifv, e3, Bool.and_false]; rfl); (intro τ hA hQ hN; ((try simp only [agree, Op.operands, Call.operands, go_sem, refs_ifv, e3, Bool.and_false, go_sem, List.mem_cons, List.not_mem_nil, forall_eq_or_imp, forall_eq, List.append_toArray, Option.toArray] at hA); (try simp only [go_sem, refs_ifv, e3, Bool.and_false, List.mem_cons, List.not_mem_nil, forall_eq_or_imp, forall_eq] at hQ hN); (first | (revert hA; intro hA) | have hA := trivial); (first | (revert hQ; intro hQ) | have hQ := trivial); (first | (revert hN; intro hN) | have hN := trivial); simp only [go_sem, refs_ifv, e3, Bool.and_false, go_sem, hA, hQ, hN]; (repeat (refine ndI (by first | assumption | omega | rfl) ?_)); (first | apply eff_rd | apply eff_st | apply eff_nw)))) | ((first | ((with_reducible apply evD_new); rfl; rfl; rfl) | ((with_reducible apply evD_grd_new); rfl; rfl; rfl; rfl; rfl; rfl)); (intro τ hA hQ hN; ((try simp only [agree, Op.operands, Call.operands, go_sem, refs_ifv, e3, Bool.and_false, go_sem, List.mem_cons, List.not_mem_nil, forall_eq_or_imp, forall_eq, List.append_toArray, Option.toArray] at hA); (try simp only [go_sem, refs_ifv, e3, Bool.and_false, List.mem_cons, List.not_mem_nil, forall_eq_or_imp, forall_eq] at hQ); (first | (revert hA; intro hA) | have hA := trivial); (first | (revert hQ; intro hQ) | have hQ := trivial); simp only [go_sem, refs_ifv, e3, Bool.and_false, go_sem, hA, hQ, hN]; (repeat (refine ndI (by first | assumption | omega | rfl) ?_)); exact eff_nw _ _ _ _)))); (simp only [St.eff, setO, hputs, go_sem, refs_ifv, e3, Bool.and_false])) | ((with_reducible apply evD_split); rfl; rfl; rfl; all_goals intro hb; all_goals (simp only [St.eff, setO, hputs, go_sem, refs_ifv, e3, Bool.and_false])) | ((with_reducible refine evC_draw ?_ ?_ ?_ ?_); kernel_rfl; kernel_rfl; (first | kernel_rfl | simp [newNames, isNew, St.free, freeH, AV.refsL, AV.refs]); intro R hR))))
      exact St.to.of_le (St.le_of (by simp [leT, ifv]) (by simp [leH, hget, hh]))
    · have g13 : L 13 = true := hpre ⟨13, .data⟩ (by simp) rfl
      have g15 : L 15 = true := hpre ⟨15, .chain⟩ (by simp) rfl
      (try simp only [g13, g15, ifv_true, ifv_false, Bool.and_true, Bool.true_and, Bool.not_false, Bool.not_true, Bool.false_and, Bool.and_false] at hR ⊢)
      generalize hh (L 2) (L 9) (L 14) (L 15) X [vi .u64 (l0 s), vi .u64 (l1 s), vi .u64 (l2 s), vi .u64 (l3 s)] = H at hR ⊢
      (repeat (any_goals (first | ((with_reducible refine evL_one ?_ ?_); rfl; intro K hK; simp only [go_sem]; ((repeat (refine ndI (by first | assumption | omega | rfl) ?_)); refine hK _ ?_; clear hK K)) | (with_reducible first | (refine evL_nil ?_; refine hR _ ?_; clear hR R) | ((first | refine evC_seq ?_ | refine evC_block ?_); intro Ψ hΨ hΨ') | (refine evC_region ?_; intro R hR) | (refine hΨ _ ?_; clear hΨ hΨ' Ψ) | refine evC_skip ?_ | refine evC_ret ?_ | refine evC_exit ?_) | ((with_reducible refine hΨ' _ _ ?_ ?_); (focus (simp; done)); clear hΨ hΨ' Ψ) | ((with_reducible apply evC_cond); rfl; rfl; all_goals (intro hc; first | (cases hc; done) | (try simp only at hc))) | ((with_reducible refine evD_nil ?_ ?_); kernel_rfl; (with_reducible refine hR _ ?_); clear hR R) | ((first | ((with_reducible apply evD_skip); rfl; rfl; rfl; rfl) | ((with_reducible apply evD_unmet); rfl; rfl; rfl) | ((first | ((with_reducible apply evD_any); rfl; rfl) | ((with_reducible apply evD_gany); rfl; rfl; rfl; rfl; rfl)); (simp only [rdE, rdOf, go_sem]; rfl); (intro τ hA hQ hN; ((try simp only [agree, Op.operands, Call.operands, go_sem, List.mem_cons, List.not_mem_nil, forall_eq_or_imp, forall_eq, List.append_toArray, Option.toArray] at hA); (try simp only [go_sem, List.mem_cons, List.not_mem_nil, forall_eq_or_imp, forall_eq] at hQ hN); (first | (revert hA; intro hA) | have hA := trivial); (first | (revert hQ; intro hQ) | have hQ := trivial); (first | (revert hN; intro hN) | have hN := trivial); simp only [go_sem, hA, hQ, hN]; (repeat (refine ndI (by first | assumption | omega | rfl) ?_)); (first | apply eff_rd | apply eff_st | apply eff_nw)))) | ((first | ((with_reducible apply evD_new); rfl; rfl; rfl) | ((with_reducible apply evD_grd_new); rfl; rfl; rfl; rfl; rfl; rfl)); (intro τ hA hQ hN; ((try simp only [agree, Op.operands, Call.operands, go_sem, List.mem_cons, List.not_mem_nil, forall_eq_or_imp, forall_eq, List.append_toArray, Option.toArray] at hA); (try simp only [go_sem, List.mem_cons, List.not_mem_nil, forall_eq_or_imp, forall_eq] at hQ); (first | (revert hA; intro hA) | have hA := trivial); (first | (revert hQ; intro hQ) | have hQ := trivial); simp only [go_sem, hA, hQ, hN]; (repeat (refine ndI (by first | assumption | omega | rfl) ?_)); exact eff_nw _ _ _ _)))); (simp only [St.eff, setO, hputs, go_sem])) | ((with_reducible apply evD_split); rfl; rfl; rfl; all_goals intro hb; all_goals (simp only [St.eff, setO, hputs, go_sem])) | ((with_reducible refine evC_draw ?_ ?_ ?_ ?_); kernel_rfl; kernel_rfl; (first | kernel_rfl | simp [newNames, isNew, St.free, freeH, AV.refsL, AV.refs]); intro R hR))))
      exact St.to.of_le ⟨leT_length (by simp [leT, ifv, g13, g15]), leT_get (by simp [leT, ifv, g13, g15]), fun _ _ h => h⟩
  · intro L i x hx hu hcl hpre hn
    have hi : i = 0 ∨ i = 1 ∨ i = 2 ∨ i = 3 ∨ i = 4 ∨ i = 5 ∨ i = 6 ∨ i = 7 ∨ i = 8 ∨ i = 9 ∨ i = 10 ∨ i = 11 ∨ i = 12 ∨ i = 13 ∨ i = 14 ∨ i = 15 ∨ i = 16 := by
      have := (List.getElem?_eq_some_iff.1 hx).1
      simp only [List.length_cons, List.length_nil] at this
      omega
    rcases hi with rfl | rfl | rfl | rfl | rfl | rfl | rfl | rfl | rfl | rfl | rfl | rfl | rfl | rfl | rfl | rfl | rfl
    all_goals simp only [List.getElem?_cons_succ, List.getElem?_cons_zero, Option.some.injEq] at hx
    all_goals subst hx
    all_goals cases hn
  · intro L hL
    have e22 := hL 2 (by simp)
    have e29 := hL 9 (by simp)
    have e33 := hL 13 (by simp)
    have e34 := hL 14 (by simp)
    have e35 := hL 15 (by simp)
    have e36 := hL 16 (by simp)
    simp only [JF, hh, e22, e29, e33, e34, e35, e36, ifv_true, ifv_false, if_true, Bool.not_true, Bool.and_false, Bool.false_eq_true, if_false, List.nil_append]
    refine hΨ _ ?_
    clear hΨ hΨ'
    refine AWE.to (St.to.of_le (τ := ⟨[.ep [acV t.w.S, hdV t.w.L, noV t.w.N, acV t.v.S, hdV t.v.L, noV t.v.N, rpV t.r, .v (.int .u64 t.f), .v (.int .u64 (l0 t.m)), .v (.int .u64 (l1 t.m)), .v (.int .u64 (l2 t.m)), .v (.int .u64 (l3 t.m)), .v (.int .u64 (l0 t.b)), .v (.int .u64 (l1 t.b)), .v (.int .u64 (l2 t.b)), .v (.int .u64 (l3 t.b))], vb false, .ptr 2 0, vb q, .any, .any, .any, .any, .any, .any, .any, .any, .any, .any, .any, .any, .any, .any, .any, .any, .any, .any, .any, .any, .any, .any, .any, .any, .any, .any, .any, .any, .any, .any], [(2, [vi .u64 (l0 s), vi .u64 (l1 s), vi .u64 (l2 s), vi .u64 (l3 s)])]⟩) (St.le_of (by simp [leT]) (by simp [leH, hget]))) ?_
    by_cases h0 : t.f = 0
    · have k0 : (t.f != 0) = false := by simpa using h0
      (repeat (any_goals (first | ((with_reducible refine evL_one ?_ ?_); rfl; intro K hK; simp only [go_sem, k0]; ((repeat (refine ndI (by first | assumption | omega | rfl) ?_)); refine hK _ ?_; clear hK K)) | ((with_reducible first | refine AWE.seqI ?_ | refine AWE.blockI ?_); intro Ψ hΨ hΨ') | (with_reducible first | refine AWE.ofSkip ?_ | refine AWE.ofRet ?_ | refine AWE.ofExit ?_) | ((with_reducible apply AWE.regionM); rfl; rfl; rfl; rfl; intro R hR; simp only [List.take_succ_cons, List.take_zero, List.drop_succ_cons, List.drop_zero, List.drop_nil] at hR ⊢) | (with_reducible refine AWE.ofR ?_) | (with_reducible refine AWE.ofRD ?_) | ((with_reducible apply AWE.cond); rfl; rfl; all_goals (intro hc; first | (cases hc; done) | (try simp only at hc))) | ((with_reducible apply opE_makeMap); rfl; intro mb umb R hR; simp only [go_sem, k0]) | (with_reducible first | (refine evL_nil ?_; refine hR _ ?_; clear hR R) | ((first | refine evC_seq ?_ | refine evC_block ?_); intro Ψ hΨ hΨ') | (refine evC_region ?_; intro R hR) | (refine hΨ _ ?_; clear hΨ hΨ' Ψ) | refine evC_skip ?_ | refine evC_ret ?_ | refine evC_exit ?_) | ((with_reducible refine hΨ' _ _ ?_ ?_); (focus (simp; done)); clear hΨ hΨ' Ψ) | ((with_reducible apply evC_cond); rfl; rfl; all_goals (intro hc; first | (cases hc; done) | (try simp only at hc))) | ((with_reducible refine evD_nil ?_ ?_); kernel_rfl; (with_reducible refine hR _ ?_); clear hR R) | ((first | ((with_reducible apply evD_skip); rfl; rfl; rfl; rfl) | ((with_reducible apply evD_unmet); rfl; rfl; rfl) | ((first | ((with_reducible apply evD_any); rfl; rfl) | ((with_reducible apply evD_gany); rfl; rfl; rfl; rfl; rfl)); (simp only [rdE, rdOf, go_sem, k0]; rfl); (intro τ hA hQ hN; ((try simp only [agree, Op.operands, Call.operands, go_sem, k0, go_sem, List.mem_cons, List.not_mem_nil, forall_eq_or_imp, forall_eq, List.append_toArray, Option.toArray] at hA); (try simp only [go_sem, k0, List.mem_cons, List.not_mem_nil, forall_eq_or_imp, forall_eq] at hQ hN); (first | (revert hA; intro hA) | have hA := trivial); (first | (revert hQ; intro hQ) | have hQ := trivial); (first | (revert hN; intro hN) | have hN := trivial); simp only [go_sem, k0, go_sem, hA, hQ, hN]; (repeat (refine ndI (by first | assumption | omega | rfl) ?_)); (first | apply eff_rd | apply eff_st | apply eff_nw)))) | ((first | ((with_reducible apply evD_new); rfl; rfl; rfl) | ((with_reducible apply evD_grd_new); rfl; rfl; rfl; rfl; rfl; rfl)); (intro τ hA hQ hN; ((try simp only [agree, Op.operands, Call.operands, go_sem, k0, go_sem, List.mem_cons, List.not_mem_nil, forall_eq_or_imp, forall_eq, List.append_toArray, Option.toArray] at hA); (try simp only [go_sem, k0, List.mem_cons, List.not_mem_nil, forall_eq_or_imp, forall_eq] at hQ); (first | (revert hA; intro hA) | have hA := trivial); (first | (revert hQ; intro hQ) | have hQ := trivial); simp only [go_sem, k0, go_sem, hA, hQ, hN]; (repeat (refine ndI (by first | assumption | omega | rfl) ?_)); exact eff_nw _ _ _ _)))); (simp only [St.eff, setO, hputs, go_sem, k0])) | ((with_reducible apply evD_split); rfl; rfl; rfl; all_goals intro hb; all_goals (simp only [St.eff, setO, hputs, go_sem, k0])) | ((with_reducible refine evC_draw ?_ ?_ ?_ ?_); kernel_rfl; kernel_rfl; (first | kernel_rfl | simp [newNames, isNew, St.free, freeH, AV.refsL, AV.refs]); intro R hR))))
      all_goals (refine ⟨by simp, ⟨_, ?_, AV.le_refl _⟩, leH_get (by simp [leH, hget])⟩; simp only [Try.results33, resL, ldA, oneOf, go_sem])
      all_goals simp [h0]
    · have k0 : (t.f != 0) = true := by simpa using h0
      cases q with
      | true =>
        (repeat (any_goals (first | ((with_reducible refine evL_one ?_ ?_); rfl; intro K hK; simp only [go_sem, k0]; ((repeat (refine ndI (by first | assumption | omega | rfl) ?_)); refine hK _ ?_; clear hK K)) | ((with_reducible first | refine AWE.seqI ?_ | refine AWE.blockI ?_); intro Ψ hΨ hΨ') | (with_reducible first | refine AWE.ofSkip ?_ | refine AWE.ofRet ?_ | refine AWE.ofExit ?_) | ((with_reducible apply AWE.regionM); rfl; rfl; rfl; rfl; intro R hR; simp only [List.take_succ_cons, List.take_zero, List.drop_succ_cons, List.drop_zero, List.drop_nil] at hR ⊢) | (with_reducible refine AWE.ofR ?_) | (with_reducible refine AWE.ofRD ?_) | ((with_reducible apply AWE.cond); rfl; rfl; all_goals (intro hc; first | (cases hc; done) | (try simp only at hc))) | ((with_reducible apply opE_makeMap); rfl; intro mb umb R hR; simp only [go_sem, k0]) | (with_reducible first | (refine evL_nil ?_; refine hR _ ?_; clear hR R) | ((first | refine evC_seq ?_ | refine evC_block ?_); intro Ψ hΨ hΨ') | (refine evC_region ?_; intro R hR) | (refine hΨ _ ?_; clear hΨ hΨ' Ψ) | refine evC_skip ?_ | refine evC_ret ?_ | refine evC_exit ?_) | ((with_reducible refine hΨ' _ _ ?_ ?_); (focus (simp; done)); clear hΨ hΨ' Ψ) | ((with_reducible apply evC_cond); rfl; rfl; all_goals (intro hc; first | (cases hc; done) | (try simp only at hc))) | ((with_reducible refine evD_nil ?_ ?_); kernel_rfl; (with_reducible refine hR _ ?_); clear hR R) | ((first | ((with_reducible apply evD_skip); rfl; rfl; rfl; rfl) | ((with_reducible apply evD_unmet); rfl; rfl; rfl) | ((first | ((with_reducible apply evD_fcall); rfl; rfl) | ((with_reducible apply evD_gcall); rfl; rfl; rfl; rfl; rfl)); ((first | (apply opF_callB (f3); rfl; rfl; rfl; rfl; exact Try.func36) | (apply opF_callB (cm); rfl; rfl; rfl; rfl; exact Try.func32)); kernel_rfl; rfl; (simp only [go_sem, k0]; rfl); (first | rfl | simp [AV.inNL, AV.inN]))) | ((first | ((with_reducible apply evD_any); rfl; rfl) | ((with_reducible apply evD_gany); rfl; rfl; rfl; rfl; rfl)); (simp only [rdE, rdOf, go_sem, k0]; rfl); (intro τ hA hQ hN; ((try simp only [agree, Op.operands, Call.operands, go_sem, k0, go_sem, List.mem_cons, List.not_mem_nil, forall_eq_or_imp, forall_eq, List.append_toArray, Option.toArray] at hA); (try simp only [go_sem, k0, List.mem_cons, List.not_mem_nil, forall_eq_or_imp, forall_eq] at hQ hN); (first | (revert hA; intro hA) | have hA := trivial); (first | (revert hQ; intro hQ) | have hQ := trivial); (first | (revert hN; intro hN) | have hN := trivial); simp only [go_sem, k0, go_sem, hA, hQ, hN]; (repeat (refine ndI (by first | assumption | omega | rfl) ?_)); (first | apply eff_rd | apply eff_st | apply eff_nw)))) | ((first | ((with_reducible apply evD_new); rfl; rfl; rfl) | ((with_reducible apply evD_grd_new); rfl; rfl; rfl; rfl; rfl; rfl)); (intro τ hA hQ hN; ((try simp only [agree, Op.operands, Call.operands, go_sem, k0, go_sem, List.mem_cons, List.not_mem_nil, forall_eq_or_imp, forall_eq, List.append_toArray, Option.toArray] at hA); (try simp only [go_sem, k0, List.mem_cons, List.not_mem_nil, forall_eq_or_imp, forall_eq] at hQ); (first | (revert hA; intro hA) | have hA := trivial); (first | (revert hQ; intro hQ) | have hQ := trivial); simp only [go_sem, k0, go_sem, hA, hQ, hN]; (repeat (refine ndI (by first | assumption | omega | rfl) ?_)); exact eff_nw _ _ _ _)))); (simp only [St.eff, setO, hputs, go_sem, k0])) | ((with_reducible apply evD_split); rfl; rfl; rfl; all_goals intro hb; all_goals (simp only [St.eff, setO, hputs, go_sem, k0])) | ((with_reducible refine evC_draw ?_ ?_ ?_ ?_); kernel_rfl; kernel_rfl; (first | kernel_rfl | simp [newNames, isNew, St.free, freeH, AV.refsL, AV.refs]); intro R hR))))
        all_goals (refine ⟨by simp, ⟨_, ?_, AV.le_refl _⟩, leH_get (by simp [leH, hget])⟩; simp only [Try.results33, resL, ldA, oneOf, go_sem])
        all_goals simp [h0]
      | false =>
        (repeat (any_goals (first | ((with_reducible refine evL_one ?_ ?_); rfl; intro K hK; simp only [go_sem, k0]; ((repeat (refine ndI (by first | assumption | omega | rfl) ?_)); refine hK _ ?_; clear hK K)) | ((with_reducible first | refine AWE.seqI ?_ | refine AWE.blockI ?_); intro Ψ hΨ hΨ') | (with_reducible first | refine AWE.ofSkip ?_ | refine AWE.ofRet ?_ | refine AWE.ofExit ?_) | ((with_reducible apply AWE.regionM); rfl; rfl; rfl; rfl; intro R hR; simp only [List.take_succ_cons, List.take_zero, List.drop_succ_cons, List.drop_zero, List.drop_nil] at hR ⊢) | (with_reducible refine AWE.ofR ?_) | (with_reducible refine AWE.ofRD ?_) | ((with_reducible apply AWE.cond); rfl; rfl; all_goals (intro hc; first | (cases hc; done) | (try simp only at hc))) | ((with_reducible apply opE_makeMap); rfl; intro mb umb R hR; simp only [go_sem, k0]) | (with_reducible first | (refine evL_nil ?_; refine hR _ ?_; clear hR R) | ((first | refine evC_seq ?_ | refine evC_block ?_); intro Ψ hΨ hΨ') | (refine evC_region ?_; intro R hR) | (refine hΨ _ ?_; clear hΨ hΨ' Ψ) | refine evC_skip ?_ | refine evC_ret ?_ | refine evC_exit ?_) | ((with_reducible refine hΨ' _ _ ?_ ?_); (focus (simp; done)); clear hΨ hΨ' Ψ) | ((with_reducible apply evC_cond); rfl; rfl; all_goals (intro hc; first | (cases hc; done) | (try simp only at hc))) | ((with_reducible refine evD_nil ?_ ?_); kernel_rfl; (with_reducible refine hR _ ?_); clear hR R) | ((first | ((with_reducible apply evD_skip); rfl; rfl; rfl; rfl) | ((with_reducible apply evD_unmet); rfl; rfl; rfl) | ((first | ((with_reducible apply evD_fcall); rfl; rfl) | ((with_reducible apply evD_gcall); rfl; rfl; rfl; rfl; rfl)); ((first | (apply opF_callB (f3); rfl; rfl; rfl; rfl; exact Try.func36) | (apply opF_callB (cm); rfl; rfl; rfl; rfl; exact Try.func32)); kernel_rfl; rfl; (simp only [go_sem, k0]; rfl); (first | rfl | simp [AV.inNL, AV.inN]))) | ((first | ((with_reducible apply evD_any); rfl; rfl) | ((with_reducible apply evD_gany); rfl; rfl; rfl; rfl; rfl)); (simp only [rdE, rdOf, go_sem, k0]; rfl); (intro τ hA hQ hN; ((try simp only [agree, Op.operands, Call.operands, go_sem, k0, go_sem, List.mem_cons, List.not_mem_nil, forall_eq_or_imp, forall_eq, List.append_toArray, Option.toArray] at hA); (try simp only [go_sem, k0, List.mem_cons, List.not_mem_nil, forall_eq_or_imp, forall_eq] at hQ hN); (first | (revert hA; intro hA) | have hA := trivial); (first | (revert hQ; intro hQ) | have hQ := trivial); (first | (revert hN; intro hN) | have hN := trivial); simp only [go_sem, k0, go_sem, hA, hQ, hN]; (repeat (refine ndI (by first | assumption | omega | rfl) ?_)); (first | apply eff_rd | apply eff_st | apply eff_nw)))) | ((first | ((with_reducible apply evD_new); rfl; rfl; rfl) | ((with_reducible apply evD_grd_new); rfl; rfl; rfl; rfl; rfl; rfl)); (intro τ hA hQ hN; ((try simp only [agree, Op.operands, Call.operands, go_sem, k0, go_sem, List.mem_cons, List.not_mem_nil, forall_eq_or_imp, forall_eq, List.append_toArray, Option.toArray] at hA); (try simp only [go_sem, k0, List.mem_cons, List.not_mem_nil, forall_eq_or_imp, forall_eq] at hQ); (first | (revert hA; intro hA) | have hA := trivial); (first | (revert hQ; intro hQ) | have hQ := trivial); simp only [go_sem, k0, go_sem, hA, hQ, hN]; (repeat (refine ndI (by first | assumption | omega | rfl) ?_)); exact eff_nw _ _ _ _)))); (simp only [St.eff, setO, hputs, go_sem, k0])) | ((with_reducible apply evD_split); rfl; rfl; rfl; all_goals intro hb; all_goals (simp only [St.eff, setO, hputs, go_sem, k0])) | ((with_reducible refine evC_draw ?_ ?_ ?_ ?_); kernel_rfl; kernel_rfl; (first | kernel_rfl | simp [newNames, isNew, St.free, freeH, AV.refsL, AV.refs]); intro R hR))))
        all_goals (refine ⟨by simp, ⟨_, ?_, AV.le_refl _⟩, leH_get (by simp [leH, hget])⟩; simp only [Try.results33, resL, ldA, oneOf, go_sem])
        all_goals simp [h0]
end Go.Proofs.Ytgdnmdnhkhpieaa
namespace Go.Proofs.Ytgdnmdnhkhpieaa
open Go.RowKit
open Nat (reduceBEq)
set_option maxRecDepth 20000
set_option maxHeartbeats 4000000
def funcT (P : Program) (t : Nat) : Bool := match P.underlying t with | some (.func _ _ _) => true | _ => false
section
variable {P : Program} {o : Oper} {σ : St} {K : St → Prop}
theorem equal_fn {t : Nat} (ht : funcT P t = true) (f : Go.Fn) (us vs : Array Value) (w : World) : (Op.equal t (.func f us vs) .nilFunc).run P w = .ok false w ∧ (Op.equal t .nilFunc .nilFunc).run P w = .ok true w := by
  obtain ⟨a, b, c, hu⟩ : ∃ a b c, P.underlying t = some (.func a b c) := by
    unfold funcT at ht
    cases hu : P.underlying t with
    | none => simp [hu] at ht
    | some d => cases d <;> simp [hu] at ht; exact ⟨_, _, _, rfl⟩
  unfold Op.equal
  rw [show Op.maxDepth = 9999 + 1 from rfl]
  unfold Op.equalIn
  rw [Sem.run_bind, run_underlying hu, Result.andThen_ok, Sem.run_bind, run_underlying hu, Result.andThen_ok]
  exact ⟨rfl, rfl⟩
theorem opA_fnne {t t' : TypeId} {x : Operand} {f : FuncId} {caps : List AV} (ho : o.op = .binOp .neq t x (.const .nilFunc) t') (hx : okConst x = true) (ht : funcT P t = true) (h1 : σ.ev x = .fn f caps) (hK : K (σ.put o.dst (vb true))) : OpA P o σ K :=
  opA_val _ hK fun E ι a w h => by
    have hxv := h.ev x hx
    rw [h1] at hxv
    generalize he : a.eval x = v at hxv
    cases hxv with
    | fn f us cs hl hr =>
      refine ⟨_, ?_, rv_const _ rfl⟩
      have e2 : a.eval (.const .nilFunc) = .nilFunc := rfl
      have hg : (eqGuard .neq t x (.const .nilFunc) (.func (.func f) #[] us.toArray) .nilFunc).run P w = .ok () w := run_eqGuard rfl (by simp) t _ _ w
      have g2' : binOp .neq t (.func (.func f) #[] us.toArray) .nilFunc = (do pure (.bool (!(← Op.equal t (.func (.func f) #[] us.toArray) .nilFunc)))) := rfl
      simp only [execOp, ho, he, e2, Sem.run_bind, hg, Result.andThen_ok, g2', (equal_fn ht _ _ _ w).1, Sem.run_pure, Bool.not_false]
theorem opA_fnni {t t' : TypeId} {x : Operand} (ho : o.op = .binOp .neq t x (.const .nilFunc) t') (hx : okConst x = true) (ht : funcT P t = true) (h1 : σ.ev x = .c (.v .nilFunc)) (hK : K (σ.put o.dst (vb false))) : OpA P o σ K :=
  opA_val _ hK fun E ι a w h => by
    have hxv := h.ev x hx
    rw [h1] at hxv
    obtain ⟨he, _⟩ := hxv.v_inv
    refine ⟨_, ?_, rv_const _ rfl⟩
    have e2 : a.eval (.const .nilFunc) = .nilFunc := rfl
    have hg : (eqGuard .neq t x (.const .nilFunc) .nilFunc .nilFunc).run P w = .ok () w := run_eqGuard rfl (by simp) t _ _ w
    have g2' : binOp .neq t .nilFunc .nilFunc = (do pure (.bool (!(← Op.equal t .nilFunc .nilFunc)))) := rfl
    simp only [execOp, ho, he, e2, Sem.run_bind, hg, Result.andThen_ok, g2', (equal_fn ht (.func 0) #[] #[] w).2, Sem.run_pure, Bool.not_true]
end
def brk (t : Tn) : Int := if brkE t then 1 else if brkS t then 2 else if brkC t then 3 else if brkF t then 4 else 0
def jdN (t : Tn) : Int := if rightW t.w && rightW t.v then brk t else 0
def jdE (t : Tn) : Int := if rightW t.w && rightW t.v then 0 else 200
theorem judge_fn (t : Tn) (ht : t.ok) : Fn Try.prog 8 [tnA t] [] (.tup [vi .i64 (jdN t), vi .i64 (jdE t)]) [] := by
  have m2 := may2_fn true t.w t.v ht.w ht.v
  have b1 := brk1_fn t ht
  have b2 := brk2_fn t ht
  have b3 := brk3_fn t ht
  have b4 := brk4_fn t ht
  unfold jdN jdE brk
  generalize (rightW t.w && rightW t.v) = q at m2 ⊢
  generalize brkE t = q1 at b1 ⊢
  generalize brkS t = q2 at b2 ⊢
  generalize brkC t = q3 at b3 ⊢
  generalize brkF t = q4 at b4 ⊢
  cases q with
  | false =>
    simp only [Bool.false_eq_true, if_false]
    (refine fn_of Try.func8 rfl (by rfl) ?_; simp only [Try.ntmps8, List.length_cons, List.length_nil, Nat.reduceAdd, Nat.reduceSub, List.replicate, List.cons_append, List.nil_append])
    (repeat (any_goals (first | ((with_reducible refine evL_op ?_ ?_); rfl; intro K hK; apply opA_buildSlice_flat; rfl; rfl; (focus (simp only [go_sem]; try rfl)); (focus (simp only [go_sem]; try rfl)); rfl; (first | omega | (dsimp only; omega) | (simp only [Option.isSome_some, Option.isSome_none]; omega) | (simp; omega) | (focus (simp; done))); (first | omega | (dsimp only; omega) | (simp only [Option.isSome_some, Option.isSome_none]; omega) | (simp; omega) | (focus (simp; done))); (first | omega | (dsimp only; omega) | (simp only [Option.isSome_some, Option.isSome_none]; omega) | (simp; omega) | (focus (simp; done))); (simp only [go_sem]; rfl); rfl; (focus ((simp only [unC, Option.map_some]); (try rfl))); (simp only [go_sem]; refine hK _ ?_; clear hK K)) | ((with_reducible refine evL_call ?_ ?_ ?_); rfl; rfl; intro K hK; ((apply opA_callB (m2); rfl; rfl; rfl; rfl; exact Try.func22); kernel_rfl; rfl; (simp only [go_sem]; rfl); (first | rfl | simp [AV.inNL, AV.inN])); (simp only [go_sem]; refine hK _ ?_; clear hK K)) | ((with_reducible refine evL_one ?_ ?_); rfl; intro K hK; simp only [go_sem]; ((repeat (refine ndI (by first | assumption | omega | rfl) ?_)); refine hK _ ?_; clear hK K)) | (with_reducible first | (refine evL_nil ?_; refine hR _ ?_; clear hR R) | ((first | refine evC_seq ?_ | refine evC_block ?_); intro Ψ hΨ hΨ') | (refine evC_region ?_; intro R hR) | (refine hΨ _ ?_; clear hΨ hΨ' Ψ) | refine evC_skip ?_ | refine evC_ret ?_ | refine evC_exit ?_) | ((with_reducible refine hΨ' _ _ ?_ ?_); (focus (simp; done)); clear hΨ hΨ' Ψ) | ((with_reducible apply evL_unmet); rfl; rfl; rfl; (try simp only [go_sem])) | ((with_reducible apply evL_grd); rfl; rfl; rfl; all_goals (intro hb; first | (cases hb; done) | ((try simp only [Bool.not_true, Bool.not_false] at hb); (first | ((with_reducible intro K hK); simp only [go_sem]; ((repeat (refine ndI (by first | assumption | omega | rfl) ?_)); refine hK _ ?_; clear hK K)) | ((fail_if_success (with_reducible intro _)); simp only [go_sem]))))) | ((with_reducible apply evC_cond); rfl; rfl; all_goals (intro hc; first | (cases hc; done) | (try simp only at hc))))))
    all_goals (refine ⟨by simp, ⟨_, ?_, AV.le_refl _⟩, leH_get (by simp [leH, hget])⟩; simp only [Try.results8, resL, ldA, oneOf, go_sem])
  | true =>
    simp only [if_true]
    (refine fn_of Try.func8 rfl (by rfl) ?_; simp only [Try.ntmps8, List.length_cons, List.length_nil, Nat.reduceAdd, Nat.reduceSub, List.replicate, List.cons_append, List.nil_append])
    (repeat (any_goals (first | ((with_reducible refine evL_op ?_ ?_); rfl; intro K hK; apply opA_buildSlice_flat; rfl; rfl; (focus (simp only [go_sem]; try rfl)); (focus (simp only [go_sem]; try rfl)); rfl; (first | omega | (dsimp only; omega) | (simp only [Option.isSome_some, Option.isSome_none]; omega) | (simp; omega) | (focus (simp; done))); (first | omega | (dsimp only; omega) | (simp only [Option.isSome_some, Option.isSome_none]; omega) | (simp; omega) | (focus (simp; done))); (first | omega | (dsimp only; omega) | (simp only [Option.isSome_some, Option.isSome_none]; omega) | (simp; omega) | (focus (simp; done))); (simp only [go_sem]; rfl); rfl; (focus ((simp only [unC, Option.map_some]); (try rfl))); (simp only [go_sem]; refine hK _ ?_; clear hK K)) | ((with_reducible refine evL_call ?_ ?_ ?_); rfl; rfl; intro K hK; ((apply opA_callB (m2); rfl; rfl; rfl; rfl; exact Try.func22); kernel_rfl; rfl; (simp only [go_sem]; rfl); (first | rfl | simp [AV.inNL, AV.inN])); (simp only [go_sem]; refine hK _ ?_; clear hK K)) | ((with_reducible refine evL_one ?_ ?_); rfl; intro K hK; simp only [go_sem]; ((repeat (refine ndI (by first | assumption | omega | rfl) ?_)); refine hK _ ?_; clear hK K)) | (with_reducible first | (refine evL_nil ?_; refine hR _ ?_; clear hR R) | ((first | refine evC_seq ?_ | refine evC_block ?_); intro Ψ hΨ hΨ') | (refine evC_region ?_; intro R hR) | (refine hΨ _ ?_; clear hΨ hΨ' Ψ) | refine evC_skip ?_ | refine evC_ret ?_ | refine evC_exit ?_) | ((with_reducible refine hΨ' _ _ ?_ ?_); (focus (simp; done)); clear hΨ hΨ' Ψ) | ((with_reducible apply evL_unmet); rfl; rfl; rfl; (try simp only [go_sem])) | ((with_reducible apply evL_grd); rfl; rfl; rfl; all_goals (intro hb; first | (cases hb; done) | ((try simp only [Bool.not_true, Bool.not_false] at hb); (first | ((with_reducible intro K hK); simp only [go_sem]; ((repeat (refine ndI (by first | assumption | omega | rfl) ?_)); refine hK _ ?_; clear hK K)) | ((fail_if_success (with_reducible intro _)); simp only [go_sem]))))) | ((with_reducible apply evC_cond); rfl; rfl; all_goals (intro hc; first | (cases hc; done) | (try simp only at hc))))))
    refine evC_rounds 6 ?_
    refine evR_succ ?_
    intro Ψ hΨ hΨ'
    refine evC_seq ?_
    intro Ψ hΨ hΨ'
    refine evC_region ?_
    intro R hR
    refine evL_to rfl (St.to.frz 1 (pcs := t.pv) (by simp [hget, Tn.pv])) ?_
    have hpl : t.pv.length = 16 := rfl
    generalize t.pv = pv at *
    simp only [hpl, St.frz, AV.frzL, AV.frz, frzH, if_true, eq_self, ↓reduceIte, Nat.reduceEqDiff, List.length_cons, List.length_nil, List.drop_zero, Nat.reduceAdd, Nat.reduceLT]
    have w1 : IntKind.i64.wrap (0 + 1) = 1 := rfl
    have w2 : IntKind.i64.wrap (1 + 1) = 2 := rfl
    have w3 : IntKind.i64.wrap (2 + 1) = 3 := rfl
    have w4 : IntKind.i64.wrap (3 + 1) = 4 := rfl
    have w5 : IntKind.i64.wrap (4 + 1) = 5 := rfl
    (have W := ndI w1 (ndI w2 (ndI w3 (ndI w4 w5))); (repeat (any_goals (first | ((with_reducible refine evL_op ?_ ?_); rfl; intro K hK; (first | (apply opA_fnne; rfl; rfl; kernel_rfl; rfl) | (apply opA_fnni; rfl; rfl; kernel_rfl; rfl)); (simp only [go_sem, W]; refine hK _ ?_; clear hK K)) | ((with_reducible refine evL_one ?_ ?_); rfl; intro K hK; simp only [go_sem, W]; ((repeat (refine ndI (by first | assumption | omega | rfl) ?_)); refine hK _ ?_; clear hK K)) | (with_reducible first | (refine evL_nil ?_; refine hR _ ?_; clear hR R) | ((first | refine evC_seq ?_ | refine evC_block ?_); intro Ψ hΨ hΨ') | (refine evC_region ?_; intro R hR) | (refine hΨ _ ?_; clear hΨ hΨ' Ψ) | refine evC_skip ?_ | refine evC_ret ?_ | refine evC_exit ?_) | ((with_reducible refine hΨ' _ _ ?_ ?_); (focus (simp; done)); clear hΨ hΨ' Ψ) | ((with_reducible apply evL_unmet); rfl; rfl; rfl; (try simp only [go_sem, W])) | ((with_reducible apply evL_grd); rfl; rfl; rfl; all_goals (intro hb; first | (cases hb; done) | ((try simp only [Bool.not_true, Bool.not_false] at hb); (first | ((with_reducible intro K hK); (first | ((first | (apply opA_callB (b1); rfl; rfl; rfl; rfl; exact Try.func23) | (apply opA_callB (b2); rfl; rfl; rfl; rfl; exact Try.func28) | (apply opA_callB (b3); rfl; rfl; rfl; rfl; exact Try.func29) | (apply opA_callB (b4); rfl; rfl; rfl; rfl; exact Try.func33)); kernel_rfl; rfl; (simp only [go_sem, W]; rfl); (first | rfl | simp [AV.inNL, AV.inN])) | skip); simp only [go_sem, W]; ((repeat (refine ndI (by first | assumption | omega | rfl) ?_)); refine hK _ ?_; clear hK K)) | ((fail_if_success (with_reducible intro _)); simp only [go_sem, W]))))) | ((with_reducible apply evC_cond); rfl; rfl; all_goals (intro hc; first | (cases hc; done) | (try simp only at hc))) | (with_reducible refine evC_rounds 5 ?_) | ((with_reducible refine evR_succ ?_); intro Ψ hΨ hΨ')))))
    all_goals (refine ⟨by simp, ⟨_, ?_, AV.le_refl _⟩, leH_get (by simp [leH, hget])⟩; simp only [Try.results8, resL, ldA, oneOf, go_sem])
    all_goals clear b1 b2 b3 b4 m2
    all_goals (cases q1 <;> cases q2 <;> cases q3 <;> cases q4 <;> first | rfl | contradiction)
end Go.Proofs.Ytgdnmdnhkhpieaa
