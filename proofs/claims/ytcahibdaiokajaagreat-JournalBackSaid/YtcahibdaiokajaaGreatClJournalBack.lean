/-
  Proved: the law JournalBack answers true for every journal and every row of steps, and its arguments read behind the call as before. Conditions: none.
-/
import Derived.Test.YtcahibdaiokajaaGreatJj
import Derived.Test.YtcahibdaiokajaaGreatJa
set_option linter.unusedSimpArgs false
set_option linter.unusedVariables false
namespace Go.Proofs.YtcahibdaiokajaaGreat
open Go.RowKit
open Nat (reduceBEq)
set_option maxRecDepth 20000
set_option maxHeartbeats 4000000
theorem above_fn (s : Sj) (m : Int) : Fn Tryz.prog 46 [sjA s, vi .i64 m] [] (vb (aboveJ s m)) [] := by
  have hk : (IntKind.u64.wrap s.k).tmod 5 = kindJ s := rfl
  unfold aboveJ
  generalize kindJ s = q at *
  by_cases c1 : q = 1
  · have k1 : (q != 1) = false := by simpa using c1
    rw [c1]
    simp only [ne_eq, not_true_eq_false, decide_false, Bool.false_and, Bool.false_or]
    (refine fn_of Tryz.func46 rfl (by rfl) ?_; simp only [Tryz.ntmps46, List.length_cons, List.length_nil, Nat.reduceAdd, Nat.reduceSub, List.replicate, List.cons_append, List.nil_append])
    (repeat (any_goals (first | ((with_reducible refine evL_one ?_ ?_); rfl; intro K hK; simp only [go_sem, hk, k1]; ((repeat (refine ndI (by first | assumption | omega | rfl) ?_)); refine hK _ ?_; clear hK K)) | (with_reducible first | (refine evL_nil ?_; refine hR _ ?_; clear hR R) | ((first | refine evC_seq ?_ | refine evC_block ?_); intro Ψ hΨ hΨ') | (refine evC_region ?_; intro R hR) | (refine hΨ _ ?_; clear hΨ hΨ' Ψ) | refine evC_skip ?_ | refine evC_ret ?_ | refine evC_exit ?_) | ((with_reducible refine hΨ' _ _ ?_ ?_); (focus (simp; done)); clear hΨ hΨ' Ψ) | ((with_reducible apply evL_unmet); rfl; rfl; rfl; (try simp only [go_sem, hk, k1])) | ((with_reducible apply evL_grd); rfl; rfl; rfl; all_goals (intro hb; first | (cases hb; done) | ((try simp only [Bool.not_true, Bool.not_false] at hb); (first | ((with_reducible intro K hK); simp only [go_sem, hk, k1]; ((repeat (refine ndI (by first | assumption | omega | rfl) ?_)); refine hK _ ?_; clear hK K)) | ((fail_if_success (with_reducible intro _)); simp only [go_sem, hk, k1]))))) | ((with_reducible apply evC_cond); rfl; rfl; all_goals (intro hc; first | (cases hc; done) | (try simp only at hc))))))
    all_goals (refine ⟨by simp, ⟨_, ?_, AV.le_refl _⟩, leH_get (by simp [leH, hget])⟩; simp only [Tryz.results46, resL, ldA, oneOf, go_sem])
  have k1 : (q != 1) = true := by simpa using c1
  by_cases c2 : q = 2
  · have k2 : (q != 2) = false := by simpa using c2
    rw [c2]
    simp only [ne_eq, not_true_eq_false, decide_false, Bool.and_false, Bool.false_or]
    (refine fn_of Tryz.func46 rfl (by rfl) ?_; simp only [Tryz.ntmps46, List.length_cons, List.length_nil, Nat.reduceAdd, Nat.reduceSub, List.replicate, List.cons_append, List.nil_append])
    (have W := ndI hk (ndI k1 k2); (repeat (any_goals (first | ((with_reducible refine evL_one ?_ ?_); rfl; intro K hK; simp only [go_sem, W]; ((repeat (refine ndI (by first | assumption | omega | rfl) ?_)); refine hK _ ?_; clear hK K)) | (with_reducible first | (refine evL_nil ?_; refine hR _ ?_; clear hR R) | ((first | refine evC_seq ?_ | refine evC_block ?_); intro Ψ hΨ hΨ') | (refine evC_region ?_; intro R hR) | (refine hΨ _ ?_; clear hΨ hΨ' Ψ) | refine evC_skip ?_ | refine evC_ret ?_ | refine evC_exit ?_) | ((with_reducible refine hΨ' _ _ ?_ ?_); (focus (simp; done)); clear hΨ hΨ' Ψ) | ((with_reducible apply evL_unmet); rfl; rfl; rfl; (try simp only [go_sem, W])) | ((with_reducible apply evL_grd); rfl; rfl; rfl; all_goals (intro hb; first | (cases hb; done) | ((try simp only [Bool.not_true, Bool.not_false] at hb); (first | ((with_reducible intro K hK); simp only [go_sem, W]; ((repeat (refine ndI (by first | assumption | omega | rfl) ?_)); refine hK _ ?_; clear hK K)) | ((fail_if_success (with_reducible intro _)); simp only [go_sem, W]))))) | ((with_reducible apply evC_cond); rfl; rfl; all_goals (intro hc; first | (cases hc; done) | (try simp only at hc)))))))
    all_goals (refine ⟨by simp, ⟨_, ?_, AV.le_refl _⟩, leH_get (by simp [leH, hget])⟩; simp only [Tryz.results46, resL, ldA, oneOf, go_sem])
  have k2 : (q != 2) = true := by simpa using c2
  rw [decide_eq_true (show q ≠ 1 from c1), decide_eq_true (show q ≠ 2 from c2), Bool.true_and, Bool.true_or]
  (refine fn_of Tryz.func46 rfl (by rfl) ?_; simp only [Tryz.ntmps46, List.length_cons, List.length_nil, Nat.reduceAdd, Nat.reduceSub, List.replicate, List.cons_append, List.nil_append])
  (have W := ndI hk (ndI k1 k2); (repeat (any_goals (first | ((with_reducible refine evL_one ?_ ?_); rfl; intro K hK; simp only [go_sem, W]; ((repeat (refine ndI (by first | assumption | omega | rfl) ?_)); refine hK _ ?_; clear hK K)) | (with_reducible first | (refine evL_nil ?_; refine hR _ ?_; clear hR R) | ((first | refine evC_seq ?_ | refine evC_block ?_); intro Ψ hΨ hΨ') | (refine evC_region ?_; intro R hR) | (refine hΨ _ ?_; clear hΨ hΨ' Ψ) | refine evC_skip ?_ | refine evC_ret ?_ | refine evC_exit ?_) | ((with_reducible refine hΨ' _ _ ?_ ?_); (focus (simp; done)); clear hΨ hΨ' Ψ) | ((with_reducible apply evL_unmet); rfl; rfl; rfl; (try simp only [go_sem, W])) | ((with_reducible apply evL_grd); rfl; rfl; rfl; all_goals (intro hb; first | (cases hb; done) | ((try simp only [Bool.not_true, Bool.not_false] at hb); (first | ((with_reducible intro K hK); simp only [go_sem, W]; ((repeat (refine ndI (by first | assumption | omega | rfl) ?_)); refine hK _ ?_; clear hK K)) | ((fail_if_success (with_reducible intro _)); simp only [go_sem, W]))))) | ((with_reducible apply evC_cond); rfl; rfl; all_goals (intro hc; first | (cases hc; done) | (try simp only at hc)))))))
  all_goals (refine ⟨by simp, ⟨_, ?_, AV.le_refl _⟩, leH_get (by simp [leH, hget])⟩; simp only [Tryz.results46, resL, ldA, oneOf, go_sem])
theorem does_fn (s : Sj) (hs : s.ok) (j : Jn) (hj : j.ok) : Fn Tryz.prog 47 [sjA s, jnA j] [] (.tup [jnA (doesJ s j).1, vi .i64 (doesJ s j).2.1, vi .i64 (doesJ s j).2.2]) [] := by
  have hk : (IntKind.u64.wrap s.k).tmod 5 = kindJ s := rfl
  have f0 := mark_fn j hj
  have f1 := back_fn j hj s.n hs.n
  have f2 := keep_fn j hj s.n hs.n
  have f3 := lay_fn j hj s.w hs.w
  have f4 := touch_fn j hj s.x hs.x hs.f
  unfold doesJ
  generalize kindJ s = q at *
  generalize markJ j = r0 at *
  generalize markN j = n0 at *
  generalize (atJ j s.n fun y => y) = r1 at *
  generalize (atJ j s.n fun _ => j.p) = r2 at *
  generalize putJ j ⟨s.w, j.p.x⟩ = r3 at *
  generalize putJ j ⟨j.p.w, s.x⟩ = r4 at *
  by_cases c0 : q = 0
  · have k0 : (q == 0) = true := by simpa using c0
    rw [if_pos c0]
    (refine fn_of Tryz.func47 rfl (by rfl) ?_; simp only [Tryz.ntmps47, List.length_cons, List.length_nil, Nat.reduceAdd, Nat.reduceSub, List.replicate, List.cons_append, List.nil_append])
    (repeat (any_goals (first | ((with_reducible refine evL_call ?_ ?_ ?_); rfl; rfl; intro K hK; ((apply opA_callB (f0); rfl; rfl; rfl; rfl; exact Tryz.func15); kernel_rfl; rfl; (simp only [go_sem, hk, k0]; rfl); (first | rfl | simp [AV.inNL, AV.inN])); (simp only [go_sem, hk, k0]; refine hK _ ?_; clear hK K)) | ((with_reducible refine evL_one ?_ ?_); rfl; intro K hK; simp only [go_sem, hk, k0]; ((repeat (refine ndI (by first | assumption | omega | rfl) ?_)); refine hK _ ?_; clear hK K)) | (with_reducible first | (refine evL_nil ?_; refine hR _ ?_; clear hR R) | ((first | refine evC_seq ?_ | refine evC_block ?_); intro Ψ hΨ hΨ') | (refine evC_region ?_; intro R hR) | (refine hΨ _ ?_; clear hΨ hΨ' Ψ) | refine evC_skip ?_ | refine evC_ret ?_ | refine evC_exit ?_) | ((with_reducible refine hΨ' _ _ ?_ ?_); (focus (simp; done)); clear hΨ hΨ' Ψ) | ((with_reducible apply evC_cond); rfl; rfl; all_goals (intro hc; first | (cases hc; done) | (try simp only at hc))))))
    all_goals (refine ⟨by simp, ⟨_, ?_, AV.le_refl _⟩, leH_get (by simp [leH, hget])⟩; simp only [Tryz.results47, resL, ldA, oneOf, go_sem])
  have k0 : (q == 0) = false := by simpa using c0
  rw [if_neg c0]
  by_cases c1 : q = 1
  · have k1 : (q == 1) = true := by simpa using c1
    rw [if_pos c1]
    (refine fn_of Tryz.func47 rfl (by rfl) ?_; simp only [Tryz.ntmps47, List.length_cons, List.length_nil, Nat.reduceAdd, Nat.reduceSub, List.replicate, List.cons_append, List.nil_append])
    (have W := ndI hk (ndI k0 k1); (repeat (any_goals (first | ((with_reducible refine evL_call ?_ ?_ ?_); rfl; rfl; intro K hK; ((apply opA_callB (f1); rfl; rfl; rfl; rfl; exact Tryz.func17); kernel_rfl; rfl; (simp only [go_sem, W]; rfl); (first | rfl | simp [AV.inNL, AV.inN])); (simp only [go_sem, W]; refine hK _ ?_; clear hK K)) | ((with_reducible refine evL_one ?_ ?_); rfl; intro K hK; simp only [go_sem, W]; ((repeat (refine ndI (by first | assumption | omega | rfl) ?_)); refine hK _ ?_; clear hK K)) | (with_reducible first | (refine evL_nil ?_; refine hR _ ?_; clear hR R) | ((first | refine evC_seq ?_ | refine evC_block ?_); intro Ψ hΨ hΨ') | (refine evC_region ?_; intro R hR) | (refine hΨ _ ?_; clear hΨ hΨ' Ψ) | refine evC_skip ?_ | refine evC_ret ?_ | refine evC_exit ?_) | ((with_reducible refine hΨ' _ _ ?_ ?_); (focus (simp; done)); clear hΨ hΨ' Ψ) | ((with_reducible apply evC_cond); rfl; rfl; all_goals (intro hc; first | (cases hc; done) | (try simp only at hc)))))))
    all_goals (refine ⟨by simp, ⟨_, ?_, AV.le_refl _⟩, leH_get (by simp [leH, hget])⟩; simp only [Tryz.results47, resL, ldA, oneOf, go_sem])
  have k1 : (q == 1) = false := by simpa using c1
  rw [if_neg c1]
  by_cases c2 : q = 2
  · have k2 : (q == 2) = true := by simpa using c2
    rw [if_pos c2]
    (refine fn_of Tryz.func47 rfl (by rfl) ?_; simp only [Tryz.ntmps47, List.length_cons, List.length_nil, Nat.reduceAdd, Nat.reduceSub, List.replicate, List.cons_append, List.nil_append])
    (have W := ndI hk (ndI k0 (ndI k1 k2)); (repeat (any_goals (first | ((with_reducible refine evL_call ?_ ?_ ?_); rfl; rfl; intro K hK; ((apply opA_callB (f2); rfl; rfl; rfl; rfl; exact Tryz.func18); kernel_rfl; rfl; (simp only [go_sem, W]; rfl); (first | rfl | simp [AV.inNL, AV.inN])); (simp only [go_sem, W]; refine hK _ ?_; clear hK K)) | ((with_reducible refine evL_one ?_ ?_); rfl; intro K hK; simp only [go_sem, W]; ((repeat (refine ndI (by first | assumption | omega | rfl) ?_)); refine hK _ ?_; clear hK K)) | (with_reducible first | (refine evL_nil ?_; refine hR _ ?_; clear hR R) | ((first | refine evC_seq ?_ | refine evC_block ?_); intro Ψ hΨ hΨ') | (refine evC_region ?_; intro R hR) | (refine hΨ _ ?_; clear hΨ hΨ' Ψ) | refine evC_skip ?_ | refine evC_ret ?_ | refine evC_exit ?_) | ((with_reducible refine hΨ' _ _ ?_ ?_); (focus (simp; done)); clear hΨ hΨ' Ψ) | ((with_reducible apply evC_cond); rfl; rfl; all_goals (intro hc; first | (cases hc; done) | (try simp only at hc)))))))
    all_goals (refine ⟨by simp, ⟨_, ?_, AV.le_refl _⟩, leH_get (by simp [leH, hget])⟩; simp only [Tryz.results47, resL, ldA, oneOf, go_sem])
  have k2 : (q == 2) = false := by simpa using c2
  rw [if_neg c2]
  by_cases c3 : q = 3
  · have k3 : (q == 3) = true := by simpa using c3
    rw [if_pos c3]
    (refine fn_of Tryz.func47 rfl (by rfl) ?_; simp only [Tryz.ntmps47, List.length_cons, List.length_nil, Nat.reduceAdd, Nat.reduceSub, List.replicate, List.cons_append, List.nil_append])
    (have W := ndI hk (ndI k0 (ndI k1 (ndI k2 k3))); (repeat (any_goals (first | ((with_reducible refine evL_call ?_ ?_ ?_); rfl; rfl; intro K hK; ((apply opA_callB (f3); rfl; rfl; rfl; rfl; exact Tryz.func9); kernel_rfl; rfl; (simp only [go_sem, W]; rfl); (first | rfl | simp [AV.inNL, AV.inN])); (simp only [go_sem, W]; refine hK _ ?_; clear hK K)) | ((with_reducible refine evL_one ?_ ?_); rfl; intro K hK; simp only [go_sem, W]; ((repeat (refine ndI (by first | assumption | omega | rfl) ?_)); refine hK _ ?_; clear hK K)) | (with_reducible first | (refine evL_nil ?_; refine hR _ ?_; clear hR R) | ((first | refine evC_seq ?_ | refine evC_block ?_); intro Ψ hΨ hΨ') | (refine evC_region ?_; intro R hR) | (refine hΨ _ ?_; clear hΨ hΨ' Ψ) | refine evC_skip ?_ | refine evC_ret ?_ | refine evC_exit ?_) | ((with_reducible refine hΨ' _ _ ?_ ?_); (focus (simp; done)); clear hΨ hΨ' Ψ) | ((with_reducible apply evC_cond); rfl; rfl; all_goals (intro hc; first | (cases hc; done) | (try simp only at hc)))))))
    all_goals (refine ⟨by simp, ⟨_, ?_, AV.le_refl _⟩, leH_get (by simp [leH, hget])⟩; simp only [Tryz.results47, resL, ldA, oneOf, go_sem])
  have k3 : (q == 3) = false := by simpa using c3
  rw [if_neg c3]
  (refine fn_of Tryz.func47 rfl (by rfl) ?_; simp only [Tryz.ntmps47, List.length_cons, List.length_nil, Nat.reduceAdd, Nat.reduceSub, List.replicate, List.cons_append, List.nil_append])
  (have W := ndI hk (ndI k0 (ndI k1 (ndI k2 k3))); (repeat (any_goals (first | ((with_reducible refine evL_call ?_ ?_ ?_); rfl; rfl; intro K hK; ((apply opA_callB (f4); rfl; rfl; rfl; rfl; exact Tryz.func12); kernel_rfl; rfl; (simp only [go_sem, W]; rfl); (first | rfl | simp [AV.inNL, AV.inN])); (simp only [go_sem, W]; refine hK _ ?_; clear hK K)) | ((with_reducible refine evL_one ?_ ?_); rfl; intro K hK; simp only [go_sem, W]; ((repeat (refine ndI (by first | assumption | omega | rfl) ?_)); refine hK _ ?_; clear hK K)) | (with_reducible first | (refine evL_nil ?_; refine hR _ ?_; clear hR R) | ((first | refine evC_seq ?_ | refine evC_block ?_); intro Ψ hΨ hΨ') | (refine evC_region ?_; intro R hR) | (refine hΨ _ ?_; clear hΨ hΨ' Ψ) | refine evC_skip ?_ | refine evC_ret ?_ | refine evC_exit ?_) | ((with_reducible refine hΨ' _ _ ?_ ?_); (focus (simp; done)); clear hΨ hΨ' Ψ) | ((with_reducible apply evC_cond); rfl; rfl; all_goals (intro hc; first | (cases hc; done) | (try simp only at hc)))))))
  all_goals (refine ⟨by simp, ⟨_, ?_, AV.le_refl _⟩, leH_get (by simp [leH, hget])⟩; simp only [Tryz.results47, resL, ldA, oneOf, go_sem])
def cutS (s : Sj) : Sj := ⟨s.k, s.n, cutW s.w, cutX s.x⟩
structure Sj.raw (s : Sj) : Prop where
  k : -9223372036854775808 ≤ s.k ∧ s.k ≤ 9223372036854775807
  n : -9223372036854775808 ≤ s.n ∧ s.n ≤ 9223372036854775807
  w : s.w.raw
  x : XRaw s.x
theorem cutS_ok {s : Sj} (h : s.raw) : (cutS s).ok := ⟨h.k, h.n, cutW_ok h.w, (cutX_ok h.x).1, (cutX_ok h.x).2⟩
theorem goneJ_succ (m : Int) (j : Jn) (l : List Sj) (s : Sj) : goneJ m j (l ++ [s]) = stepJ m (goneJ m j l) s := by unfold goneJ; rw [List.foldl_append]; rfl
theorem gone_fn (M : List Pt) (hM : M.length ≤ 100) (j : Jn) (hj : Under M j) (l : List Sj) (hl : l.length ≤ maxLen) (ol : ∀ s ∈ l, s.raw) : Fn Tryz.prog 16 [jnA j, sjl false l, vi .i64 M.length] [] (jnA (goneJ M.length j ((l.take 20).map cutS))) [] := by
  have l8 : l.length < 9223372036854775808 := Nat.lt_succ_of_le hl
  obtain ⟨Gz, hG0⟩ : ∃ R, goneJ M.length j ((l.take 20).map cutS) = R := ⟨_, rfl⟩
  rw [hG0]
  (refine fn_of Tryz.func16 rfl (by rfl) ?_; simp only [Tryz.ntmps16, List.length_cons, List.length_nil, Nat.reduceAdd, Nat.reduceSub, List.replicate, List.cons_append, List.nil_append])
  (repeat (any_goals (first | ((with_reducible refine evL_one ?_ ?_); rfl; intro K hK; simp only [go_sem]; ((repeat (refine ndI (by first | assumption | omega | rfl) ?_)); refine hK _ ?_; clear hK K)) | (with_reducible first | (refine evL_nil ?_; refine hR _ ?_; clear hR R) | ((first | refine evC_seq ?_ | refine evC_block ?_); intro Ψ hΨ hΨ') | (refine evC_region ?_; intro R hR) | (refine hΨ _ ?_; clear hΨ hΨ' Ψ) | refine evC_skip ?_ | refine evC_ret ?_ | refine evC_exit ?_) | ((with_reducible refine hΨ' _ _ ?_ ?_); (focus (simp; done)); clear hΨ hΨ' Ψ) | ((with_reducible apply evC_cond); rfl; rfl; all_goals (intro hc; first | (cases hc; done) | (try simp only at hc))) | ((with_reducible refine evD_nil ?_ ?_); kernel_rfl; (with_reducible refine hR _ ?_); clear hR R) | (((with_reducible apply evD_any); rfl; rfl; (simp only [rdE, rdOf, go_sem]; rfl); (intro τ hA hQ hN; ((try simp only [agree, Op.operands, Call.operands, go_sem, List.mem_cons, List.not_mem_nil, forall_eq_or_imp, forall_eq, List.append_toArray, Option.toArray] at hA); (try simp only [go_sem, List.mem_cons, List.not_mem_nil, forall_eq_or_imp, forall_eq] at hQ hN); (first | (revert hA; intro hA) | have hA := trivial); (first | (revert hQ; intro hQ) | have hQ := trivial); (first | (revert hN; intro hN) | have hN := trivial); simp only [go_sem, hA, hQ, hN]; (repeat (refine ndI (by first | assumption | omega | rfl) ?_)); (first | apply eff_rd | apply eff_st | apply eff_nw)))); (simp only [St.eff, setO, hputs, go_sem])) | ((with_reducible refine evC_draw ?_ ?_ ?_ ?_); kernel_rfl; kernel_rfl; (first | kernel_rfl | simp [newNames, isNew, St.free, freeH, AV.refsL, AV.refs]); intro R hR))))
  refine evC_loop (α := { i : Nat // i ≤ l.length ∧ i ≤ 20 }) (fun p => ⟨[.any, .any, vi .i64 M.length, .ptr 3 0, .any, .any, .ptr 6 0, .any, .any, .any, .any, .any, sjl false l, vi .i64 l.length, vi .i64 p.1, .any, .any, .any, .any, .any, .any, .any, .any, .any, .any, .any, .any, .any, .any, .any, .any, .any, .any, .any, .any, .any, .any, .any, .any, .any, .any, .any, .any, .any, .any], [(3, jc (goneJ M.length j ((l.take p.1).map cutS))), (6, nil7)]⟩) (fun p => l.length - p.1) ⟨0, Nat.zero_le _, Nat.zero_le _⟩ (St.le_of (by simp [leT]) (by simp [leH, hget, goneJ])) ?_
  rintro ⟨i, hi, h20⟩ Ψ hΨ hΨ'
  dsimp only at hi h20 hΨ ⊢
  rcases Nat.lt_or_ge i l.length with hlt | hge
  · obtain ⟨s, hs⟩ : ∃ y, l[i]? = some y := ⟨l[i], List.getElem?_eq_getElem hlt⟩
    have k1 : (decide ((i : Int) < (l.length : Int))) = true := by simpa using hlt
    have k2 := sj_at hs
    have k7 : (i : Int) + 1 = ((i + 1 : Nat) : Int) := by omega
    by_cases he : i = 20
    · have k3 : ((i : Int) == 20) = true := by subst he; rfl
      have e20 : goneJ M.length j ((l.take i).map cutS) = Gz := by rw [he]; exact hG0
      rw [e20]
      (have W := ndI k1 (ndI k2 k3); (repeat (any_goals (first | ((with_reducible refine evL_one ?_ ?_); rfl; intro K hK; simp (disch := omega) only [go_sem, W]; ((repeat (refine ndI (by first | assumption | omega | rfl) ?_)); refine hK _ ?_; clear hK K)) | (with_reducible first | (refine evL_nil ?_; refine hR _ ?_; clear hR R) | ((first | refine evC_seq ?_ | refine evC_block ?_); intro Ψ hΨ hΨ') | (refine evC_region ?_; intro R hR) | (refine hΨ _ ?_; clear hΨ hΨ' Ψ) | refine evC_skip ?_ | refine evC_ret ?_ | refine evC_exit ?_) | ((with_reducible refine hΨ' _ _ ?_ ?_); (focus (simp; done)); clear hΨ hΨ' Ψ) | ((with_reducible apply evC_cond); rfl; rfl; all_goals (intro hc; first | (cases hc; done) | (try simp only at hc))) | ((with_reducible refine evD_nil ?_ ?_); kernel_rfl; (with_reducible refine hR _ ?_); clear hR R) | (((with_reducible apply evD_any); rfl; rfl; (simp (disch := omega) only [rdE, rdOf, go_sem, W]; rfl); (intro τ hA hQ hN; ((try simp only [agree, Op.operands, Call.operands, go_sem, W, go_sem, List.mem_cons, List.not_mem_nil, forall_eq_or_imp, forall_eq, List.append_toArray, Option.toArray] at hA); (try simp only [go_sem, W, List.mem_cons, List.not_mem_nil, forall_eq_or_imp, forall_eq] at hQ hN); (first | (revert hA; intro hA) | have hA := trivial); (first | (revert hQ; intro hQ) | have hQ := trivial); (first | (revert hN; intro hN) | have hN := trivial); simp (disch := omega) only [go_sem, W, go_sem, hA, hQ, hN]; (repeat (refine ndI (by first | assumption | omega | rfl) ?_)); (first | apply eff_rd | apply eff_st | apply eff_nw)))); (simp (disch := omega) only [St.eff, setO, hputs, go_sem, W])) | ((with_reducible refine evC_draw ?_ ?_ ?_ ?_); kernel_rfl; kernel_rfl; (first | kernel_rfl | simp [newNames, isNew, St.free, freeH, AV.refsL, AV.refs]); intro R hR)))))
      all_goals (refine ⟨by simp, ⟨_, ?_, AV.le_refl _⟩, leH_get (by simp [leH, hget])⟩; simp only [Tryz.results16, resL, ldA, oneOf, go_sem])
    · have k3 : ((i : Int) == 20) = false := by simp; omega
      have so := ol s (List.mem_of_getElem? hs)
      have w1 := world_fn s.w so.w
      have t1 := touched_fn s.x so.x
      have cs := cutS_ok so
      have e1 : (l.take (i + 1)).map cutS = (l.take i).map cutS ++ [cutS s] := by rw [List.take_add_one, hs, List.map_append]; rfl
      have un : Under M (goneJ M.length j ((l.take i).map cutS)) := under_gone hM (fun t ht => by
        obtain ⟨u, hu, rfl⟩ := List.mem_map.1 ht
        exact cutS_ok (ol u (List.mem_of_mem_take hu))) hj
      have e2 : goneJ M.length j ((l.take (i + 1)).map cutS) = stepJ M.length (goneJ M.length j ((l.take i).map cutS)) (cutS s) := by rw [e1, goneJ_succ]
      have hΨ1 := hΨ
      generalize goneJ M.length j ((l.take i).map cutS) = G at un e2 ⊢
      have ab := above_fn (cutS s) M.length
      have de := does_fn (cutS s) cs G un.2.1
      have nxt : ∀ τ : St, τ.le ⟨[.any, .any, vi .i64 M.length, .ptr 3 0, .any, .any, .ptr 6 0, .any, .any, .any, .any, .any, sjl false l, vi .i64 l.length, vi .i64 (i + 1 : Nat), .any, .any, .any, .any, .any, .any, .any, .any, .any, .any, .any, .any, .any, .any, .any, .any, .any, .any, .any, .any, .any, .any, .any, .any, .any, .any, .any, .any, .any, .any], [(3, jc (stepJ M.length G (cutS s))), (6, nil7)]⟩ → Ψ .normal τ := fun τ h => hΨ1 _ ⟨i + 1, hlt, by omega⟩ (by simp only; omega) (by rw [← e2] at h; exact h)
      clear hΨ1 un e1 e2
      unfold stepJ at nxt
      by_cases ha : aboveJ (cutS s) M.length = true
      · rw [ha] at ab
        rw [if_pos ha] at nxt
        by_cases hz : (doesJ (cutS s) G).2.2 = 0
        · rw [if_pos hz] at nxt
          rw [hz] at de
          generalize (doesJ (cutS s) G).1 = r1 at *
          generalize (doesJ (cutS s) G).2.1 = r2 at *
          unfold cutS at ab de
          generalize cutW s.w = cw at *
          generalize cutX s.x = cx at *
          (have W := ndI k1 (ndI k2 (ndI k3 (ndI k7 @wrI))); (repeat (any_goals (first | ((with_reducible refine evL_call ?_ ?_ ?_); rfl; rfl; intro K hK; ((first | (apply opA_callB (ab); rfl; rfl; rfl; rfl; exact Tryz.func46) | (apply opA_callB (de); rfl; rfl; rfl; rfl; exact Tryz.func47)); kernel_rfl; rfl; (simp (disch := omega) only [go_sem, W]; rfl); (first | rfl | simp [AV.inNL, AV.inN])); (simp (disch := omega) only [go_sem, W]; refine hK _ ?_; clear hK K)) | ((with_reducible refine evL_one ?_ ?_); rfl; intro K hK; simp (disch := omega) only [go_sem, W]; ((repeat (refine ndI (by first | assumption | omega | rfl) ?_)); refine hK _ ?_; clear hK K)) | (with_reducible first | (refine evL_nil ?_; refine hR _ ?_; clear hR R) | ((first | refine evC_seq ?_ | refine evC_block ?_); intro Ψ hΨ hΨ') | (refine evC_region ?_; intro R hR) | (refine hΨ _ ?_; clear hΨ hΨ' Ψ) | refine evC_skip ?_ | refine evC_ret ?_ | refine evC_exit ?_) | ((with_reducible refine hΨ' _ _ ?_ ?_); (focus (simp; done)); clear hΨ hΨ' Ψ) | ((with_reducible apply evC_cond); rfl; rfl; all_goals (intro hc; first | (cases hc; done) | (try simp only at hc))) | ((with_reducible refine evD_nil ?_ ?_); kernel_rfl; (with_reducible refine hR _ ?_); clear hR R) | ((first | ((with_reducible apply evD_fcall); rfl; rfl; ((first | (apply opF_callB (w1); rfl; rfl; rfl; rfl; exact Tryz.func7) | (apply opF_callB (t1); rfl; rfl; rfl; rfl; exact Tryz.func8)); kernel_rfl; rfl; (simp (disch := omega) only [go_sem, W]; rfl); (first | rfl | simp [AV.inNL, AV.inN]))) | ((with_reducible apply evD_any); rfl; rfl; (simp (disch := omega) only [rdE, rdOf, go_sem, W]; rfl); (intro τ hA hQ hN; ((try simp only [agree, Op.operands, Call.operands, go_sem, W, go_sem, List.mem_cons, List.not_mem_nil, forall_eq_or_imp, forall_eq, List.append_toArray, Option.toArray] at hA); (try simp only [go_sem, W, List.mem_cons, List.not_mem_nil, forall_eq_or_imp, forall_eq] at hQ hN); (first | (revert hA; intro hA) | have hA := trivial); (first | (revert hQ; intro hQ) | have hQ := trivial); (first | (revert hN; intro hN) | have hN := trivial); simp (disch := omega) only [go_sem, W, go_sem, hA, hQ, hN]; (repeat (refine ndI (by first | assumption | omega | rfl) ?_)); (first | apply eff_rd | apply eff_st | apply eff_nw))))); (simp (disch := omega) only [St.eff, setO, hputs, go_sem, W])) | ((with_reducible refine evC_draw ?_ ?_ ?_ ?_); kernel_rfl; kernel_rfl; (first | kernel_rfl | simp [newNames, isNew, St.free, freeH, AV.refsL, AV.refs]); intro R hR)))))
          all_goals exact nxt _ (St.le_of (by simp [leT]) (by simp [leH, hget]))
        · have k4 : ((doesJ (cutS s) G).2.2 == 0) = false := by simpa using hz
          rw [if_neg hz] at nxt
          generalize (doesJ (cutS s) G).1 = r1 at *
          generalize (doesJ (cutS s) G).2.1 = r2 at *
          generalize (doesJ (cutS s) G).2.2 = r3 at *
          unfold cutS at ab de
          generalize cutW s.w = cw at *
          generalize cutX s.x = cx at *
          (have W := ndI k1 (ndI k2 (ndI k3 (ndI k4 (ndI k7 @wrI)))); (repeat (any_goals (first | ((with_reducible refine evL_call ?_ ?_ ?_); rfl; rfl; intro K hK; ((first | (apply opA_callB (ab); rfl; rfl; rfl; rfl; exact Tryz.func46) | (apply opA_callB (de); rfl; rfl; rfl; rfl; exact Tryz.func47)); kernel_rfl; rfl; (simp (disch := omega) only [go_sem, W]; rfl); (first | rfl | simp [AV.inNL, AV.inN])); (simp (disch := omega) only [go_sem, W]; refine hK _ ?_; clear hK K)) | ((with_reducible refine evL_one ?_ ?_); rfl; intro K hK; simp (disch := omega) only [go_sem, W]; ((repeat (refine ndI (by first | assumption | omega | rfl) ?_)); refine hK _ ?_; clear hK K)) | (with_reducible first | (refine evL_nil ?_; refine hR _ ?_; clear hR R) | ((first | refine evC_seq ?_ | refine evC_block ?_); intro Ψ hΨ hΨ') | (refine evC_region ?_; intro R hR) | (refine hΨ _ ?_; clear hΨ hΨ' Ψ) | refine evC_skip ?_ | refine evC_ret ?_ | refine evC_exit ?_) | ((with_reducible refine hΨ' _ _ ?_ ?_); (focus (simp; done)); clear hΨ hΨ' Ψ) | ((with_reducible apply evC_cond); rfl; rfl; all_goals (intro hc; first | (cases hc; done) | (try simp only at hc))) | ((with_reducible refine evD_nil ?_ ?_); kernel_rfl; (with_reducible refine hR _ ?_); clear hR R) | ((first | ((with_reducible apply evD_fcall); rfl; rfl; ((first | (apply opF_callB (w1); rfl; rfl; rfl; rfl; exact Tryz.func7) | (apply opF_callB (t1); rfl; rfl; rfl; rfl; exact Tryz.func8)); kernel_rfl; rfl; (simp (disch := omega) only [go_sem, W]; rfl); (first | rfl | simp [AV.inNL, AV.inN]))) | ((with_reducible apply evD_any); rfl; rfl; (simp (disch := omega) only [rdE, rdOf, go_sem, W]; rfl); (intro τ hA hQ hN; ((try simp only [agree, Op.operands, Call.operands, go_sem, W, go_sem, List.mem_cons, List.not_mem_nil, forall_eq_or_imp, forall_eq, List.append_toArray, Option.toArray] at hA); (try simp only [go_sem, W, List.mem_cons, List.not_mem_nil, forall_eq_or_imp, forall_eq] at hQ hN); (first | (revert hA; intro hA) | have hA := trivial); (first | (revert hQ; intro hQ) | have hQ := trivial); (first | (revert hN; intro hN) | have hN := trivial); simp (disch := omega) only [go_sem, W, go_sem, hA, hQ, hN]; (repeat (refine ndI (by first | assumption | omega | rfl) ?_)); (first | apply eff_rd | apply eff_st | apply eff_nw))))); (simp (disch := omega) only [St.eff, setO, hputs, go_sem, W])) | ((with_reducible refine evC_draw ?_ ?_ ?_ ?_); kernel_rfl; kernel_rfl; (first | kernel_rfl | simp [newNames, isNew, St.free, freeH, AV.refsL, AV.refs]); intro R hR)))))
          all_goals exact nxt _ (St.le_of (by simp [leT]) (by simp [leH, hget]))
      · have ha2 : aboveJ (cutS s) M.length = false := by simpa using ha
        rw [ha2] at ab
        rw [if_neg ha] at nxt
        clear de
        unfold cutS at ab
        generalize cutW s.w = cw at *
        generalize cutX s.x = cx at *
        (have W := ndI k1 (ndI k2 (ndI k3 (ndI k7 @wrI))); (repeat (any_goals (first | ((with_reducible refine evL_call ?_ ?_ ?_); rfl; rfl; intro K hK; ((apply opA_callB (ab); rfl; rfl; rfl; rfl; exact Tryz.func46); kernel_rfl; rfl; (simp (disch := omega) only [go_sem, W]; rfl); (first | rfl | simp [AV.inNL, AV.inN])); (simp (disch := omega) only [go_sem, W]; refine hK _ ?_; clear hK K)) | ((with_reducible refine evL_one ?_ ?_); rfl; intro K hK; simp (disch := omega) only [go_sem, W]; ((repeat (refine ndI (by first | assumption | omega | rfl) ?_)); refine hK _ ?_; clear hK K)) | (with_reducible first | (refine evL_nil ?_; refine hR _ ?_; clear hR R) | ((first | refine evC_seq ?_ | refine evC_block ?_); intro Ψ hΨ hΨ') | (refine evC_region ?_; intro R hR) | (refine hΨ _ ?_; clear hΨ hΨ' Ψ) | refine evC_skip ?_ | refine evC_ret ?_ | refine evC_exit ?_) | ((with_reducible refine hΨ' _ _ ?_ ?_); (focus (simp; done)); clear hΨ hΨ' Ψ) | ((with_reducible apply evC_cond); rfl; rfl; all_goals (intro hc; first | (cases hc; done) | (try simp only at hc))) | ((with_reducible refine evD_nil ?_ ?_); kernel_rfl; (with_reducible refine hR _ ?_); clear hR R) | ((first | ((with_reducible apply evD_fcall); rfl; rfl; ((first | (apply opF_callB (w1); rfl; rfl; rfl; rfl; exact Tryz.func7) | (apply opF_callB (t1); rfl; rfl; rfl; rfl; exact Tryz.func8)); kernel_rfl; rfl; (simp (disch := omega) only [go_sem, W]; rfl); (first | rfl | simp [AV.inNL, AV.inN]))) | ((with_reducible apply evD_any); rfl; rfl; (simp (disch := omega) only [rdE, rdOf, go_sem, W]; rfl); (intro τ hA hQ hN; ((try simp only [agree, Op.operands, Call.operands, go_sem, W, go_sem, List.mem_cons, List.not_mem_nil, forall_eq_or_imp, forall_eq, List.append_toArray, Option.toArray] at hA); (try simp only [go_sem, W, List.mem_cons, List.not_mem_nil, forall_eq_or_imp, forall_eq] at hQ hN); (first | (revert hA; intro hA) | have hA := trivial); (first | (revert hQ; intro hQ) | have hQ := trivial); (first | (revert hN; intro hN) | have hN := trivial); simp (disch := omega) only [go_sem, W, go_sem, hA, hQ, hN]; (repeat (refine ndI (by first | assumption | omega | rfl) ?_)); (first | apply eff_rd | apply eff_st | apply eff_nw))))); (simp (disch := omega) only [St.eff, setO, hputs, go_sem, W])) | ((with_reducible refine evC_draw ?_ ?_ ?_ ?_); kernel_rfl; kernel_rfl; (first | kernel_rfl | simp [newNames, isNew, St.free, freeH, AV.refsL, AV.refs]); intro R hR)))))
        all_goals exact nxt _ (St.le_of (by simp [leT]) (by simp [leH, hget]))
  · have k1 : (decide ((i : Int) < (l.length : Int))) = false := by simpa using hge
    have e : l.take i = l.take 20 := by rw [List.take_of_length_le hge, List.take_of_length_le (by omega)]
    rw [e, hG0]
    (repeat (any_goals (first | ((with_reducible refine evL_one ?_ ?_); rfl; intro K hK; simp only [go_sem, k1]; ((repeat (refine ndI (by first | assumption | omega | rfl) ?_)); refine hK _ ?_; clear hK K)) | (with_reducible first | (refine evL_nil ?_; refine hR _ ?_; clear hR R) | ((first | refine evC_seq ?_ | refine evC_block ?_); intro Ψ hΨ hΨ') | (refine evC_region ?_; intro R hR) | (refine hΨ _ ?_; clear hΨ hΨ' Ψ) | refine evC_skip ?_ | refine evC_ret ?_ | refine evC_exit ?_) | ((with_reducible refine hΨ' _ _ ?_ ?_); (focus (simp; done)); clear hΨ hΨ' Ψ) | ((with_reducible apply evC_cond); rfl; rfl; all_goals (intro hc; first | (cases hc; done) | (try simp only at hc))) | ((with_reducible refine evD_nil ?_ ?_); kernel_rfl; (with_reducible refine hR _ ?_); clear hR R) | (((with_reducible apply evD_any); rfl; rfl; (simp only [rdE, rdOf, go_sem, k1]; rfl); (intro τ hA hQ hN; ((try simp only [agree, Op.operands, Call.operands, go_sem, k1, go_sem, List.mem_cons, List.not_mem_nil, forall_eq_or_imp, forall_eq, List.append_toArray, Option.toArray] at hA); (try simp only [go_sem, k1, List.mem_cons, List.not_mem_nil, forall_eq_or_imp, forall_eq] at hQ hN); (first | (revert hA; intro hA) | have hA := trivial); (first | (revert hQ; intro hQ) | have hQ := trivial); (first | (revert hN; intro hN) | have hN := trivial); simp only [go_sem, k1, go_sem, hA, hQ, hN]; (repeat (refine ndI (by first | assumption | omega | rfl) ?_)); (first | apply eff_rd | apply eff_st | apply eff_nw)))); (simp only [St.eff, setO, hputs, go_sem, k1])) | ((with_reducible refine evC_draw ?_ ?_ ?_ ?_); kernel_rfl; kernel_rfl; (first | kernel_rfl | simp [newNames, isNew, St.free, freeH, AV.refsL, AV.refs]); intro R hR))))
    all_goals (refine ⟨by simp, ⟨_, ?_, AV.le_refl _⟩, leH_get (by simp [leH, hget])⟩; simp only [Tryz.results16, resL, ldA, oneOf, go_sem])
theorem cutA_idem (x : Ac) : cutA (cutA x) = cutA x := by unfold cutA; simp only [List.take_take, Nat.min_self]
theorem cutW_idem (w : Wl) : cutW (cutW w) = cutW w := by
  unfold cutW
  simp only [← List.map_take, List.take_take, Nat.min_self, List.map_map]
  congr 1
  exact List.map_congr_left fun x _ => cutA_idem x
theorem cutX_idem (x : ax.Xs) : cutX (cutX x) = cutX x := by unfold cutX; simp only [List.take_take, Nat.min_self]
theorem cutP_idem (p : Pt) : cutP (cutP p) = cutP p := by unfold cutP; simp only [cutW_idem, cutX_idem]
theorem fewJ_idem (j : Jn) : fewJ (fewJ j) = fewJ j := by
  unfold fewJ
  simp only [← List.map_take, List.take_take, Nat.min_self, List.map_map, cutP_idem]
  congr 1
  exact List.map_congr_left fun x _ => cutP_idem x
theorem cutP_raw {p : Pt} (h : p.ok) : p.raw :=
  ⟨⟨⟨Nat.le_trans h.w.s.1 (by decide), fun x hx => (h.w.s.2 x hx).1⟩, ⟨Nat.le_trans h.w.l.1 (by decide), h.w.l.2⟩, ⟨Nat.le_trans h.w.n.1 (by decide), h.w.n.2⟩⟩, ⟨⟨Nat.le_trans h.f.1 (by decide), h.x.1⟩, ⟨Nat.le_trans h.f.2.1 (by decide), h.x.2.1⟩, ⟨Nat.le_trans h.f.2.2 (by decide), h.x.2.2⟩⟩⟩
theorem raw_of {j : Jn} (h : j.ok) : j.raw := ⟨cutP_raw h.p, Nat.le_trans h.m.1 (by decide), fun p hp => cutP_raw (h.m.2 p hp)⟩
theorem back_walk (j : Jn) (hj : j.raw) (l : List Sj) (hl : l.length ≤ maxLen) (ol : ∀ s ∈ l, s.raw) : Fn Tryz.prog 4 [jnA j, sjl false l] [] (vb true) [] := by
  have wk := wakesJ_fn
  have c1 := few_fn j hj
  have hJ := fewJ_ok hj
  have c2 := few_fn (fewJ j) (raw_of hJ)
  rw [fewJ_idem] at c2
  generalize fewJ j = J at *
  have mk := mark_fn J hJ
  have ck := checkJ_fn J hJ
  have n0 : ((nilJ.m.length : Int) == 0) = true := rfl
  have n8 : nilJ.m.length < 9223372036854775808 := by decide
  have m8 : J.m.length < 9223372036854775807 := by have := hJ.m.1; omega
  unfold markJ markN at mk
  by_cases hc : okJ J = true
  case neg =>
    have hc2 : okJ J = false := by simpa using hc
    rw [if_neg hc, if_neg hc] at mk
    rw [hc2] at ck
    simp only [Bool.false_eq_true, if_false] at ck
    generalize nilJ = N at *
    (refine fn_of Tryz.func4 rfl (by rfl) ?_; simp only [Tryz.ntmps4, List.length_cons, List.length_nil, Nat.reduceAdd, Nat.reduceSub, List.replicate, List.cons_append, List.nil_append])
    (repeat (any_goals (first | ((with_reducible refine evL_call ?_ ?_ ?_); rfl; rfl; intro K hK; (first | ((first | (apply opA_callB (wk); rfl; rfl; rfl; rfl; exact Tryz.func5) | (apply opA_callB (mk); rfl; rfl; rfl; rfl; exact Tryz.func15)); kernel_rfl; rfl; (simp (disch := omega) only [go_sem, n0]; rfl); (first | rfl | simp [AV.inNL, AV.inN])) | ((apply opA_callB (c1); rfl; rfl; rfl; rfl; exact Tryz.func6); kernel_rfl; rfl; (simp (disch := omega) only [go_sem, n0]; rfl); (first | rfl | simp [AV.inNL, AV.inN])) | ((apply opA_callB (c2); rfl; rfl; rfl; rfl; exact Tryz.func6); kernel_rfl; rfl; (simp (disch := omega) only [go_sem, n0]; rfl); (first | rfl | simp [AV.inNL, AV.inN]))); (simp (disch := omega) only [go_sem, n0]; refine hK _ ?_; clear hK K)) | ((with_reducible refine evL_one ?_ ?_); rfl; intro K hK; simp (disch := omega) only [go_sem, n0]; ((repeat (refine ndI (by first | assumption | omega | rfl) ?_)); refine hK _ ?_; clear hK K)) | (with_reducible first | (refine evL_nil ?_; refine hR _ ?_; clear hR R) | ((first | refine evC_seq ?_ | refine evC_block ?_); intro Ψ hΨ hΨ') | (refine evC_region ?_; intro R hR) | (refine hΨ _ ?_; clear hΨ hΨ' Ψ) | refine evC_skip ?_ | refine evC_ret ?_ | refine evC_exit ?_) | ((with_reducible refine hΨ' _ _ ?_ ?_); (focus (simp; done)); clear hΨ hΨ' Ψ) | ((with_reducible apply evL_unmet); rfl; rfl; rfl; (try simp (disch := omega) only [go_sem, n0])) | ((with_reducible apply evL_grd); rfl; rfl; rfl; all_goals (intro hb; first | (cases hb; done) | ((try simp only [Bool.not_true, Bool.not_false] at hb); (first | ((with_reducible intro K hK); (first | ((apply opA_callB (ck); rfl; rfl; rfl; rfl; exact Tryz.func10); kernel_rfl; rfl; (simp (disch := omega) only [go_sem, n0]; rfl); (first | rfl | simp [AV.inNL, AV.inN])) | skip); simp (disch := omega) only [go_sem, n0]; ((repeat (refine ndI (by first | assumption | omega | rfl) ?_)); refine hK _ ?_; clear hK K)) | ((fail_if_success (with_reducible intro _)); simp (disch := omega) only [go_sem, n0]))))) | ((with_reducible apply evC_cond); rfl; rfl; all_goals (intro hc; first | (cases hc; done) | (try simp only at hc))))))
    all_goals (refine ⟨by simp, ⟨_, ?_, AV.le_refl _⟩, leH_get (by simp [leH, hget])⟩; simp only [Tryz.results4, resL, ldA, oneOf, go_sem])
  rw [if_pos hc, if_pos hc] at mk
  by_cases h16 : J.m.length = 16
  case pos =>
    rw [if_pos h16, if_pos h16] at mk
    generalize nilJ = N at *
    (refine fn_of Tryz.func4 rfl (by rfl) ?_; simp only [Tryz.ntmps4, List.length_cons, List.length_nil, Nat.reduceAdd, Nat.reduceSub, List.replicate, List.cons_append, List.nil_append])
    (repeat (any_goals (first | ((with_reducible refine evL_call ?_ ?_ ?_); rfl; rfl; intro K hK; (first | ((first | (apply opA_callB (wk); rfl; rfl; rfl; rfl; exact Tryz.func5) | (apply opA_callB (mk); rfl; rfl; rfl; rfl; exact Tryz.func15)); kernel_rfl; rfl; (simp (disch := omega) only [go_sem, n0]; rfl); (first | rfl | simp [AV.inNL, AV.inN])) | ((apply opA_callB (c1); rfl; rfl; rfl; rfl; exact Tryz.func6); kernel_rfl; rfl; (simp (disch := omega) only [go_sem, n0]; rfl); (first | rfl | simp [AV.inNL, AV.inN])) | ((apply opA_callB (c2); rfl; rfl; rfl; rfl; exact Tryz.func6); kernel_rfl; rfl; (simp (disch := omega) only [go_sem, n0]; rfl); (first | rfl | simp [AV.inNL, AV.inN]))); (simp (disch := omega) only [go_sem, n0]; refine hK _ ?_; clear hK K)) | ((with_reducible refine evL_one ?_ ?_); rfl; intro K hK; simp (disch := omega) only [go_sem, n0]; ((repeat (refine ndI (by first | assumption | omega | rfl) ?_)); refine hK _ ?_; clear hK K)) | (with_reducible first | (refine evL_nil ?_; refine hR _ ?_; clear hR R) | ((first | refine evC_seq ?_ | refine evC_block ?_); intro Ψ hΨ hΨ') | (refine evC_region ?_; intro R hR) | (refine hΨ _ ?_; clear hΨ hΨ' Ψ) | refine evC_skip ?_ | refine evC_ret ?_ | refine evC_exit ?_) | ((with_reducible refine hΨ' _ _ ?_ ?_); (focus (simp; done)); clear hΨ hΨ' Ψ) | ((with_reducible apply evL_unmet); rfl; rfl; rfl; (try simp (disch := omega) only [go_sem, n0])) | ((with_reducible apply evL_grd); rfl; rfl; rfl; all_goals (intro hb; first | (cases hb; done) | ((try simp only [Bool.not_true, Bool.not_false] at hb); (first | ((with_reducible intro K hK); simp (disch := omega) only [go_sem, n0]; ((repeat (refine ndI (by first | assumption | omega | rfl) ?_)); refine hK _ ?_; clear hK K)) | ((fail_if_success (with_reducible intro _)); simp (disch := omega) only [go_sem, n0]))))) | ((with_reducible apply evC_cond); rfl; rfl; all_goals (intro hc; first | (cases hc; done) | (try simp only at hc))))))
    all_goals (refine ⟨by simp, ⟨_, ?_, AV.le_refl _⟩, leH_get (by simp [leH, hget])⟩; simp only [Tryz.results4, resL, ldA, oneOf, go_sem])
  rw [if_neg h16, if_neg h16] at mk
  have e : (J.m ++ [J.p]).length = J.m.length + 1 := by simp
  obtain ⟨g1, g2, g3⟩ := okJ_iff.1 hc
  have u0 : Under (J.m ++ [J.p]) ⟨J.p, J.m ++ [J.p]⟩ :=
    ⟨okJ_iff.2 ⟨by show (J.m ++ [J.p]).length ≤ 16; omega, g2, fun q h => (List.mem_append.1 h).elim (g3 q) fun h => by rw [List.mem_singleton.1 h]; exact g2⟩, ⟨hJ.p, by show (J.m ++ [J.p]).length ≤ 100; omega, fun q h => (List.mem_append.1 h).elim (hJ.m.2 q) fun h => by rw [List.mem_singleton.1 h]; exact hJ.p⟩, List.take_of_length_le (Nat.le_refl _)⟩
  have gn := gone_fn (J.m ++ [J.p]) (by omega) ⟨J.p, J.m ++ [J.p]⟩ u0 l hl ol
  rw [e] at gn
  obtain ⟨K, hK⟩ : ∃ K, goneJ (J.m.length + 1 : Nat) ⟨J.p, J.m ++ [J.p]⟩ ((l.take 20).map cutS) = K := ⟨_, rfl⟩
  rw [hK] at gn
  obtain ⟨kok, kc, kb, kk, nok, nc⟩ := back_law hJ hc h16 (fun s hs => by
    obtain ⟨u, hu, rfl⟩ := List.mem_map.1 hs
    exact cutS_ok (ol u (List.mem_of_mem_take hu))) hK.symm
  have bk := back_fn K kok J.m.length ⟨by omega, by omega⟩
  have kp := keep_fn K kok J.m.length ⟨by omega, by omega⟩
  rw [kb] at bk
  rw [kk] at kp
  have ck1 := checkJ_fn K kok
  have ck2 := checkJ_fn ⟨K.p, J.m⟩ nok
  rw [kc, if_pos rfl] at ck1
  rw [nc, if_pos rfl] at ck2
  have s1 := sameJ_fn J J hJ hJ
  have s2 := sameJ_fn ⟨K.p, J.m⟩ ⟨K.p, J.m⟩ nok nok
  rw [decide_eq_true rfl] at s1 s2
  have k7 : (J.m.length : Int) + 1 = ((J.m.length + 1 : Nat) : Int) := by omega
  clear ck hK kb kk u0 g3
  (refine fn_of Tryz.func4 rfl (by rfl) ?_; simp only [Tryz.ntmps4, List.length_cons, List.length_nil, Nat.reduceAdd, Nat.reduceSub, List.replicate, List.cons_append, List.nil_append])
  (repeat (any_goals (first | ((with_reducible refine evL_call ?_ ?_ ?_); rfl; rfl; intro K hK; (first | ((first | (apply opA_callB (wk); rfl; rfl; rfl; rfl; exact Tryz.func5) | (apply opA_callB (mk); rfl; rfl; rfl; rfl; exact Tryz.func15) | (apply opA_callB (gn); rfl; rfl; rfl; rfl; exact Tryz.func16) | (apply opA_callB (bk); rfl; rfl; rfl; rfl; exact Tryz.func17) | (apply opA_callB (kp); rfl; rfl; rfl; rfl; exact Tryz.func18)); kernel_rfl; rfl; (simp (disch := omega) only [go_sem, k7, wrI, bne_self_eq_false]; rfl); (first | rfl | simp [AV.inNL, AV.inN])) | ((apply opA_callB (c1); rfl; rfl; rfl; rfl; exact Tryz.func6); kernel_rfl; rfl; (simp (disch := omega) only [go_sem, k7, wrI, bne_self_eq_false]; rfl); (first | rfl | simp [AV.inNL, AV.inN])) | ((apply opA_callB (c2); rfl; rfl; rfl; rfl; exact Tryz.func6); kernel_rfl; rfl; (simp (disch := omega) only [go_sem, k7, wrI, bne_self_eq_false]; rfl); (first | rfl | simp [AV.inNL, AV.inN])) | ((apply opA_callB (s1); rfl; rfl; rfl; rfl; exact Tryz.func13); kernel_rfl; rfl; (simp (disch := omega) only [go_sem, k7, wrI, bne_self_eq_false]; rfl); (first | rfl | simp [AV.inNL, AV.inN])) | ((apply opA_callB (s2); rfl; rfl; rfl; rfl; exact Tryz.func13); kernel_rfl; rfl; (simp (disch := omega) only [go_sem, k7, wrI, bne_self_eq_false]; rfl); (first | rfl | simp [AV.inNL, AV.inN]))); (simp (disch := omega) only [go_sem, k7, wrI, bne_self_eq_false]; refine hK _ ?_; clear hK K)) | ((with_reducible refine evL_one ?_ ?_); rfl; intro K hK; simp (disch := omega) only [go_sem, k7, wrI, bne_self_eq_false]; ((repeat (refine ndI (by first | assumption | omega | rfl) ?_)); refine hK _ ?_; clear hK K)) | (with_reducible first | (refine evL_nil ?_; refine hR _ ?_; clear hR R) | ((first | refine evC_seq ?_ | refine evC_block ?_); intro Ψ hΨ hΨ') | (refine evC_region ?_; intro R hR) | (refine hΨ _ ?_; clear hΨ hΨ' Ψ) | refine evC_skip ?_ | refine evC_ret ?_ | refine evC_exit ?_) | ((with_reducible refine hΨ' _ _ ?_ ?_); (focus (simp; done)); clear hΨ hΨ' Ψ) | ((with_reducible apply evL_unmet); rfl; rfl; rfl; (try simp (disch := omega) only [go_sem, k7, wrI, bne_self_eq_false])) | ((with_reducible apply evL_grd); rfl; rfl; rfl; all_goals (intro hb; first | (cases hb; done) | ((try simp only [Bool.not_true, Bool.not_false] at hb); (first | ((with_reducible intro K hK); (first | ((apply opA_callB (ck1); rfl; rfl; rfl; rfl; exact Tryz.func10); kernel_rfl; rfl; (simp (disch := omega) only [go_sem, k7, wrI, bne_self_eq_false]; rfl); (first | rfl | simp [AV.inNL, AV.inN])) | ((apply opA_callB (ck2); rfl; rfl; rfl; rfl; exact Tryz.func10); kernel_rfl; rfl; (simp (disch := omega) only [go_sem, k7, wrI, bne_self_eq_false]; rfl); (first | rfl | simp [AV.inNL, AV.inN])) | ((apply opA_callB (s1); rfl; rfl; rfl; rfl; exact Tryz.func13); kernel_rfl; rfl; (simp (disch := omega) only [go_sem, k7, wrI, bne_self_eq_false]; rfl); (first | rfl | simp [AV.inNL, AV.inN])) | skip); simp (disch := omega) only [go_sem, k7, wrI, bne_self_eq_false]; ((repeat (refine ndI (by first | assumption | omega | rfl) ?_)); refine hK _ ?_; clear hK K)) | ((fail_if_success (with_reducible intro _)); simp (disch := omega) only [go_sem, k7, wrI, bne_self_eq_false]))))) | ((with_reducible apply evC_cond); rfl; rfl; all_goals (intro hc; first | (cases hc; done) | (try simp only at hc))))))
  all_goals (refine ⟨by simp, ⟨_, ?_, AV.le_refl _⟩, leH_get (by simp [leH, hget])⟩; simp only [Tryz.results4, resL, ldA, oneOf, go_sem])
theorem decVSt : DecV Tryz.prog 108 8 Sj.pv Sj.raw :=
  (decV_struct (sz := 1 + (1 + (3 + 3))) Tryz.underlying108 (by kernel_rfl) (decF_cons (decV_int Tryz.underlying3 (by kernel_rfl)) rfl (decF_cons (decV_int Tryz.underlying3 (by kernel_rfl)) rfl (decF_cons decVW rfl (decF_one decVX rfl))))).map fun x hx => ⟨⟨x.1, x.2.1, x.2.2.1, x.2.2.2⟩, rfl, wf_i64 hx.1, wf_i64 hx.2.1, hx.2.2.1, hx.2.2.2⟩
theorem decVSts : DecV Tryz.prog 54 1 (fun l : List Sj => [.sl false 8 l.length (l.flatMap Sj.pv)]) (fun l => l.length ≤ maxLen ∧ ∀ s ∈ l, s.raw) :=
  decV_slice Tryz.underlying54 (by kernel_rfl) decVSt (by omega) sj_len
theorem law_back {j : Jn} {l : List Sj} {v0 v1 : Value} {W : World} (h0 : RV (fun _ => True) (fun _ => (0, 0, 0)) W v0 (.agg (j.pv.map .c))) (g0 : j.raw) (h1 : RV (fun _ => True) (fun _ => (0, 0, 0)) W v1 (sjl false l)) (g1 : l.length ≤ maxLen ∧ ∀ s ∈ l, s.raw) : Calls Tryz.prog 4 #[v0, v1] W (RetT W true) := by
  refine Fn.law (back_walk j g0 l g1.1 g1.2) (vs := [_, _]) rfl fun k v y hk hy => ?_
  rcases k with _ | _ | k
  · cases hk; cases hy; exact h0
  · cases hk; cases hy; exact h1
  · simp at hk
end Go.Proofs.YtcahibdaiokajaaGreat
namespace Go.Proofs.YtcahibdaiokajaaGreat.journalBackDone
open Go.RowKit Go.ChangeShapes Go.WideShapes Go.ChangeAt

theorem own : ownKnob Tryz.prog.godebug = none := by kernel_rfl
theorem laidOut : laidOutB Tryz.prog = true := by kernel_rfl
theorem reads : ∀ t ∈ Tryz.f4.params.toList, Tryz.prog.readableRec t = true ∧ t < Tryz.prog.types.size := by
  rw [Tryz.params4]
  intro t ht
  simp only [List.mem_cons, List.not_mem_nil, or_false] at ht
  rcases ht with rfl | rfl
  · exact ⟨by kernel_rfl, of_decide_eq_true (by kernel_rfl)⟩
  · exact ⟨by kernel_rfl, of_decide_eq_true (by kernel_rfl)⟩

set_option maxRecDepth 100000 in
theorem lifted (os : Os) (started : os.Started) (H : Type) (enc : TypeId × Value → H) :
    ReturnsInHanded {} Tryz.checked os 4 .any (Rows.journalBackSpec.pre6 enc Tryz.prog Tryz.f4 Rows.journalBackRow.domain false) (Rows.journalBackSpec.post enc Tryz.prog Tryz.f4 false true false false) := by
  refine returnsInHanded_of_change (C := Tryz.checked) own started (by kernel_rfl) Tryz.func4
    (ChangeSpec.witness6 (enc := enc) (C := Tryz.checked) false ⟨#[], #[.agg #[.slice none 0 0, .slice none 0 0, .slice none 0 0, .slice none 0 0, .slice none 0 0, .slice none 0 0, .slice none 0 0], .slice none 0 0], []⟩ 8 (by kernel_rfl) (by kernel_rfl) (by kernel_rfl) (by kernel_rfl)) ?_
  intro W base args ds gs before hval0 hW hcnd _
  have hval : ∀ (j : Nat) t v, Tryz.f4.params[j]? = some t → args[j]? = some v → Value.okWide Tryz.prog W .any base t v := hval0
  refine law_post (P := Tryz.prog) laidOut rfl Tryz.underlying4 rfl reads (fun ds hds => by
    match ds, hds with
    | [d1, d2], _ => rfl) hW ?_
  obtain ⟨p, q, hA0, hV, rfl, hfz, hnd⟩ := hW
  have hA : DataW.TrodAll enc Tryz.prog W 0 (fun _ => true) true Tryz.f4.params.toList args.toList ds p := hA0
  rw [Tryz.params4] at hA hval
  obtain ⟨v0, vs0, d0, ds0, p0, q0, hargs, rfl, rfl, h0, r0⟩ := trodAll_cons hA
  obtain ⟨v1, vs1, d1, ds1, p1, q1, rfl, rfl, rfl, h1, r1⟩ := trodAll_cons r0
  obtain ⟨rfl, rfl, rfl⟩ := trodAll_nil r1
  obtain rfl : args = #[v0, v1] := by cases args; simp_all
  obtain ⟨cs0, rfl⟩ := okWide_struct Tryz.underlying40 (hval 0 40 v0 rfl rfl)
  obtain ⟨l0, hr0, hg0⟩ := open_VA decVJ h0 (fun _ => (0, 0, 0))
  obtain ⟨a1, n1, c1, rfl⟩ := okWide_slice Tryz.underlying54 (hval 1 54 v1 rfl rfl)
  obtain ⟨l1, hr1, hg1⟩ := open_V decVSts rfl h1 (fun _ => (0, 0, 0))
  exact law_back hr0 hg0 hr1 hg1

theorem over : Rows.journalBackRow.holds Tryz.pinned (OpenSpec.ofChange Rows.journalBackSpec) :=
  OpenClaim.holds_of_wide 4 Tryz.f4 rfl rfl rfl rfl rfl rfl rfl ⟨rfl, rfl, rfl, rfl, rfl⟩ rfl rfl rfl rfl rfl (by kernel_rfl) Tryz.func4 (by kernel_rfl)
    (of_decide_eq_true (by kernel_rfl)) (by unfold Func.isWrapper; first | (rw [if_pos (by decide +kernel)]; kernel_rfl) | (rw [if_neg (by decide +kernel)]; exact ⟨rfl, rfl⟩))
    (fun os started H enc _ => lifted os started H enc)

theorem proved : Rows.JournalBackSaid := over
end Go.Proofs.YtcahibdaiokajaaGreat.journalBackDone
