/-
  Proved: the law StateDoes answers true for every state and every row of deeds, and its arguments read behind the call as before. Conditions: none.
-/
import Derived.Test.YtiggambibcohcaaTe
import Derived.Test.YtiggambibcohcaaAvLn
import Derived.Test.YtiggambibcohcaaTh
set_option linter.unusedSimpArgs false
set_option linter.unusedVariables false
namespace Go.Proofs.Ytiggambibcohcaa
open Go.RowKit
open Nat (reduceBEq)
set_option maxRecDepth 20000
set_option maxHeartbeats 2000000
theorem flatB (l : List Nat) : ∀ p ∈ l.flatMap bpv, ∃ x, p = .v x := fun p hp => by
  obtain ⟨a, _, h⟩ := List.mem_flatMap.1 hp
  simp only [bpv, List.mem_singleton] at h
  exact ⟨_, h⟩
theorem flatP (l : List Pr) : ∀ p ∈ l.flatMap Pr.pv, ∃ x, p = .v x := fun p hp => by
  obtain ⟨a, _, h⟩ := List.mem_flatMap.1 hp
  simp only [Pr.pv, List.mem_cons, List.not_mem_nil, or_false] at h
  rcases h with h | h | h | h | h | h | h | h <;> exact ⟨_, h⟩
theorem copied_lent_row (x : Ac) (hc : x.code.length ≤ 1000000) (hs : x.store.length ≤ 1000000) : Fn Try.prog 80 [acR x 1000 1001] [(1000, (x.code.flatMap bpv).map .c), (1001, (x.store.flatMap Pr.pv).map .c)] (acR x 5 8) [(5, (x.code.flatMap bpv).map .c), (8, (x.store.flatMap Pr.pv).map .c), (1000, (x.code.flatMap bpv).map .c), (1001, (x.store.flatMap Pr.pv).map .c)] := by
  have c1 := cloneB_fn false x.code hc
  have c2 := cloneP_fn false x.store hs
  obtain ⟨a, b, n, code, store⟩ := x
  dsimp only [acR] at hc hs c1 c2 ⊢
  have r1 : ∀ d, AV.refsL d ((code.flatMap bpv).map AV.c) = false := fun d => refsL_map d _
  have r2 : ∀ d, AV.refsL d ((store.flatMap Pr.pv).map AV.c) = false := fun d => refsL_map d _
  have e1 : (code.flatMap bpv).length = code.length * 1 := flat_length bpv_len _
  have e2 : (store.flatMap Pr.pv).length = store.length * 8 := flat_length pr_len _
  unfold rcB at c1
  unfold rcP at c2
  (refine fn_of Try.func80 rfl (by rfl) ?_; simp only [Try.ntmps80, List.length_cons, List.length_nil, Nat.reduceAdd, Nat.reduceSub, List.replicate, List.cons_append, List.nil_append])
  (repeat (any_goals (first | ((with_reducible refine evL_one ?_ ?_); rfl; intro K hK; simp only [go_sem, r1, r2]; ((repeat (refine ndI (by first | assumption | omega | rfl) ?_)); refine hK _ ?_; clear hK K)) | (with_reducible first | (refine evL_nil ?_; refine hR _ ?_; clear hR R) | ((first | refine evC_seq ?_ | refine evC_block ?_); intro J hJ hJ') | (refine evC_region ?_; intro R hR) | (refine hJ _ ?_; clear hJ hJ' J) | refine evC_skip ?_ | refine evC_ret ?_ | refine evC_exit ?_) | ((with_reducible refine hJ' _ _ ?_ ?_); (focus (simp; done)); clear hJ hJ' J) | ((with_reducible apply evC_cond); rfl; rfl; all_goals (intro hc; first | (cases hc; done) | (try simp only at hc))) | ((with_reducible refine evD_nil ?_ ?_); kernel_rfl; (with_reducible refine hR _ ?_); clear hR R) | (((with_reducible apply evD_any); rfl; rfl; (simp only [rdE, rdOf, go_sem, r1, r2]; rfl); (intro τ hA hQ hN; ((try simp only [agree, Op.operands, Call.operands, go_sem, r1, r2, go_sem, List.mem_cons, List.not_mem_nil, forall_eq_or_imp, forall_eq, List.append_toArray, Option.toArray] at hA); (try simp only [go_sem, r1, r2, List.mem_cons, List.not_mem_nil, forall_eq_or_imp, forall_eq] at hQ hN); (first | (revert hA; intro hA) | have hA := trivial); (first | (revert hQ; intro hQ) | have hQ := trivial); (first | (revert hN; intro hN) | have hN := trivial); simp only [go_sem, r1, r2, go_sem, hA, hQ, hN]; (repeat (refine ndI (by first | assumption | omega | rfl) ?_)); (first | apply eff_rd | apply eff_st | apply eff_nw)))); (simp only [St.eff, setO, hputs, go_sem, r1, r2])))))
  refine evC_draw_at 10 (by decide) (by kernel_rfl) (by kernel_rfl) (by kernel_rfl) (by kernel_rfl) (by simp [newNames, isNew, St.free, freeH, AV.refsL, AV.refs]) ?_
  intro R hR
  simp only [List.take_succ_cons, List.take_zero, List.drop_succ_cons, List.drop_zero] at hR ⊢
  (repeat (any_goals (first | ((with_reducible refine evL_one ?_ ?_); rfl; intro K hK; simp only [go_sem, r1, r2]; ((repeat (refine ndI (by first | assumption | omega | rfl) ?_)); refine hK _ ?_; clear hK K)) | (with_reducible first | (refine evL_nil ?_; refine hR _ ?_; clear hR R) | ((first | refine evC_seq ?_ | refine evC_block ?_); intro J hJ hJ') | (refine evC_region ?_; intro R hR) | (refine hJ _ ?_; clear hJ hJ' J) | refine evC_skip ?_ | refine evC_ret ?_ | refine evC_exit ?_) | ((with_reducible refine hJ' _ _ ?_ ?_); (focus (simp; done)); clear hJ hJ' J) | ((with_reducible apply evC_cond); rfl; rfl; all_goals (intro hc; first | (cases hc; done) | (try simp only at hc))) | ((with_reducible refine evD_nil ?_ ?_); kernel_rfl; (with_reducible refine hR _ ?_); clear hR R) | (((with_reducible apply evD_any); rfl; rfl; (simp only [rdE, rdOf, go_sem, r1, r2]; rfl); (intro τ hA hQ hN; ((try simp only [agree, Op.operands, Call.operands, go_sem, r1, r2, go_sem, List.mem_cons, List.not_mem_nil, forall_eq_or_imp, forall_eq, List.append_toArray, Option.toArray] at hA); (try simp only [go_sem, r1, r2, List.mem_cons, List.not_mem_nil, forall_eq_or_imp, forall_eq] at hQ hN); (first | (revert hA; intro hA) | have hA := trivial); (first | (revert hQ; intro hQ) | have hQ := trivial); (first | (revert hN; intro hN) | have hN := trivial); simp only [go_sem, r1, r2, go_sem, hA, hQ, hN]; (repeat (refine ndI (by first | assumption | omega | rfl) ?_)); (first | apply eff_rd | apply eff_st | apply eff_nw)))); (simp only [St.eff, setO, hputs, go_sem, r1, r2])) | ((with_reducible refine evC_draw ?_ ?_ ?_ ?_); kernel_rfl; kernel_rfl; (first | kernel_rfl | simp [newNames, isNew, St.free, freeH, AV.refsL, AV.refs]); intro R hR))))
  refine evD_callv_row c1 (flatB code) rfl rfl rfl rfl rfl Try.func96 (by kernel_rfl) rfl ?_ rfl rfl (by omega) ?_
  · simp only [AV.viewL, AV.view, viewRow, go_sem, unC_map, e1]
  simp only [St.eff, setO, hputs, go_sem]
  (repeat (any_goals (first | ((with_reducible refine evL_one ?_ ?_); rfl; intro K hK; simp only [go_sem, r1, r2]; ((repeat (refine ndI (by first | assumption | omega | rfl) ?_)); refine hK _ ?_; clear hK K)) | (with_reducible first | (refine evL_nil ?_; refine hR _ ?_; clear hR R) | ((first | refine evC_seq ?_ | refine evC_block ?_); intro J hJ hJ') | (refine evC_region ?_; intro R hR) | (refine hJ _ ?_; clear hJ hJ' J) | refine evC_skip ?_ | refine evC_ret ?_ | refine evC_exit ?_) | ((with_reducible refine hJ' _ _ ?_ ?_); (focus (simp; done)); clear hJ hJ' J) | ((with_reducible apply evC_cond); rfl; rfl; all_goals (intro hc; first | (cases hc; done) | (try simp only at hc))) | ((with_reducible refine evD_nil ?_ ?_); kernel_rfl; (with_reducible refine hR _ ?_); clear hR R) | (((with_reducible apply evD_any); rfl; rfl; (simp only [rdE, rdOf, go_sem, r1, r2]; rfl); (intro τ hA hQ hN; ((try simp only [agree, Op.operands, Call.operands, go_sem, r1, r2, go_sem, List.mem_cons, List.not_mem_nil, forall_eq_or_imp, forall_eq, List.append_toArray, Option.toArray] at hA); (try simp only [go_sem, r1, r2, List.mem_cons, List.not_mem_nil, forall_eq_or_imp, forall_eq] at hQ hN); (first | (revert hA; intro hA) | have hA := trivial); (first | (revert hQ; intro hQ) | have hQ := trivial); (first | (revert hN; intro hN) | have hN := trivial); simp only [go_sem, r1, r2, go_sem, hA, hQ, hN]; (repeat (refine ndI (by first | assumption | omega | rfl) ?_)); (first | apply eff_rd | apply eff_st | apply eff_nw)))); (simp only [St.eff, setO, hputs, go_sem, r1, r2])) | ((with_reducible refine evC_draw ?_ ?_ ?_ ?_); kernel_rfl; kernel_rfl; (first | kernel_rfl | simp [newNames, isNew, St.free, freeH, AV.refsL, AV.refs]); intro R hR))))
  refine evD_callv_row c2 (flatP store) rfl rfl rfl rfl rfl Try.func97 (by kernel_rfl) rfl ?_ rfl rfl (by omega) ?_
  · simp only [AV.viewL, AV.view, viewRow, go_sem, unC_map, e2]
  simp only [St.eff, setO, hputs, go_sem]
  (repeat (any_goals (first | ((with_reducible refine evL_one ?_ ?_); rfl; intro K hK; simp only [go_sem, r1, r2]; ((repeat (refine ndI (by first | assumption | omega | rfl) ?_)); refine hK _ ?_; clear hK K)) | (with_reducible first | (refine evL_nil ?_; refine hR _ ?_; clear hR R) | ((first | refine evC_seq ?_ | refine evC_block ?_); intro J hJ hJ') | (refine evC_region ?_; intro R hR) | (refine hJ _ ?_; clear hJ hJ' J) | refine evC_skip ?_ | refine evC_ret ?_ | refine evC_exit ?_) | ((with_reducible refine hJ' _ _ ?_ ?_); (focus (simp; done)); clear hJ hJ' J) | ((with_reducible apply evC_cond); rfl; rfl; all_goals (intro hc; first | (cases hc; done) | (try simp only at hc))) | ((with_reducible refine evD_nil ?_ ?_); (apply drawOK_sim); (focus (repeat (first | exact Sims.nil | ((apply Sims.cons); (focus (first | ((apply Ef.sim_row); assumption) | exact Ef.sim_refl _)))))); kernel_rfl; (with_reducible refine hR _ ?_); clear hR R) | (((with_reducible apply evD_any); rfl; rfl; (simp only [rdE, rdOf, go_sem, r1, r2]; rfl); (intro τ hA hQ hN; ((try simp only [agree, Op.operands, Call.operands, go_sem, r1, r2, go_sem, List.mem_cons, List.not_mem_nil, forall_eq_or_imp, forall_eq, List.append_toArray, Option.toArray] at hA); (try simp only [go_sem, r1, r2, List.mem_cons, List.not_mem_nil, forall_eq_or_imp, forall_eq] at hQ hN); (first | (revert hA; intro hA) | have hA := trivial); (first | (revert hQ; intro hQ) | have hQ := trivial); (first | (revert hN; intro hN) | have hN := trivial); simp only [go_sem, r1, r2, go_sem, hA, hQ, hN]; (repeat (refine ndI (by first | assumption | omega | rfl) ?_)); (first | apply eff_rd | apply eff_st | apply eff_nw)))); (simp only [St.eff, setO, hputs, go_sem, r1, r2])) | ((with_reducible refine evC_draw ?_ ?_ ?_ ?_); kernel_rfl; kernel_rfl; (first | kernel_rfl | simp [newNames, isNew, St.free, freeH, AV.refsL, AV.refs]); intro R hR))))
  refine evL_nil ?_
  (repeat (any_goals (first | ((with_reducible refine evL_one ?_ ?_); rfl; intro K hK; simp only [go_sem, r1, r2]; ((repeat (refine ndI (by first | assumption | omega | rfl) ?_)); refine hK _ ?_; clear hK K)) | (with_reducible first | (refine evL_nil ?_; refine hR _ ?_; clear hR R) | ((first | refine evC_seq ?_ | refine evC_block ?_); intro J hJ hJ') | (refine evC_region ?_; intro R hR) | (refine hJ _ ?_; clear hJ hJ' J) | refine evC_skip ?_ | refine evC_ret ?_ | refine evC_exit ?_) | ((with_reducible refine hJ' _ _ ?_ ?_); (focus (simp; done)); clear hJ hJ' J) | ((with_reducible apply evC_cond); rfl; rfl; all_goals (intro hc; first | (cases hc; done) | (try simp only at hc))) | ((with_reducible refine evD_nil ?_ ?_); kernel_rfl; (with_reducible refine hR _ ?_); clear hR R) | (((with_reducible apply evD_any); rfl; rfl; (simp only [rdE, rdOf, go_sem, r1, r2]; rfl); (intro τ hA hQ hN; ((try simp only [agree, Op.operands, Call.operands, go_sem, r1, r2, go_sem, List.mem_cons, List.not_mem_nil, forall_eq_or_imp, forall_eq, List.append_toArray, Option.toArray] at hA); (try simp only [go_sem, r1, r2, List.mem_cons, List.not_mem_nil, forall_eq_or_imp, forall_eq] at hQ hN); (first | (revert hA; intro hA) | have hA := trivial); (first | (revert hQ; intro hQ) | have hQ := trivial); (first | (revert hN; intro hN) | have hN := trivial); simp only [go_sem, r1, r2, go_sem, hA, hQ, hN]; (repeat (refine ndI (by first | assumption | omega | rfl) ?_)); (first | apply eff_rd | apply eff_st | apply eff_nw)))); (simp only [St.eff, setO, hputs, go_sem, r1, r2])) | ((with_reducible refine evC_draw ?_ ?_ ?_ ?_); kernel_rfl; kernel_rfl; (first | kernel_rfl | simp [newNames, isNew, St.free, freeH, AV.refsL, AV.refs]); intro R hR))))
  all_goals (refine ⟨by simp, ⟨_, ?_, AV.le_refl _⟩, leH_get (by simp [leH, hget])⟩; simp only [Try.results80, resL, ldA, oneOf, go_sem])
theorem copied_lent (x : Ac) (hc : x.code.length ≤ 1000000) (hs : x.store.length ≤ 1000000) : Fn Try.prog 80 [acR x 1000 1001] [(1000, (x.code.flatMap bpv).map .c), (1001, (x.store.flatMap Pr.pv).map .c)] (acA x) [(1000, (x.code.flatMap bpv).map .c), (1001, (x.store.flatMap Pr.pv).map .c)] := by
  have k := copied_lent_row x hc hs
  have k1 := k.frzN (d := 5) (pcs := x.code.flatMap bpv) rfl
  have k2 := k1.frzN (d := 8) (pcs := x.store.flatMap Pr.pv) (by simp [frzH, hget_cons])
  have e1 : (x.code.flatMap bpv).length = x.code.length * 1 := flat_length bpv_len _
  have e2 : (x.store.flatMap Pr.pv).length = x.store.length * 8 := flat_length pr_len _
  simpa [-List.length_flatMap, e1, e2, ac8, AV.frz, AV.frzL, frzH, acA, vi, bsV, psV] using k2
end Go.Proofs.Ytiggambibcohcaa
namespace Go.Proofs.Ytiggambibcohcaa
open Go.RowKit
open Nat (reduceBEq)
set_option maxRecDepth 20000
set_option maxHeartbeats 2000000
theorem lays_lent_row (ex : Bool) (L : List Ac) (hl : L.length ≤ 900) (ok : ∀ x ∈ L, x.code.length ≤ 1000000 ∧ x.store.length ≤ 1000000) (x : Ac) (hx : x.b < WW ∧ x.code.length ≤ 1000000 ∧ x.store.length ≤ 1000000) (xb xs : List AV) (hxb : xb = (x.code.flatMap bpv).map .c) (hxs : xs = (x.store.flatMap Pr.pv).map .c) : ∃ d, d < 1000 ∧ Fn Try.prog 64 [stA ex L, acR x 1000 1001] [(1000, xb), (1001, xs)] (.agg [.row d 31 8 (laysL L x).length]) [(d, raS (laysL L x)), (1000, xb), (1001, xs)] := by
  have pl := posS_fn ex L hl x.a
  have em := empty_fn x hx.1 (Nat.le_trans hx.2.2 (by decide)) (Nat.le_trans hx.2.1 (by decide)) (Nat.le_trans (Nat.add_le_add hx.2.1 hx.2.2) (by decide))
  have cx := copied_lent x hx.2.1 hx.2.2
  rw [← hxb, ← hxs] at cx
  have v1 : unC xb = some (x.code.flatMap bpv) := by rw [hxb]; exact unC_map _
  have v2 : unC xs = some (x.store.flatMap Pr.pv) := by rw [hxs]; exact unC_map _
  have d1 : (x.code.flatMap bpv).length = x.code.length * 1 := flat_length bpv_len _
  have d2 : (x.store.flatMap Pr.pv).length = x.store.length * 8 := flat_length pr_len _
  have u1 : ∀ d, AV.refsL d xb = false := fun d => by rw [hxb]; exact refsL_map d _
  have u2 : ∀ d, AV.refsL d xs = false := fun d => by rw [hxs]; exact refsL_map d _
  have w1 : ∀ f, AV.renL f xb = xb := fun f => by rw [hxb]; exact renL_map f _
  have w2 : ∀ f, AV.renL f xs = xs := fun f => by rw [hxs]; exact renL_map f _
  have y1 : ∀ N, AV.inNL N xb = true := fun N => by rw [hxb]; exact inNL_map N _
  have y2 : ∀ N, AV.inNL N xs = true := fun N => by rw [hxs]; exact inNL_map N _
  have cl : Fn Try.prog 83 [acS ex L] [] (.row 7 31 8 L.length) [(7, raS L)] := cloneA_fn ex L (by omega)
  have kr : ∀ d, AV.refsL d (raS L) = false := fun d => refsL_map d (L.flatMap Ac.pv)
  unfold laysL
  have hp := fun h => isS_at (L := L) (a := x.a) h
  generalize isS L x.a = q1 at pl hp ⊢
  have hple : posS L x.a ≤ L.length := bsr_le _ _ _ _ (Nat.zero_le _)
  generalize posS L x.a = p at pl hp hple ⊢
  generalize emptyA x = q2 at em ⊢
  have de : q1 = true → Fn Try.prog 84 [.row 1000 31 8 L.length, vi .i64 p, vi .i64 (p + 1 : Nat)] [(1000, raS L)] (.row 1000 31 8 (L.length - 1)) [(1000, raS (L.take p ++ L.drop (p + 1)))] := fun h => deleteS_fn L p (by obtain ⟨z, hz, _⟩ := hp h; exact (List.getElem?_eq_some_iff.1 hz).1) (by omega)
  have ins := insertS_fn L x p hple (by omega)
  have kx : raS [x] = ac8 x.a x.b x.n (bsV x.code) (psV x.store) := rfl
  have k4 := raS_len L
  have k9 : (p : Int) + 1 = ((p + 1 : Nat) : Int) := by omega
  have hpl : q1 = true → p < L.length := fun h => by obtain ⟨z, hz, _⟩ := hp h; exact (List.getElem?_eq_some_iff.1 hz).1
  have ks : q1 = true → List.take (p * 8) (raS L) ++ ac8 x.a x.b x.n (bsV x.code) (psV x.store) ++ List.drop (p * 8 + 8) (raS L) = raS (L.take p ++ x :: L.drop (p + 1)) := fun h => by obtain ⟨z, hz, _⟩ := hp h; exact spl_set hz
  clear hp
  rw [kx] at ins
  obtain ⟨b6, hb6⟩ : ∃ b6 : AV, b6 = vb q1 := ⟨_, rfl⟩
  refine ⟨if q1 then 18 else if q2 then 18 else 60, by split <;> (try split) <;> omega, ?_⟩
  cases q1 <;> cases q2
  all_goals simp only [Bool.false_eq_true, if_true, if_false]
  all_goals (refine fn_of Try.func64 rfl (by rfl) ?_; simp only [Try.ntmps64, List.length_cons, List.length_nil, Nat.reduceAdd, Nat.reduceSub, List.replicate, List.cons_append, List.nil_append])
  all_goals (have W := ndI u1 (ndI u2 (ndI w1 (ndI w2 (ndI y1 (ndI y2 (ndI v1 (ndI v2 (ndI d1 d2)))))))); (repeat (any_goals (first | ((with_reducible refine evL_call ?_ ?_ ?_); rfl; rfl; intro K hK; (first | ((apply opA_callB (pl); rfl; rfl; rfl; rfl; exact Try.func79); kernel_rfl; rfl; (simp only [go_sem, W, kr]; rfl); (first | rfl | simp [AV.inNL, AV.inN])) | (apply opA_callR (cl) (fun r => 18); rfl; rfl; rfl; rfl; exact Try.func83; kernel_rfl; rfl; rfl; (intro r hr q hq h; simp only [List.map_cons, List.map_nil, List.cons_append, List.nil_append, List.mem_cons, List.not_mem_nil, or_false] at hr hq; (try dsimp only at h); first | omega | (rcases hr with rfl | rfl | rfl <;> rcases hq with rfl | rfl | rfl <;> simp at h ⊢) | (rcases hr with rfl | rfl <;> rcases hq with rfl | rfl <;> simp at h ⊢) | ((repeat' split at h) <;> omega)); (simp only [argsOk, argOk, AV.ren, AV.renL, renL_map, List.mem_cons, List.not_mem_nil, forall_eq_or_imp, forall_eq, newOk, List.contains_cons, List.contains_nil, AV.refsL, AV.refs, refsL_map, AV.inN, AV.inNL, inH, inNL_map, go_sem, W, kr]))); (simp only [hputs, hdels, renH, AV.ren, AV.renL, renL_map, go_sem, W, kr]; refine hK _ ?_; clear hK K)) | ((with_reducible refine evL_one ?_ ?_); rfl; intro K hK; simp only [go_sem, W, kr]; ((repeat (refine ndI (by first | assumption | omega | rfl) ?_)); refine hK _ ?_; clear hK K)) | (with_reducible first | (refine evL_nil ?_; refine hR _ ?_; clear hR R) | ((first | refine evC_seq ?_ | refine evC_block ?_); intro J hJ hJ') | (refine evC_region ?_; intro R hR) | (refine hJ _ ?_; clear hJ hJ' J) | refine evC_skip ?_ | refine evC_ret ?_ | refine evC_exit ?_) | ((with_reducible refine hJ' _ _ ?_ ?_); (focus (simp; done)); clear hJ hJ' J) | ((with_reducible apply evL_unmet); rfl; rfl; rfl; (try simp only [go_sem, W, kr])) | ((with_reducible apply evL_grd); rfl; rfl; rfl; all_goals (intro hb; first | (cases hb; done) | ((try simp only [Bool.not_true, Bool.not_false] at hb); (first | ((with_reducible intro K hK); simp only [go_sem, W, kr]; ((repeat (refine ndI (by first | assumption | omega | rfl) ?_)); refine hK _ ?_; clear hK K)) | ((fail_if_success (with_reducible intro _)); simp only [go_sem, W, kr]))))) | ((with_reducible apply evC_cond); rfl; rfl; all_goals (intro hc; first | (cases hc; done) | (try simp only at hc)))))))
  all_goals refine evC_upto L.length (fun i => ⟨[.any, .any, .any, .ptr 3 0, .ptr 4 0, vi .i64 p, b6, .row 18 31 8 L.length, .any, .any, .any, .any, .any, .any, .any, .any, .any, .any, .any, .any, vi .i64 L.length, vi .i64 (i : Int), .any, .any, .any, .any, .any, .any, .any, .any, .any, .any, .any, .any, .any, .any, .any, .any, .any, .any, .any, .any, .any, .any, .any, .any, .any, .any, .any, .any, .any, .any, .any, .any, .any, .any, .any, .any, .any, .any, .any, .any, .any], [(1000, xb), (1001, xs), (3, [vi .u64 x.a, vi .u64 (l0 x.b), vi .u64 (l1 x.b), vi .u64 (l2 x.b), vi .u64 (l3 x.b), vi .u64 x.n, .row 1000 5 1 x.code.length, .row 1001 42 8 x.store.length]), (4, [.c (.v (.slice none 0 0))]), (18, raS L)]⟩) (St.le_of (by simp [leT, hb6]) (by simp [leH, hget])) ?_
  all_goals intro i hi J hJ hJ'
  all_goals (try dsimp only at hJ ⊢)
  all_goals rcases Nat.lt_or_ge i L.length with hlt | hge
  all_goals first
    | (have hy0 := hlt
       obtain ⟨y, hy⟩ : ∃ y, L[i]? = some y := ⟨_, List.getElem?_eq_getElem hy0⟩
       have k1 : (decide ((i : Int) < (L.length : Int))) = true := decide_eq_true (by omega)
       have k2 := raS_at hy
       have k3 : List.take (i * 8) (raS L) ++ ac8 y.a y.b y.n (bsV y.code) (psV y.store) ++ List.drop (i * 8 + 8) (raS L) = raS L := spl_same hy
       have g := ok y (List.mem_of_getElem? hy)
       have cy := copied_fn y g.1 g.2
       simp only [Ac.pv, List.map_cons, List.map_nil] at k2)
    | (have k1 : (decide ((i : Int) < (L.length : Int))) = false := decide_eq_false (by omega)
       have k2 := True.intro
       have cy := True.intro)
  all_goals have k7 : (i : Int) + 1 = ((i + 1 : Nat) : Int) := by omega
  all_goals first
    | ((have hlt2 := hlt); (have W := ndI u1 (ndI u2 (ndI k1 (ndI k2 (ndI k4 (ndI k7 @wrI))))); (repeat (any_goals (first | ((with_reducible refine evL_call ?_ ?_ ?_); rfl; rfl; intro K hK; ((apply opA_callB (cy); rfl; rfl; rfl; rfl; exact Try.func80); kernel_rfl; rfl; (simp (disch := omega) only [go_sem, W, kr]; rfl); (first | rfl | simp [AV.inNL, AV.inN])); (simp (disch := omega) only [go_sem, W, kr]; refine hK _ ?_; clear hK K)) | ((with_reducible refine evL_one ?_ ?_); rfl; intro K hK; simp (disch := omega) only [go_sem, W, kr]; ((repeat (refine ndI (by first | assumption | omega | rfl) ?_)); refine hK _ ?_; clear hK K)) | (with_reducible first | (refine evL_nil ?_; refine hR _ ?_; clear hR R) | ((first | refine evC_seq ?_ | refine evC_block ?_); intro J hJ hJ') | (refine evC_region ?_; intro R hR) | (refine hJ _ ?_; clear hJ hJ' J) | refine evC_skip ?_ | refine evC_ret ?_ | refine evC_exit ?_) | ((with_reducible refine hJ' _ _ ?_ ?_); (focus (simp; done)); clear hJ hJ' J) | ((with_reducible apply evL_unmet); rfl; rfl; rfl; (try simp (disch := omega) only [go_sem, W, kr])) | ((with_reducible apply evL_grd); rfl; rfl; rfl; all_goals (intro hb; first | (cases hb; done) | ((try simp only [Bool.not_true, Bool.not_false] at hb); (first | ((with_reducible intro K hK); simp (disch := omega) only [go_sem, W, kr]; ((repeat (refine ndI (by first | assumption | omega | rfl) ?_)); refine hK _ ?_; clear hK K)) | ((fail_if_success (with_reducible intro _)); simp (disch := omega) only [go_sem, W, kr]))))) | ((with_reducible apply evC_cond); rfl; rfl; all_goals (intro hc; first | (cases hc; done) | (try simp only at hc))))))); (rw [k3]); exact hJ _ hlt (St.le_of (by simp [leT]) (by simp [leH, hget])))
    | ((have hge2 := hge); (have W := ndI u1 (ndI u2 (ndI v1 (ndI v2 (ndI d1 (ndI d2 (ndI k1 hb6)))))); (repeat (any_goals (first | ((with_reducible refine evL_call ?_ ?_ ?_); rfl; rfl; intro K hK; ((apply opA_callv (em); rfl; rfl; rfl; rfl; exact Try.func48); kernel_rfl; rfl; (focus ((simp only [AV.viewL, AV.view, viewRow, unC, Option.map_some, go_sem, W, kr]); (try rfl))); rfl); (simp only [go_sem, W, kr]; refine hK _ ?_; clear hK K)) | ((with_reducible refine evL_one ?_ ?_); rfl; intro K hK; simp only [go_sem, W, kr]; ((repeat (refine ndI (by first | assumption | omega | rfl) ?_)); refine hK _ ?_; clear hK K)) | (with_reducible first | (refine evL_nil ?_; refine hR _ ?_; clear hR R) | ((first | refine evC_seq ?_ | refine evC_block ?_); intro J hJ hJ') | (refine evC_region ?_; intro R hR) | (refine hJ _ ?_; clear hJ hJ' J) | refine evC_skip ?_ | refine evC_ret ?_ | refine evC_exit ?_) | ((with_reducible refine hJ' _ _ ?_ ?_); (focus (simp; done)); clear hJ hJ' J) | ((with_reducible apply evL_unmet); rfl; rfl; rfl; (try simp only [go_sem, W, kr])) | ((with_reducible apply evL_grd); rfl; rfl; rfl; all_goals (intro hb; first | (cases hb; done) | ((try simp only [Bool.not_true, Bool.not_false] at hb); (first | ((with_reducible intro K hK); (first | ((apply opA_callv (em); rfl; rfl; rfl; rfl; exact Try.func48); kernel_rfl; rfl; (focus ((simp only [AV.viewL, AV.view, viewRow, unC, Option.map_some, go_sem, W, kr]); (try rfl))); rfl) | skip); simp only [go_sem, W, kr]; ((repeat (refine ndI (by first | assumption | omega | rfl) ?_)); refine hK _ ?_; clear hK K)) | ((fail_if_success (with_reducible intro _)); simp only [go_sem, W, kr]))))) | ((with_reducible apply evC_cond); rfl; rfl; all_goals (intro hc; first | (cases hc; done) | (try simp only at hc))))))))
  · (have W := ndI u1 (ndI u2 (ndI w1 (ndI w2 (ndI y1 (ndI y2 (ndI v1 (ndI v2 (ndI d1 (ndI d2 (ndI k4 (ndI k9 @refsL_map))))))))))); (repeat (any_goals (first | ((with_reducible refine evL_call ?_ ?_ ?_); rfl; rfl; intro K hK; (first | ((apply opA_callv (em); rfl; rfl; rfl; rfl; exact Try.func48); kernel_rfl; rfl; (focus ((simp (disch := omega) only [AV.viewL, AV.view, viewRow, unC, Option.map_some, go_sem, W, kr]); (try rfl))); rfl) | (apply opA_callR (cx) (fun r => r); rfl; rfl; rfl; rfl; exact Try.func80; kernel_rfl; rfl; rfl; (intro r hr q hq h; simp (disch := omega) only [List.map_cons, List.map_nil, List.cons_append, List.nil_append, List.mem_cons, List.not_mem_nil, or_false] at hr hq; (try dsimp only at h); first | omega | (rcases hr with rfl | rfl | rfl <;> rcases hq with rfl | rfl | rfl <;> simp at h ⊢) | (rcases hr with rfl | rfl <;> rcases hq with rfl | rfl <;> simp at h ⊢) | ((repeat' split at h) <;> omega)); (simp (disch := omega) only [argsOk, argOk, AV.ren, AV.renL, renL_map, List.mem_cons, List.not_mem_nil, forall_eq_or_imp, forall_eq, newOk, List.contains_cons, List.contains_nil, AV.refsL, AV.refs, refsL_map, AV.inN, AV.inNL, inH, inNL_map, go_sem, W, kr])) | (apply opA_callR (ins) (fun r => if r = 1000 then 18 else if r = 1001 then 59 else 60); rfl; rfl; rfl; rfl; exact Try.func85; kernel_rfl; rfl; rfl; (intro r hr q hq h; simp (disch := omega) only [List.map_cons, List.map_nil, List.cons_append, List.nil_append, List.mem_cons, List.not_mem_nil, or_false] at hr hq; (try dsimp only at h); first | omega | (rcases hr with rfl | rfl | rfl <;> rcases hq with rfl | rfl | rfl <;> simp at h ⊢) | (rcases hr with rfl | rfl <;> rcases hq with rfl | rfl <;> simp at h ⊢) | ((repeat' split at h) <;> omega)); (simp (disch := omega) only [argsOk, argOk, AV.ren, AV.renL, renL_map, List.mem_cons, List.not_mem_nil, forall_eq_or_imp, forall_eq, newOk, List.contains_cons, List.contains_nil, AV.refsL, AV.refs, refsL_map, AV.inN, AV.inNL, inH, inNL_map, go_sem, W, kr]))); (simp (disch := omega) only [hputs, hdels, renH, AV.ren, AV.renL, renL_map, go_sem, W, kr]; refine hK _ ?_; clear hK K)) | ((with_reducible refine evL_one ?_ ?_); rfl; intro K hK; simp (disch := omega) only [go_sem, W, kr]; ((repeat (refine ndI (by first | assumption | omega | rfl) ?_)); refine hK _ ?_; clear hK K)) | (with_reducible first | (refine evL_nil ?_; refine hR _ ?_; clear hR R) | ((first | refine evC_seq ?_ | refine evC_block ?_); intro J hJ hJ') | (refine evC_region ?_; intro R hR) | (refine hJ _ ?_; clear hJ hJ' J) | refine evC_skip ?_ | refine evC_ret ?_ | refine evC_exit ?_) | ((with_reducible refine hJ' _ _ ?_ ?_); (focus (simp; done)); clear hJ hJ' J) | ((with_reducible apply evL_unmet); rfl; rfl; rfl; (try simp (disch := omega) only [go_sem, W, kr])) | ((with_reducible apply evL_grd); rfl; rfl; rfl; all_goals (intro hb; first | (cases hb; done) | ((try simp only [Bool.not_true, Bool.not_false] at hb); (first | ((with_reducible intro K hK); (first | ((apply opA_callv (em); rfl; rfl; rfl; rfl; exact Try.func48); kernel_rfl; rfl; (focus ((simp (disch := omega) only [AV.viewL, AV.view, viewRow, unC, Option.map_some, go_sem, W, kr]); (try rfl))); rfl) | skip); simp (disch := omega) only [go_sem, W, kr]; ((repeat (refine ndI (by first | assumption | omega | rfl) ?_)); refine hK _ ?_; clear hK K)) | ((fail_if_success (with_reducible intro _)); simp (disch := omega) only [go_sem, W, kr]))))) | ((with_reducible apply evC_cond); rfl; rfl; all_goals (intro hc; first | (cases hc; done) | (try simp only at hc)))))))
    have e : L.length + 1 = (L.take p ++ x :: L.drop p).length := by rw [List.length_append, List.length_cons, List.length_take, List.length_drop]; omega
    rw [e]
    exact ⟨by simp, ⟨_, rfl, AV.le_refl _⟩, leH_get (by simp [leH, hget, raS])⟩
  · (have W := ndI u1 (ndI u2 (ndI w1 (ndI w2 (ndI y1 (ndI y2 (ndI v1 (ndI v2 (ndI d1 d2)))))))); (repeat (any_goals (first | ((with_reducible refine evL_call ?_ ?_ ?_); rfl; rfl; intro K hK; ((apply opA_callv (em); rfl; rfl; rfl; rfl; exact Try.func48); kernel_rfl; rfl; (focus ((simp only [AV.viewL, AV.view, viewRow, unC, Option.map_some, go_sem, W, kr]); (try rfl))); rfl); (simp only [go_sem, W, kr]; refine hK _ ?_; clear hK K)) | ((with_reducible refine evL_one ?_ ?_); rfl; intro K hK; simp only [go_sem, W, kr]; ((repeat (refine ndI (by first | assumption | omega | rfl) ?_)); refine hK _ ?_; clear hK K)) | (with_reducible first | (refine evL_nil ?_; refine hR _ ?_; clear hR R) | ((first | refine evC_seq ?_ | refine evC_block ?_); intro J hJ hJ') | (refine evC_region ?_; intro R hR) | (refine hJ _ ?_; clear hJ hJ' J) | refine evC_skip ?_ | refine evC_ret ?_ | refine evC_exit ?_) | ((with_reducible refine hJ' _ _ ?_ ?_); (focus (simp; done)); clear hJ hJ' J) | ((with_reducible apply evL_unmet); rfl; rfl; rfl; (try simp only [go_sem, W, kr])) | ((with_reducible apply evL_grd); rfl; rfl; rfl; all_goals (intro hb; first | (cases hb; done) | ((try simp only [Bool.not_true, Bool.not_false] at hb); (first | ((with_reducible intro K hK); (first | ((apply opA_callv (em); rfl; rfl; rfl; rfl; exact Try.func48); kernel_rfl; rfl; (focus ((simp only [AV.viewL, AV.view, viewRow, unC, Option.map_some, go_sem, W, kr]); (try rfl))); rfl) | skip); simp only [go_sem, W, kr]; ((repeat (refine ndI (by first | assumption | omega | rfl) ?_)); refine hK _ ?_; clear hK K)) | ((fail_if_success (with_reducible intro _)); simp only [go_sem, W, kr]))))) | ((with_reducible apply evC_cond); rfl; rfl; all_goals (intro hc; first | (cases hc; done) | (try simp only at hc)))))))
    (refine ⟨by simp, ⟨_, ?_, AV.le_refl _⟩, leH_get (by simp [leH, hget])⟩; simp only [Try.results64, resL, ldA, oneOf, go_sem])
  · have hpp := hpl rfl
    (have W := ndI u1 (ndI u2 (ndI w1 (ndI w2 (ndI y1 (ndI y2 (ndI v1 (ndI v2 (ndI d1 (ndI d2 k4))))))))); (repeat (any_goals (first | ((with_reducible refine evL_call ?_ ?_ ?_); rfl; rfl; intro K hK; (first | ((apply opA_callv (em); rfl; rfl; rfl; rfl; exact Try.func48); kernel_rfl; rfl; (focus ((simp (disch := omega) only [AV.viewL, AV.view, viewRow, unC, Option.map_some, go_sem, W, kr]); (try rfl))); rfl) | (apply opA_callR (cx) (fun r => r); rfl; rfl; rfl; rfl; exact Try.func80; kernel_rfl; rfl; rfl; (intro r hr q hq h; simp (disch := omega) only [List.map_cons, List.map_nil, List.cons_append, List.nil_append, List.mem_cons, List.not_mem_nil, or_false] at hr hq; (try dsimp only at h); first | omega | (rcases hr with rfl | rfl | rfl <;> rcases hq with rfl | rfl | rfl <;> simp at h ⊢) | (rcases hr with rfl | rfl <;> rcases hq with rfl | rfl <;> simp at h ⊢) | ((repeat' split at h) <;> omega)); (simp (disch := omega) only [argsOk, argOk, AV.ren, AV.renL, renL_map, List.mem_cons, List.not_mem_nil, forall_eq_or_imp, forall_eq, newOk, List.contains_cons, List.contains_nil, AV.refsL, AV.refs, refsL_map, AV.inN, AV.inNL, inH, inNL_map, go_sem, W, kr]))); (simp (disch := omega) only [hputs, hdels, renH, AV.ren, AV.renL, renL_map, go_sem, W, kr]; refine hK _ ?_; clear hK K)) | ((with_reducible refine evL_one ?_ ?_); rfl; intro K hK; simp (disch := omega) only [go_sem, W, kr]; ((repeat (refine ndI (by first | assumption | omega | rfl) ?_)); refine hK _ ?_; clear hK K)) | (with_reducible first | (refine evL_nil ?_; refine hR _ ?_; clear hR R) | ((first | refine evC_seq ?_ | refine evC_block ?_); intro J hJ hJ') | (refine evC_region ?_; intro R hR) | (refine hJ _ ?_; clear hJ hJ' J) | refine evC_skip ?_ | refine evC_ret ?_ | refine evC_exit ?_) | ((with_reducible refine hJ' _ _ ?_ ?_); (focus (simp; done)); clear hJ hJ' J) | ((with_reducible apply evL_unmet); rfl; rfl; rfl; (try simp (disch := omega) only [go_sem, W, kr])) | ((with_reducible apply evL_grd); rfl; rfl; rfl; all_goals (intro hb; first | (cases hb; done) | ((try simp only [Bool.not_true, Bool.not_false] at hb); (first | ((with_reducible intro K hK); (first | ((apply opA_callv (em); rfl; rfl; rfl; rfl; exact Try.func48); kernel_rfl; rfl; (focus ((simp (disch := omega) only [AV.viewL, AV.view, viewRow, unC, Option.map_some, go_sem, W, kr]); (try rfl))); rfl) | skip); simp (disch := omega) only [go_sem, W, kr]; ((repeat (refine ndI (by first | assumption | omega | rfl) ?_)); refine hK _ ?_; clear hK K)) | ((fail_if_success (with_reducible intro _)); simp (disch := omega) only [go_sem, W, kr]))))) | ((with_reducible apply evC_cond); rfl; rfl; all_goals (intro hc; first | (cases hc; done) | (try simp only at hc)))))))
    rw [ks rfl]
    have e : L.length = (L.take p ++ x :: L.drop (p + 1)).length := by rw [List.length_append, List.length_cons, List.length_take, List.length_drop]; omega
    rw [e]
    exact ⟨by simp, ⟨_, rfl, AV.le_refl _⟩, leH_get (by simp [leH, hget, raS])⟩
  · have hpp := hpl rfl
    (have W := ndI u1 (ndI u2 (ndI w1 (ndI w2 (ndI y1 (ndI y2 (ndI v1 (ndI v2 (ndI d1 (ndI d2 (ndI k4 (ndI k9 (ndI @refsL_map @wrI)))))))))))); (repeat (any_goals (first | ((with_reducible refine evL_call ?_ ?_ ?_); rfl; rfl; intro K hK; (first | ((apply opA_callv (em); rfl; rfl; rfl; rfl; exact Try.func48); kernel_rfl; rfl; (focus ((simp (disch := omega) only [AV.viewL, AV.view, viewRow, unC, Option.map_some, go_sem, W, kr]); (try rfl))); rfl) | (apply opA_callR (de rfl) (fun r => 18); rfl; rfl; rfl; rfl; exact Try.func84; kernel_rfl; rfl; rfl; (intro r hr q hq h; simp (disch := omega) only [List.map_cons, List.map_nil, List.cons_append, List.nil_append, List.mem_cons, List.not_mem_nil, or_false] at hr hq; (try dsimp only at h); first | omega | (rcases hr with rfl | rfl | rfl <;> rcases hq with rfl | rfl | rfl <;> simp at h ⊢) | (rcases hr with rfl | rfl <;> rcases hq with rfl | rfl <;> simp at h ⊢) | ((repeat' split at h) <;> omega)); (simp (disch := omega) only [argsOk, argOk, AV.ren, AV.renL, renL_map, List.mem_cons, List.not_mem_nil, forall_eq_or_imp, forall_eq, newOk, List.contains_cons, List.contains_nil, AV.refsL, AV.refs, refsL_map, AV.inN, AV.inNL, inH, inNL_map, go_sem, W, kr]))); (simp (disch := omega) only [hputs, hdels, renH, AV.ren, AV.renL, renL_map, go_sem, W, kr]; refine hK _ ?_; clear hK K)) | ((with_reducible refine evL_one ?_ ?_); rfl; intro K hK; simp (disch := omega) only [go_sem, W, kr]; ((repeat (refine ndI (by first | assumption | omega | rfl) ?_)); refine hK _ ?_; clear hK K)) | (with_reducible first | (refine evL_nil ?_; refine hR _ ?_; clear hR R) | ((first | refine evC_seq ?_ | refine evC_block ?_); intro J hJ hJ') | (refine evC_region ?_; intro R hR) | (refine hJ _ ?_; clear hJ hJ' J) | refine evC_skip ?_ | refine evC_ret ?_ | refine evC_exit ?_) | ((with_reducible refine hJ' _ _ ?_ ?_); (focus (simp; done)); clear hJ hJ' J) | ((with_reducible apply evL_unmet); rfl; rfl; rfl; (try simp (disch := omega) only [go_sem, W, kr])) | ((with_reducible apply evL_grd); rfl; rfl; rfl; all_goals (intro hb; first | (cases hb; done) | ((try simp only [Bool.not_true, Bool.not_false] at hb); (first | ((with_reducible intro K hK); (first | ((apply opA_callv (em); rfl; rfl; rfl; rfl; exact Try.func48); kernel_rfl; rfl; (focus ((simp (disch := omega) only [AV.viewL, AV.view, viewRow, unC, Option.map_some, go_sem, W, kr]); (try rfl))); rfl) | skip); simp (disch := omega) only [go_sem, W, kr]; ((repeat (refine ndI (by first | assumption | omega | rfl) ?_)); refine hK _ ?_; clear hK K)) | ((fail_if_success (with_reducible intro _)); simp (disch := omega) only [go_sem, W, kr]))))) | ((with_reducible apply evC_cond); rfl; rfl; all_goals (intro hc; first | (cases hc; done) | (try simp only at hc)))))))
    have e : L.length - 1 = (L.take p ++ L.drop (p + 1)).length := by rw [List.length_append, List.length_take, List.length_drop]; omega
    rw [e]
    exact ⟨by simp, ⟨_, rfl, AV.le_refl _⟩, leH_get (by simp [leH, hget, raS])⟩
theorem lays_lent (ex : Bool) (L : List Ac) (hl : L.length ≤ 900) (ok : ∀ x ∈ L, x.code.length ≤ 1000000 ∧ x.store.length ≤ 1000000) (x : Ac) (hx : x.b < WW ∧ x.code.length ≤ 1000000 ∧ x.store.length ≤ 1000000) (xb xs : List AV) (hxb : xb = (x.code.flatMap bpv).map .c) (hxs : xs = (x.store.flatMap Pr.pv).map .c) : Fn Try.prog 64 [stA ex L, acR x 1000 1001] [(1000, xb), (1001, xs)] (stA false (laysL L x)) [(1000, xb), (1001, xs)] := by
  obtain ⟨d, hd, k⟩ := lays_lent_row ex L hl ok x hx xb xs hxb hxs
  have h := Fn.frzN (d := d) (pcs := (laysL L x).flatMap Ac.pv) k (by simp [hget_cons, raS])
  have e : ((laysL L x).flatMap Ac.pv).length = (laysL L x).length * 8 := flat_length ac_len _
  have u1 : AV.frzL d ((laysL L x).flatMap Ac.pv) xb = xb := by rw [hxb]; exact frzL_free (refsL_map d _)
  have u2 : AV.frzL d ((laysL L x).flatMap Ac.pv) xs = xs := by rw [hxs]; exact frzL_free (refsL_map d _)
  have n1 : (1000 = d) = False := eq_false (by omega)
  have n2 : (1001 = d) = False := eq_false (by omega)
  simpa [-List.length_flatMap, AV.frz, AV.frzL, frzH, e, u1, u2, n1, n2] using h
end Go.Proofs.Ytiggambibcohcaa
namespace Go.Proofs.Ytiggambibcohcaa
open Go.RowKit
open Nat (reduceBEq)
set_option maxRecDepth 20000
set_option maxHeartbeats 2000000
theorem put_lent (ex : Bool) (L : List Ac) (hL : Okl L) (x : Ac) (hx : Okx x) (xb xs : List AV) (hxb : xb = (x.code.flatMap bpv).map .c) (hxs : xs = (x.store.flatMap Pr.pv).map .c) : Fn Try.prog 66 [stA ex L, acR x 1000 1001] [(1000, xb), (1001, xs)] (resS (putS L x)) [(1000, xb), (1001, xs)] := by
  obtain ⟨h1, h2⟩ := hL
  obtain ⟨⟨u1, u2, u3, ⟨u4, u5⟩, u6, u7⟩, g1, g2⟩ := hx
  have ck := check_fn x u7 u6 u4
  have em := empty_fn x u2 u6 u4 (Nat.le_trans (Nat.add_le_add g1 g2) (by decide))
  have rm := room_fn ex L (by omega) x.a
  have ly := lays_lent ex L (by omega) (fun y hy => ⟨(h2 y hy).2.1, (h2 y hy).2.2⟩) x ⟨u2, g1, g2⟩ xb xs hxb hxs
  have hlen := laysL_len L x
  have tn := total_nil false (laysL L x) (by omega) fun y hy => by
    rcases laysL_mem hy with rfl | h
    · exact u2
    · exact (h2 y h).1.2.1
  have v1 : unC xb = some (x.code.flatMap bpv) := by rw [hxb]; exact unC_map _
  have v2 : unC xs = some (x.store.flatMap Pr.pv) := by rw [hxs]; exact unC_map _
  have d1 : (x.code.flatMap bpv).length = x.code.length * 1 := flat_length bpv_len _
  have d2 : (x.store.flatMap Pr.pv).length = x.store.length * 8 := flat_length pr_len _
  have a1 : ∀ d, AV.refsL d xb = false := fun d => by rw [hxb]; exact refsL_map d _
  have a2 : ∀ d, AV.refsL d xs = false := fun d => by rw [hxs]; exact refsL_map d _
  have w1 : ∀ f, AV.renL f xb = xb := fun f => by rw [hxb]; exact renL_map f _
  have w2 : ∀ f, AV.renL f xs = xs := fun f => by rw [hxs]; exact renL_map f _
  have y1 : ∀ N, AV.inNL N xb = true := fun N => by rw [hxb]; exact inNL_map N _
  have y2 : ∀ N, AV.inNL N xs = true := fun N => by rw [hxs]; exact inNL_map N _
  unfold putS
  generalize laysL L x = R at ly tn ⊢
  by_cases hq : WW ≤ (R.map Ac.b).sum
  case' pos => rw [decide_eq_true hq] at tn; rw [if_pos hq]
  case' neg => rw [decide_eq_false hq] at tn; rw [if_neg hq]
  all_goals generalize okAc x = q1 at ck ⊢
  all_goals generalize emptyA x = q2 at em ⊢
  all_goals generalize roomS L x.a = q3 at rm ⊢
  all_goals generalize (R.map Ac.b).sum % WW = m at tn
  all_goals cases q1 <;> cases q2 <;> cases q3
  all_goals simp only [Bool.false_eq_true, if_true, if_false] at ck
  all_goals (refine fn_of Try.func66 rfl (by rfl) ?_; simp only [Try.ntmps66, List.length_cons, List.length_nil, Nat.reduceAdd, Nat.reduceSub, List.replicate, List.cons_append, List.nil_append])
  all_goals (have W := ndI a1 (ndI a2 (ndI w1 (ndI w2 (ndI y1 (ndI y2 (ndI v1 (ndI v2 (ndI d1 d2)))))))); (repeat (any_goals (first | ((with_reducible refine evL_call ?_ ?_ ?_); rfl; rfl; intro K hK; (first | ((apply opA_callB (tn); rfl; rfl; rfl; rfl; exact Try.func46); kernel_rfl; rfl; (simp only [go_sem, W]; rfl); (first | rfl | simp [AV.inNL, AV.inN])) | ((first | (apply opA_callv (ck); rfl; rfl; rfl; rfl; exact Try.func12) | (apply opA_callv (em); rfl; rfl; rfl; rfl; exact Try.func48)); kernel_rfl; rfl; (focus ((simp only [AV.viewL, AV.view, viewRow, unC, Option.map_some, go_sem, W]); (try rfl))); rfl) | (apply opA_callR (ly) (fun r => r); rfl; rfl; rfl; rfl; exact Try.func64; kernel_rfl; rfl; rfl; (intro r hr q hq h; simp only [List.map_cons, List.map_nil, List.cons_append, List.nil_append, List.mem_cons, List.not_mem_nil, or_false] at hr hq; (try dsimp only at h); first | omega | (rcases hr with rfl | rfl | rfl <;> rcases hq with rfl | rfl | rfl <;> simp at h ⊢) | (rcases hr with rfl | rfl <;> rcases hq with rfl | rfl <;> simp at h ⊢) | ((repeat' split at h) <;> omega)); (simp only [argsOk, argOk, AV.ren, AV.renL, renL_map, List.mem_cons, List.not_mem_nil, forall_eq_or_imp, forall_eq, newOk, List.contains_cons, List.contains_nil, AV.refsL, AV.refs, refsL_map, AV.inN, AV.inNL, inH, inNL_map, go_sem, W]))); (simp only [hputs, hdels, renH, AV.ren, AV.renL, renL_map, go_sem, W]; refine hK _ ?_; clear hK K)) | ((with_reducible refine evL_one ?_ ?_); rfl; intro K hK; simp only [go_sem, W]; ((repeat (refine ndI (by first | assumption | omega | rfl) ?_)); refine hK _ ?_; clear hK K)) | (with_reducible first | (refine evL_nil ?_; refine hR _ ?_; clear hR R) | ((first | refine evC_seq ?_ | refine evC_block ?_); intro J hJ hJ') | (refine evC_region ?_; intro R hR) | (refine hJ _ ?_; clear hJ hJ' J) | refine evC_skip ?_ | refine evC_ret ?_ | refine evC_exit ?_) | ((with_reducible refine hJ' _ _ ?_ ?_); (focus (simp; done)); clear hJ hJ' J) | ((with_reducible apply evL_unmet); rfl; rfl; rfl; (try simp only [go_sem, W])) | ((with_reducible apply evL_grd); rfl; rfl; rfl; all_goals (intro hb; first | (cases hb; done) | ((try simp only [Bool.not_true, Bool.not_false] at hb); (first | ((with_reducible intro K hK); (first | ((apply opA_callB (rm); rfl; rfl; rfl; rfl; exact Try.func60); kernel_rfl; rfl; (simp only [go_sem, W]; rfl); (first | rfl | simp [AV.inNL, AV.inN])) | skip); simp only [go_sem, W]; ((repeat (refine ndI (by first | assumption | omega | rfl) ?_)); refine hK _ ?_; clear hK K)) | ((fail_if_success (with_reducible intro _)); simp only [go_sem, W]))))) | ((with_reducible apply evC_cond); rfl; rfl; all_goals (intro hc; first | (cases hc; done) | (try simp only at hc)))))))
  all_goals first
    | exact ⟨by simp, ⟨_, rfl, nilRes _⟩, leH_get (by simp [leH, hget])⟩
    | ((refine ⟨by simp, ⟨_, ?_, AV.le_refl _⟩, leH_get (by simp [leH, hget])⟩; simp only [Try.results66, resL, ldA, oneOf, go_sem]); done)
    | ((refine ⟨by simp, ⟨_, ?_, AV.le_refl _⟩, leH_get (by simp [leH, hget])⟩; simp only [Try.results66, resL, ldA, oneOf, go_sem]); rfl)
theorem putX_lent (ex : Bool) (L : List Ac) (hL : Okl L) (x : Ac) (hx : Okx x) (xb xs : List AV) (hxb : xb = (x.code.flatMap bpv).map .c) (hxs : xs = (x.store.flatMap Pr.pv).map .c) : Fn Try.prog 39 [stA ex L, acR x 1000 1001] [(1000, xb), (1001, xs)] (resS (if okSt L then putS L x else ([], 160))) [(1000, xb), (1001, xs)] := by
  have ck := checkS_fn ex L (by have := hL.1; omega) (okl_fine hL)
  have pt := put_lent ex L hL x hx xb xs hxb hxs
  have a1 : ∀ d, AV.refsL d xb = false := fun d => by rw [hxb]; exact refsL_map d _
  have a2 : ∀ d, AV.refsL d xs = false := fun d => by rw [hxs]; exact refsL_map d _
  have w1 : ∀ f, AV.renL f xb = xb := fun f => by rw [hxb]; exact renL_map f _
  have w2 : ∀ f, AV.renL f xs = xs := fun f => by rw [hxs]; exact renL_map f _
  have y1 : ∀ N, AV.inNL N xb = true := fun N => by rw [hxb]; exact inNL_map N _
  have y2 : ∀ N, AV.inNL N xs = true := fun N => by rw [hxs]; exact inNL_map N _
  generalize putS L x = r at pt ⊢
  obtain ⟨R, e⟩ := r
  cases h : okSt L
  all_goals rw [h] at ck
  all_goals simp only [Bool.false_eq_true, if_true, if_false] at ck ⊢
  all_goals (refine fn_of Try.func39 rfl (by rfl) ?_; simp only [Try.ntmps39, List.length_cons, List.length_nil, Nat.reduceAdd, Nat.reduceSub, List.replicate, List.cons_append, List.nil_append])
  all_goals (have W := ndI a1 (ndI a2 (ndI w1 (ndI w2 (ndI y1 y2)))); (repeat (any_goals (first | ((with_reducible refine evL_call ?_ ?_ ?_); rfl; rfl; intro K hK; (first | ((apply opA_callB (ck); rfl; rfl; rfl; rfl; exact Try.func17); kernel_rfl; rfl; (simp only [go_sem, W]; rfl); (first | rfl | simp [AV.inNL, AV.inN])) | (apply opA_callR (pt) (fun r => r); rfl; rfl; rfl; rfl; exact Try.func66; kernel_rfl; rfl; rfl; (intro r hr q hq h; simp only [List.map_cons, List.map_nil, List.cons_append, List.nil_append, List.mem_cons, List.not_mem_nil, or_false] at hr hq; (try dsimp only at h); first | omega | (rcases hr with rfl | rfl | rfl <;> rcases hq with rfl | rfl | rfl <;> simp at h ⊢) | (rcases hr with rfl | rfl <;> rcases hq with rfl | rfl <;> simp at h ⊢) | ((repeat' split at h) <;> omega)); (simp only [argsOk, argOk, AV.ren, AV.renL, renL_map, List.mem_cons, List.not_mem_nil, forall_eq_or_imp, forall_eq, newOk, List.contains_cons, List.contains_nil, AV.refsL, AV.refs, refsL_map, AV.inN, AV.inNL, inH, inNL_map, go_sem, W]))); (simp only [hputs, hdels, renH, AV.ren, AV.renL, renL_map, go_sem, W]; refine hK _ ?_; clear hK K)) | ((with_reducible refine evL_one ?_ ?_); rfl; intro K hK; simp only [go_sem, W]; ((repeat (refine ndI (by first | assumption | omega | rfl) ?_)); refine hK _ ?_; clear hK K)) | (with_reducible first | (refine evL_nil ?_; refine hR _ ?_; clear hR R) | ((first | refine evC_seq ?_ | refine evC_block ?_); intro J hJ hJ') | (refine evC_region ?_; intro R hR) | (refine hJ _ ?_; clear hJ hJ' J) | refine evC_skip ?_ | refine evC_ret ?_ | refine evC_exit ?_) | ((with_reducible refine hJ' _ _ ?_ ?_); (focus (simp; done)); clear hJ hJ' J) | ((with_reducible apply evC_cond); rfl; rfl; all_goals (intro hc; first | (cases hc; done) | (try simp only at hc)))))))
  all_goals first
    | exact ⟨by simp, ⟨_, rfl, nilRes _⟩, leH_get (by simp [leH, hget])⟩
    | (refine ⟨by simp, ⟨_, ?_, AV.le_refl _⟩, leH_get (by simp [leH, hget])⟩; simp only [Try.results39, resL, ldA, oneOf, go_sem])
end Go.Proofs.Ytiggambibcohcaa
namespace Go.Proofs.Ytiggambibcohcaa
open Go.RowKit
open Nat (reduceBEq)
set_option maxRecDepth 20000
set_option maxHeartbeats 2000000
def kindI (o : Do) : Int := (IntKind.u64.wrap o.kind).tmod 5
def doS (L : List Ac) (o : Do) : List Ac × Int := if okSt L then (if kindI o = 0 then putS L (oneA o.x) else if kindI o = 1 then saveS L o.a o.p.k o.p.v else if kindI o = 2 then moveS L o.a o.b o.n else if kindI o = 3 then mintS L o.a o.n else withS L o.a (lessS L (ofS L o.a) o.n)) else ([], 160)
theorem one_row (x : Ac) (hl : x.store.length ≤ maxLen) (hc : x.code.length ≤ maxLen) : Fn Try.prog 11 [acA x] [] (acR (oneA x) 11 21) [(11, ((oneA x).code.flatMap bpv).map .c), (21, ((oneA x).store.flatMap Pr.pv).map .c)] := by
  obtain ⟨a, b, n, code, store⟩ := x
  dsimp only at hl hc
  unfold oneA
  dsimp only
  obtain ⟨m1, h1⟩ : ∃ m, min code.length 201 = m := ⟨_, rfl⟩
  obtain ⟨m2, h2⟩ : ∃ m, min store.length 25 = m := ⟨_, rfl⟩
  have f1 : (if 201 < (code.length : Int) then 201 else (code.length : Int)) = (m1 : Int) := by split <;> omega
  have f2 : (if 25 < (store.length : Int) then 25 else (store.length : Int)) = (m2 : Int) := by split <;> omega
  have t1 : code.take 201 = code.take m1 := by
    rw [← h1, List.take_eq_take_iff]; omega
  have t2 : store.take 25 = store.take m2 := by
    rw [← h2, List.take_eq_take_iff]; omega
  rw [t1, t2]
  have g1 := bpv_take code m1
  have g2 := ps_take store m2
  have l1 : (code.take m1).length = m1 := by rw [List.length_take]; omega
  have l2 : (store.take m2).length = m2 := by rw [List.length_take]; omega
  have b1 : m1 ≤ 201 := by omega
  have b2 : m2 ≤ 25 := by omega
  have b3 : m1 ≤ code.length := by omega
  have b4 : m2 ≤ store.length := by omega
  generalize hC : code.take m1 = C at g1 l1 ⊢
  generalize hS : store.take m2 = S at g2 l2 ⊢
  dsimp only [acR]
  rw [l1, l2]
  have d1 : ((C.flatMap bpv).map AV.c).length = m1 := by rw [List.length_map, flat_length bpv_len, l1, Nat.mul_one]
  have d2 : ((S.flatMap Pr.pv).map AV.c).length = m2 * 8 := by rw [List.length_map, flat_length pr_len, l2]
  (refine fn_of Try.func11 rfl (by rfl) ?_; simp only [Try.ntmps11, List.length_cons, List.length_nil, Nat.reduceAdd, Nat.reduceSub, List.replicate, List.cons_append, List.nil_append])
  (have W := ndI f1 (ndI f2 (ndI g1 (ndI g2 (ndI d1 (ndI d2 @refsL_map))))); (repeat (any_goals (first | ((with_reducible refine evL_one ?_ ?_); rfl; intro K hK; simp (disch := omega) only [go_sem, W, Nat.mul_one]; ((repeat (refine ndI (by first | assumption | omega | rfl) ?_)); refine hK _ ?_; clear hK K)) | ((with_reducible refine evL_one ?_ ?_); rfl; intro K hK; simp (disch := omega) only [go_sem, W, Nat.mul_one]; apply opA_cut_nil; rfl; rfl; rfl; rfl; (focus (simp (disch := omega) only [go_sem]; try rfl)); rfl; (simp (disch := omega) only [go_sem, W, Nat.mul_one]; (with_reducible refine hK _ ?_); clear hK K)) | ((with_reducible refine evL_one ?_ ?_); rfl; intro K hK; (try simp (disch := omega) only [go_sem, W, Nat.mul_one]); (repeat (refine ndI (by first | assumption | omega | rfl) ?_)); refine opA_slice_row rfl rfl rfl rfl rfl ?_ rfl rfl rfl rfl ?_ ?_ ?_; (focus (simp only [go_sem]; try rfl)); (intro h; first | rfl | cases h); (first | omega | (dsimp only; omega) | (simp (disch := omega) only [Option.isSome_some, Option.isSome_none]; omega) | (simp; omega) | (focus (simp; done))); (intro q hq1 hq2; (simp (disch := omega) only [go_sem, W, Nat.mul_one]; refine hK _ ?_; clear hK K))) | ((with_reducible refine evL_one ?_ ?_); rfl; intro K hK; (try simp (disch := omega) only [go_sem, W, Nat.mul_one]); (repeat (refine ndI (by first | assumption | omega | rfl) ?_)); refine opA_slice_cut rfl rfl rfl rfl rfl ?_ rfl rfl rfl rfl ?_ ?_ ?_; (focus (simp only [go_sem]; try rfl)); (intro h; first | rfl | cases h); (first | omega | (dsimp only; omega) | (simp (disch := omega) only [Option.isSome_some, Option.isSome_none]; omega) | (simp; omega) | (focus (simp; done))); (simp (disch := omega) only [go_sem, W, Nat.mul_one]; refine hK _ ?_; clear hK K)) | ((with_reducible refine evL_one ?_ ?_); rfl; intro K hK; (try simp (disch := omega) only [go_sem, W, Nat.mul_one]); (repeat (refine ndI (by first | assumption | omega | rfl) ?_)); apply opA_append_zeros; rfl; rfl; rfl; (focus (simp only [go_sem]; try rfl)); (focus (simp (disch := omega) only [go_sem]; try rfl)); (first | omega | (dsimp only; omega) | (simp (disch := omega) only [Option.isSome_some, Option.isSome_none]; omega) | (simp; omega) | (focus (simp; done))); (first | omega | (dsimp only; omega) | (simp (disch := omega) only [Option.isSome_some, Option.isSome_none]; omega) | (simp; omega) | (focus (simp; done))); rfl; rfl; rfl; (first | omega | (dsimp only; omega) | (simp (disch := omega) only [Option.isSome_some, Option.isSome_none]; omega) | (simp; omega) | (focus (simp; done))); (first | omega | (dsimp only; omega) | (simp (disch := omega) only [Option.isSome_some, Option.isSome_none]; omega) | (simp; omega) | (focus (simp; done))); (first | omega | (simp (disch := omega) only [go_sem, W, Nat.mul_one, spl, List.length_append, List.length_map, List.length_take, List.length_drop, List.length_replicate]; omega) | (simp [spl]; omega) | (focus (simp [spl]; done))); (first | omega | (dsimp only; omega) | (simp (disch := omega) only [Option.isSome_some, Option.isSome_none]; omega) | (simp; omega) | (focus (simp; done))); rfl; (first | rfl | (simp [St.free, freeH, AV.refs, AV.refsL])); (first | omega | (dsimp only; omega) | (simp (disch := omega) only [Option.isSome_some, Option.isSome_none]; omega) | (simp; omega) | (focus (simp; done))); (first | rfl | (simp [St.free, freeH, AV.refs, AV.refsL])); (intro c' hc'; (simp (disch := omega) only [go_sem, W, Nat.mul_one]; refine hK _ ?_; clear hK K))) | (with_reducible first | (refine evL_nil ?_; refine hR _ ?_; clear hR R) | ((first | refine evC_seq ?_ | refine evC_block ?_); intro J hJ hJ') | (refine evC_region ?_; intro R hR) | (refine hJ _ ?_; clear hJ hJ' J) | refine evC_skip ?_ | refine evC_ret ?_ | refine evC_exit ?_) | ((with_reducible refine hJ' _ _ ?_ ?_); (focus (simp; done)); clear hJ hJ' J) | ((with_reducible apply evC_cond); rfl; rfl; all_goals (intro hc; first | (cases hc; done) | (try simp only at hc)))))))
  all_goals (refine ⟨by simp, ⟨_, ?_, AV.le_refl _⟩, leH_get (by simp [leH, hget])⟩; simp only [Try.results11, resL, ldA, oneOf, go_sem])
def gB (n : Int) : AV := .c (.v (.int .u8 n))
def gW (n : Int) : AV := .c (.v (.int .u64 n))
theorem cells_b (C : List Nat) : (C.flatMap bpv).map AV.c = (C.map Int.ofNat).map gB := by
  induction C with
  | nil => rfl
  | cons c C ih => rw [List.flatMap_cons, List.map_append, ih]; rfl
theorem cells_w (S : List Pr) : ∃ cs : List Int, cs.length = S.length * 8 ∧ (S.flatMap Pr.pv).map AV.c = cs.map gW := by
  induction S with
  | nil => exact ⟨[], rfl, rfl⟩
  | cons p S ih =>
    obtain ⟨cs, h1, h2⟩ := ih
    refine ⟨[l0 p.k, l1 p.k, l2 p.k, l3 p.k, l0 p.v, l1 p.v, l2 p.v, l3 p.v] ++ cs, by simp [h1]; omega, ?_⟩
    rw [List.flatMap_cons, List.map_append, h2, List.map_append]; rfl
theorem at_cell {g : Int → AV} {cs : List Int} {j : Nat} {y : Int} (h : cs[j]? = some y) : (cs.map g)[j]? = some (g y) := by rw [List.getElem?_map, h]; rfl
theorem spl_cell {g : Int → AV} {cs : List Int} {j : Nat} (y : Int) (h : j < cs.length) : spl (cs.map g) j [g y] = (cs.set j y).map g := by
  unfold spl
  rw [List.map_set, List.set_eq_take_append_cons_drop, if_pos (by rw [List.length_map]; exact h)]
  simp
theorem refsL_g (g : Int → AV) (h : ∀ d y, AV.refs d (g y) = false) (d : Nat) (cs : List Int) : AV.refsL d (cs.map g) = false := by
  induction cs with
  | nil => rfl
  | cons x l ih => rw [List.map_cons]; unfold AV.refsL; rw [h, ih]; rfl
theorem renL_g (g : Int → AV) (h : ∀ f y, AV.ren f (g y) = g y) (f : Nat → Nat) (cs : List Int) : AV.renL f (cs.map g) = cs.map g := by
  induction cs with
  | nil => rfl
  | cons x l ih => rw [List.map_cons]; unfold AV.renL; rw [h, ih]
theorem inNL_g (g : Int → AV) (h : ∀ N y, AV.inN N (g y) = true) (N : List Nat) (cs : List Int) : AV.inNL N (cs.map g) = true := by
  induction cs with
  | nil => rfl
  | cons x l ih => rw [List.map_cons]; unfold AV.inNL; rw [h, ih]; rfl
theorem okx_one {x : Ac} (h : x.ok) : Okx (oneA x) := by
  obtain ⟨u1, u2, u3, ⟨u4, u5⟩, u6, u7⟩ := h
  exact ⟨⟨u1, u2, u3, ⟨by show (x.code.take 201).length ≤ maxLen; rw [List.length_take]; omega, fun c hc => u5 c (List.mem_of_mem_take hc)⟩, by show (x.store.take 25).length ≤ maxLen; rw [List.length_take]; omega, fun p hp => u7 p (List.mem_of_mem_take hp)⟩, by show (x.code.take 201).length ≤ 1000000; rw [List.length_take]; omega, by show (x.store.take 25).length ≤ 1000000; rw [List.length_take]; omega⟩
theorem beqI (a c : Int) : (a == c) = decide (a = c) := by
  by_cases h : a = c
  · subst h; simp
  · rw [decide_eq_false h]; simpa using h
theorem wants_fn (ex : Bool) (L : List Ac) (hL : Okl L) (o : Do) (ho : o.ok) : Fn Try.prog 15 [doA o, stA ex L] [] (resS (doS L o)) [] := by
  obtain ⟨_, ua, ub, hn, hp, hx⟩ := ho
  have rr := rright_fn ex L hL
  have on := one_fn o.x hx.2.2.2.2.1 hx.2.2.2.1.1
  have q0 := beqI (kindI o) 0
  have q1 := beqI (kindI o) 1
  have q2 := beqI (kindI o) 2
  have q3 := beqI (kindI o) 3
  have hk : (IntKind.u64.wrap o.kind).tmod 5 = kindI o := rfl
  have z5 : ((5 : Int) = 0) = False := eq_false (by decide)
  unfold doS
  by_cases h : okSt L = true
  · have h1 := rput_fn ex L hL h (oneA o.x) (okx_one hx)
    have h2 := rsave_fn ex L hL h o.a ua o.p hp
    have h3 := rmove_fn ex L hL h o.a o.b ua ub o.n hn
    have h4 := rmint_fn ex L hL h o.a ua o.n hn
    have h5 := rburn_fn ex L hL h o.a ua o.n hn
    rw [← move_same h] at h3
    rw [← mint_same h] at h4
    rw [← save_same h] at h2
    rw [h] at rr
    rw [if_pos h]
    generalize putS L (oneA o.x) = r1 at h1 ⊢
    generalize saveS L o.a o.p.k o.p.v = r2 at h2 ⊢
    generalize moveS L o.a o.b o.n = r3 at h3 ⊢
    generalize mintS L o.a o.n = r4 at h4 ⊢
    generalize withS L o.a (lessS L (ofS L o.a) o.n) = r5 at h5 ⊢
    generalize oneA o.x = y at on h1
    obtain ⟨kind, a, b, n, p, x⟩ := o
    obtain ⟨R1, e1⟩ := r1
    obtain ⟨R2, e2⟩ := r2
    obtain ⟨R3, e3⟩ := r3
    obtain ⟨R4, e4⟩ := r4
    obtain ⟨R5, e5⟩ := r5
    dsimp only at *
    generalize kindI ⟨kind, a, b, n, p, x⟩ = K at *
    by_cases c0 : K = 0
    · rw [decide_eq_true c0] at q0
      rw [if_pos c0]
      (refine fn_of Try.func15 rfl (by rfl) ?_; simp only [Try.ntmps15, List.length_cons, List.length_nil, Nat.reduceAdd, Nat.reduceSub, List.replicate, List.cons_append, List.nil_append])
      (have W := ndI hk (ndI z5 q0); (repeat (any_goals (first | ((with_reducible refine evL_call ?_ ?_ ?_); rfl; rfl; intro K hK; ((apply opA_callB (rr); rfl; rfl; rfl; rfl; exact Try.func25); kernel_rfl; rfl; (simp only [go_sem, W]; rfl); (first | rfl | simp [AV.inNL, AV.inN])); (simp only [go_sem, W]; refine hK _ ?_; clear hK K)) | ((with_reducible refine evL_one ?_ ?_); rfl; intro K hK; simp only [go_sem, W]; ((repeat (refine ndI (by first | assumption | omega | rfl) ?_)); refine hK _ ?_; clear hK K)) | (with_reducible first | (refine evL_nil ?_; refine hR _ ?_; clear hR R) | ((first | refine evC_seq ?_ | refine evC_block ?_); intro J hJ hJ') | (refine evC_region ?_; intro R hR) | (refine hJ _ ?_; clear hJ hJ' J) | refine evC_skip ?_ | refine evC_ret ?_ | refine evC_exit ?_) | ((with_reducible refine hJ' _ _ ?_ ?_); (focus (simp; done)); clear hJ hJ' J) | ((with_reducible apply evC_cond); rfl; rfl; all_goals (intro hc; first | (cases hc; done) | (try simp only at hc))) | ((with_reducible refine evD_nil ?_ ?_); kernel_rfl; (with_reducible refine hR _ ?_); clear hR R) | ((first | ((with_reducible apply evD_fcall); rfl; rfl; ((first | (apply opF_callB (on); rfl; rfl; rfl; rfl; exact Try.func11) | (apply opF_callB (h1); rfl; rfl; rfl; rfl; exact Try.func41)); kernel_rfl; rfl; (simp only [go_sem, W]; rfl); (first | rfl | simp [AV.inNL, AV.inN]))) | ((with_reducible apply evD_any); rfl; rfl; (simp only [rdE, rdOf, go_sem, W]; rfl); (intro τ hA hQ hN; ((try simp only [agree, Op.operands, Call.operands, go_sem, W, go_sem, List.mem_cons, List.not_mem_nil, forall_eq_or_imp, forall_eq, List.append_toArray, Option.toArray] at hA); (try simp only [go_sem, W, List.mem_cons, List.not_mem_nil, forall_eq_or_imp, forall_eq] at hQ hN); (first | (revert hA; intro hA) | have hA := trivial); (first | (revert hQ; intro hQ) | have hQ := trivial); (first | (revert hN; intro hN) | have hN := trivial); simp only [go_sem, W, go_sem, hA, hQ, hN]; (repeat (refine ndI (by first | assumption | omega | rfl) ?_)); (first | apply eff_rd | apply eff_st | apply eff_nw))))); (simp only [St.eff, setO, hputs, go_sem, W])) | ((with_reducible refine evC_draw ?_ ?_ ?_ ?_); kernel_rfl; kernel_rfl; (first | kernel_rfl | simp [newNames, isNew, St.free, freeH, AV.refsL, AV.refs]); intro R hR)))))
      all_goals (refine ⟨by simp, ⟨_, ?_, AV.le_refl _⟩, leH_get (by simp [leH, hget])⟩; simp only [Try.results15, resL, ldA, oneOf, go_sem])
    rw [decide_eq_false c0] at q0
    rw [if_neg c0]
    by_cases c1 : K = 1
    · rw [decide_eq_true c1] at q1
      rw [if_pos c1]
      (refine fn_of Try.func15 rfl (by rfl) ?_; simp only [Try.ntmps15, List.length_cons, List.length_nil, Nat.reduceAdd, Nat.reduceSub, List.replicate, List.cons_append, List.nil_append])
      (have W := ndI hk (ndI z5 (ndI q0 q1)); (repeat (any_goals (first | ((with_reducible refine evL_call ?_ ?_ ?_); rfl; rfl; intro K hK; ((first | (apply opA_callB (rr); rfl; rfl; rfl; rfl; exact Try.func25) | (apply opA_callB (h2); rfl; rfl; rfl; rfl; exact Try.func42)); kernel_rfl; rfl; (simp only [go_sem, W]; rfl); (first | rfl | simp [AV.inNL, AV.inN])); (simp only [go_sem, W]; refine hK _ ?_; clear hK K)) | ((with_reducible refine evL_one ?_ ?_); rfl; intro K hK; simp only [go_sem, W]; ((repeat (refine ndI (by first | assumption | omega | rfl) ?_)); refine hK _ ?_; clear hK K)) | (with_reducible first | (refine evL_nil ?_; refine hR _ ?_; clear hR R) | ((first | refine evC_seq ?_ | refine evC_block ?_); intro J hJ hJ') | (refine evC_region ?_; intro R hR) | (refine hJ _ ?_; clear hJ hJ' J) | refine evC_skip ?_ | refine evC_ret ?_ | refine evC_exit ?_) | ((with_reducible refine hJ' _ _ ?_ ?_); (focus (simp; done)); clear hJ hJ' J) | ((with_reducible apply evC_cond); rfl; rfl; all_goals (intro hc; first | (cases hc; done) | (try simp only at hc))) | ((with_reducible refine evD_nil ?_ ?_); kernel_rfl; (with_reducible refine hR _ ?_); clear hR R) | (((with_reducible apply evD_any); rfl; rfl; (simp only [rdE, rdOf, go_sem, W]; rfl); (intro τ hA hQ hN; ((try simp only [agree, Op.operands, Call.operands, go_sem, W, go_sem, List.mem_cons, List.not_mem_nil, forall_eq_or_imp, forall_eq, List.append_toArray, Option.toArray] at hA); (try simp only [go_sem, W, List.mem_cons, List.not_mem_nil, forall_eq_or_imp, forall_eq] at hQ hN); (first | (revert hA; intro hA) | have hA := trivial); (first | (revert hQ; intro hQ) | have hQ := trivial); (first | (revert hN; intro hN) | have hN := trivial); simp only [go_sem, W, go_sem, hA, hQ, hN]; (repeat (refine ndI (by first | assumption | omega | rfl) ?_)); (first | apply eff_rd | apply eff_st | apply eff_nw)))); (simp only [St.eff, setO, hputs, go_sem, W])) | ((with_reducible refine evC_draw ?_ ?_ ?_ ?_); kernel_rfl; kernel_rfl; (first | kernel_rfl | simp [newNames, isNew, St.free, freeH, AV.refsL, AV.refs]); intro R hR)))))
      all_goals (refine ⟨by simp, ⟨_, ?_, AV.le_refl _⟩, leH_get (by simp [leH, hget])⟩; simp only [Try.results15, resL, ldA, oneOf, go_sem])
    rw [decide_eq_false c1] at q1
    rw [if_neg c1]
    by_cases c2 : K = 2
    · rw [decide_eq_true c2] at q2
      rw [if_pos c2]
      (refine fn_of Try.func15 rfl (by rfl) ?_; simp only [Try.ntmps15, List.length_cons, List.length_nil, Nat.reduceAdd, Nat.reduceSub, List.replicate, List.cons_append, List.nil_append])
      (have W := ndI hk (ndI z5 (ndI q0 (ndI q1 q2))); (repeat (any_goals (first | ((with_reducible refine evL_call ?_ ?_ ?_); rfl; rfl; intro K hK; ((first | (apply opA_callB (rr); rfl; rfl; rfl; rfl; exact Try.func25) | (apply opA_callB (h3); rfl; rfl; rfl; rfl; exact Try.func43)); kernel_rfl; rfl; (simp only [go_sem, W]; rfl); (first | rfl | simp [AV.inNL, AV.inN])); (simp only [go_sem, W]; refine hK _ ?_; clear hK K)) | ((with_reducible refine evL_one ?_ ?_); rfl; intro K hK; simp only [go_sem, W]; ((repeat (refine ndI (by first | assumption | omega | rfl) ?_)); refine hK _ ?_; clear hK K)) | (with_reducible first | (refine evL_nil ?_; refine hR _ ?_; clear hR R) | ((first | refine evC_seq ?_ | refine evC_block ?_); intro J hJ hJ') | (refine evC_region ?_; intro R hR) | (refine hJ _ ?_; clear hJ hJ' J) | refine evC_skip ?_ | refine evC_ret ?_ | refine evC_exit ?_) | ((with_reducible refine hJ' _ _ ?_ ?_); (focus (simp; done)); clear hJ hJ' J) | ((with_reducible apply evC_cond); rfl; rfl; all_goals (intro hc; first | (cases hc; done) | (try simp only at hc))) | ((with_reducible refine evD_nil ?_ ?_); kernel_rfl; (with_reducible refine hR _ ?_); clear hR R) | (((with_reducible apply evD_any); rfl; rfl; (simp only [rdE, rdOf, go_sem, W]; rfl); (intro τ hA hQ hN; ((try simp only [agree, Op.operands, Call.operands, go_sem, W, go_sem, List.mem_cons, List.not_mem_nil, forall_eq_or_imp, forall_eq, List.append_toArray, Option.toArray] at hA); (try simp only [go_sem, W, List.mem_cons, List.not_mem_nil, forall_eq_or_imp, forall_eq] at hQ hN); (first | (revert hA; intro hA) | have hA := trivial); (first | (revert hQ; intro hQ) | have hQ := trivial); (first | (revert hN; intro hN) | have hN := trivial); simp only [go_sem, W, go_sem, hA, hQ, hN]; (repeat (refine ndI (by first | assumption | omega | rfl) ?_)); (first | apply eff_rd | apply eff_st | apply eff_nw)))); (simp only [St.eff, setO, hputs, go_sem, W])) | ((with_reducible refine evC_draw ?_ ?_ ?_ ?_); kernel_rfl; kernel_rfl; (first | kernel_rfl | simp [newNames, isNew, St.free, freeH, AV.refsL, AV.refs]); intro R hR)))))
      all_goals (refine ⟨by simp, ⟨_, ?_, AV.le_refl _⟩, leH_get (by simp [leH, hget])⟩; simp only [Try.results15, resL, ldA, oneOf, go_sem])
    rw [decide_eq_false c2] at q2
    rw [if_neg c2]
    by_cases c3 : K = 3
    · rw [decide_eq_true c3] at q3
      rw [if_pos c3]
      (refine fn_of Try.func15 rfl (by rfl) ?_; simp only [Try.ntmps15, List.length_cons, List.length_nil, Nat.reduceAdd, Nat.reduceSub, List.replicate, List.cons_append, List.nil_append])
      (have W := ndI hk (ndI z5 (ndI q0 (ndI q1 (ndI q2 q3)))); (repeat (any_goals (first | ((with_reducible refine evL_call ?_ ?_ ?_); rfl; rfl; intro K hK; ((first | (apply opA_callB (rr); rfl; rfl; rfl; rfl; exact Try.func25) | (apply opA_callB (h4); rfl; rfl; rfl; rfl; exact Try.func44)); kernel_rfl; rfl; (simp only [go_sem, W]; rfl); (first | rfl | simp [AV.inNL, AV.inN])); (simp only [go_sem, W]; refine hK _ ?_; clear hK K)) | ((with_reducible refine evL_one ?_ ?_); rfl; intro K hK; simp only [go_sem, W]; ((repeat (refine ndI (by first | assumption | omega | rfl) ?_)); refine hK _ ?_; clear hK K)) | (with_reducible first | (refine evL_nil ?_; refine hR _ ?_; clear hR R) | ((first | refine evC_seq ?_ | refine evC_block ?_); intro J hJ hJ') | (refine evC_region ?_; intro R hR) | (refine hJ _ ?_; clear hJ hJ' J) | refine evC_skip ?_ | refine evC_ret ?_ | refine evC_exit ?_) | ((with_reducible refine hJ' _ _ ?_ ?_); (focus (simp; done)); clear hJ hJ' J) | ((with_reducible apply evC_cond); rfl; rfl; all_goals (intro hc; first | (cases hc; done) | (try simp only at hc))) | ((with_reducible refine evD_nil ?_ ?_); kernel_rfl; (with_reducible refine hR _ ?_); clear hR R) | (((with_reducible apply evD_any); rfl; rfl; (simp only [rdE, rdOf, go_sem, W]; rfl); (intro τ hA hQ hN; ((try simp only [agree, Op.operands, Call.operands, go_sem, W, go_sem, List.mem_cons, List.not_mem_nil, forall_eq_or_imp, forall_eq, List.append_toArray, Option.toArray] at hA); (try simp only [go_sem, W, List.mem_cons, List.not_mem_nil, forall_eq_or_imp, forall_eq] at hQ hN); (first | (revert hA; intro hA) | have hA := trivial); (first | (revert hQ; intro hQ) | have hQ := trivial); (first | (revert hN; intro hN) | have hN := trivial); simp only [go_sem, W, go_sem, hA, hQ, hN]; (repeat (refine ndI (by first | assumption | omega | rfl) ?_)); (first | apply eff_rd | apply eff_st | apply eff_nw)))); (simp only [St.eff, setO, hputs, go_sem, W])) | ((with_reducible refine evC_draw ?_ ?_ ?_ ?_); kernel_rfl; kernel_rfl; (first | kernel_rfl | simp [newNames, isNew, St.free, freeH, AV.refsL, AV.refs]); intro R hR)))))
      all_goals (refine ⟨by simp, ⟨_, ?_, AV.le_refl _⟩, leH_get (by simp [leH, hget])⟩; simp only [Try.results15, resL, ldA, oneOf, go_sem])
    rw [decide_eq_false c3] at q3
    rw [if_neg c3]
    (refine fn_of Try.func15 rfl (by rfl) ?_; simp only [Try.ntmps15, List.length_cons, List.length_nil, Nat.reduceAdd, Nat.reduceSub, List.replicate, List.cons_append, List.nil_append])
    (have W := ndI hk (ndI z5 (ndI q0 (ndI q1 (ndI q2 q3)))); (repeat (any_goals (first | ((with_reducible refine evL_call ?_ ?_ ?_); rfl; rfl; intro K hK; ((first | (apply opA_callB (rr); rfl; rfl; rfl; rfl; exact Try.func25) | (apply opA_callB (h5); rfl; rfl; rfl; rfl; exact Try.func45)); kernel_rfl; rfl; (simp only [go_sem, W]; rfl); (first | rfl | simp [AV.inNL, AV.inN])); (simp only [go_sem, W]; refine hK _ ?_; clear hK K)) | ((with_reducible refine evL_one ?_ ?_); rfl; intro K hK; simp only [go_sem, W]; ((repeat (refine ndI (by first | assumption | omega | rfl) ?_)); refine hK _ ?_; clear hK K)) | (with_reducible first | (refine evL_nil ?_; refine hR _ ?_; clear hR R) | ((first | refine evC_seq ?_ | refine evC_block ?_); intro J hJ hJ') | (refine evC_region ?_; intro R hR) | (refine hJ _ ?_; clear hJ hJ' J) | refine evC_skip ?_ | refine evC_ret ?_ | refine evC_exit ?_) | ((with_reducible refine hJ' _ _ ?_ ?_); (focus (simp; done)); clear hJ hJ' J) | ((with_reducible apply evC_cond); rfl; rfl; all_goals (intro hc; first | (cases hc; done) | (try simp only at hc))) | ((with_reducible refine evD_nil ?_ ?_); kernel_rfl; (with_reducible refine hR _ ?_); clear hR R) | (((with_reducible apply evD_any); rfl; rfl; (simp only [rdE, rdOf, go_sem, W]; rfl); (intro τ hA hQ hN; ((try simp only [agree, Op.operands, Call.operands, go_sem, W, go_sem, List.mem_cons, List.not_mem_nil, forall_eq_or_imp, forall_eq, List.append_toArray, Option.toArray] at hA); (try simp only [go_sem, W, List.mem_cons, List.not_mem_nil, forall_eq_or_imp, forall_eq] at hQ hN); (first | (revert hA; intro hA) | have hA := trivial); (first | (revert hQ; intro hQ) | have hQ := trivial); (first | (revert hN; intro hN) | have hN := trivial); simp only [go_sem, W, go_sem, hA, hQ, hN]; (repeat (refine ndI (by first | assumption | omega | rfl) ?_)); (first | apply eff_rd | apply eff_st | apply eff_nw)))); (simp only [St.eff, setO, hputs, go_sem, W])) | ((with_reducible refine evC_draw ?_ ?_ ?_ ?_); kernel_rfl; kernel_rfl; (first | kernel_rfl | simp [newNames, isNew, St.free, freeH, AV.refsL, AV.refs]); intro R hR)))))
    all_goals (refine ⟨by simp, ⟨_, ?_, AV.le_refl _⟩, leH_get (by simp [leH, hget])⟩; simp only [Try.results15, resL, ldA, oneOf, go_sem])
  · have h : okSt L = false := by simpa using h
    rw [h] at rr ⊢
    simp only [Bool.false_eq_true, if_false]
    obtain ⟨kind, a, b, n, p, x⟩ := o
    (refine fn_of Try.func15 rfl (by rfl) ?_; simp only [Try.ntmps15, List.length_cons, List.length_nil, Nat.reduceAdd, Nat.reduceSub, List.replicate, List.cons_append, List.nil_append])
    (repeat (any_goals (first | ((with_reducible refine evL_call ?_ ?_ ?_); rfl; rfl; intro K hK; ((apply opA_callB (rr); rfl; rfl; rfl; rfl; exact Try.func25); kernel_rfl; rfl; (simp only [go_sem]; rfl); (first | rfl | simp [AV.inNL, AV.inN])); (simp only [go_sem]; refine hK _ ?_; clear hK K)) | ((with_reducible refine evL_one ?_ ?_); rfl; intro K hK; simp only [go_sem]; ((repeat (refine ndI (by first | assumption | omega | rfl) ?_)); refine hK _ ?_; clear hK K)) | (with_reducible first | (refine evL_nil ?_; refine hR _ ?_; clear hR R) | ((first | refine evC_seq ?_ | refine evC_block ?_); intro J hJ hJ') | (refine evC_region ?_; intro R hR) | (refine hJ _ ?_; clear hJ hJ' J) | refine evC_skip ?_ | refine evC_ret ?_ | refine evC_exit ?_) | ((with_reducible refine hJ' _ _ ?_ ?_); (focus (simp; done)); clear hJ hJ' J) | ((with_reducible apply evC_cond); rfl; rfl; all_goals (intro hc; first | (cases hc; done) | (try simp only at hc))) | ((with_reducible refine evD_nil ?_ ?_); kernel_rfl; (with_reducible refine hR _ ?_); clear hR R) | (((with_reducible apply evD_any); rfl; rfl; (simp only [rdE, rdOf, go_sem]; rfl); (intro τ hA hQ hN; ((try simp only [agree, Op.operands, Call.operands, go_sem, List.mem_cons, List.not_mem_nil, forall_eq_or_imp, forall_eq, List.append_toArray, Option.toArray] at hA); (try simp only [go_sem, List.mem_cons, List.not_mem_nil, forall_eq_or_imp, forall_eq] at hQ hN); (first | (revert hA; intro hA) | have hA := trivial); (first | (revert hQ; intro hQ) | have hQ := trivial); (first | (revert hN; intro hN) | have hN := trivial); simp only [go_sem, hA, hQ, hN]; (repeat (refine ndI (by first | assumption | omega | rfl) ?_)); (first | apply eff_rd | apply eff_st | apply eff_nw)))); (simp only [St.eff, setO, hputs, go_sem])) | ((with_reducible refine evC_draw ?_ ?_ ?_ ?_); kernel_rfl; kernel_rfl; (first | kernel_rfl | simp [newNames, isNew, St.free, freeH, AV.refsL, AV.refs]); intro R hR))))
    all_goals exact ⟨by simp, ⟨_, rfl, nilRes _⟩, leH_get (by simp [leH, hget])⟩
theorem run_fn (ex : Bool) (L : List Ac) (hL : Okl L) (o : Do) (ho : o.ok) : Fn Try.prog 14 [doA o, stA ex L] [] (resS (doS L o)) [] := by
  obtain ⟨_, ua, ub, hn, hp, hx⟩ := ho
  have on := one_row o.x hx.2.2.2.2.1 hx.2.2.2.1.1
  have h1 := putX_lent ex L hL (oneA o.x) (okx_one hx) _ _ rfl rfl
  have h2 := save_fn ex L hL o.a ua o.p.k o.p.v hp.1 hp.2
  have h3 := move_fn ex L hL o.a o.b ua ub o.n hn
  have h4 := mint_fn ex L hL o.a ua o.n hn
  have h5 := burn_fn ex L hL o.a ua o.n hn
  have q0 := beqI (kindI o) 0
  have q1 := beqI (kindI o) 1
  have q2 := beqI (kindI o) 2
  have q3 := beqI (kindI o) 3
  have hk : (IntKind.u64.wrap o.kind).tmod 5 = kindI o := rfl
  have z5 : ((5 : Int) = 0) = False := eq_false (by decide)
  have e0 : doS L o = if kindI o = 0 then (if okSt L then putS L (oneA o.x) else ([], 160)) else if kindI o = 1 then saveS L o.a o.p.k o.p.v else if kindI o = 2 then moveS L o.a o.b o.n else if kindI o = 3 then mintS L o.a o.n else withS L o.a (lessS L (ofS L o.a) o.n) := by
    unfold doS
    cases h : okSt L with
    | true => simp only [if_true]
    | false => simp only [Bool.false_eq_true, if_false, saveS, moveS, mintS, withS, h, Bool.not_false, if_true, ite_self]
  rw [e0]
  have hc1 : (oneA o.x).code.length ≤ 201 := by show (o.x.code.take 201).length ≤ 201; rw [List.length_take]; omega
  have hs1 : (oneA o.x).store.length ≤ 25 := by show (o.x.store.take 25).length ≤ 25; rw [List.length_take]; omega
  generalize (if okSt L then putS L (oneA o.x) else ([], 160)) = r1 at h1 ⊢
  generalize saveS L o.a o.p.k o.p.v = r2 at h2 ⊢
  generalize moveS L o.a o.b o.n = r3 at h3 ⊢
  generalize mintS L o.a o.n = r4 at h4 ⊢
  generalize withS L o.a (lessS L (ofS L o.a) o.n) = r5 at h5 ⊢
  generalize oneA o.x = y at on h1 hc1 hs1
  obtain ⟨kind, a, b, n, p, x⟩ := o
  obtain ⟨R1, e1⟩ := r1
  obtain ⟨R2, e2⟩ := r2
  obtain ⟨R3, e3⟩ := r3
  obtain ⟨R4, e4⟩ := r4
  obtain ⟨R5, e5⟩ := r5
  dsimp only at *
  generalize kindI ⟨kind, a, b, n, p, x⟩ = K at *
  by_cases c0 : K = 0
  · rw [decide_eq_true c0] at q0
    rw [if_pos c0]
    obtain ⟨ya, yb, yn, C, S⟩ := y
    dsimp only at hc1 hs1 on h1
    obtain ⟨ws, hws, hS⟩ := cells_w S
    rw [cells_b, hS] at on h1
    have hCl : (C.map Int.ofNat).length = C.length := by simp
    generalize C.map Int.ofNat = bs at on h1 hCl
    have a1 : ∀ (l : List Int) d, AV.refsL d (l.map gB) = false := fun l d => refsL_g gB (fun _ _ => rfl) d l
    have a2 : ∀ (l : List Int) d, AV.refsL d (l.map gW) = false := fun l d => refsL_g gW (fun _ _ => rfl) d l
    have w1 : ∀ (l : List Int) f, AV.renL f (l.map gB) = l.map gB := fun l f => renL_g gB (fun _ _ => rfl) f l
    have w2 : ∀ (l : List Int) f, AV.renL f (l.map gW) = l.map gW := fun l f => renL_g gW (fun _ _ => rfl) f l
    have y1 : ∀ (l : List Int) N, AV.inNL N (l.map gB) = true := fun l N => inNL_g gB (fun _ _ => rfl) N l
    have y2 : ∀ (l : List Int) N, AV.inNL N (l.map gW) = true := fun l N => inNL_g gW (fun _ _ => rfl) N l
    clear hS
    (refine fn_of Try.func14 rfl (by rfl) ?_; simp only [Try.ntmps14, List.length_cons, List.length_nil, Nat.reduceAdd, Nat.reduceSub, List.replicate, List.cons_append, List.nil_append])
    (have W := ndI hk (ndI z5 (ndI q0 (ndI a1 (ndI a2 (ndI w1 (ndI w2 (ndI y1 y2))))))); (repeat (any_goals (first | ((with_reducible refine evL_call ?_ ?_ ?_); rfl; rfl; intro K hK; (first | (apply opA_callR (on) (fun r => r + 200); rfl; rfl; rfl; rfl; exact Try.func11; kernel_rfl; rfl; rfl; (intro r hr q hq h; simp only [List.map_cons, List.map_nil, List.cons_append, List.nil_append, List.mem_cons, List.not_mem_nil, or_false] at hr hq; (try dsimp only at h); first | omega | (rcases hr with rfl | rfl | rfl <;> rcases hq with rfl | rfl | rfl <;> simp at h ⊢) | (rcases hr with rfl | rfl <;> rcases hq with rfl | rfl <;> simp at h ⊢) | ((repeat' split at h) <;> omega)); (simp only [argsOk, argOk, AV.ren, AV.renL, renL_map, List.mem_cons, List.not_mem_nil, forall_eq_or_imp, forall_eq, newOk, List.contains_cons, List.contains_nil, AV.refsL, AV.refs, refsL_map, AV.inN, AV.inNL, inH, inNL_map, go_sem, W])) | (apply opA_callR (h1) (fun r => if r = 1000 then 211 else if r = 1001 then 221 else r); rfl; rfl; rfl; rfl; exact Try.func39; kernel_rfl; rfl; rfl; (intro r hr q hq h; simp only [List.map_cons, List.map_nil, List.cons_append, List.nil_append, List.mem_cons, List.not_mem_nil, or_false] at hr hq; (try dsimp only at h); first | omega | (rcases hr with rfl | rfl | rfl <;> rcases hq with rfl | rfl | rfl <;> simp at h ⊢) | (rcases hr with rfl | rfl <;> rcases hq with rfl | rfl <;> simp at h ⊢) | ((repeat' split at h) <;> omega)); (simp only [argsOk, argOk, AV.ren, AV.renL, renL_map, List.mem_cons, List.not_mem_nil, forall_eq_or_imp, forall_eq, newOk, List.contains_cons, List.contains_nil, AV.refsL, AV.refs, refsL_map, AV.inN, AV.inNL, inH, inNL_map, go_sem, W]))); (simp only [hputs, hdels, renH, AV.ren, AV.renL, renL_map, go_sem, W]; refine hK _ ?_; clear hK K)) | ((with_reducible refine evL_one ?_ ?_); rfl; intro K hK; simp only [go_sem, W]; ((repeat (refine ndI (by first | assumption | omega | rfl) ?_)); refine hK _ ?_; clear hK K)) | (with_reducible first | (refine evL_nil ?_; refine hR _ ?_; clear hR R) | ((first | refine evC_seq ?_ | refine evC_block ?_); intro J hJ hJ') | (refine evC_region ?_; intro R hR) | (refine hJ _ ?_; clear hJ hJ' J) | refine evC_skip ?_ | refine evC_ret ?_ | refine evC_exit ?_) | ((with_reducible refine hJ' _ _ ?_ ?_); (focus (simp; done)); clear hJ hJ' J) | ((with_reducible apply evC_cond); rfl; rfl; all_goals (intro hc; first | (cases hc; done) | (try simp only at hc))) | ((with_reducible refine evD_nil ?_ ?_); kernel_rfl; (with_reducible refine hR _ ?_); clear hR R) | (((with_reducible apply evD_any); rfl; rfl; (simp only [rdE, rdOf, go_sem, W]; rfl); (intro τ hA hQ hN; ((try simp only [agree, Op.operands, Call.operands, go_sem, W, go_sem, List.mem_cons, List.not_mem_nil, forall_eq_or_imp, forall_eq, List.append_toArray, Option.toArray] at hA); (try simp only [go_sem, W, List.mem_cons, List.not_mem_nil, forall_eq_or_imp, forall_eq] at hQ hN); (first | (revert hA; intro hA) | have hA := trivial); (first | (revert hQ; intro hQ) | have hQ := trivial); (first | (revert hN; intro hN) | have hN := trivial); simp only [go_sem, W, go_sem, hA, hQ, hN]; (repeat (refine ndI (by first | assumption | omega | rfl) ?_)); (first | apply eff_rd | apply eff_st | apply eff_nw)))); (simp only [St.eff, setO, hputs, go_sem, W])) | ((with_reducible refine evC_draw ?_ ?_ ?_ ?_); kernel_rfl; kernel_rfl; (first | kernel_rfl | simp [newNames, isNew, St.free, freeH, AV.refsL, AV.refs]); intro R hR)))))
    refine evC_loop (α := { p : Nat × List Int // p.1 ≤ C.length ∧ p.2.length = C.length }) (fun p => ⟨[.any, .any, .any, .any, .ptr 4 0, vi .i64 0, .ptr 6 0, .ptr 7 0, vi .i64 e1, .any, .any, .any, .any, .any, .any, .any, .any, .any, .any, .any, .any, .any, .any, .any, .any, .any, .any, .any, vi .i64 C.length, vi .i64 (p.1.1 : Int), .any, .any, .any, .any, .any, .any, .any, .any, .any, .any, .any, .any, .any, .any, .any, .any, .any, .any, .any, .any, .any, .any, .any, .any, .any, .any, .any, .any, .any, .any, .any, .any, .any, .any, .any, .any, .any, .any, .any, .any, .any, .any, .any, .any, .any, .any, .any, .any, .any, .any, .any, .any, .any, .any, .any, .any, .any, .any, .any, .any, .any, .any, .any, .any, .any, .any, .any, .any, .any, .any], [(4, [.c (.v (.slice none 0 0))]), (6, [vi .u64 ya, vi .u64 (l0 yb), vi .u64 (l1 yb), vi .u64 (l2 yb), vi .u64 (l3 yb), vi .u64 yn, .row 211 5 1 C.length, .row 221 42 8 S.length]), (7, [acS false R1]), (211, p.1.2.map gB), (221, ws.map gW)]⟩) (fun p => C.length - p.1.1) ⟨(0, bs), Nat.zero_le _, hCl⟩ (St.le_of (by simp [leT]) (by simp [leH, hget])) ?_
    rintro ⟨⟨i, cs⟩, hi, hcs⟩ J hJ hJ'
    (try dsimp only at hi hcs hJ ⊢)
    by_cases hge : C.length ≤ i
    · have k1 : (decide ((i : Int) < (C.length : Int))) = false := decide_eq_false (by omega)
      (repeat (any_goals (first | ((with_reducible refine evL_one ?_ ?_); rfl; intro K hK; simp only [go_sem, k1]; ((repeat (refine ndI (by first | assumption | omega | rfl) ?_)); refine hK _ ?_; clear hK K)) | (with_reducible first | (refine evL_nil ?_; refine hR _ ?_; clear hR R) | ((first | refine evC_seq ?_ | refine evC_block ?_); intro J hJ hJ') | (refine evC_region ?_; intro R hR) | (refine hJ _ ?_; clear hJ hJ' J) | refine evC_skip ?_ | refine evC_ret ?_ | refine evC_exit ?_) | ((with_reducible refine hJ' _ _ ?_ ?_); (focus (simp; done)); clear hJ hJ' J) | ((with_reducible apply evC_cond); rfl; rfl; all_goals (intro hc; first | (cases hc; done) | (try simp only at hc))) | ((with_reducible refine evD_nil ?_ ?_); kernel_rfl; (with_reducible refine hR _ ?_); clear hR R) | (((with_reducible apply evD_any); rfl; rfl; (simp only [rdE, rdOf, go_sem, k1]; rfl); (intro τ hA hQ hN; ((try simp only [agree, Op.operands, Call.operands, go_sem, k1, go_sem, List.mem_cons, List.not_mem_nil, forall_eq_or_imp, forall_eq, List.append_toArray, Option.toArray] at hA); (try simp only [go_sem, k1, List.mem_cons, List.not_mem_nil, forall_eq_or_imp, forall_eq] at hQ hN); (first | (revert hA; intro hA) | have hA := trivial); (first | (revert hQ; intro hQ) | have hQ := trivial); (first | (revert hN; intro hN) | have hN := trivial); simp only [go_sem, k1, go_sem, hA, hQ, hN]; (repeat (refine ndI (by first | assumption | omega | rfl) ?_)); (first | apply eff_rd | apply eff_st | apply eff_nw)))); (simp only [St.eff, setO, hputs, go_sem, k1])) | ((with_reducible refine evC_draw ?_ ?_ ?_ ?_); kernel_rfl; kernel_rfl; (first | kernel_rfl | simp [newNames, isNew, St.free, freeH, AV.refsL, AV.refs]); intro R hR))))
      refine evC_loop (α := { p : Nat × List Int // p.1 ≤ S.length ∧ p.2.length = S.length * 8 }) (fun p => ⟨[.any, .any, .any, .any, .ptr 4 0, vi .i64 0, .ptr 6 0, .ptr 7 0, vi .i64 e1, .any, .any, .any, .any, .any, .any, .any, .any, .any, .any, .any, .any, .any, .any, .any, .any, .any, .any, .any, .any, .any, .any, .any, .any, .any, .any, .any, .any, .any, .any, .any, .any, .any, vi .i64 S.length, vi .i64 (p.1.1 : Int), .any, .any, .any, .any, .any, .any, .any, .any, .any, .any, .any, .any, .any, .any, .any, .any, .any, .any, .any, .any, .any, .any, .any, .any, .any, .any, .any, .any, .any, .any, .any, .any, .any, .any, .any, .any, .any, .any, .any, .any, .any, .any, .any, .any, .any, .any, .any, .any, .any, .any, .any, .any, .any, .any, .any, .any], [(4, [.c (.v (.slice none 0 0))]), (6, [vi .u64 ya, vi .u64 (l0 yb), vi .u64 (l1 yb), vi .u64 (l2 yb), vi .u64 (l3 yb), vi .u64 yn, .row 211 5 1 C.length, .row 221 42 8 S.length]), (7, [acS false R1]), (211, cs.map gB), (221, p.1.2.map gW)]⟩) (fun p => S.length - p.1.1) ⟨(0, ws), Nat.zero_le _, hws⟩ (St.le_of (by simp [leT]) (by simp [leH, hget])) ?_
      rintro ⟨⟨m, ds⟩, hm, hds⟩ J hJ hJ'
      (try dsimp only at hm hds hJ ⊢)
      by_cases hge2 : S.length ≤ m
      · have k4 : (decide ((m : Int) < (S.length : Int))) = false := decide_eq_false (by omega)
        (repeat (any_goals (first | ((with_reducible refine evL_one ?_ ?_); rfl; intro K hK; simp only [go_sem, k4]; ((repeat (refine ndI (by first | assumption | omega | rfl) ?_)); refine hK _ ?_; clear hK K)) | (with_reducible first | (refine evL_nil ?_; refine hR _ ?_; clear hR R) | ((first | refine evC_seq ?_ | refine evC_block ?_); intro J hJ hJ') | (refine evC_region ?_; intro R hR) | (refine hJ _ ?_; clear hJ hJ' J) | refine evC_skip ?_ | refine evC_ret ?_ | refine evC_exit ?_) | ((with_reducible refine hJ' _ _ ?_ ?_); (focus (simp; done)); clear hJ hJ' J) | ((with_reducible apply evC_cond); rfl; rfl; all_goals (intro hc; first | (cases hc; done) | (try simp only at hc))) | ((with_reducible refine evD_nil ?_ ?_); kernel_rfl; (with_reducible refine hR _ ?_); clear hR R) | (((with_reducible apply evD_any); rfl; rfl; (simp only [rdE, rdOf, go_sem, k4]; rfl); (intro τ hA hQ hN; ((try simp only [agree, Op.operands, Call.operands, go_sem, k4, go_sem, List.mem_cons, List.not_mem_nil, forall_eq_or_imp, forall_eq, List.append_toArray, Option.toArray] at hA); (try simp only [go_sem, k4, List.mem_cons, List.not_mem_nil, forall_eq_or_imp, forall_eq] at hQ hN); (first | (revert hA; intro hA) | have hA := trivial); (first | (revert hQ; intro hQ) | have hQ := trivial); (first | (revert hN; intro hN) | have hN := trivial); simp only [go_sem, k4, go_sem, hA, hQ, hN]; (repeat (refine ndI (by first | assumption | omega | rfl) ?_)); (first | apply eff_rd | apply eff_st | apply eff_nw)))); (simp only [St.eff, setO, hputs, go_sem, k4])) | ((with_reducible refine evC_draw ?_ ?_ ?_ ?_); kernel_rfl; kernel_rfl; (first | kernel_rfl | simp [newNames, isNew, St.free, freeH, AV.refsL, AV.refs]); intro R hR))))
        all_goals (refine ⟨by simp, ⟨_, ?_, AV.le_refl _⟩, leH_get (by simp [leH, hget])⟩; simp only [Try.results14, resL, ldA, oneOf, go_sem])
      · have k4 : (decide ((m : Int) < (S.length : Int))) = true := decide_eq_true (by omega)
        have k7 : (m : Int) + 1 = ((m + 1 : Nat) : Int) := by omega
        have hlt : m < S.length := by omega
        obtain ⟨y, hy⟩ : ∃ y, ds[m * 8 + 4]? = some y := ⟨_, List.getElem?_eq_getElem (by omega)⟩
        have n1 : (ds.map gW)[m * 8 + 4]? = some (.c (.v (.int .u64 y))) := at_cell hy
        have n2 : ∀ z, List.take (m * 8 + 4) (ds.map gW) ++ [AV.c (.v (.int .u64 z))] ++ List.drop (m * 8 + 4 + 1) (ds.map gW) = (ds.set (m * 8 + 4) z).map gW := fun z => spl_cell (g := gW) z (by omega)
        have n3 : (ds.map gW).length = S.length * 8 := by rw [List.length_map]; exact hds
        (have W := ndI k4 (ndI k7 (ndI n1 (ndI n2 (ndI n3 (ndI a1 (ndI a2 @wrI)))))); (repeat (any_goals (first | ((with_reducible refine evL_one ?_ ?_); rfl; intro K hK; simp (disch := omega) only [go_sem, W]; ((repeat (refine ndI (by first | assumption | omega | rfl) ?_)); refine hK _ ?_; clear hK K)) | (with_reducible first | (refine evL_nil ?_; refine hR _ ?_; clear hR R) | ((first | refine evC_seq ?_ | refine evC_block ?_); intro J hJ hJ') | (refine evC_region ?_; intro R hR) | (refine hJ _ ?_; clear hJ hJ' J) | refine evC_skip ?_ | refine evC_ret ?_ | refine evC_exit ?_) | ((with_reducible refine hJ' _ _ ?_ ?_); (focus (simp; done)); clear hJ hJ' J) | ((with_reducible apply evC_cond); rfl; rfl; all_goals (intro hc; first | (cases hc; done) | (try simp only at hc))) | ((with_reducible refine evD_nil ?_ ?_); kernel_rfl; (with_reducible refine hR _ ?_); clear hR R) | (((with_reducible apply evD_any); rfl; rfl; (simp (disch := omega) only [rdE, rdOf, go_sem, W]; rfl); (intro τ hA hQ hN; ((try simp only [agree, Op.operands, Call.operands, go_sem, W, go_sem, List.mem_cons, List.not_mem_nil, forall_eq_or_imp, forall_eq, List.append_toArray, Option.toArray] at hA); (try simp only [go_sem, W, List.mem_cons, List.not_mem_nil, forall_eq_or_imp, forall_eq] at hQ hN); (first | (revert hA; intro hA) | have hA := trivial); (first | (revert hQ; intro hQ) | have hQ := trivial); (first | (revert hN; intro hN) | have hN := trivial); simp (disch := omega) only [go_sem, W, go_sem, hA, hQ, hN]; (repeat (refine ndI (by first | assumption | omega | rfl) ?_)); (first | apply eff_rd | apply eff_st | apply eff_nw)))); (simp (disch := omega) only [St.eff, setO, hputs, go_sem, W])) | ((with_reducible refine evC_draw ?_ ?_ ?_ ?_); kernel_rfl; kernel_rfl; (first | kernel_rfl | simp [newNames, isNew, St.free, freeH, AV.refsL, AV.refs]); intro R hR)))))
        all_goals exact hJ _ ⟨(m + 1, ds.set (m * 8 + 4) (IntKind.u64.wrap (y + 1))), hlt, by dsimp only; rw [List.length_set]; exact hds⟩ (by dsimp only; omega) (St.le_of (by simp [leT]) (by simp only [leH, hget, Nat.reduceEqDiff, if_true, if_false]; simp))
    · have k1 : (decide ((i : Int) < (C.length : Int))) = true := decide_eq_true (by omega)
      have k7 : (i : Int) + 1 = ((i + 1 : Nat) : Int) := by omega
      have hlt : i < C.length := by omega
      obtain ⟨y, hy⟩ : ∃ y, cs[i]? = some y := ⟨_, List.getElem?_eq_getElem (by omega)⟩
      have n1 : (cs.map gB)[i]? = some (.c (.v (.int .u8 y))) := at_cell hy
      have n2 : ∀ z, List.take i (cs.map gB) ++ [AV.c (.v (.int .u8 z))] ++ List.drop (i + 1) (cs.map gB) = (cs.set i z).map gB := fun z => spl_cell (g := gB) z (by omega)
      have n3 : (cs.map gB).length = C.length := by rw [List.length_map]; exact hcs
      obtain ⟨z, n4⟩ : ∃ z, IntKind.u8.wrap ((BitVec.ofInt IntKind.u8.bits y ^^^ BitVec.ofInt IntKind.u8.bits 85).toNat : Nat) = z := ⟨_, rfl⟩
      (have W := ndI k1 (ndI k7 (ndI n1 (ndI n2 (ndI n3 (ndI n4 (ndI a1 (ndI a2 @wrI))))))); (repeat (any_goals (first | ((with_reducible refine evL_one ?_ ?_); rfl; intro K hK; simp (disch := omega) only [go_sem, W, Nat.mul_one]; ((repeat (refine ndI (by first | assumption | omega | rfl) ?_)); refine hK _ ?_; clear hK K)) | (with_reducible first | (refine evL_nil ?_; refine hR _ ?_; clear hR R) | ((first | refine evC_seq ?_ | refine evC_block ?_); intro J hJ hJ') | (refine evC_region ?_; intro R hR) | (refine hJ _ ?_; clear hJ hJ' J) | refine evC_skip ?_ | refine evC_ret ?_ | refine evC_exit ?_) | ((with_reducible refine hJ' _ _ ?_ ?_); (focus (simp; done)); clear hJ hJ' J) | ((with_reducible apply evC_cond); rfl; rfl; all_goals (intro hc; first | (cases hc; done) | (try simp only at hc))) | ((with_reducible refine evD_nil ?_ ?_); kernel_rfl; (with_reducible refine hR _ ?_); clear hR R) | (((with_reducible apply evD_any); rfl; rfl; (simp (disch := omega) only [rdE, rdOf, go_sem, W, Nat.mul_one]; rfl); (intro τ hA hQ hN; ((try simp only [agree, Op.operands, Call.operands, go_sem, W, Nat.mul_one, go_sem, List.mem_cons, List.not_mem_nil, forall_eq_or_imp, forall_eq, List.append_toArray, Option.toArray] at hA); (try simp only [go_sem, W, Nat.mul_one, List.mem_cons, List.not_mem_nil, forall_eq_or_imp, forall_eq] at hQ hN); (first | (revert hA; intro hA) | have hA := trivial); (first | (revert hQ; intro hQ) | have hQ := trivial); (first | (revert hN; intro hN) | have hN := trivial); simp (disch := omega) only [go_sem, W, Nat.mul_one, go_sem, hA, hQ, hN]; (repeat (refine ndI (by first | assumption | omega | rfl) ?_)); (first | apply eff_rd | apply eff_st | apply eff_nw)))); (simp (disch := omega) only [St.eff, setO, hputs, go_sem, W, Nat.mul_one])) | ((with_reducible refine evC_draw ?_ ?_ ?_ ?_); kernel_rfl; kernel_rfl; (first | kernel_rfl | simp [newNames, isNew, St.free, freeH, AV.refsL, AV.refs]); intro R hR)))))
      all_goals exact hJ _ ⟨(i + 1, cs.set i z), hlt, by dsimp only; rw [List.length_set]; exact hcs⟩ (by dsimp only; omega) (St.le_of (by simp [leT]) (by simp only [leH, hget, Nat.reduceEqDiff, if_true, if_false]; simp; rw [← n4]; rfl))
  rw [decide_eq_false c0] at q0
  rw [if_neg c0]
  by_cases c1 : K = 1
  · rw [decide_eq_true c1] at q1
    rw [if_pos c1]
    (refine fn_of Try.func14 rfl (by rfl) ?_; simp only [Try.ntmps14, List.length_cons, List.length_nil, Nat.reduceAdd, Nat.reduceSub, List.replicate, List.cons_append, List.nil_append])
    (have W := ndI hk (ndI z5 (ndI q0 q1)); (repeat (any_goals (first | ((with_reducible refine evL_call ?_ ?_ ?_); rfl; rfl; intro K hK; ((apply opA_callB (h2); rfl; rfl; rfl; rfl; exact Try.func37); kernel_rfl; rfl; (simp only [go_sem, W]; rfl); (first | rfl | simp [AV.inNL, AV.inN])); (simp only [go_sem, W]; refine hK _ ?_; clear hK K)) | ((with_reducible refine evL_one ?_ ?_); rfl; intro K hK; simp only [go_sem, W]; ((repeat (refine ndI (by first | assumption | omega | rfl) ?_)); refine hK _ ?_; clear hK K)) | (with_reducible first | (refine evL_nil ?_; refine hR _ ?_; clear hR R) | ((first | refine evC_seq ?_ | refine evC_block ?_); intro J hJ hJ') | (refine evC_region ?_; intro R hR) | (refine hJ _ ?_; clear hJ hJ' J) | refine evC_skip ?_ | refine evC_ret ?_ | refine evC_exit ?_) | ((with_reducible refine hJ' _ _ ?_ ?_); (focus (simp; done)); clear hJ hJ' J) | ((with_reducible apply evC_cond); rfl; rfl; all_goals (intro hc; first | (cases hc; done) | (try simp only at hc))) | ((with_reducible refine evD_nil ?_ ?_); kernel_rfl; (with_reducible refine hR _ ?_); clear hR R) | (((with_reducible apply evD_any); rfl; rfl; (simp only [rdE, rdOf, go_sem, W]; rfl); (intro τ hA hQ hN; ((try simp only [agree, Op.operands, Call.operands, go_sem, W, go_sem, List.mem_cons, List.not_mem_nil, forall_eq_or_imp, forall_eq, List.append_toArray, Option.toArray] at hA); (try simp only [go_sem, W, List.mem_cons, List.not_mem_nil, forall_eq_or_imp, forall_eq] at hQ hN); (first | (revert hA; intro hA) | have hA := trivial); (first | (revert hQ; intro hQ) | have hQ := trivial); (first | (revert hN; intro hN) | have hN := trivial); simp only [go_sem, W, go_sem, hA, hQ, hN]; (repeat (refine ndI (by first | assumption | omega | rfl) ?_)); (first | apply eff_rd | apply eff_st | apply eff_nw)))); (simp only [St.eff, setO, hputs, go_sem, W])) | ((with_reducible refine evC_draw ?_ ?_ ?_ ?_); kernel_rfl; kernel_rfl; (first | kernel_rfl | simp [newNames, isNew, St.free, freeH, AV.refsL, AV.refs]); intro R hR)))))
    all_goals (refine ⟨by simp, ⟨_, ?_, AV.le_refl _⟩, leH_get (by simp [leH, hget])⟩; simp only [Try.results14, resL, ldA, oneOf, go_sem])
  rw [decide_eq_false c1] at q1
  rw [if_neg c1]
  by_cases c2 : K = 2
  · rw [decide_eq_true c2] at q2
    rw [if_pos c2]
    (refine fn_of Try.func14 rfl (by rfl) ?_; simp only [Try.ntmps14, List.length_cons, List.length_nil, Nat.reduceAdd, Nat.reduceSub, List.replicate, List.cons_append, List.nil_append])
    (have W := ndI hk (ndI z5 (ndI q0 (ndI q1 q2))); (repeat (any_goals (first | ((with_reducible refine evL_call ?_ ?_ ?_); rfl; rfl; intro K hK; ((apply opA_callB (h3); rfl; rfl; rfl; rfl; exact Try.func32); kernel_rfl; rfl; (simp only [go_sem, W]; rfl); (first | rfl | simp [AV.inNL, AV.inN])); (simp only [go_sem, W]; refine hK _ ?_; clear hK K)) | ((with_reducible refine evL_one ?_ ?_); rfl; intro K hK; simp only [go_sem, W]; ((repeat (refine ndI (by first | assumption | omega | rfl) ?_)); refine hK _ ?_; clear hK K)) | (with_reducible first | (refine evL_nil ?_; refine hR _ ?_; clear hR R) | ((first | refine evC_seq ?_ | refine evC_block ?_); intro J hJ hJ') | (refine evC_region ?_; intro R hR) | (refine hJ _ ?_; clear hJ hJ' J) | refine evC_skip ?_ | refine evC_ret ?_ | refine evC_exit ?_) | ((with_reducible refine hJ' _ _ ?_ ?_); (focus (simp; done)); clear hJ hJ' J) | ((with_reducible apply evC_cond); rfl; rfl; all_goals (intro hc; first | (cases hc; done) | (try simp only at hc))) | ((with_reducible refine evD_nil ?_ ?_); kernel_rfl; (with_reducible refine hR _ ?_); clear hR R) | (((with_reducible apply evD_any); rfl; rfl; (simp only [rdE, rdOf, go_sem, W]; rfl); (intro τ hA hQ hN; ((try simp only [agree, Op.operands, Call.operands, go_sem, W, go_sem, List.mem_cons, List.not_mem_nil, forall_eq_or_imp, forall_eq, List.append_toArray, Option.toArray] at hA); (try simp only [go_sem, W, List.mem_cons, List.not_mem_nil, forall_eq_or_imp, forall_eq] at hQ hN); (first | (revert hA; intro hA) | have hA := trivial); (first | (revert hQ; intro hQ) | have hQ := trivial); (first | (revert hN; intro hN) | have hN := trivial); simp only [go_sem, W, go_sem, hA, hQ, hN]; (repeat (refine ndI (by first | assumption | omega | rfl) ?_)); (first | apply eff_rd | apply eff_st | apply eff_nw)))); (simp only [St.eff, setO, hputs, go_sem, W])) | ((with_reducible refine evC_draw ?_ ?_ ?_ ?_); kernel_rfl; kernel_rfl; (first | kernel_rfl | simp [newNames, isNew, St.free, freeH, AV.refsL, AV.refs]); intro R hR)))))
    all_goals (refine ⟨by simp, ⟨_, ?_, AV.le_refl _⟩, leH_get (by simp [leH, hget])⟩; simp only [Try.results14, resL, ldA, oneOf, go_sem])
  rw [decide_eq_false c2] at q2
  rw [if_neg c2]
  by_cases c3 : K = 3
  · rw [decide_eq_true c3] at q3
    rw [if_pos c3]
    (refine fn_of Try.func14 rfl (by rfl) ?_; simp only [Try.ntmps14, List.length_cons, List.length_nil, Nat.reduceAdd, Nat.reduceSub, List.replicate, List.cons_append, List.nil_append])
    (have W := ndI hk (ndI z5 (ndI q0 (ndI q1 (ndI q2 q3)))); (repeat (any_goals (first | ((with_reducible refine evL_call ?_ ?_ ?_); rfl; rfl; intro K hK; ((apply opA_callB (h4); rfl; rfl; rfl; rfl; exact Try.func36); kernel_rfl; rfl; (simp only [go_sem, W]; rfl); (first | rfl | simp [AV.inNL, AV.inN])); (simp only [go_sem, W]; refine hK _ ?_; clear hK K)) | ((with_reducible refine evL_one ?_ ?_); rfl; intro K hK; simp only [go_sem, W]; ((repeat (refine ndI (by first | assumption | omega | rfl) ?_)); refine hK _ ?_; clear hK K)) | (with_reducible first | (refine evL_nil ?_; refine hR _ ?_; clear hR R) | ((first | refine evC_seq ?_ | refine evC_block ?_); intro J hJ hJ') | (refine evC_region ?_; intro R hR) | (refine hJ _ ?_; clear hJ hJ' J) | refine evC_skip ?_ | refine evC_ret ?_ | refine evC_exit ?_) | ((with_reducible refine hJ' _ _ ?_ ?_); (focus (simp; done)); clear hJ hJ' J) | ((with_reducible apply evC_cond); rfl; rfl; all_goals (intro hc; first | (cases hc; done) | (try simp only at hc))) | ((with_reducible refine evD_nil ?_ ?_); kernel_rfl; (with_reducible refine hR _ ?_); clear hR R) | (((with_reducible apply evD_any); rfl; rfl; (simp only [rdE, rdOf, go_sem, W]; rfl); (intro τ hA hQ hN; ((try simp only [agree, Op.operands, Call.operands, go_sem, W, go_sem, List.mem_cons, List.not_mem_nil, forall_eq_or_imp, forall_eq, List.append_toArray, Option.toArray] at hA); (try simp only [go_sem, W, List.mem_cons, List.not_mem_nil, forall_eq_or_imp, forall_eq] at hQ hN); (first | (revert hA; intro hA) | have hA := trivial); (first | (revert hQ; intro hQ) | have hQ := trivial); (first | (revert hN; intro hN) | have hN := trivial); simp only [go_sem, W, go_sem, hA, hQ, hN]; (repeat (refine ndI (by first | assumption | omega | rfl) ?_)); (first | apply eff_rd | apply eff_st | apply eff_nw)))); (simp only [St.eff, setO, hputs, go_sem, W])) | ((with_reducible refine evC_draw ?_ ?_ ?_ ?_); kernel_rfl; kernel_rfl; (first | kernel_rfl | simp [newNames, isNew, St.free, freeH, AV.refsL, AV.refs]); intro R hR)))))
    all_goals (refine ⟨by simp, ⟨_, ?_, AV.le_refl _⟩, leH_get (by simp [leH, hget])⟩; simp only [Try.results14, resL, ldA, oneOf, go_sem])
  rw [decide_eq_false c3] at q3
  rw [if_neg c3]
  (refine fn_of Try.func14 rfl (by rfl) ?_; simp only [Try.ntmps14, List.length_cons, List.length_nil, Nat.reduceAdd, Nat.reduceSub, List.replicate, List.cons_append, List.nil_append])
  (have W := ndI hk (ndI z5 (ndI q0 (ndI q1 (ndI q2 q3)))); (repeat (any_goals (first | ((with_reducible refine evL_call ?_ ?_ ?_); rfl; rfl; intro K hK; ((apply opA_callB (h5); rfl; rfl; rfl; rfl; exact Try.func40); kernel_rfl; rfl; (simp only [go_sem, W]; rfl); (first | rfl | simp [AV.inNL, AV.inN])); (simp only [go_sem, W]; refine hK _ ?_; clear hK K)) | ((with_reducible refine evL_one ?_ ?_); rfl; intro K hK; simp only [go_sem, W]; ((repeat (refine ndI (by first | assumption | omega | rfl) ?_)); refine hK _ ?_; clear hK K)) | (with_reducible first | (refine evL_nil ?_; refine hR _ ?_; clear hR R) | ((first | refine evC_seq ?_ | refine evC_block ?_); intro J hJ hJ') | (refine evC_region ?_; intro R hR) | (refine hJ _ ?_; clear hJ hJ' J) | refine evC_skip ?_ | refine evC_ret ?_ | refine evC_exit ?_) | ((with_reducible refine hJ' _ _ ?_ ?_); (focus (simp; done)); clear hJ hJ' J) | ((with_reducible apply evC_cond); rfl; rfl; all_goals (intro hc; first | (cases hc; done) | (try simp only at hc))) | ((with_reducible refine evD_nil ?_ ?_); kernel_rfl; (with_reducible refine hR _ ?_); clear hR R) | (((with_reducible apply evD_any); rfl; rfl; (simp only [rdE, rdOf, go_sem, W]; rfl); (intro τ hA hQ hN; ((try simp only [agree, Op.operands, Call.operands, go_sem, W, go_sem, List.mem_cons, List.not_mem_nil, forall_eq_or_imp, forall_eq, List.append_toArray, Option.toArray] at hA); (try simp only [go_sem, W, List.mem_cons, List.not_mem_nil, forall_eq_or_imp, forall_eq] at hQ hN); (first | (revert hA; intro hA) | have hA := trivial); (first | (revert hQ; intro hQ) | have hQ := trivial); (first | (revert hN; intro hN) | have hN := trivial); simp only [go_sem, W, go_sem, hA, hQ, hN]; (repeat (refine ndI (by first | assumption | omega | rfl) ?_)); (first | apply eff_rd | apply eff_st | apply eff_nw)))); (simp only [St.eff, setO, hputs, go_sem, W])) | ((with_reducible refine evC_draw ?_ ?_ ?_ ?_); kernel_rfl; kernel_rfl; (first | kernel_rfl | simp [newNames, isNew, St.free, freeH, AV.refsL, AV.refs]); intro R hR)))))
  all_goals (refine ⟨by simp, ⟨_, ?_, AV.le_refl _⟩, leH_get (by simp [leH, hget])⟩; simp only [Try.results14, resL, ldA, oneOf, go_sem])
end Go.Proofs.Ytiggambibcohcaa
namespace Go.Proofs.Ytiggambibcohcaa
open Go.RowKit
open Nat (reduceBEq)
set_option maxRecDepth 20000
set_option maxHeartbeats 4000000
def Gd (r : List Ac × Int) : Prop := r.1.length ≤ 802 ∧ ∀ y ∈ r.1, Okx y
theorem gd_nil (e : Int) : Gd ([], e) := ⟨Nat.zero_le _, fun y hy => by cases hy⟩
theorem gd_lays {L : List Ac} (hL : Okl L) {x : Ac} (hx : Okx x) (e : Int) : Gd (laysL L x, e) := ⟨by have := (okl_lays hL hx).1; dsimp only; omega, (okl_lays hL hx).2⟩
theorem gd_put {L : List Ac} (hL : Okl L) {x : Ac} (hx : Okx x) : Gd (putS L x) := by
  unfold putS
  split
  · exact gd_nil _
  · split
    · exact gd_nil _
    · split
      · exact gd_nil _
      · exact gd_lays hL hx _
theorem gd_do {L : List Ac} (hL : Okl L) {o : Do} (ho : o.ok) : Gd (doS L o) := by
  obtain ⟨_, ua, ub, hn, hp, hx⟩ := ho
  unfold doS
  cases h : okSt L with
  | false => exact gd_nil _
  | true =>
    rw [if_pos rfl]
    split
    · exact gd_put hL (okx_one hx)
    split
    · rw [save_same h]
      unfold rsaveS
      split
      · exact gd_nil _
      · rename_i ha
        split
        · exact gd_nil _
        · refine gd_put hL (okx_saved (okx_of hL ua) ?_ hp)
          have hk := okAc_of h ha
          unfold okAc at hk
          simp only [Bool.and_eq_true, decide_eq_true_eq] at hk
          omega
    split
    · rw [move_same h]
      unfold rmoveS
      split
      · exact gd_nil _
      split
      · exact gd_nil _
      split
      · exact gd_lays hL (okx_of hL ua) _
      split
      · exact gd_nil _
      · have b1 : Okx ((ofS L o.a).bal ((ofS L o.a).b - o.n)) := okx_bal (okx_of hL ua) (by have := (okx_of hL ua).1.2.1; omega)
        have b2 : Okx ((ofS L o.b).bal (((ofS L o.b).b + o.n) % WW)) := okx_bal (okx_of hL ub) (Nat.mod_lt _ (by decide))
        have h1 := okl_lays hL b1
        exact okl_lay h1.1 h1.2 b2
    split
    · rw [mint_same h]
      unfold rmintS
      split
      · exact gd_nil _
      split
      · exact gd_lays hL (okx_of hL ua) _
      split
      · exact gd_nil _
      · exact gd_lays hL (okx_bal (okx_of hL ua) (Nat.mod_lt _ (by decide))) _
    · unfold withS lessS
      split
      · exact gd_nil _
      split
      · exact gd_nil _
      split
      · exact gd_nil _
      · exact gd_lays hL (okx_bal (okx_of hL ua) (by have := (okx_of hL ua).1.2.1; omega)) _
theorem fewL_idem (L : List Ac) : fewL (fewL L) = fewL L := by
  unfold fewL
  rw [← List.map_take, List.take_take, List.map_map]
  refine List.map_congr_left fun x _ => ?_
  show oneA (oneA x) = oneA x
  unfold oneA
  simp [List.take_take]
abbrev dol (ex : Bool) (D : List Do) : AV := .c (.sl ex 23 D.length (D.flatMap Do.pv))
theorem do_at {l : List Do} {i : Nat} {y : Do} (h : l[i]? = some y) : ((l.flatMap Do.pv).drop (i * 23)).take 23 = [.v (.int .i64 y.kind), .v (.int .u64 y.a), .v (.int .u64 y.b), .v (.int .u64 (l0 y.n)), .v (.int .u64 (l1 y.n)), .v (.int .u64 (l2 y.n)), .v (.int .u64 (l3 y.n)), .v (.int .u64 (l0 y.p.k)), .v (.int .u64 (l1 y.p.k)), .v (.int .u64 (l2 y.p.k)), .v (.int .u64 (l3 y.p.k)), .v (.int .u64 (l0 y.p.v)), .v (.int .u64 (l1 y.p.v)), .v (.int .u64 (l2 y.p.v)), .v (.int .u64 (l3 y.p.v)), .v (.int .u64 y.x.a), .v (.int .u64 (l0 y.x.b)), .v (.int .u64 (l1 y.x.b)), .v (.int .u64 (l2 y.x.b)), .v (.int .u64 (l3 y.x.b)), .v (.int .u64 y.x.n), bsV y.x.code, psV y.x.store] := flat_at (f := Do.pv) do_len h
theorem does_law (ex e : Bool) (X : List Ac) (hX : X.length ≤ maxLen) (oX : ∀ x ∈ X, x.ok) (D : List Do) (hD : D.length ≤ maxLen) (oD : ∀ d ∈ D, d.ok) : Fn Try.prog 4 [stA ex X, dol e D] [] (vb true) [] := by
  have wk := wakes_fn
  have D8 : D.length < 9223372036854775808 := Nat.lt_succ_of_le hD
  have f0 := few_fn ex X hX fun x hx => ⟨(oX x hx).2.2.2.2.1, (oX x hx).2.2.2.1.1⟩
  have k0 := okl_few oX
  have i0 := fewL_idem X
  generalize fewL X = A0 at f0 k0 i0
  (refine fn_of Try.func4 rfl (by rfl) ?_; simp only [Try.ntmps4, List.length_cons, List.length_nil, Nat.reduceAdd, Nat.reduceSub, List.replicate, List.cons_append, List.nil_append])
  (repeat (any_goals (first | ((with_reducible refine evL_call ?_ ?_ ?_); rfl; rfl; intro K hK; ((first | (apply opA_callB (wk); rfl; rfl; rfl; rfl; exact Try.func9) | (apply opA_callB (f0); rfl; rfl; rfl; rfl; exact Try.func13)); kernel_rfl; rfl; (simp only [go_sem]; rfl); (first | rfl | simp [AV.inNL, AV.inN])); (simp only [go_sem]; refine hK _ ?_; clear hK K)) | ((with_reducible refine evL_one ?_ ?_); rfl; intro K hK; simp only [go_sem]; ((repeat (refine ndI (by first | assumption | omega | rfl) ?_)); refine hK _ ?_; clear hK K)) | (with_reducible first | (refine evL_nil ?_; refine hR _ ?_; clear hR R) | ((first | refine evC_seq ?_ | refine evC_block ?_); intro J hJ hJ') | (refine evC_region ?_; intro R hR) | (refine hJ _ ?_; clear hJ hJ' J) | refine evC_skip ?_ | refine evC_ret ?_ | refine evC_exit ?_) | ((with_reducible refine hJ' _ _ ?_ ?_); (focus (simp; done)); clear hJ hJ' J) | ((with_reducible apply evL_unmet); rfl; rfl; rfl; (try simp only [go_sem])) | ((with_reducible apply evL_grd); rfl; rfl; rfl; all_goals (intro hb; first | (cases hb; done) | ((try simp only [Bool.not_true, Bool.not_false] at hb); (first | ((with_reducible intro K hK); simp only [go_sem]; ((repeat (refine ndI (by first | assumption | omega | rfl) ?_)); refine hK _ ?_; clear hK K)) | ((fail_if_success (with_reducible intro _)); simp only [go_sem]))))) | ((with_reducible apply evC_cond); rfl; rfl; all_goals (intro hc; first | (cases hc; done) | (try simp only at hc))) | ((with_reducible refine evD_nil ?_ ?_); kernel_rfl; (with_reducible refine hR _ ?_); clear hR R) | ((first | ((with_reducible apply evD_fcall); rfl; rfl; ((apply opF_callB (f0); rfl; rfl; rfl; rfl; exact Try.func13); kernel_rfl; rfl; (simp only [go_sem]; rfl); (first | rfl | simp [AV.inNL, AV.inN]))) | ((with_reducible apply evD_any); rfl; rfl; (simp only [rdE, rdOf, go_sem]; rfl); (intro τ hA hQ hN; ((try simp only [agree, Op.operands, Call.operands, go_sem, List.mem_cons, List.not_mem_nil, forall_eq_or_imp, forall_eq, List.append_toArray, Option.toArray] at hA); (try simp only [go_sem, List.mem_cons, List.not_mem_nil, forall_eq_or_imp, forall_eq] at hQ hN); (first | (revert hA; intro hA) | have hA := trivial); (first | (revert hQ; intro hQ) | have hQ := trivial); (first | (revert hN; intro hN) | have hN := trivial); simp only [go_sem, hA, hQ, hN]; (repeat (refine ndI (by first | assumption | omega | rfl) ?_)); (first | apply eff_rd | apply eff_st | apply eff_nw)))) | ((first | ((with_reducible apply evD_new); rfl; rfl; rfl) | ((with_reducible apply evD_grd_new); rfl; rfl; rfl; rfl; rfl; rfl)); (intro τ hA hQ hN; ((try simp only [agree, Op.operands, Call.operands, go_sem, List.mem_cons, List.not_mem_nil, forall_eq_or_imp, forall_eq, List.append_toArray, Option.toArray] at hA); (try simp only [go_sem, List.mem_cons, List.not_mem_nil, forall_eq_or_imp, forall_eq] at hQ); (first | (revert hA; intro hA) | have hA := trivial); (first | (revert hQ; intro hQ) | have hQ := trivial); simp only [go_sem, hA, hQ, hN]; (repeat (refine ndI (by first | assumption | omega | rfl) ?_)); exact eff_nw _ _ _ _)))); (simp only [St.eff, setO, hputs, go_sem])) | ((with_reducible refine evC_draw ?_ ?_ ?_ ?_); kernel_rfl; kernel_rfl; (first | kernel_rfl | simp [newNames, isNew, St.free, freeH, AV.refsL, AV.refs]); intro R hR))))
  refine evC_loop (α := { p : Nat × List Ac // p.1 ≤ D.length ∧ Okl p.2 ∧ fewL p.2 = p.2 }) (fun p => ⟨[.any, dol e D, .any, .any, vb false, .ptr 5 0, .any, .any, .any, .any, .any, .any, .any, .any, .any, .any, .any, dol e D, vi .i64 D.length, vi .i64 (p.1.1 : Int), .any, .any, .any, .any, .any, .any, .any, .any, .any, .any, .any, .any, .any, .any, .any, .any, .any, .any, .any, .any, .any, .any, .any, .any, .any, .any, .any, .any, .any, .any, .any, .any, .any, .any, .any, .any, .any, .any, .any, .any, .any], [(5, [acS false p.1.2])]⟩) (fun p => D.length - p.1.1) ⟨(0, A0), Nat.zero_le _, k0, i0⟩ (St.le_of (by simp [leT]) (by simp [leH, hget])) ?_
  clear f0 k0 i0
  rintro ⟨⟨i, A⟩, hi, kA, iA⟩ J hJ hJ'
  (try dsimp only at hi kA iA hJ ⊢)
  by_cases hge : D.length ≤ i
  · have k1 : (decide ((i : Int) < (D.length : Int))) = false := decide_eq_false (by omega)
    (repeat (any_goals (first | ((with_reducible refine evL_one ?_ ?_); rfl; intro K hK; simp only [go_sem, k1]; ((repeat (refine ndI (by first | assumption | omega | rfl) ?_)); refine hK _ ?_; clear hK K)) | (with_reducible first | (refine evL_nil ?_; refine hR _ ?_; clear hR R) | ((first | refine evC_seq ?_ | refine evC_block ?_); intro J hJ hJ') | (refine evC_region ?_; intro R hR) | (refine hJ _ ?_; clear hJ hJ' J) | refine evC_skip ?_ | refine evC_ret ?_ | refine evC_exit ?_) | ((with_reducible refine hJ' _ _ ?_ ?_); (focus (simp; done)); clear hJ hJ' J) | ((with_reducible apply evL_unmet); rfl; rfl; rfl; (try simp only [go_sem, k1])) | ((with_reducible apply evL_grd); rfl; rfl; rfl; all_goals (intro hb; first | (cases hb; done) | ((try simp only [Bool.not_true, Bool.not_false] at hb); (first | ((with_reducible intro K hK); simp only [go_sem, k1]; ((repeat (refine ndI (by first | assumption | omega | rfl) ?_)); refine hK _ ?_; clear hK K)) | ((fail_if_success (with_reducible intro _)); simp only [go_sem, k1]))))) | ((with_reducible apply evC_cond); rfl; rfl; all_goals (intro hc; first | (cases hc; done) | (try simp only at hc))) | ((with_reducible refine evD_nil ?_ ?_); kernel_rfl; (with_reducible refine hR _ ?_); clear hR R) | ((first | ((with_reducible apply evD_any); rfl; rfl; (simp only [rdE, rdOf, go_sem, k1]; rfl); (intro τ hA hQ hN; ((try simp only [agree, Op.operands, Call.operands, go_sem, k1, go_sem, List.mem_cons, List.not_mem_nil, forall_eq_or_imp, forall_eq, List.append_toArray, Option.toArray] at hA); (try simp only [go_sem, k1, List.mem_cons, List.not_mem_nil, forall_eq_or_imp, forall_eq] at hQ hN); (first | (revert hA; intro hA) | have hA := trivial); (first | (revert hQ; intro hQ) | have hQ := trivial); (first | (revert hN; intro hN) | have hN := trivial); simp only [go_sem, k1, go_sem, hA, hQ, hN]; (repeat (refine ndI (by first | assumption | omega | rfl) ?_)); (first | apply eff_rd | apply eff_st | apply eff_nw)))) | ((first | ((with_reducible apply evD_new); rfl; rfl; rfl) | ((with_reducible apply evD_grd_new); rfl; rfl; rfl; rfl; rfl; rfl)); (intro τ hA hQ hN; ((try simp only [agree, Op.operands, Call.operands, go_sem, k1, go_sem, List.mem_cons, List.not_mem_nil, forall_eq_or_imp, forall_eq, List.append_toArray, Option.toArray] at hA); (try simp only [go_sem, k1, List.mem_cons, List.not_mem_nil, forall_eq_or_imp, forall_eq] at hQ); (first | (revert hA; intro hA) | have hA := trivial); (first | (revert hQ; intro hQ) | have hQ := trivial); simp only [go_sem, k1, go_sem, hA, hQ, hN]; (repeat (refine ndI (by first | assumption | omega | rfl) ?_)); exact eff_nw _ _ _ _)))); (simp only [St.eff, setO, hputs, go_sem, k1])) | ((with_reducible refine evC_draw ?_ ?_ ?_ ?_); kernel_rfl; kernel_rfl; (first | kernel_rfl | simp [newNames, isNew, St.free, freeH, AV.refsL, AV.refs]); intro R hR))))
    all_goals (refine ⟨by simp, ⟨_, ?_, AV.le_refl _⟩, leH_get (by simp [leH, hget])⟩; simp only [Try.results4, resL, ldA, oneOf, go_sem])
  have hlt : i < D.length := by omega
  obtain ⟨o, ho⟩ : ∃ d, D[i]? = some d := ⟨_, List.getElem?_eq_getElem hlt⟩
  have oo := oD o (List.mem_of_getElem? ho)
  have k1 : (decide ((i : Int) < (D.length : Int))) = true := decide_eq_true (by omega)
  have k2 := do_at ho
  have k7 : (i : Int) + 1 = ((i + 1 : Nat) : Int) := by omega
  have k3 := beqI (i : Int) 25
  by_cases h25 : (i : Int) = 25
  · rw [decide_eq_true h25] at k3
    (have W := ndI k1 (ndI k2 k3); (repeat (any_goals (first | ((with_reducible refine evL_one ?_ ?_); rfl; intro K hK; simp (disch := omega) only [go_sem, W]; ((repeat (refine ndI (by first | assumption | omega | rfl) ?_)); refine hK _ ?_; clear hK K)) | (with_reducible first | (refine evL_nil ?_; refine hR _ ?_; clear hR R) | ((first | refine evC_seq ?_ | refine evC_block ?_); intro J hJ hJ') | (refine evC_region ?_; intro R hR) | (refine hJ _ ?_; clear hJ hJ' J) | refine evC_skip ?_ | refine evC_ret ?_ | refine evC_exit ?_) | ((with_reducible refine hJ' _ _ ?_ ?_); (focus (simp; done)); clear hJ hJ' J) | ((with_reducible apply evL_unmet); rfl; rfl; rfl; (try simp (disch := omega) only [go_sem, W])) | ((with_reducible apply evL_grd); rfl; rfl; rfl; all_goals (intro hb; first | (cases hb; done) | ((try simp only [Bool.not_true, Bool.not_false] at hb); (first | ((with_reducible intro K hK); simp (disch := omega) only [go_sem, W]; ((repeat (refine ndI (by first | assumption | omega | rfl) ?_)); refine hK _ ?_; clear hK K)) | ((fail_if_success (with_reducible intro _)); simp (disch := omega) only [go_sem, W]))))) | ((with_reducible apply evC_cond); rfl; rfl; all_goals (intro hc; first | (cases hc; done) | (try simp only at hc))) | ((with_reducible refine evD_nil ?_ ?_); kernel_rfl; (with_reducible refine hR _ ?_); clear hR R) | ((first | ((with_reducible apply evD_any); rfl; rfl; (simp (disch := omega) only [rdE, rdOf, go_sem, W]; rfl); (intro τ hA hQ hN; ((try simp only [agree, Op.operands, Call.operands, go_sem, W, go_sem, List.mem_cons, List.not_mem_nil, forall_eq_or_imp, forall_eq, List.append_toArray, Option.toArray] at hA); (try simp only [go_sem, W, List.mem_cons, List.not_mem_nil, forall_eq_or_imp, forall_eq] at hQ hN); (first | (revert hA; intro hA) | have hA := trivial); (first | (revert hQ; intro hQ) | have hQ := trivial); (first | (revert hN; intro hN) | have hN := trivial); simp (disch := omega) only [go_sem, W, go_sem, hA, hQ, hN]; (repeat (refine ndI (by first | assumption | omega | rfl) ?_)); (first | apply eff_rd | apply eff_st | apply eff_nw)))) | ((first | ((with_reducible apply evD_new); rfl; rfl; rfl) | ((with_reducible apply evD_grd_new); rfl; rfl; rfl; rfl; rfl; rfl)); (intro τ hA hQ hN; ((try simp (disch := omega) only [agree, Op.operands, Call.operands, go_sem, W, go_sem, List.mem_cons, List.not_mem_nil, forall_eq_or_imp, forall_eq, List.append_toArray, Option.toArray] at hA); (try simp (disch := omega) only [go_sem, W, List.mem_cons, List.not_mem_nil, forall_eq_or_imp, forall_eq] at hQ); (first | (revert hA; intro hA) | have hA := trivial); (first | (revert hQ; intro hQ) | have hQ := trivial); simp (disch := omega) only [go_sem, W, go_sem, hA, hQ, hN]; (repeat (refine ndI (by first | assumption | omega | rfl) ?_)); exact eff_nw _ _ _ _)))); (simp (disch := omega) only [St.eff, setO, hputs, go_sem, W])) | ((with_reducible refine evC_draw ?_ ?_ ?_ ?_); kernel_rfl; kernel_rfl; (first | kernel_rfl | simp [newNames, isNew, St.free, freeH, AV.refsL, AV.refs]); intro R hR)))))
    all_goals (refine ⟨by simp, ⟨_, ?_, AV.le_refl _⟩, leH_get (by simp [leH, hget])⟩; simp only [Try.results4, resL, ldA, oneOf, go_sem])
  rw [decide_eq_false h25] at k3
  have oA : ∀ x ∈ A, x.ok := fun x hx => (kA.2 x hx).1
  have lA : A.length ≤ maxLen := by have := kA.1; unfold maxLen; omega
  have f1 := few_fn false A lA fun x hx => ⟨(oA x hx).2.2.2.2.1, (oA x hx).2.2.2.1.1⟩
  rw [iA] at f1
  have rn := run_fn false A kA o oo
  have wn := wants_fn false A kA o oo
  have s2 := rsame_fn false false A A lA lA oA oA
  rw [decide_eq_true rfl] at s2
  have gd := gd_do kA oo
  generalize doS A o = r at rn wn gd
  obtain ⟨R, er⟩ := r
  obtain ⟨g1, g2⟩ := gd
  dsimp only at g1 g2
  have oR : ∀ x ∈ R, x.ok := fun x hx => (g2 x hx).1
  have lR : R.length ≤ maxLen := by unfold maxLen; omega
  have s1 := rsame_fn false false R R lR lR oR oR
  rw [decide_eq_true rfl] at s1
  have f3 := few_fn false R lR fun x hx => ⟨(oR x hx).2.2.2.2.1, (oR x hx).2.2.2.1.1⟩
  have kR := okl_few oR
  have iR := fewL_idem R
  generalize fewL R = B at f3 kR iR
  have n1 := beqI er 0
  obtain ⟨kind, oa, ob, on, ⟨pk, pv⟩, ⟨xa, xb, xn, xc, xs⟩⟩ := o
  dsimp only at k2
  by_cases h0 : er = 0
  · rw [decide_eq_true h0] at n1
    (have W := ndI k1 (ndI k2 (ndI k3 (ndI k7 (ndI n1 @wrI)))); (repeat (any_goals (first | ((with_reducible refine evL_call ?_ ?_ ?_); rfl; rfl; intro K hK; (first | ((apply opA_callB (rn); rfl; rfl; rfl; rfl; exact Try.func14); kernel_rfl; rfl; (simp (disch := omega) only [go_sem, W]; rfl); (first | rfl | simp [AV.inNL, AV.inN])) | ((apply opA_callB (f1); rfl; rfl; rfl; rfl; exact Try.func13); kernel_rfl; rfl; (simp (disch := omega) only [go_sem, W]; rfl); (first | rfl | simp [AV.inNL, AV.inN])) | ((apply opA_callB (f3); rfl; rfl; rfl; rfl; exact Try.func13); kernel_rfl; rfl; (simp (disch := omega) only [go_sem, W]; rfl); (first | rfl | simp [AV.inNL, AV.inN]))); (simp (disch := omega) only [go_sem, W]; refine hK _ ?_; clear hK K)) | ((with_reducible refine evL_one ?_ ?_); rfl; intro K hK; simp (disch := omega) only [go_sem, W]; ((repeat (refine ndI (by first | assumption | omega | rfl) ?_)); refine hK _ ?_; clear hK K)) | (with_reducible first | (refine evL_nil ?_; refine hR _ ?_; clear hR R) | ((first | refine evC_seq ?_ | refine evC_block ?_); intro J hJ hJ') | (refine evC_region ?_; intro R hR) | (refine hJ _ ?_; clear hJ hJ' J) | refine evC_skip ?_ | refine evC_ret ?_ | refine evC_exit ?_) | ((with_reducible refine hJ' _ _ ?_ ?_); (focus (simp; done)); clear hJ hJ' J) | ((with_reducible apply evL_unmet); rfl; rfl; rfl; (try simp (disch := omega) only [go_sem, W])) | ((with_reducible apply evL_grd); rfl; rfl; rfl; all_goals (intro hb; first | (cases hb; done) | ((try simp only [Bool.not_true, Bool.not_false] at hb); (first | ((with_reducible intro K hK); (first | ((apply opA_callB (s1); rfl; rfl; rfl; rfl; exact Try.func16); kernel_rfl; rfl; (simp (disch := omega) only [go_sem, W]; rfl); (first | rfl | simp [AV.inNL, AV.inN])) | ((apply opA_callB (s2); rfl; rfl; rfl; rfl; exact Try.func16); kernel_rfl; rfl; (simp (disch := omega) only [go_sem, W]; rfl); (first | rfl | simp [AV.inNL, AV.inN])) | skip); simp (disch := omega) only [go_sem, W]; ((repeat (refine ndI (by first | assumption | omega | rfl) ?_)); refine hK _ ?_; clear hK K)) | ((fail_if_success (with_reducible intro _)); simp (disch := omega) only [go_sem, W]))))) | ((with_reducible apply evC_cond); rfl; rfl; all_goals (intro hc; first | (cases hc; done) | (try simp only at hc))) | ((with_reducible refine evD_nil ?_ ?_); kernel_rfl; (with_reducible refine hR _ ?_); clear hR R) | ((first | ((with_reducible apply evD_fcall); rfl; rfl; (first | ((apply opF_callB (wn); rfl; rfl; rfl; rfl; exact Try.func15); kernel_rfl; rfl; (simp (disch := omega) only [go_sem, W]; rfl); (first | rfl | simp [AV.inNL, AV.inN])) | ((apply opF_callB (f1); rfl; rfl; rfl; rfl; exact Try.func13); kernel_rfl; rfl; (simp (disch := omega) only [go_sem, W]; rfl); (first | rfl | simp [AV.inNL, AV.inN])) | ((apply opF_callB (f3); rfl; rfl; rfl; rfl; exact Try.func13); kernel_rfl; rfl; (simp (disch := omega) only [go_sem, W]; rfl); (first | rfl | simp [AV.inNL, AV.inN])))) | ((with_reducible apply evD_any); rfl; rfl; (simp (disch := omega) only [rdE, rdOf, go_sem, W]; rfl); (intro τ hA hQ hN; ((try simp only [agree, Op.operands, Call.operands, go_sem, W, go_sem, List.mem_cons, List.not_mem_nil, forall_eq_or_imp, forall_eq, List.append_toArray, Option.toArray] at hA); (try simp only [go_sem, W, List.mem_cons, List.not_mem_nil, forall_eq_or_imp, forall_eq] at hQ hN); (first | (revert hA; intro hA) | have hA := trivial); (first | (revert hQ; intro hQ) | have hQ := trivial); (first | (revert hN; intro hN) | have hN := trivial); simp (disch := omega) only [go_sem, W, go_sem, hA, hQ, hN]; (repeat (refine ndI (by first | assumption | omega | rfl) ?_)); (first | apply eff_rd | apply eff_st | apply eff_nw)))) | ((first | ((with_reducible apply evD_new); rfl; rfl; rfl) | ((with_reducible apply evD_grd_new); rfl; rfl; rfl; rfl; rfl; rfl)); (intro τ hA hQ hN; ((try simp (disch := omega) only [agree, Op.operands, Call.operands, go_sem, W, go_sem, List.mem_cons, List.not_mem_nil, forall_eq_or_imp, forall_eq, List.append_toArray, Option.toArray] at hA); (try simp (disch := omega) only [go_sem, W, List.mem_cons, List.not_mem_nil, forall_eq_or_imp, forall_eq] at hQ); (first | (revert hA; intro hA) | have hA := trivial); (first | (revert hQ; intro hQ) | have hQ := trivial); simp (disch := omega) only [go_sem, W, go_sem, hA, hQ, hN]; (repeat (refine ndI (by first | assumption | omega | rfl) ?_)); exact eff_nw _ _ _ _)))); (simp (disch := omega) only [St.eff, setO, hputs, go_sem, W])) | ((with_reducible refine evC_draw ?_ ?_ ?_ ?_); kernel_rfl; kernel_rfl; (first | kernel_rfl | simp [newNames, isNew, St.free, freeH, AV.refsL, AV.refs]); intro R hR)))))
    all_goals exact hJ _ ⟨(i + 1, B), hlt, kR, iR⟩ (by dsimp only; omega) (St.le_of (by simp [leT]) (by simp [leH, hget]))
  · rw [decide_eq_false h0] at n1
    (have W := ndI k1 (ndI k2 (ndI k3 (ndI k7 (ndI n1 @wrI)))); (repeat (any_goals (first | ((with_reducible refine evL_call ?_ ?_ ?_); rfl; rfl; intro K hK; ((first | (apply opA_callB (f1); rfl; rfl; rfl; rfl; exact Try.func13) | (apply opA_callB (rn); rfl; rfl; rfl; rfl; exact Try.func14)); kernel_rfl; rfl; (simp (disch := omega) only [go_sem, W]; rfl); (first | rfl | simp [AV.inNL, AV.inN])); (simp (disch := omega) only [go_sem, W]; refine hK _ ?_; clear hK K)) | ((with_reducible refine evL_one ?_ ?_); rfl; intro K hK; simp (disch := omega) only [go_sem, W]; ((repeat (refine ndI (by first | assumption | omega | rfl) ?_)); refine hK _ ?_; clear hK K)) | (with_reducible first | (refine evL_nil ?_; refine hR _ ?_; clear hR R) | ((first | refine evC_seq ?_ | refine evC_block ?_); intro J hJ hJ') | (refine evC_region ?_; intro R hR) | (refine hJ _ ?_; clear hJ hJ' J) | refine evC_skip ?_ | refine evC_ret ?_ | refine evC_exit ?_) | ((with_reducible refine hJ' _ _ ?_ ?_); (focus (simp; done)); clear hJ hJ' J) | ((with_reducible apply evL_unmet); rfl; rfl; rfl; (try simp (disch := omega) only [go_sem, W])) | ((with_reducible apply evL_grd); rfl; rfl; rfl; all_goals (intro hb; first | (cases hb; done) | ((try simp only [Bool.not_true, Bool.not_false] at hb); (first | ((with_reducible intro K hK); (first | ((apply opA_callB (s1); rfl; rfl; rfl; rfl; exact Try.func16); kernel_rfl; rfl; (simp (disch := omega) only [go_sem, W]; rfl); (first | rfl | simp [AV.inNL, AV.inN])) | ((apply opA_callB (s2); rfl; rfl; rfl; rfl; exact Try.func16); kernel_rfl; rfl; (simp (disch := omega) only [go_sem, W]; rfl); (first | rfl | simp [AV.inNL, AV.inN])) | skip); simp (disch := omega) only [go_sem, W]; ((repeat (refine ndI (by first | assumption | omega | rfl) ?_)); refine hK _ ?_; clear hK K)) | ((fail_if_success (with_reducible intro _)); simp (disch := omega) only [go_sem, W]))))) | ((with_reducible apply evC_cond); rfl; rfl; all_goals (intro hc; first | (cases hc; done) | (try simp only at hc))) | ((with_reducible refine evD_nil ?_ ?_); kernel_rfl; (with_reducible refine hR _ ?_); clear hR R) | ((first | ((with_reducible apply evD_fcall); rfl; rfl; ((first | (apply opF_callB (f1); rfl; rfl; rfl; rfl; exact Try.func13) | (apply opF_callB (wn); rfl; rfl; rfl; rfl; exact Try.func15)); kernel_rfl; rfl; (simp (disch := omega) only [go_sem, W]; rfl); (first | rfl | simp [AV.inNL, AV.inN]))) | ((with_reducible apply evD_any); rfl; rfl; (simp (disch := omega) only [rdE, rdOf, go_sem, W]; rfl); (intro τ hA hQ hN; ((try simp only [agree, Op.operands, Call.operands, go_sem, W, go_sem, List.mem_cons, List.not_mem_nil, forall_eq_or_imp, forall_eq, List.append_toArray, Option.toArray] at hA); (try simp only [go_sem, W, List.mem_cons, List.not_mem_nil, forall_eq_or_imp, forall_eq] at hQ hN); (first | (revert hA; intro hA) | have hA := trivial); (first | (revert hQ; intro hQ) | have hQ := trivial); (first | (revert hN; intro hN) | have hN := trivial); simp (disch := omega) only [go_sem, W, go_sem, hA, hQ, hN]; (repeat (refine ndI (by first | assumption | omega | rfl) ?_)); (first | apply eff_rd | apply eff_st | apply eff_nw)))) | ((first | ((with_reducible apply evD_new); rfl; rfl; rfl) | ((with_reducible apply evD_grd_new); rfl; rfl; rfl; rfl; rfl; rfl)); (intro τ hA hQ hN; ((try simp (disch := omega) only [agree, Op.operands, Call.operands, go_sem, W, go_sem, List.mem_cons, List.not_mem_nil, forall_eq_or_imp, forall_eq, List.append_toArray, Option.toArray] at hA); (try simp (disch := omega) only [go_sem, W, List.mem_cons, List.not_mem_nil, forall_eq_or_imp, forall_eq] at hQ); (first | (revert hA; intro hA) | have hA := trivial); (first | (revert hQ; intro hQ) | have hQ := trivial); simp (disch := omega) only [go_sem, W, go_sem, hA, hQ, hN]; (repeat (refine ndI (by first | assumption | omega | rfl) ?_)); exact eff_nw _ _ _ _)))); (simp (disch := omega) only [St.eff, setO, hputs, go_sem, W])) | ((with_reducible refine evC_draw ?_ ?_ ?_ ?_); kernel_rfl; kernel_rfl; (first | kernel_rfl | simp [newNames, isNew, St.free, freeH, AV.refsL, AV.refs]); intro R hR)))))
    all_goals exact hJ _ ⟨(i + 1, A), hlt, kA, iA⟩ (by dsimp only; omega) (St.le_of (by simp [leT]) (by simp [leH, hget]))
theorem decV_dos : DecV Try.prog 39 1 (fun l : List Do => [PV.sl false 23 l.length (l.flatMap Do.pv)]) (fun l => l.length ≤ maxLen ∧ ∀ a ∈ l, a.ok) :=
  decV_slice Try.underlying39 (by kernel_rfl) decV_do (by omega) do_len
end Go.Proofs.Ytiggambibcohcaa
namespace Go.Proofs.Ytiggambibcohcaa.stateDoesDone
open Go.RowKit Go.ChangeShapes Go.WideShapes Go.ChangeAt

theorem own : ownKnob Try.prog.godebug = none := by kernel_rfl
theorem laidOut : laidOutB Try.prog = true := by kernel_rfl
theorem reads : ∀ t ∈ Try.f4.params.toList, Try.prog.readableRec t = true ∧ t < Try.prog.types.size := by
  rw [Try.params4]
  intro t ht
  simp only [List.mem_cons, List.not_mem_nil, or_false] at ht
  rcases ht with rfl | rfl
  · exact ⟨by kernel_rfl, of_decide_eq_true (by kernel_rfl)⟩
  · exact ⟨by kernel_rfl, of_decide_eq_true (by kernel_rfl)⟩

set_option maxRecDepth 100000 in
theorem lifted (os : Os) (started : os.Started) (H : Type) (enc : TypeId × Value → H) :
    ReturnsInHanded {} Try.checked os 4 .any (Rows.stateDoesSpec.pre6 enc Try.prog Try.f4 Rows.stateDoesRow.domain false) (Rows.stateDoesSpec.post enc Try.prog Try.f4 false true false false) := by
  refine returnsInHanded_of_change (C := Try.checked) own started (by kernel_rfl) Try.func4
    (ChangeSpec.witness6 (enc := enc) (C := Try.checked) false ⟨#[], #[.agg #[.slice none 0 0], .slice none 0 0], []⟩ 8 (by kernel_rfl) (by kernel_rfl) (by kernel_rfl) (by kernel_rfl)) ?_
  intro W base args ds gs before hval0 hW hcnd _
  have hval : ∀ (j : Nat) t v, Try.f4.params[j]? = some t → args[j]? = some v → Value.okWide Try.prog W .any base t v := hval0
  refine law_post (P := Try.prog) laidOut rfl Try.underlying4 rfl reads (fun ds hds => by
    match ds, hds with
    | [d1, d2], _ => rfl) hW ?_
  obtain ⟨p, q, hA0, hV, rfl, hfz, hnd⟩ := hW
  have hA : DataW.TrodAll enc Try.prog W 0 (fun _ => true) true Try.f4.params.toList args.toList ds p := hA0
  rw [Try.params4] at hA hval
  obtain ⟨v0, vs0, d0, ds0, p0, q0, hargs, rfl, rfl, h0, r0⟩ := trodAll_cons hA
  obtain ⟨v1, vs1, d1, ds1, p1, q1, rfl, rfl, rfl, h1, r1⟩ := trodAll_cons r0
  obtain ⟨rfl, rfl, rfl⟩ := trodAll_nil r1
  obtain rfl : args = #[v0, v1] := by cases args; simp_all
  obtain ⟨cs0, rfl⟩ := okWide_struct Try.underlying38 (hval 0 38 v0 rfl rfl)
  obtain ⟨l0, hr0, hg0⟩ := open_VA decV_state h0 (fun _ => (0, 0, 0))
  obtain ⟨a1, n1, c1, rfl⟩ := okWide_slice Try.underlying39 (hval 1 39 v1 rfl rfl)
  obtain ⟨l1, hr1, hg1⟩ := open_V decV_dos rfl h1 (fun _ => (0, 0, 0))
  exact Fn.law (does_law false false _ hg0.1 hg0.2 _ hg1.1 hg1.2) (vs := [_, _]) rfl fun j v x hj hx => by
    rcases j with _ | _ | j
    · cases hj; cases hx; exact hr0
    · cases hj; cases hx; exact hr1
    · simp at hj

theorem over : Rows.stateDoesRow.holds Try.pinned (OpenSpec.ofChange Rows.stateDoesSpec) :=
  OpenClaim.holds_of_wide 4 Try.f4 rfl rfl rfl rfl rfl rfl rfl ⟨rfl, rfl, rfl, rfl, rfl⟩ rfl rfl rfl rfl rfl (by kernel_rfl) Try.func4 (by kernel_rfl)
    (of_decide_eq_true (by kernel_rfl)) (by unfold Func.isWrapper; first | (rw [if_pos (by decide +kernel)]; kernel_rfl) | (rw [if_neg (by decide +kernel)]; exact ⟨rfl, rfl⟩))
    (fun os started H enc _ => lifted os started H enc)

theorem proved : Rows.StateDoesSaid := over
end Go.Proofs.Ytiggambibcohcaa.stateDoesDone
