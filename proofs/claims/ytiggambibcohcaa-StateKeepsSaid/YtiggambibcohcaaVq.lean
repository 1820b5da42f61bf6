/-
  An account put, of which the rows are lent; reckoned.
-/
import Derived.Test.YtiggambibcohcaaVp
import Derived.Test.YtiggambibcohcaaVj
namespace Go.Proofs.Ytiggambibcohcaa
open Go.RowKit
open Nat (reduceBEq)
set_option linter.unusedVariables false
set_option linter.unusedSimpArgs false
set_option maxRecDepth 20000
set_option maxHeartbeats 2000000
theorem put_lent (ex : Bool) (L : List Ac) (hL : Okl L) (x : Ac) (hx : Okx x) (xb xs : List AV) (hxb : xb = (x.code.flatMap bpv).map .c) (hxs : xs = (x.store.flatMap Pr.pv).map .c) : Fn Try.prog 66 [stA ex L, acR x 1000 1001] [(1000, xb), (1001, xs)] (resS (putS L x)) [(1000, xb), (1001, xs)] := by
  obtain ⟨h1, h2⟩ := hL
  obtain ⟨⟨u1, u2, u3, ⟨u4, u5⟩, u6, u7⟩, g1, g2⟩ := hx
  have ck := check_fn x u7 u6 u4
  have em := empty_fn x u2 u6 u4 (Nat.le_trans (Nat.add_le_add g1 g2) (by decide))
  have rm := room_fn ex L (by omega) x.a
  have ly := lays_lent ex L (by omega) (fun y hy => ⟨(h2 y hy).2.1, (h2 y hy).2.2⟩) x ⟨u2, g1, g2⟩ xb xs hxb hxs
  have hlen := laysL_len L x
  have tn := total_nil false (laysL L x) (by omega) fun y hy => by
    rcases laysL_mem hy with rfl | h
    · exact u2
    · exact (h2 y h).1.2.1
  have v1 : unC xb = some (x.code.flatMap bpv) := by rw [hxb]; exact unC_map _
  have v2 : unC xs = some (x.store.flatMap Pr.pv) := by rw [hxs]; exact unC_map _
  have d1 : (x.code.flatMap bpv).length = x.code.length * 1 := flat_length bpv_len _
  have d2 : (x.store.flatMap Pr.pv).length = x.store.length * 8 := flat_length pr_len _
  have a1 : ∀ d, AV.refsL d xb = false := fun d => by rw [hxb]; exact refsL_map d _
  have a2 : ∀ d, AV.refsL d xs = false := fun d => by rw [hxs]; exact refsL_map d _
  have w1 : ∀ f, AV.renL f xb = xb := fun f => by rw [hxb]; exact renL_map f _
  have w2 : ∀ f, AV.renL f xs = xs := fun f => by rw [hxs]; exact renL_map f _
  have y1 : ∀ N, AV.inNL N xb = true := fun N => by rw [hxb]; exact inNL_map N _
  have y2 : ∀ N, AV.inNL N xs = true := fun N => by rw [hxs]; exact inNL_map N _
  unfold putS
  generalize laysL L x = R at ly tn ⊢
  by_cases hq : WW ≤ (R.map Ac.b).sum
  case' pos => rw [decide_eq_true hq] at tn; rw [if_pos hq]
  case' neg => rw [decide_eq_false hq] at tn; rw [if_neg hq]
  all_goals generalize okAc x = q1 at ck ⊢
  all_goals generalize emptyA x = q2 at em ⊢
  all_goals generalize roomS L x.a = q3 at rm ⊢
  all_goals generalize (R.map Ac.b).sum % WW = m at tn
  all_goals cases q1 <;> cases q2 <;> cases q3
  all_goals simp only [Bool.false_eq_true, if_true, if_false] at ck
  all_goals (refine fn_of Try.func66 rfl (by rfl) ?_; simp only [Try.ntmps66, List.length_cons, List.length_nil, Nat.reduceAdd, Nat.reduceSub, List.replicate, List.cons_append, List.nil_append])
  all_goals (have W := ndI a1 (ndI a2 (ndI w1 (ndI w2 (ndI y1 (ndI y2 (ndI v1 (ndI v2 (ndI d1 d2)))))))); (repeat (any_goals (first | ((with_reducible refine evL_call ?_ ?_ ?_); rfl; rfl; intro K hK; (first | ((apply opA_callB (tn); rfl; rfl; rfl; rfl; exact Try.func46); kernel_rfl; rfl; (simp only [go_sem, W]; rfl); (first | rfl | simp [AV.inNL, AV.inN])) | ((first | (apply opA_callv (ck); rfl; rfl; rfl; rfl; exact Try.func12) | (apply opA_callv (em); rfl; rfl; rfl; rfl; exact Try.func48)); kernel_rfl; rfl; (focus ((simp only [AV.viewL, AV.view, viewRow, unC, Option.map_some, go_sem, W]); (try rfl))); rfl) | (apply opA_callR (ly) (fun r => r); rfl; rfl; rfl; rfl; exact Try.func64; kernel_rfl; rfl; rfl; (intro r hr q hq h; simp only [List.map_cons, List.map_nil, List.cons_append, List.nil_append, List.mem_cons, List.not_mem_nil, or_false] at hr hq; (try dsimp only at h); first | omega | (rcases hr with rfl | rfl | rfl <;> rcases hq with rfl | rfl | rfl <;> simp at h ⊢) | (rcases hr with rfl | rfl <;> rcases hq with rfl | rfl <;> simp at h ⊢) | ((repeat' split at h) <;> omega)); (simp only [argsOk, argOk, AV.ren, AV.renL, renL_map, List.mem_cons, List.not_mem_nil, forall_eq_or_imp, forall_eq, newOk, List.contains_cons, List.contains_nil, AV.refsL, AV.refs, refsL_map, AV.inN, AV.inNL, inH, inNL_map, go_sem, W]))); (simp only [hputs, hdels, renH, AV.ren, AV.renL, renL_map, go_sem, W]; refine hK _ ?_; clear hK K)) | ((with_reducible refine evL_one ?_ ?_); rfl; intro K hK; simp only [go_sem, W]; ((repeat (refine ndI (by first | assumption | omega | rfl) ?_)); refine hK _ ?_; clear hK K)) | (with_reducible first | (refine evL_nil ?_; refine hR _ ?_; clear hR R) | ((first | refine evC_seq ?_ | refine evC_block ?_); intro Ψ hΨ hΨ') | (refine evC_region ?_; intro R hR) | (refine hΨ _ ?_; clear hΨ hΨ' Ψ) | refine evC_skip ?_ | refine evC_ret ?_ | refine evC_exit ?_) | ((with_reducible refine hΨ' _ _ ?_ ?_); (focus (simp; done)); clear hΨ hΨ' Ψ) | ((with_reducible apply evL_unmet); rfl; rfl; rfl; (try simp only [go_sem, W])) | ((with_reducible apply evL_grd); rfl; rfl; rfl; all_goals (intro hb; first | (cases hb; done) | ((try simp only [Bool.not_true, Bool.not_false] at hb); (first | ((with_reducible intro K hK); (first | ((apply opA_callB (rm); rfl; rfl; rfl; rfl; exact Try.func60); kernel_rfl; rfl; (simp only [go_sem, W]; rfl); (first | rfl | simp [AV.inNL, AV.inN])) | skip); simp only [go_sem, W]; ((repeat (refine ndI (by first | assumption | omega | rfl) ?_)); refine hK _ ?_; clear hK K)) | ((fail_if_success (with_reducible intro _)); simp only [go_sem, W]))))) | ((with_reducible apply evC_cond); rfl; rfl; all_goals (intro hc; first | (cases hc; done) | (try simp only at hc)))))))
  all_goals first
    | exact ⟨by simp, ⟨_, rfl, nilRes _⟩, leH_get (by simp [leH, hget])⟩
    | ((refine ⟨by simp, ⟨_, ?_, AV.le_refl _⟩, leH_get (by simp [leH, hget])⟩; simp only [Try.results66, resL, ldA, oneOf, go_sem]); done)
    | ((refine ⟨by simp, ⟨_, ?_, AV.le_refl _⟩, leH_get (by simp [leH, hget])⟩; simp only [Try.results66, resL, ldA, oneOf, go_sem]); rfl)
theorem putX_lent (ex : Bool) (L : List Ac) (hL : Okl L) (x : Ac) (hx : Okx x) (xb xs : List AV) (hxb : xb = (x.code.flatMap bpv).map .c) (hxs : xs = (x.store.flatMap Pr.pv).map .c) : Fn Try.prog 39 [stA ex L, acR x 1000 1001] [(1000, xb), (1001, xs)] (resS (if okSt L then putS L x else ([], 160))) [(1000, xb), (1001, xs)] := by
  have ck := checkS_fn ex L (by have := hL.1; omega) (okl_fine hL)
  have pt := put_lent ex L hL x hx xb xs hxb hxs
  have a1 : ∀ d, AV.refsL d xb = false := fun d => by rw [hxb]; exact refsL_map d _
  have a2 : ∀ d, AV.refsL d xs = false := fun d => by rw [hxs]; exact refsL_map d _
  have w1 : ∀ f, AV.renL f xb = xb := fun f => by rw [hxb]; exact renL_map f _
  have w2 : ∀ f, AV.renL f xs = xs := fun f => by rw [hxs]; exact renL_map f _
  have y1 : ∀ N, AV.inNL N xb = true := fun N => by rw [hxb]; exact inNL_map N _
  have y2 : ∀ N, AV.inNL N xs = true := fun N => by rw [hxs]; exact inNL_map N _
  generalize putS L x = r at pt ⊢
  obtain ⟨R, e⟩ := r
  cases h : okSt L
  all_goals rw [h] at ck
  all_goals simp only [Bool.false_eq_true, if_true, if_false] at ck ⊢
  all_goals (refine fn_of Try.func39 rfl (by rfl) ?_; simp only [Try.ntmps39, List.length_cons, List.length_nil, Nat.reduceAdd, Nat.reduceSub, List.replicate, List.cons_append, List.nil_append])
  all_goals (have W := ndI a1 (ndI a2 (ndI w1 (ndI w2 (ndI y1 y2)))); (repeat (any_goals (first | ((with_reducible refine evL_call ?_ ?_ ?_); rfl; rfl; intro K hK; (first | ((apply opA_callB (ck); rfl; rfl; rfl; rfl; exact Try.func17); kernel_rfl; rfl; (simp only [go_sem, W]; rfl); (first | rfl | simp [AV.inNL, AV.inN])) | (apply opA_callR (pt) (fun r => r); rfl; rfl; rfl; rfl; exact Try.func66; kernel_rfl; rfl; rfl; (intro r hr q hq h; simp only [List.map_cons, List.map_nil, List.cons_append, List.nil_append, List.mem_cons, List.not_mem_nil, or_false] at hr hq; (try dsimp only at h); first | omega | (rcases hr with rfl | rfl | rfl <;> rcases hq with rfl | rfl | rfl <;> simp at h ⊢) | (rcases hr with rfl | rfl <;> rcases hq with rfl | rfl <;> simp at h ⊢) | ((repeat' split at h) <;> omega)); (simp only [argsOk, argOk, AV.ren, AV.renL, renL_map, List.mem_cons, List.not_mem_nil, forall_eq_or_imp, forall_eq, newOk, List.contains_cons, List.contains_nil, AV.refsL, AV.refs, refsL_map, AV.inN, AV.inNL, inH, inNL_map, go_sem, W]))); (simp only [hputs, hdels, renH, AV.ren, AV.renL, renL_map, go_sem, W]; refine hK _ ?_; clear hK K)) | ((with_reducible refine evL_one ?_ ?_); rfl; intro K hK; simp only [go_sem, W]; ((repeat (refine ndI (by first | assumption | omega | rfl) ?_)); refine hK _ ?_; clear hK K)) | (with_reducible first | (refine evL_nil ?_; refine hR _ ?_; clear hR R) | ((first | refine evC_seq ?_ | refine evC_block ?_); intro Ψ hΨ hΨ') | (refine evC_region ?_; intro R hR) | (refine hΨ _ ?_; clear hΨ hΨ' Ψ) | refine evC_skip ?_ | refine evC_ret ?_ | refine evC_exit ?_) | ((with_reducible refine hΨ' _ _ ?_ ?_); (focus (simp; done)); clear hΨ hΨ' Ψ) | ((with_reducible apply evC_cond); rfl; rfl; all_goals (intro hc; first | (cases hc; done) | (try simp only at hc)))))))
  all_goals first
    | exact ⟨by simp, ⟨_, rfl, nilRes _⟩, leH_get (by simp [leH, hget])⟩
    | (refine ⟨by simp, ⟨_, ?_, AV.le_refl _⟩, leH_get (by simp [leH, hget])⟩; simp only [Try.results39, resL, ldA, oneOf, go_sem])
end Go.Proofs.Ytiggambibcohcaa

