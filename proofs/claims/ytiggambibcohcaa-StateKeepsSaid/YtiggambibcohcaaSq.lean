/-
  Something done with what an address has; more for an address; reckoned.
-/
import Derived.Test.YtiggambibcohcaaSn
namespace Go.Proofs.Ytiggambibcohcaa
open Go.RowKit
open Nat (reduceBEq)
set_option linter.unusedVariables false
set_option linter.unusedSimpArgs false
set_option maxRecDepth 20000
set_option maxHeartbeats 2000000
def withS (L : List Ac) (a : Int) (r : List Ac × Int) : List Ac × Int := if !okSt L then ([], 160) else if a = 0 then ([], 2) else r
theorem okl_fine {L : List Ac} (h : Okl L) : ∀ x ∈ L, x.fine := fun x hx => ⟨(h.2 x hx).1, Nat.le_trans (Nat.add_le_add (h.2 x hx).2.1 (h.2 x hx).2.2) (by decide)⟩
theorem with2_fn (ex : Bool) (L : List Ac) (hL : Okl L) (a : Int) {f : FuncId} {fn : Func} (hg1 : Try.prog.funcs[f]? = some fn) (hg2 : (fn.name == "runtime.NumGoroutine") = false) (hg3 : fn.body.isNone = false) (A B : List PV) (r : List Ac × Int) (D : Fn Try.prog f [acA (ofS L a), .ep A, .ep B] [] (resS r) []) :
    Fn Try.prog 61 [stA ex L, vi .u64 a, .fn f [.ep A, .ep B]] [] (resS (withS L a r)) [] := by
  have ck := checkS_fn ex L (by have := hL.1; omega) (okl_fine hL)
  have of := of_fn ex L (by have := hL.1; omega) (fun y hy => ⟨(hL.2 y hy).2.1, (hL.2 y hy).2.2⟩) a
  unfold withS
  generalize okSt L = q at ck ⊢
  generalize ofS L a = x at of D
  cases q with
  | false =>
    simp only [Bool.false_eq_true, if_false] at ck
    (refine fn_of Try.func61 rfl (by rfl) ?_; simp only [Try.ntmps61, List.length_cons, List.length_nil, Nat.reduceAdd, Nat.reduceSub, List.replicate, List.cons_append, List.nil_append])
    (repeat (any_goals (first | ((with_reducible refine evL_call ?_ ?_ ?_); rfl; rfl; intro K hK; ((apply opA_callB (ck); rfl; rfl; rfl; rfl; exact Try.func17); kernel_rfl; rfl; (simp only [go_sem]; rfl); (first | rfl | simp [AV.inNL, AV.inN])); (simp only [go_sem]; refine hK _ ?_; clear hK K)) | ((with_reducible refine evL_one ?_ ?_); rfl; intro K hK; simp only [go_sem]; ((repeat (refine ndI (by first | assumption | omega | rfl) ?_)); refine hK _ ?_; clear hK K)) | (with_reducible first | (refine evL_nil ?_; refine hR _ ?_; clear hR R) | ((first | refine evC_seq ?_ | refine evC_block ?_); intro Ψ hΨ hΨ') | (refine evC_region ?_; intro R hR) | (refine hΨ _ ?_; clear hΨ hΨ' Ψ) | refine evC_skip ?_ | refine evC_ret ?_ | refine evC_exit ?_) | ((with_reducible refine hΨ' _ _ ?_ ?_); (focus (simp; done)); clear hΨ hΨ' Ψ) | ((with_reducible apply evC_cond); rfl; rfl; all_goals (intro hc; first | (cases hc; done) | (try simp only at hc))))))
    exact ⟨by simp, ⟨_, rfl, nilRes _⟩, leH_get (by simp [leH, hget])⟩
  | true =>
    simp only [if_true] at ck
    by_cases h : a = 0
    · subst h
      (refine fn_of Try.func61 rfl (by rfl) ?_; simp only [Try.ntmps61, List.length_cons, List.length_nil, Nat.reduceAdd, Nat.reduceSub, List.replicate, List.cons_append, List.nil_append])
      (repeat (any_goals (first | ((with_reducible refine evL_call ?_ ?_ ?_); rfl; rfl; intro K hK; ((apply opA_callB (ck); rfl; rfl; rfl; rfl; exact Try.func17); kernel_rfl; rfl; (simp only [go_sem]; rfl); (first | rfl | simp [AV.inNL, AV.inN])); (simp only [go_sem]; refine hK _ ?_; clear hK K)) | ((with_reducible refine evL_one ?_ ?_); rfl; intro K hK; simp only [go_sem]; ((repeat (refine ndI (by first | assumption | omega | rfl) ?_)); refine hK _ ?_; clear hK K)) | (with_reducible first | (refine evL_nil ?_; refine hR _ ?_; clear hR R) | ((first | refine evC_seq ?_ | refine evC_block ?_); intro Ψ hΨ hΨ') | (refine evC_region ?_; intro R hR) | (refine hΨ _ ?_; clear hΨ hΨ' Ψ) | refine evC_skip ?_ | refine evC_ret ?_ | refine evC_exit ?_) | ((with_reducible refine hΨ' _ _ ?_ ?_); (focus (simp; done)); clear hΨ hΨ' Ψ) | ((with_reducible apply evC_cond); rfl; rfl; all_goals (intro hc; first | (cases hc; done) | (try simp only at hc))))))
      exact ⟨by simp, ⟨_, rfl, nilRes _⟩, leH_get (by simp [leH, hget])⟩
    · have ha : (a == 0) = false := by simpa using h
      rw [if_neg h]
      obtain ⟨R, e⟩ := r
      (refine fn_of Try.func61 rfl (by rfl) ?_; simp only [Try.ntmps61, List.length_cons, List.length_nil, Nat.reduceAdd, Nat.reduceSub, List.replicate, List.cons_append, List.nil_append])
      (repeat (any_goals (first | ((with_reducible refine evL_call ?_ ?_ ?_); rfl; rfl; intro K hK; (first | (apply opA_callB (D); rfl; rfl; rfl; rfl; exact hg1; exact hg2; exact hg3; (simp only [go_sem, ha]; rfl); (first | rfl | simp [AV.inNL, AV.inN])) | ((first | (apply opA_callB (ck); rfl; rfl; rfl; rfl; exact Try.func17) | (apply opA_callB (of); rfl; rfl; rfl; rfl; exact Try.func49)); kernel_rfl; rfl; (simp only [go_sem, ha]; rfl); (first | rfl | simp [AV.inNL, AV.inN]))); (simp only [go_sem, ha]; refine hK _ ?_; clear hK K)) | ((with_reducible refine evL_one ?_ ?_); rfl; intro K hK; simp only [go_sem, ha]; ((repeat (refine ndI (by first | assumption | omega | rfl) ?_)); refine hK _ ?_; clear hK K)) | (with_reducible first | (refine evL_nil ?_; refine hR _ ?_; clear hR R) | ((first | refine evC_seq ?_ | refine evC_block ?_); intro Ψ hΨ hΨ') | (refine evC_region ?_; intro R hR) | (refine hΨ _ ?_; clear hΨ hΨ' Ψ) | refine evC_skip ?_ | refine evC_ret ?_ | refine evC_exit ?_) | ((with_reducible refine hΨ' _ _ ?_ ?_); (focus (simp; done)); clear hΨ hΨ' Ψ) | ((with_reducible apply evC_cond); rfl; rfl; all_goals (intro hc; first | (cases hc; done) | (try simp only at hc))))))
      all_goals (refine ⟨by simp, ⟨_, ?_, AV.le_refl _⟩, leH_get (by simp [leH, hget])⟩; simp only [Try.results61, resL, ldA, oneOf, go_sem])
def mintS (L : List Ac) (a : Int) (n : Nat) : List Ac × Int := withS L a (if WW ≤ n + (L.map Ac.b).sum then ([], 2) else putS L { ofS L a with b := ((ofS L a).b + n) % WW })
theorem okx_zero {a : Int} (ha : U a) : Okx ⟨a, 0, 0, [], []⟩ :=
  ⟨⟨ha, (by decide : 0 < WW), ⟨Int.le_refl 0, by show (0 : Int) ≤ _; decide⟩, ⟨Nat.zero_le _, fun c h => by cases h⟩, Nat.zero_le _, fun c h => by cases h⟩, Nat.zero_le _, Nat.zero_le _⟩
theorem okx_of {L : List Ac} (hL : Okl L) {a : Int} (ha : U a) : Okx (ofS L a) := by
  unfold ofS
  split
  · cases hx : L[posS L a]? with
    | none => exact okx_zero ha
    | some x => exact hL.2 x (List.mem_of_getElem? hx)
  · exact okx_zero ha
theorem mint1_fn (ex : Bool) (L : List Ac) (hL : Okl L) (x : Ac) (hx : Okx x) (n : Nat) (hn : n < WW) : Fn Try.prog 65 [acA x, .ep [.sl ex 8 L.length (L.flatMap Ac.pv)], .ep (wpv n)] [] (resS (if WW ≤ n + (L.map Ac.b).sum then ([], 2) else putS L { x with b := (x.b + n) % WW })) [] := by
  obtain ⟨u1, u2⟩ := hx
  have tr := total_row ex [n] (by simp) (by simpa using hn) L (by have := hL.1; omega) fun y hy => (hL.2 y hy).1.2.1
  have ad := add_fn x.b n u1.2.1 hn
  have pt := put_fn ex L hL { x with b := (x.b + n) % WW } ⟨⟨u1.1, Nat.mod_lt _ (by decide), u1.2.2⟩, u2⟩
  rw [show ([n] ++ L.map Ac.b).sum = n + (L.map Ac.b).sum by simp, show rcW [n] = [vi .u64 (l0 n), vi .u64 (l1 n), vi .u64 (l2 n), vi .u64 (l3 n)] from rfl] at tr
  generalize putS L { x with b := (x.b + n) % WW } = r at pt ⊢
  generalize (x.b + n) % WW = m at ad pt
  generalize decide (WW ≤ x.b + n) = q at ad
  generalize (n + (L.map Ac.b).sum) % WW = k at tr
  obtain ⟨R, e⟩ := r
  unfold wpv
  by_cases h : WW ≤ n + (L.map Ac.b).sum
  · rw [decide_eq_true h] at tr
    rw [if_pos h]
    (refine fn_of Try.func65 rfl (by rfl) ?_; simp only [Try.ntmps65, List.length_cons, List.length_nil, Nat.reduceAdd, Nat.reduceSub, List.replicate, List.cons_append, List.nil_append])
    (repeat (any_goals (first | ((with_reducible refine evL_call ?_ ?_ ?_); rfl; rfl; intro K hK; (apply opA_callR (tr) (fun r => 11); rfl; rfl; rfl; rfl; exact Try.func46; kernel_rfl; rfl; rfl; (intro r hr q hq h; simp only [List.map_cons, List.map_nil, List.cons_append, List.nil_append, List.mem_cons, List.not_mem_nil, or_false] at hr hq; (try dsimp only at h); first | omega | (rcases hr with rfl | rfl | rfl <;> rcases hq with rfl | rfl | rfl <;> simp at h ⊢) | (rcases hr with rfl | rfl <;> rcases hq with rfl | rfl <;> simp at h ⊢) | ((repeat' split at h) <;> omega)); (simp only [argsOk, argOk, AV.ren, AV.renL, renL_map, List.mem_cons, List.not_mem_nil, forall_eq_or_imp, forall_eq, newOk, List.contains_cons, List.contains_nil, AV.refsL, AV.refs, refsL_map, AV.inN, AV.inNL, inH, inNL_map, go_sem])); (simp only [hputs, hdels, renH, AV.ren, AV.renL, renL_map, go_sem]; refine hK _ ?_; clear hK K)) | ((with_reducible refine evL_one ?_ ?_); rfl; intro K hK; simp only [go_sem]; ((repeat (refine ndI (by first | assumption | omega | rfl) ?_)); refine hK _ ?_; clear hK K)) | (with_reducible first | (refine evL_nil ?_; refine hR _ ?_; clear hR R) | ((first | refine evC_seq ?_ | refine evC_block ?_); intro Ψ hΨ hΨ') | (refine evC_region ?_; intro R hR) | (refine hΨ _ ?_; clear hΨ hΨ' Ψ) | refine evC_skip ?_ | refine evC_ret ?_ | refine evC_exit ?_) | ((with_reducible refine hΨ' _ _ ?_ ?_); (focus (simp; done)); clear hΨ hΨ' Ψ) | ((with_reducible apply evC_cond); rfl; rfl; all_goals (intro hc; first | (cases hc; done) | (try simp only at hc))))))
    exact ⟨by simp, ⟨_, rfl, nilRes _⟩, leH_get (by simp [leH, hget])⟩
  · rw [decide_eq_false h] at tr
    rw [if_neg h]
    (refine fn_of Try.func65 rfl (by rfl) ?_; simp only [Try.ntmps65, List.length_cons, List.length_nil, Nat.reduceAdd, Nat.reduceSub, List.replicate, List.cons_append, List.nil_append])
    (repeat (any_goals (first | ((with_reducible refine evL_call ?_ ?_ ?_); rfl; rfl; intro K hK; (first | ((first | (apply opA_callB (ad); rfl; rfl; rfl; rfl; exact Try.func22) | (apply opA_callB (pt); rfl; rfl; rfl; rfl; exact Try.func66)); kernel_rfl; rfl; (simp only [go_sem]; rfl); (first | rfl | simp [AV.inNL, AV.inN])) | (apply opA_callR (tr) (fun r => 11); rfl; rfl; rfl; rfl; exact Try.func46; kernel_rfl; rfl; rfl; (intro r hr q hq h; simp only [List.map_cons, List.map_nil, List.cons_append, List.nil_append, List.mem_cons, List.not_mem_nil, or_false] at hr hq; (try dsimp only at h); first | omega | (rcases hr with rfl | rfl | rfl <;> rcases hq with rfl | rfl | rfl <;> simp at h ⊢) | (rcases hr with rfl | rfl <;> rcases hq with rfl | rfl <;> simp at h ⊢) | ((repeat' split at h) <;> omega)); (simp only [argsOk, argOk, AV.ren, AV.renL, renL_map, List.mem_cons, List.not_mem_nil, forall_eq_or_imp, forall_eq, newOk, List.contains_cons, List.contains_nil, AV.refsL, AV.refs, refsL_map, AV.inN, AV.inNL, inH, inNL_map, go_sem]))); (simp only [hputs, hdels, renH, AV.ren, AV.renL, renL_map, go_sem]; refine hK _ ?_; clear hK K)) | ((with_reducible refine evL_one ?_ ?_); rfl; intro K hK; simp only [go_sem]; ((repeat (refine ndI (by first | assumption | omega | rfl) ?_)); refine hK _ ?_; clear hK K)) | (with_reducible first | (refine evL_nil ?_; refine hR _ ?_; clear hR R) | ((first | refine evC_seq ?_ | refine evC_block ?_); intro Ψ hΨ hΨ') | (refine evC_region ?_; intro R hR) | (refine hΨ _ ?_; clear hΨ hΨ' Ψ) | refine evC_skip ?_ | refine evC_ret ?_ | refine evC_exit ?_) | ((with_reducible refine hΨ' _ _ ?_ ?_); (focus (simp; done)); clear hΨ hΨ' Ψ) | ((with_reducible apply evC_cond); rfl; rfl; all_goals (intro hc; first | (cases hc; done) | (try simp only at hc))))))
    all_goals (refine ⟨by simp, ⟨_, ?_, AV.le_refl _⟩, leH_get (by simp [leH, hget])⟩; simp only [Try.results65, resL, ldA, oneOf, go_sem])
theorem mint_fn (ex : Bool) (L : List Ac) (hL : Okl L) (a : Int) (ha : U a) (n : Nat) (hn : n < WW) : Fn Try.prog 36 [stA ex L, vi .u64 a, wN n] [] (resS (mintS L a n)) [] := by
  have w2 := with2_fn ex L hL a Try.func65 rfl rfl _ _ _ (mint1_fn ex L hL (ofS L a) (okx_of hL ha) n hn)
  unfold mintS
  generalize withS L a _ = r at w2 ⊢
  obtain ⟨R, e⟩ := r
  unfold wpv at w2
  (refine fn_of Try.func36 rfl (by rfl) ?_; simp only [Try.ntmps36, List.length_cons, List.length_nil, Nat.reduceAdd, Nat.reduceSub, List.replicate, List.cons_append, List.nil_append])
  (repeat (any_goals (first | ((with_reducible refine evL_one ?_ ?_); rfl; intro K hK; simp only [go_sem]; ((repeat (refine ndI (by first | assumption | omega | rfl) ?_)); refine hK _ ?_; clear hK K)) | (with_reducible first | (refine evL_nil ?_; refine hR _ ?_; clear hR R) | ((first | refine evC_seq ?_ | refine evC_block ?_); intro Ψ hΨ hΨ') | (refine evC_region ?_; intro R hR) | (refine hΨ _ ?_; clear hΨ hΨ' Ψ) | refine evC_skip ?_ | refine evC_ret ?_ | refine evC_exit ?_) | ((with_reducible refine hΨ' _ _ ?_ ?_); (focus (simp; done)); clear hΨ hΨ' Ψ) | ((with_reducible apply evC_cond); rfl; rfl; all_goals (intro hc; first | (cases hc; done) | (try simp only at hc))))))
  refine evL_to rfl (St.to.frz 3 (pcs := [.sl ex 8 L.length (L.flatMap Ac.pv)]) (by simp [hget])) ?_
  simp only [St.frz, AV.frzL, AV.frz, frzH, if_true, eq_self, ↓reduceIte, Nat.reduceEqDiff, List.length_cons, List.length_nil, List.drop, Nat.reduceAdd, Nat.reduceLT]
  refine evL_to rfl (St.to.frz 5 (pcs := [.v (.int .u64 (l0 n)), .v (.int .u64 (l1 n)), .v (.int .u64 (l2 n)), .v (.int .u64 (l3 n))]) (by simp [hget])) ?_
  simp only [St.frz, AV.frzL, AV.frz, frzH, if_true, eq_self, ↓reduceIte, Nat.reduceEqDiff, List.length_cons, List.length_nil, List.drop, Nat.reduceAdd, Nat.reduceLT]
  (repeat (any_goals (first | ((with_reducible refine evL_call ?_ ?_ ?_); rfl; rfl; intro K hK; ((apply opA_callB (w2); rfl; rfl; rfl; rfl; exact Try.func61); kernel_rfl; rfl; (simp only [go_sem]; rfl); (first | rfl | simp [AV.inNL, AV.inN])); (simp only [go_sem]; refine hK _ ?_; clear hK K)) | ((with_reducible refine evL_one ?_ ?_); rfl; intro K hK; simp only [go_sem]; ((repeat (refine ndI (by first | assumption | omega | rfl) ?_)); refine hK _ ?_; clear hK K)) | (with_reducible first | (refine evL_nil ?_; refine hR _ ?_; clear hR R) | ((first | refine evC_seq ?_ | refine evC_block ?_); intro Ψ hΨ hΨ') | (refine evC_region ?_; intro R hR) | (refine hΨ _ ?_; clear hΨ hΨ' Ψ) | refine evC_skip ?_ | refine evC_ret ?_ | refine evC_exit ?_) | ((with_reducible refine hΨ' _ _ ?_ ?_); (focus (simp; done)); clear hΨ hΨ' Ψ) | ((with_reducible apply evC_cond); rfl; rfl; all_goals (intro hc; first | (cases hc; done) | (try simp only at hc))))))
  all_goals (refine ⟨by simp, ⟨_, ?_, AV.le_refl _⟩, leH_get (by simp [leH, hget])⟩; simp only [Try.results36, resL, ldA, oneOf, go_sem])
theorem with4_fn (ex : Bool) (L : List Ac) (hL : Okl L) (a : Int) {f : FuncId} {fn : Func} (hg1 : Try.prog.funcs[f]? = some fn) (hg2 : (fn.name == "runtime.NumGoroutine") = false) (hg3 : fn.body.isNone = false) (A B C E : List PV) (r : List Ac × Int) (D : Fn Try.prog f [acA (ofS L a), .ep A, .ep B, .ep C, .ep E] [] (resS r) []) :
    Fn Try.prog 61 [stA ex L, vi .u64 a, .fn f [.ep A, .ep B, .ep C, .ep E]] [] (resS (withS L a r)) [] := by
  have ck := checkS_fn ex L (by have := hL.1; omega) (okl_fine hL)
  have of := of_fn ex L (by have := hL.1; omega) (fun y hy => ⟨(hL.2 y hy).2.1, (hL.2 y hy).2.2⟩) a
  unfold withS
  generalize okSt L = q at ck ⊢
  generalize ofS L a = x at of D
  cases q with
  | false =>
    simp only [Bool.false_eq_true, if_false] at ck
    (refine fn_of Try.func61 rfl (by rfl) ?_; simp only [Try.ntmps61, List.length_cons, List.length_nil, Nat.reduceAdd, Nat.reduceSub, List.replicate, List.cons_append, List.nil_append])
    (repeat (any_goals (first | ((with_reducible refine evL_call ?_ ?_ ?_); rfl; rfl; intro K hK; ((apply opA_callB (ck); rfl; rfl; rfl; rfl; exact Try.func17); kernel_rfl; rfl; (simp only [go_sem]; rfl); (first | rfl | simp [AV.inNL, AV.inN])); (simp only [go_sem]; refine hK _ ?_; clear hK K)) | ((with_reducible refine evL_one ?_ ?_); rfl; intro K hK; simp only [go_sem]; ((repeat (refine ndI (by first | assumption | omega | rfl) ?_)); refine hK _ ?_; clear hK K)) | (with_reducible first | (refine evL_nil ?_; refine hR _ ?_; clear hR R) | ((first | refine evC_seq ?_ | refine evC_block ?_); intro Ψ hΨ hΨ') | (refine evC_region ?_; intro R hR) | (refine hΨ _ ?_; clear hΨ hΨ' Ψ) | refine evC_skip ?_ | refine evC_ret ?_ | refine evC_exit ?_) | ((with_reducible refine hΨ' _ _ ?_ ?_); (focus (simp; done)); clear hΨ hΨ' Ψ) | ((with_reducible apply evC_cond); rfl; rfl; all_goals (intro hc; first | (cases hc; done) | (try simp only at hc))))))
    exact ⟨by simp, ⟨_, rfl, nilRes _⟩, leH_get (by simp [leH, hget])⟩
  | true =>
    simp only [if_true] at ck
    by_cases h : a = 0
    · subst h
      (refine fn_of Try.func61 rfl (by rfl) ?_; simp only [Try.ntmps61, List.length_cons, List.length_nil, Nat.reduceAdd, Nat.reduceSub, List.replicate, List.cons_append, List.nil_append])
      (repeat (any_goals (first | ((with_reducible refine evL_call ?_ ?_ ?_); rfl; rfl; intro K hK; ((apply opA_callB (ck); rfl; rfl; rfl; rfl; exact Try.func17); kernel_rfl; rfl; (simp only [go_sem]; rfl); (first | rfl | simp [AV.inNL, AV.inN])); (simp only [go_sem]; refine hK _ ?_; clear hK K)) | ((with_reducible refine evL_one ?_ ?_); rfl; intro K hK; simp only [go_sem]; ((repeat (refine ndI (by first | assumption | omega | rfl) ?_)); refine hK _ ?_; clear hK K)) | (with_reducible first | (refine evL_nil ?_; refine hR _ ?_; clear hR R) | ((first | refine evC_seq ?_ | refine evC_block ?_); intro Ψ hΨ hΨ') | (refine evC_region ?_; intro R hR) | (refine hΨ _ ?_; clear hΨ hΨ' Ψ) | refine evC_skip ?_ | refine evC_ret ?_ | refine evC_exit ?_) | ((with_reducible refine hΨ' _ _ ?_ ?_); (focus (simp; done)); clear hΨ hΨ' Ψ) | ((with_reducible apply evC_cond); rfl; rfl; all_goals (intro hc; first | (cases hc; done) | (try simp only at hc))))))
      exact ⟨by simp, ⟨_, rfl, nilRes _⟩, leH_get (by simp [leH, hget])⟩
    · have ha : (a == 0) = false := by simpa using h
      rw [if_neg h]
      obtain ⟨R, e⟩ := r
      (refine fn_of Try.func61 rfl (by rfl) ?_; simp only [Try.ntmps61, List.length_cons, List.length_nil, Nat.reduceAdd, Nat.reduceSub, List.replicate, List.cons_append, List.nil_append])
      (repeat (any_goals (first | ((with_reducible refine evL_call ?_ ?_ ?_); rfl; rfl; intro K hK; (first | (apply opA_callB (D); rfl; rfl; rfl; rfl; exact hg1; exact hg2; exact hg3; (simp only [go_sem, ha]; rfl); (first | rfl | simp [AV.inNL, AV.inN])) | ((first | (apply opA_callB (ck); rfl; rfl; rfl; rfl; exact Try.func17) | (apply opA_callB (of); rfl; rfl; rfl; rfl; exact Try.func49)); kernel_rfl; rfl; (simp only [go_sem, ha]; rfl); (first | rfl | simp [AV.inNL, AV.inN]))); (simp only [go_sem, ha]; refine hK _ ?_; clear hK K)) | ((with_reducible refine evL_one ?_ ?_); rfl; intro K hK; simp only [go_sem, ha]; ((repeat (refine ndI (by first | assumption | omega | rfl) ?_)); refine hK _ ?_; clear hK K)) | (with_reducible first | (refine evL_nil ?_; refine hR _ ?_; clear hR R) | ((first | refine evC_seq ?_ | refine evC_block ?_); intro Ψ hΨ hΨ') | (refine evC_region ?_; intro R hR) | (refine hΨ _ ?_; clear hΨ hΨ' Ψ) | refine evC_skip ?_ | refine evC_ret ?_ | refine evC_exit ?_) | ((with_reducible refine hΨ' _ _ ?_ ?_); (focus (simp; done)); clear hΨ hΨ' Ψ) | ((with_reducible apply evC_cond); rfl; rfl; all_goals (intro hc; first | (cases hc; done) | (try simp only at hc))))))
      all_goals (refine ⟨by simp, ⟨_, ?_, AV.le_refl _⟩, leH_get (by simp [leH, hget])⟩; simp only [Try.results61, resL, ldA, oneOf, go_sem])
def moveR (L : List Ac) (x : Ac) (fr to : Int) (n : Nat) : List Ac × Int := if to = 0 then ([], 2) else if x.b < n then ([], 162) else if (decide (n = 0) || fr == to) = true then (laysL L x, 0) else if roomS L to = false then ([], 6) else (laysL (laysL L { x with b := x.b - n }) { ofS L to with b := ((ofS L to).b + n) % WW }, 0)
theorem okl_lays {L : List Ac} (hL : Okl L) {x : Ac} (hx : Okx x) : (laysL L x).length ≤ 801 ∧ ∀ y ∈ laysL L x, Okx y := ⟨by have := laysL_len L x; have := hL.1; omega, fun y hy => by
  rcases laysL_mem hy with rfl | h
  · exact hx
  · exact hL.2 y h⟩
theorem move1_fn (ex : Bool) (L : List Ac) (hL : Okl L) (x : Ac) (hx : Okx x) (fr to : Int) (hto : U to) (n : Nat) (hn : n < WW) : Fn Try.prog 62 [acA x, .ep [.v (.int .u64 to)], .ep [.sl ex 8 L.length (L.flatMap Ac.pv)], .ep (wpv n), .ep [.v (.int .u64 fr)]] [] (resS (moveR L x fr to n)) [] := by
  unfold wpv moveR
  by_cases h0 : to = 0
  · rw [if_pos h0]
    subst h0
    (refine fn_of Try.func62 rfl (by rfl) ?_; simp only [Try.ntmps62, List.length_cons, List.length_nil, Nat.reduceAdd, Nat.reduceSub, List.replicate, List.cons_append, List.nil_append])
    (repeat (any_goals (first | ((with_reducible refine evL_one ?_ ?_); rfl; intro K hK; simp only [go_sem]; ((repeat (refine ndI (by first | assumption | omega | rfl) ?_)); refine hK _ ?_; clear hK K)) | (with_reducible first | (refine evL_nil ?_; refine hR _ ?_; clear hR R) | ((first | refine evC_seq ?_ | refine evC_block ?_); intro Ψ hΨ hΨ') | (refine evC_region ?_; intro R hR) | (refine hΨ _ ?_; clear hΨ hΨ' Ψ) | refine evC_skip ?_ | refine evC_ret ?_ | refine evC_exit ?_) | ((with_reducible refine hΨ' _ _ ?_ ?_); (focus (simp; done)); clear hΨ hΨ' Ψ) | ((with_reducible apply evL_unmet); rfl; rfl; rfl; (try simp only [go_sem])) | ((with_reducible apply evL_grd); rfl; rfl; rfl; all_goals (intro hb; first | (cases hb; done) | ((try simp only [Bool.not_true, Bool.not_false] at hb); (first | ((with_reducible intro K hK); simp only [go_sem]; ((repeat (refine ndI (by first | assumption | omega | rfl) ?_)); refine hK _ ?_; clear hK K)) | ((fail_if_success (with_reducible intro _)); simp only [go_sem]))))) | ((with_reducible apply evC_cond); rfl; rfl; all_goals (intro hc; first | (cases hc; done) | (try simp only at hc))))))
    exact ⟨by simp, ⟨_, rfl, nilRes _⟩, leH_get (by simp [leH, hget])⟩
  rw [if_neg h0]
  have e0 : (to == 0) = false := by simpa using h0
  have ls := less_fn ex L hL x hx n hn
  unfold lessS at ls
  by_cases h1 : x.b < n
  · rw [if_pos h1] at ls ⊢
    (refine fn_of Try.func62 rfl (by rfl) ?_; simp only [Try.ntmps62, List.length_cons, List.length_nil, Nat.reduceAdd, Nat.reduceSub, List.replicate, List.cons_append, List.nil_append])
    (repeat (any_goals (first | ((with_reducible refine evL_call ?_ ?_ ?_); rfl; rfl; intro K hK; ((apply opA_callB (ls); rfl; rfl; rfl; rfl; exact Try.func63); kernel_rfl; rfl; (simp only [go_sem, e0]; rfl); (first | rfl | simp [AV.inNL, AV.inN])); (simp only [go_sem, e0]; refine hK _ ?_; clear hK K)) | ((with_reducible refine evL_one ?_ ?_); rfl; intro K hK; simp only [go_sem, e0]; ((repeat (refine ndI (by first | assumption | omega | rfl) ?_)); refine hK _ ?_; clear hK K)) | (with_reducible first | (refine evL_nil ?_; refine hR _ ?_; clear hR R) | ((first | refine evC_seq ?_ | refine evC_block ?_); intro Ψ hΨ hΨ') | (refine evC_region ?_; intro R hR) | (refine hΨ _ ?_; clear hΨ hΨ' Ψ) | refine evC_skip ?_ | refine evC_ret ?_ | refine evC_exit ?_) | ((with_reducible refine hΨ' _ _ ?_ ?_); (focus (simp; done)); clear hΨ hΨ' Ψ) | ((with_reducible apply evL_unmet); rfl; rfl; rfl; (try simp only [go_sem, e0])) | ((with_reducible apply evL_grd); rfl; rfl; rfl; all_goals (intro hb; first | (cases hb; done) | ((try simp only [Bool.not_true, Bool.not_false] at hb); (first | ((with_reducible intro K hK); simp only [go_sem, e0]; ((repeat (refine ndI (by first | assumption | omega | rfl) ?_)); refine hK _ ?_; clear hK K)) | ((fail_if_success (with_reducible intro _)); simp only [go_sem, e0]))))) | ((with_reducible apply evC_cond); rfl; rfl; all_goals (intro hc; first | (cases hc; done) | (try simp only at hc))))))
    exact ⟨by simp, ⟨_, rfl, nilRes _⟩, leH_get (by simp [leH, hget])⟩
  rw [if_neg h1] at ls ⊢
  have hm := okl_lays hL (x := { x with b := x.b - n }) ⟨⟨hx.1.1, by have := hx.1.2.1; show x.b - n < WW; omega, hx.1.2.2⟩, hx.2⟩
  generalize laysL L { x with b := x.b - n } = M at ls hm ⊢
  have f1 := wN_zero hn
  have lx := lays_fn ex L (by have := hL.1; omega) (fun y hy => ⟨(hL.2 y hy).2.1, (hL.2 y hy).2.2⟩) x ⟨hx.1.2.1, hx.2⟩
  have rm := room_fn ex L (by have := hL.1; omega) to
  have of := of_fn ex L (by have := hL.1; omega) (fun y hy => ⟨(hL.2 y hy).2.1, (hL.2 y hy).2.2⟩) to
  have oy := okx_of hL hto
  have ly := lays_fn false M (by omega) (fun y hy => (hm.2 y hy).2) { ofS L to with b := ((ofS L to).b + n) % WW } ⟨Nat.mod_lt _ (by decide), oy.2⟩
  have ad := add_fn (ofS L to).b n oy.1.2.1 hn
  generalize laysL L x = X at lx ⊢
  generalize laysL M _ = Y at ly ⊢
  generalize ofS L to = y at of ly ad
  generalize (y.b + n) % WW = k at ad ly
  generalize decide (WW ≤ y.b + n) = q at ad
  generalize decide (n = 0) = q1 at f1 ⊢
  obtain ⟨q2, e2⟩ : ∃ q, (fr == to) = q := ⟨_, rfl⟩
  rw [e2]
  generalize roomS L to = q3 at rm ⊢
  cases q1 <;> cases q2 <;> cases q3
  all_goals (refine fn_of Try.func62 rfl (by rfl) ?_; simp only [Try.ntmps62, List.length_cons, List.length_nil, Nat.reduceAdd, Nat.reduceSub, List.replicate, List.cons_append, List.nil_append])
  all_goals (have W := ndI e0 (ndI e2 f1); (repeat (any_goals (first | ((with_reducible refine evL_call ?_ ?_ ?_); rfl; rfl; intro K hK; (first | ((first | (apply opA_callB (ls); rfl; rfl; rfl; rfl; exact Try.func63) | (apply opA_callB (rm); rfl; rfl; rfl; rfl; exact Try.func60) | (apply opA_callB (of); rfl; rfl; rfl; rfl; exact Try.func49) | (apply opA_callB (ad); rfl; rfl; rfl; rfl; exact Try.func22)); kernel_rfl; rfl; (simp only [go_sem, W]; rfl); (first | rfl | simp [AV.inNL, AV.inN])) | ((apply opA_callB (lx); rfl; rfl; rfl; rfl; exact Try.func64); kernel_rfl; rfl; (simp only [go_sem, W]; rfl); (first | rfl | simp [AV.inNL, AV.inN])) | ((apply opA_callB (ly); rfl; rfl; rfl; rfl; exact Try.func64); kernel_rfl; rfl; (simp only [go_sem, W]; rfl); (first | rfl | simp [AV.inNL, AV.inN]))); (simp only [go_sem, W]; refine hK _ ?_; clear hK K)) | ((with_reducible refine evL_one ?_ ?_); rfl; intro K hK; simp only [go_sem, W]; ((repeat (refine ndI (by first | assumption | omega | rfl) ?_)); refine hK _ ?_; clear hK K)) | (with_reducible first | (refine evL_nil ?_; refine hR _ ?_; clear hR R) | ((first | refine evC_seq ?_ | refine evC_block ?_); intro Ψ hΨ hΨ') | (refine evC_region ?_; intro R hR) | (refine hΨ _ ?_; clear hΨ hΨ' Ψ) | refine evC_skip ?_ | refine evC_ret ?_ | refine evC_exit ?_) | ((with_reducible refine hΨ' _ _ ?_ ?_); (focus (simp; done)); clear hΨ hΨ' Ψ) | ((with_reducible apply evL_unmet); rfl; rfl; rfl; (try simp only [go_sem, W])) | ((with_reducible apply evL_grd); rfl; rfl; rfl; all_goals (intro hb; first | (cases hb; done) | ((try simp only [Bool.not_true, Bool.not_false] at hb); (first | ((with_reducible intro K hK); simp only [go_sem, W]; ((repeat (refine ndI (by first | assumption | omega | rfl) ?_)); refine hK _ ?_; clear hK K)) | ((fail_if_success (with_reducible intro _)); simp only [go_sem, W]))))) | ((with_reducible apply evC_cond); rfl; rfl; all_goals (intro hc; first | (cases hc; done) | (try simp only at hc)))))))
  all_goals first
    | exact ⟨by simp, ⟨_, rfl, nilRes _⟩, leH_get (by simp [leH, hget])⟩
    | ((refine ⟨by simp, ⟨_, ?_, AV.le_refl _⟩, leH_get (by simp [leH, hget])⟩; simp only [Try.results62, resL, ldA, oneOf, go_sem]); done)
    | ((refine ⟨by simp, ⟨_, ?_, AV.le_refl _⟩, leH_get (by simp [leH, hget])⟩; simp only [Try.results62, resL, ldA, oneOf, go_sem]); rfl)
def moveS (L : List Ac) (fr to : Int) (n : Nat) : List Ac × Int := withS L fr (moveR L (ofS L fr) fr to n)
theorem move_fn (ex : Bool) (L : List Ac) (hL : Okl L) (fr to : Int) (hf : U fr) (hto : U to) (n : Nat) (hn : n < WW) : Fn Try.prog 32 [stA ex L, vi .u64 fr, vi .u64 to, wN n] [] (resS (moveS L fr to n)) [] := by
  have w2 := with4_fn ex L hL fr Try.func62 rfl rfl _ _ _ _ _ (move1_fn ex L hL (ofS L fr) (okx_of hL hf) fr to hto n hn)
  unfold moveS
  generalize withS L fr _ = r at w2 ⊢
  obtain ⟨R, e⟩ := r
  unfold wpv at w2
  (refine fn_of Try.func32 rfl (by rfl) ?_; simp only [Try.ntmps32, List.length_cons, List.length_nil, Nat.reduceAdd, Nat.reduceSub, List.replicate, List.cons_append, List.nil_append])
  (repeat (any_goals (first | ((with_reducible refine evL_one ?_ ?_); rfl; intro K hK; simp only [go_sem]; ((repeat (refine ndI (by first | assumption | omega | rfl) ?_)); refine hK _ ?_; clear hK K)) | (with_reducible first | (refine evL_nil ?_; refine hR _ ?_; clear hR R) | ((first | refine evC_seq ?_ | refine evC_block ?_); intro Ψ hΨ hΨ') | (refine evC_region ?_; intro R hR) | (refine hΨ _ ?_; clear hΨ hΨ' Ψ) | refine evC_skip ?_ | refine evC_ret ?_ | refine evC_exit ?_) | ((with_reducible refine hΨ' _ _ ?_ ?_); (focus (simp; done)); clear hΨ hΨ' Ψ) | ((with_reducible apply evC_cond); rfl; rfl; all_goals (intro hc; first | (cases hc; done) | (try simp only at hc))))))
  refine evL_to rfl (St.to.frz 4 (pcs := [.sl ex 8 L.length (L.flatMap Ac.pv)]) (by simp [hget])) ?_
  simp only [St.frz, AV.frzL, AV.frz, frzH, if_true, eq_self, ↓reduceIte, Nat.reduceEqDiff, List.length_cons, List.length_nil, List.drop, Nat.reduceAdd, Nat.reduceLT]
  refine evL_to rfl (St.to.frz 5 (pcs := [.v (.int .u64 fr)]) (by simp [hget])) ?_
  simp only [St.frz, AV.frzL, AV.frz, frzH, if_true, eq_self, ↓reduceIte, Nat.reduceEqDiff, List.length_cons, List.length_nil, List.drop, Nat.reduceAdd, Nat.reduceLT]
  refine evL_to rfl (St.to.frz 6 (pcs := [.v (.int .u64 to)]) (by simp [hget])) ?_
  simp only [St.frz, AV.frzL, AV.frz, frzH, if_true, eq_self, ↓reduceIte, Nat.reduceEqDiff, List.length_cons, List.length_nil, List.drop, Nat.reduceAdd, Nat.reduceLT]
  refine evL_to rfl (St.to.frz 7 (pcs := [.v (.int .u64 (l0 n)), .v (.int .u64 (l1 n)), .v (.int .u64 (l2 n)), .v (.int .u64 (l3 n))]) (by simp [hget])) ?_
  simp only [St.frz, AV.frzL, AV.frz, frzH, if_true, eq_self, ↓reduceIte, Nat.reduceEqDiff, List.length_cons, List.length_nil, List.drop, Nat.reduceAdd, Nat.reduceLT]
  (repeat (any_goals (first | ((with_reducible refine evL_call ?_ ?_ ?_); rfl; rfl; intro K hK; ((apply opA_callB (w2); rfl; rfl; rfl; rfl; exact Try.func61); kernel_rfl; rfl; (simp only [go_sem]; rfl); (first | rfl | simp [AV.inNL, AV.inN])); (simp only [go_sem]; refine hK _ ?_; clear hK K)) | ((with_reducible refine evL_one ?_ ?_); rfl; intro K hK; simp only [go_sem]; ((repeat (refine ndI (by first | assumption | omega | rfl) ?_)); refine hK _ ?_; clear hK K)) | (with_reducible first | (refine evL_nil ?_; refine hR _ ?_; clear hR R) | ((first | refine evC_seq ?_ | refine evC_block ?_); intro Ψ hΨ hΨ') | (refine evC_region ?_; intro R hR) | (refine hΨ _ ?_; clear hΨ hΨ' Ψ) | refine evC_skip ?_ | refine evC_ret ?_ | refine evC_exit ?_) | ((with_reducible refine hΨ' _ _ ?_ ?_); (focus (simp; done)); clear hΨ hΨ' Ψ) | ((with_reducible apply evC_cond); rfl; rfl; all_goals (intro hc; first | (cases hc; done) | (try simp only at hc))))))
  all_goals (refine ⟨by simp, ⟨_, ?_, AV.le_refl _⟩, leH_get (by simp [leH, hget])⟩; simp only [Try.results32, resL, ldA, oneOf, go_sem])
end Go.Proofs.Ytiggambibcohcaa

