/-
  The law StateOne, walked.
-/
import Derived.Test.YtiggambibcohcaaTe
import Derived.Test.YtiggambibcohcaaSa
import Derived.Test.YtiggambibcohcaaAvBs
import Derived.Test.YtiggambibcohcaaRows
import Derived.Test.YtiggambibcohcaaAvI
import Derived.ProofKit
import Derived.OpenShut
import Derived.ChangeOld
import Derived.Deep.Slices
import Derived.Test.YtiggambibcohcaaAvW
set_option linter.unusedSimpArgs false
set_option linter.unusedVariables false
namespace Go.Proofs.Ytiggambibcohcaa
open Go.RowKit
open Nat (reduceBEq)
set_option maxRecDepth 20000
set_option maxHeartbeats 2000000
def withS (L : List Ac) (a : Int) (r : List Ac × Int) : List Ac × Int := if !okSt L then ([], 160) else if a = 0 then ([], 2) else r
theorem okl_fine {L : List Ac} (h : Okl L) : ∀ x ∈ L, x.fine := fun x hx => ⟨(h.2 x hx).1, Nat.le_trans (Nat.add_le_add (h.2 x hx).2.1 (h.2 x hx).2.2) (by decide)⟩
theorem with2_fn (ex : Bool) (L : List Ac) (hL : Okl L) (a : Int) {f : FuncId} {fn : Func} (hg1 : Try.prog.funcs[f]? = some fn) (hg2 : (fn.name == "runtime.NumGoroutine") = false) (hg3 : fn.body.isNone = false) (A B : List PV) (r : List Ac × Int) (D : Fn Try.prog f [acA (ofS L a), .ep A, .ep B] [] (resS r) []) :
    Fn Try.prog 61 [stA ex L, vi .u64 a, .fn f [.ep A, .ep B]] [] (resS (withS L a r)) [] := by
  have ck := checkS_fn ex L (by have := hL.1; omega) (okl_fine hL)
  have of := of_fn ex L (by have := hL.1; omega) (fun y hy => ⟨(hL.2 y hy).2.1, (hL.2 y hy).2.2⟩) a
  unfold withS
  generalize okSt L = q at ck ⊢
  generalize ofS L a = x at of D
  cases q with
  | false =>
    simp only [Bool.false_eq_true, if_false] at ck
    (refine fn_of Try.func61 rfl (by rfl) ?_; simp only [Try.ntmps61, List.length_cons, List.length_nil, Nat.reduceAdd, Nat.reduceSub, List.replicate, List.cons_append, List.nil_append])
    (repeat (any_goals (first | ((with_reducible refine evL_call ?_ ?_ ?_); rfl; rfl; intro K hK; ((apply opA_callB (ck); rfl; rfl; rfl; rfl; exact Try.func17); kernel_rfl; rfl; (simp only [go_sem]; rfl); (first | rfl | simp [AV.inNL, AV.inN])); (simp only [go_sem]; refine hK _ ?_; clear hK K)) | ((with_reducible refine evL_one ?_ ?_); rfl; intro K hK; simp only [go_sem]; ((repeat (refine ndI (by first | assumption | omega | rfl) ?_)); refine hK _ ?_; clear hK K)) | (with_reducible first | (refine evL_nil ?_; refine hR _ ?_; clear hR R) | ((first | refine evC_seq ?_ | refine evC_block ?_); intro J hJ hJ') | (refine evC_region ?_; intro R hR) | (refine hJ _ ?_; clear hJ hJ' J) | refine evC_skip ?_ | refine evC_ret ?_ | refine evC_exit ?_) | ((with_reducible refine hJ' _ _ ?_ ?_); (focus (simp; done)); clear hJ hJ' J) | ((with_reducible apply evC_cond); rfl; rfl; all_goals (intro hc; first | (cases hc; done) | (try simp only at hc))))))
    exact ⟨by simp, ⟨_, rfl, nilRes _⟩, leH_get (by simp [leH, hget])⟩
  | true =>
    simp only [if_true] at ck
    by_cases h : a = 0
    · subst h
      (refine fn_of Try.func61 rfl (by rfl) ?_; simp only [Try.ntmps61, List.length_cons, List.length_nil, Nat.reduceAdd, Nat.reduceSub, List.replicate, List.cons_append, List.nil_append])
      (repeat (any_goals (first | ((with_reducible refine evL_call ?_ ?_ ?_); rfl; rfl; intro K hK; ((apply opA_callB (ck); rfl; rfl; rfl; rfl; exact Try.func17); kernel_rfl; rfl; (simp only [go_sem]; rfl); (first | rfl | simp [AV.inNL, AV.inN])); (simp only [go_sem]; refine hK _ ?_; clear hK K)) | ((with_reducible refine evL_one ?_ ?_); rfl; intro K hK; simp only [go_sem]; ((repeat (refine ndI (by first | assumption | omega | rfl) ?_)); refine hK _ ?_; clear hK K)) | (with_reducible first | (refine evL_nil ?_; refine hR _ ?_; clear hR R) | ((first | refine evC_seq ?_ | refine evC_block ?_); intro J hJ hJ') | (refine evC_region ?_; intro R hR) | (refine hJ _ ?_; clear hJ hJ' J) | refine evC_skip ?_ | refine evC_ret ?_ | refine evC_exit ?_) | ((with_reducible refine hJ' _ _ ?_ ?_); (focus (simp; done)); clear hJ hJ' J) | ((with_reducible apply evC_cond); rfl; rfl; all_goals (intro hc; first | (cases hc; done) | (try simp only at hc))))))
      exact ⟨by simp, ⟨_, rfl, nilRes _⟩, leH_get (by simp [leH, hget])⟩
    · have ha : (a == 0) = false := by simpa using h
      rw [if_neg h]
      obtain ⟨R, e⟩ := r
      (refine fn_of Try.func61 rfl (by rfl) ?_; simp only [Try.ntmps61, List.length_cons, List.length_nil, Nat.reduceAdd, Nat.reduceSub, List.replicate, List.cons_append, List.nil_append])
      (repeat (any_goals (first | ((with_reducible refine evL_call ?_ ?_ ?_); rfl; rfl; intro K hK; (first | (apply opA_callB (D); rfl; rfl; rfl; rfl; exact hg1; exact hg2; exact hg3; (simp only [go_sem, ha]; rfl); (first | rfl | simp [AV.inNL, AV.inN])) | ((first | (apply opA_callB (ck); rfl; rfl; rfl; rfl; exact Try.func17) | (apply opA_callB (of); rfl; rfl; rfl; rfl; exact Try.func49)); kernel_rfl; rfl; (simp only [go_sem, ha]; rfl); (first | rfl | simp [AV.inNL, AV.inN]))); (simp only [go_sem, ha]; refine hK _ ?_; clear hK K)) | ((with_reducible refine evL_one ?_ ?_); rfl; intro K hK; simp only [go_sem, ha]; ((repeat (refine ndI (by first | assumption | omega | rfl) ?_)); refine hK _ ?_; clear hK K)) | (with_reducible first | (refine evL_nil ?_; refine hR _ ?_; clear hR R) | ((first | refine evC_seq ?_ | refine evC_block ?_); intro J hJ hJ') | (refine evC_region ?_; intro R hR) | (refine hJ _ ?_; clear hJ hJ' J) | refine evC_skip ?_ | refine evC_ret ?_ | refine evC_exit ?_) | ((with_reducible refine hJ' _ _ ?_ ?_); (focus (simp; done)); clear hJ hJ' J) | ((with_reducible apply evC_cond); rfl; rfl; all_goals (intro hc; first | (cases hc; done) | (try simp only at hc))))))
      all_goals (refine ⟨by simp, ⟨_, ?_, AV.le_refl _⟩, leH_get (by simp [leH, hget])⟩; simp only [Try.results61, resL, ldA, oneOf, go_sem])
def mintS (L : List Ac) (a : Int) (n : Nat) : List Ac × Int := withS L a (if WW ≤ n + (L.map Ac.b).sum then ([], 2) else putS L { ofS L a with b := ((ofS L a).b + n) % WW })
theorem okx_zero {a : Int} (ha : U a) : Okx ⟨a, 0, 0, [], []⟩ :=
  ⟨⟨ha, (by decide : 0 < WW), ⟨Int.le_refl 0, by show (0 : Int) ≤ _; decide⟩, ⟨Nat.zero_le _, fun c h => by cases h⟩, Nat.zero_le _, fun c h => by cases h⟩, Nat.zero_le _, Nat.zero_le _⟩
theorem okx_of {L : List Ac} (hL : Okl L) {a : Int} (ha : U a) : Okx (ofS L a) := by
  unfold ofS
  split
  · cases hx : L[posS L a]? with
    | none => exact okx_zero ha
    | some x => exact hL.2 x (List.mem_of_getElem? hx)
  · exact okx_zero ha
theorem mint1_fn (ex : Bool) (L : List Ac) (hL : Okl L) (x : Ac) (hx : Okx x) (n : Nat) (hn : n < WW) : Fn Try.prog 65 [acA x, .ep [.sl ex 8 L.length (L.flatMap Ac.pv)], .ep (wpv n)] [] (resS (if WW ≤ n + (L.map Ac.b).sum then ([], 2) else putS L { x with b := (x.b + n) % WW })) [] := by
  obtain ⟨u1, u2⟩ := hx
  have tr := total_row ex [n] (by simp) (by simpa using hn) L (by have := hL.1; omega) fun y hy => (hL.2 y hy).1.2.1
  have ad := add_fn x.b n u1.2.1 hn
  have pt := put_fn ex L hL { x with b := (x.b + n) % WW } ⟨⟨u1.1, Nat.mod_lt _ (by decide), u1.2.2⟩, u2⟩
  rw [show ([n] ++ L.map Ac.b).sum = n + (L.map Ac.b).sum by simp, show rcW [n] = [vi .u64 (l0 n), vi .u64 (l1 n), vi .u64 (l2 n), vi .u64 (l3 n)] from rfl] at tr
  generalize putS L { x with b := (x.b + n) % WW } = r at pt ⊢
  generalize (x.b + n) % WW = m at ad pt
  generalize decide (WW ≤ x.b + n) = q at ad
  generalize (n + (L.map Ac.b).sum) % WW = k at tr
  obtain ⟨R, e⟩ := r
  unfold wpv
  by_cases h : WW ≤ n + (L.map Ac.b).sum
  · rw [decide_eq_true h] at tr
    rw [if_pos h]
    (refine fn_of Try.func65 rfl (by rfl) ?_; simp only [Try.ntmps65, List.length_cons, List.length_nil, Nat.reduceAdd, Nat.reduceSub, List.replicate, List.cons_append, List.nil_append])
    (repeat (any_goals (first | ((with_reducible refine evL_call ?_ ?_ ?_); rfl; rfl; intro K hK; (apply opA_callR (tr) (fun r => 11); rfl; rfl; rfl; rfl; exact Try.func46; kernel_rfl; rfl; rfl; (intro r hr q hq h; simp only [List.map_cons, List.map_nil, List.cons_append, List.nil_append, List.mem_cons, List.not_mem_nil, or_false] at hr hq; (try dsimp only at h); first | omega | (rcases hr with rfl | rfl | rfl <;> rcases hq with rfl | rfl | rfl <;> simp at h ⊢) | (rcases hr with rfl | rfl <;> rcases hq with rfl | rfl <;> simp at h ⊢) | ((repeat' split at h) <;> omega)); (simp only [argsOk, argOk, AV.ren, AV.renL, renL_map, List.mem_cons, List.not_mem_nil, forall_eq_or_imp, forall_eq, newOk, List.contains_cons, List.contains_nil, AV.refsL, AV.refs, refsL_map, AV.inN, AV.inNL, inH, inNL_map, go_sem])); (simp only [hputs, hdels, renH, AV.ren, AV.renL, renL_map, go_sem]; refine hK _ ?_; clear hK K)) | ((with_reducible refine evL_one ?_ ?_); rfl; intro K hK; simp only [go_sem]; ((repeat (refine ndI (by first | assumption | omega | rfl) ?_)); refine hK _ ?_; clear hK K)) | (with_reducible first | (refine evL_nil ?_; refine hR _ ?_; clear hR R) | ((first | refine evC_seq ?_ | refine evC_block ?_); intro J hJ hJ') | (refine evC_region ?_; intro R hR) | (refine hJ _ ?_; clear hJ hJ' J) | refine evC_skip ?_ | refine evC_ret ?_ | refine evC_exit ?_) | ((with_reducible refine hJ' _ _ ?_ ?_); (focus (simp; done)); clear hJ hJ' J) | ((with_reducible apply evC_cond); rfl; rfl; all_goals (intro hc; first | (cases hc; done) | (try simp only at hc))))))
    exact ⟨by simp, ⟨_, rfl, nilRes _⟩, leH_get (by simp [leH, hget])⟩
  · rw [decide_eq_false h] at tr
    rw [if_neg h]
    (refine fn_of Try.func65 rfl (by rfl) ?_; simp only [Try.ntmps65, List.length_cons, List.length_nil, Nat.reduceAdd, Nat.reduceSub, List.replicate, List.cons_append, List.nil_append])
    (repeat (any_goals (first | ((with_reducible refine evL_call ?_ ?_ ?_); rfl; rfl; intro K hK; (first | ((first | (apply opA_callB (ad); rfl; rfl; rfl; rfl; exact Try.func22) | (apply opA_callB (pt); rfl; rfl; rfl; rfl; exact Try.func66)); kernel_rfl; rfl; (simp only [go_sem]; rfl); (first | rfl | simp [AV.inNL, AV.inN])) | (apply opA_callR (tr) (fun r => 11); rfl; rfl; rfl; rfl; exact Try.func46; kernel_rfl; rfl; rfl; (intro r hr q hq h; simp only [List.map_cons, List.map_nil, List.cons_append, List.nil_append, List.mem_cons, List.not_mem_nil, or_false] at hr hq; (try dsimp only at h); first | omega | (rcases hr with rfl | rfl | rfl <;> rcases hq with rfl | rfl | rfl <;> simp at h ⊢) | (rcases hr with rfl | rfl <;> rcases hq with rfl | rfl <;> simp at h ⊢) | ((repeat' split at h) <;> omega)); (simp only [argsOk, argOk, AV.ren, AV.renL, renL_map, List.mem_cons, List.not_mem_nil, forall_eq_or_imp, forall_eq, newOk, List.contains_cons, List.contains_nil, AV.refsL, AV.refs, refsL_map, AV.inN, AV.inNL, inH, inNL_map, go_sem]))); (simp only [hputs, hdels, renH, AV.ren, AV.renL, renL_map, go_sem]; refine hK _ ?_; clear hK K)) | ((with_reducible refine evL_one ?_ ?_); rfl; intro K hK; simp only [go_sem]; ((repeat (refine ndI (by first | assumption | omega | rfl) ?_)); refine hK _ ?_; clear hK K)) | (with_reducible first | (refine evL_nil ?_; refine hR _ ?_; clear hR R) | ((first | refine evC_seq ?_ | refine evC_block ?_); intro J hJ hJ') | (refine evC_region ?_; intro R hR) | (refine hJ _ ?_; clear hJ hJ' J) | refine evC_skip ?_ | refine evC_ret ?_ | refine evC_exit ?_) | ((with_reducible refine hJ' _ _ ?_ ?_); (focus (simp; done)); clear hJ hJ' J) | ((with_reducible apply evC_cond); rfl; rfl; all_goals (intro hc; first | (cases hc; done) | (try simp only at hc))))))
    all_goals (refine ⟨by simp, ⟨_, ?_, AV.le_refl _⟩, leH_get (by simp [leH, hget])⟩; simp only [Try.results65, resL, ldA, oneOf, go_sem])
theorem mint_fn (ex : Bool) (L : List Ac) (hL : Okl L) (a : Int) (ha : U a) (n : Nat) (hn : n < WW) : Fn Try.prog 36 [stA ex L, vi .u64 a, wN n] [] (resS (mintS L a n)) [] := by
  have w2 := with2_fn ex L hL a Try.func65 rfl rfl _ _ _ (mint1_fn ex L hL (ofS L a) (okx_of hL ha) n hn)
  unfold mintS
  generalize withS L a _ = r at w2 ⊢
  obtain ⟨R, e⟩ := r
  unfold wpv at w2
  (refine fn_of Try.func36 rfl (by rfl) ?_; simp only [Try.ntmps36, List.length_cons, List.length_nil, Nat.reduceAdd, Nat.reduceSub, List.replicate, List.cons_append, List.nil_append])
  (repeat (any_goals (first | ((with_reducible refine evL_one ?_ ?_); rfl; intro K hK; simp only [go_sem]; ((repeat (refine ndI (by first | assumption | omega | rfl) ?_)); refine hK _ ?_; clear hK K)) | (with_reducible first | (refine evL_nil ?_; refine hR _ ?_; clear hR R) | ((first | refine evC_seq ?_ | refine evC_block ?_); intro J hJ hJ') | (refine evC_region ?_; intro R hR) | (refine hJ _ ?_; clear hJ hJ' J) | refine evC_skip ?_ | refine evC_ret ?_ | refine evC_exit ?_) | ((with_reducible refine hJ' _ _ ?_ ?_); (focus (simp; done)); clear hJ hJ' J) | ((with_reducible apply evC_cond); rfl; rfl; all_goals (intro hc; first | (cases hc; done) | (try simp only at hc))))))
  refine evL_to rfl (St.to.frz 3 (pcs := [.sl ex 8 L.length (L.flatMap Ac.pv)]) (by simp [hget])) ?_
  simp only [St.frz, AV.frzL, AV.frz, frzH, if_true, eq_self, ↓reduceIte, Nat.reduceEqDiff, List.length_cons, List.length_nil, List.drop, Nat.reduceAdd, Nat.reduceLT]
  refine evL_to rfl (St.to.frz 5 (pcs := [.v (.int .u64 (l0 n)), .v (.int .u64 (l1 n)), .v (.int .u64 (l2 n)), .v (.int .u64 (l3 n))]) (by simp [hget])) ?_
  simp only [St.frz, AV.frzL, AV.frz, frzH, if_true, eq_self, ↓reduceIte, Nat.reduceEqDiff, List.length_cons, List.length_nil, List.drop, Nat.reduceAdd, Nat.reduceLT]
  (repeat (any_goals (first | ((with_reducible refine evL_call ?_ ?_ ?_); rfl; rfl; intro K hK; ((apply opA_callB (w2); rfl; rfl; rfl; rfl; exact Try.func61); kernel_rfl; rfl; (simp only [go_sem]; rfl); (first | rfl | simp [AV.inNL, AV.inN])); (simp only [go_sem]; refine hK _ ?_; clear hK K)) | ((with_reducible refine evL_one ?_ ?_); rfl; intro K hK; simp only [go_sem]; ((repeat (refine ndI (by first | assumption | omega | rfl) ?_)); refine hK _ ?_; clear hK K)) | (with_reducible first | (refine evL_nil ?_; refine hR _ ?_; clear hR R) | ((first | refine evC_seq ?_ | refine evC_block ?_); intro J hJ hJ') | (refine evC_region ?_; intro R hR) | (refine hJ _ ?_; clear hJ hJ' J) | refine evC_skip ?_ | refine evC_ret ?_ | refine evC_exit ?_) | ((with_reducible refine hJ' _ _ ?_ ?_); (focus (simp; done)); clear hJ hJ' J) | ((with_reducible apply evC_cond); rfl; rfl; all_goals (intro hc; first | (cases hc; done) | (try simp only at hc))))))
  all_goals (refine ⟨by simp, ⟨_, ?_, AV.le_refl _⟩, leH_get (by simp [leH, hget])⟩; simp only [Try.results36, resL, ldA, oneOf, go_sem])
theorem with4_fn (ex : Bool) (L : List Ac) (hL : Okl L) (a : Int) {f : FuncId} {fn : Func} (hg1 : Try.prog.funcs[f]? = some fn) (hg2 : (fn.name == "runtime.NumGoroutine") = false) (hg3 : fn.body.isNone = false) (A B C E : List PV) (r : List Ac × Int) (D : Fn Try.prog f [acA (ofS L a), .ep A, .ep B, .ep C, .ep E] [] (resS r) []) :
    Fn Try.prog 61 [stA ex L, vi .u64 a, .fn f [.ep A, .ep B, .ep C, .ep E]] [] (resS (withS L a r)) [] := by
  have ck := checkS_fn ex L (by have := hL.1; omega) (okl_fine hL)
  have of := of_fn ex L (by have := hL.1; omega) (fun y hy => ⟨(hL.2 y hy).2.1, (hL.2 y hy).2.2⟩) a
  unfold withS
  generalize okSt L = q at ck ⊢
  generalize ofS L a = x at of D
  cases q with
  | false =>
    simp only [Bool.false_eq_true, if_false] at ck
    (refine fn_of Try.func61 rfl (by rfl) ?_; simp only [Try.ntmps61, List.length_cons, List.length_nil, Nat.reduceAdd, Nat.reduceSub, List.replicate, List.cons_append, List.nil_append])
    (repeat (any_goals (first | ((with_reducible refine evL_call ?_ ?_ ?_); rfl; rfl; intro K hK; ((apply opA_callB (ck); rfl; rfl; rfl; rfl; exact Try.func17); kernel_rfl; rfl; (simp only [go_sem]; rfl); (first | rfl | simp [AV.inNL, AV.inN])); (simp only [go_sem]; refine hK _ ?_; clear hK K)) | ((with_reducible refine evL_one ?_ ?_); rfl; intro K hK; simp only [go_sem]; ((repeat (refine ndI (by first | assumption | omega | rfl) ?_)); refine hK _ ?_; clear hK K)) | (with_reducible first | (refine evL_nil ?_; refine hR _ ?_; clear hR R) | ((first | refine evC_seq ?_ | refine evC_block ?_); intro J hJ hJ') | (refine evC_region ?_; intro R hR) | (refine hJ _ ?_; clear hJ hJ' J) | refine evC_skip ?_ | refine evC_ret ?_ | refine evC_exit ?_) | ((with_reducible refine hJ' _ _ ?_ ?_); (focus (simp; done)); clear hJ hJ' J) | ((with_reducible apply evC_cond); rfl; rfl; all_goals (intro hc; first | (cases hc; done) | (try simp only at hc))))))
    exact ⟨by simp, ⟨_, rfl, nilRes _⟩, leH_get (by simp [leH, hget])⟩
  | true =>
    simp only [if_true] at ck
    by_cases h : a = 0
    · subst h
      (refine fn_of Try.func61 rfl (by rfl) ?_; simp only [Try.ntmps61, List.length_cons, List.length_nil, Nat.reduceAdd, Nat.reduceSub, List.replicate, List.cons_append, List.nil_append])
      (repeat (any_goals (first | ((with_reducible refine evL_call ?_ ?_ ?_); rfl; rfl; intro K hK; ((apply opA_callB (ck); rfl; rfl; rfl; rfl; exact Try.func17); kernel_rfl; rfl; (simp only [go_sem]; rfl); (first | rfl | simp [AV.inNL, AV.inN])); (simp only [go_sem]; refine hK _ ?_; clear hK K)) | ((with_reducible refine evL_one ?_ ?_); rfl; intro K hK; simp only [go_sem]; ((repeat (refine ndI (by first | assumption | omega | rfl) ?_)); refine hK _ ?_; clear hK K)) | (with_reducible first | (refine evL_nil ?_; refine hR _ ?_; clear hR R) | ((first | refine evC_seq ?_ | refine evC_block ?_); intro J hJ hJ') | (refine evC_region ?_; intro R hR) | (refine hJ _ ?_; clear hJ hJ' J) | refine evC_skip ?_ | refine evC_ret ?_ | refine evC_exit ?_) | ((with_reducible refine hJ' _ _ ?_ ?_); (focus (simp; done)); clear hJ hJ' J) | ((with_reducible apply evC_cond); rfl; rfl; all_goals (intro hc; first | (cases hc; done) | (try simp only at hc))))))
      exact ⟨by simp, ⟨_, rfl, nilRes _⟩, leH_get (by simp [leH, hget])⟩
    · have ha : (a == 0) = false := by simpa using h
      rw [if_neg h]
      obtain ⟨R, e⟩ := r
      (refine fn_of Try.func61 rfl (by rfl) ?_; simp only [Try.ntmps61, List.length_cons, List.length_nil, Nat.reduceAdd, Nat.reduceSub, List.replicate, List.cons_append, List.nil_append])
      (repeat (any_goals (first | ((with_reducible refine evL_call ?_ ?_ ?_); rfl; rfl; intro K hK; (first | (apply opA_callB (D); rfl; rfl; rfl; rfl; exact hg1; exact hg2; exact hg3; (simp only [go_sem, ha]; rfl); (first | rfl | simp [AV.inNL, AV.inN])) | ((first | (apply opA_callB (ck); rfl; rfl; rfl; rfl; exact Try.func17) | (apply opA_callB (of); rfl; rfl; rfl; rfl; exact Try.func49)); kernel_rfl; rfl; (simp only [go_sem, ha]; rfl); (first | rfl | simp [AV.inNL, AV.inN]))); (simp only [go_sem, ha]; refine hK _ ?_; clear hK K)) | ((with_reducible refine evL_one ?_ ?_); rfl; intro K hK; simp only [go_sem, ha]; ((repeat (refine ndI (by first | assumption | omega | rfl) ?_)); refine hK _ ?_; clear hK K)) | (with_reducible first | (refine evL_nil ?_; refine hR _ ?_; clear hR R) | ((first | refine evC_seq ?_ | refine evC_block ?_); intro J hJ hJ') | (refine evC_region ?_; intro R hR) | (refine hJ _ ?_; clear hJ hJ' J) | refine evC_skip ?_ | refine evC_ret ?_ | refine evC_exit ?_) | ((with_reducible refine hJ' _ _ ?_ ?_); (focus (simp; done)); clear hJ hJ' J) | ((with_reducible apply evC_cond); rfl; rfl; all_goals (intro hc; first | (cases hc; done) | (try simp only at hc))))))
      all_goals (refine ⟨by simp, ⟨_, ?_, AV.le_refl _⟩, leH_get (by simp [leH, hget])⟩; simp only [Try.results61, resL, ldA, oneOf, go_sem])
def moveR (L : List Ac) (x : Ac) (fr to : Int) (n : Nat) : List Ac × Int := if to = 0 then ([], 2) else if x.b < n then ([], 162) else if (decide (n = 0) || fr == to) = true then (laysL L x, 0) else if roomS L to = false then ([], 6) else (laysL (laysL L { x with b := x.b - n }) { ofS L to with b := ((ofS L to).b + n) % WW }, 0)
theorem okl_lays {L : List Ac} (hL : Okl L) {x : Ac} (hx : Okx x) : (laysL L x).length ≤ 801 ∧ ∀ y ∈ laysL L x, Okx y := ⟨by have := laysL_len L x; have := hL.1; omega, fun y hy => by
  rcases laysL_mem hy with rfl | h
  · exact hx
  · exact hL.2 y h⟩
theorem move1_fn (ex : Bool) (L : List Ac) (hL : Okl L) (x : Ac) (hx : Okx x) (fr to : Int) (hto : U to) (n : Nat) (hn : n < WW) : Fn Try.prog 62 [acA x, .ep [.v (.int .u64 to)], .ep [.sl ex 8 L.length (L.flatMap Ac.pv)], .ep (wpv n), .ep [.v (.int .u64 fr)]] [] (resS (moveR L x fr to n)) [] := by
  unfold wpv moveR
  by_cases h0 : to = 0
  · rw [if_pos h0]
    subst h0
    (refine fn_of Try.func62 rfl (by rfl) ?_; simp only [Try.ntmps62, List.length_cons, List.length_nil, Nat.reduceAdd, Nat.reduceSub, List.replicate, List.cons_append, List.nil_append])
    (repeat (any_goals (first | ((with_reducible refine evL_one ?_ ?_); rfl; intro K hK; simp only [go_sem]; ((repeat (refine ndI (by first | assumption | omega | rfl) ?_)); refine hK _ ?_; clear hK K)) | (with_reducible first | (refine evL_nil ?_; refine hR _ ?_; clear hR R) | ((first | refine evC_seq ?_ | refine evC_block ?_); intro J hJ hJ') | (refine evC_region ?_; intro R hR) | (refine hJ _ ?_; clear hJ hJ' J) | refine evC_skip ?_ | refine evC_ret ?_ | refine evC_exit ?_) | ((with_reducible refine hJ' _ _ ?_ ?_); (focus (simp; done)); clear hJ hJ' J) | ((with_reducible apply evL_unmet); rfl; rfl; rfl; (try simp only [go_sem])) | ((with_reducible apply evL_grd); rfl; rfl; rfl; all_goals (intro hb; first | (cases hb; done) | ((try simp only [Bool.not_true, Bool.not_false] at hb); (first | ((with_reducible intro K hK); simp only [go_sem]; ((repeat (refine ndI (by first | assumption | omega | rfl) ?_)); refine hK _ ?_; clear hK K)) | ((fail_if_success (with_reducible intro _)); simp only [go_sem]))))) | ((with_reducible apply evC_cond); rfl; rfl; all_goals (intro hc; first | (cases hc; done) | (try simp only at hc))))))
    exact ⟨by simp, ⟨_, rfl, nilRes _⟩, leH_get (by simp [leH, hget])⟩
  rw [if_neg h0]
  have e0 : (to == 0) = false := by simpa using h0
  have ls := less_fn ex L hL x hx n hn
  unfold lessS at ls
  by_cases h1 : x.b < n
  · rw [if_pos h1] at ls ⊢
    (refine fn_of Try.func62 rfl (by rfl) ?_; simp only [Try.ntmps62, List.length_cons, List.length_nil, Nat.reduceAdd, Nat.reduceSub, List.replicate, List.cons_append, List.nil_append])
    (repeat (any_goals (first | ((with_reducible refine evL_call ?_ ?_ ?_); rfl; rfl; intro K hK; ((apply opA_callB (ls); rfl; rfl; rfl; rfl; exact Try.func63); kernel_rfl; rfl; (simp only [go_sem, e0]; rfl); (first | rfl | simp [AV.inNL, AV.inN])); (simp only [go_sem, e0]; refine hK _ ?_; clear hK K)) | ((with_reducible refine evL_one ?_ ?_); rfl; intro K hK; simp only [go_sem, e0]; ((repeat (refine ndI (by first | assumption | omega | rfl) ?_)); refine hK _ ?_; clear hK K)) | (with_reducible first | (refine evL_nil ?_; refine hR _ ?_; clear hR R) | ((first | refine evC_seq ?_ | refine evC_block ?_); intro J hJ hJ') | (refine evC_region ?_; intro R hR) | (refine hJ _ ?_; clear hJ hJ' J) | refine evC_skip ?_ | refine evC_ret ?_ | refine evC_exit ?_) | ((with_reducible refine hJ' _ _ ?_ ?_); (focus (simp; done)); clear hJ hJ' J) | ((with_reducible apply evL_unmet); rfl; rfl; rfl; (try simp only [go_sem, e0])) | ((with_reducible apply evL_grd); rfl; rfl; rfl; all_goals (intro hb; first | (cases hb; done) | ((try simp only [Bool.not_true, Bool.not_false] at hb); (first | ((with_reducible intro K hK); simp only [go_sem, e0]; ((repeat (refine ndI (by first | assumption | omega | rfl) ?_)); refine hK _ ?_; clear hK K)) | ((fail_if_success (with_reducible intro _)); simp only [go_sem, e0]))))) | ((with_reducible apply evC_cond); rfl; rfl; all_goals (intro hc; first | (cases hc; done) | (try simp only at hc))))))
    exact ⟨by simp, ⟨_, rfl, nilRes _⟩, leH_get (by simp [leH, hget])⟩
  rw [if_neg h1] at ls ⊢
  have hm := okl_lays hL (x := { x with b := x.b - n }) ⟨⟨hx.1.1, by have := hx.1.2.1; show x.b - n < WW; omega, hx.1.2.2⟩, hx.2⟩
  generalize laysL L { x with b := x.b - n } = M at ls hm ⊢
  have f1 := wN_zero hn
  have lx := lays_fn ex L (by have := hL.1; omega) (fun y hy => ⟨(hL.2 y hy).2.1, (hL.2 y hy).2.2⟩) x ⟨hx.1.2.1, hx.2⟩
  have rm := room_fn ex L (by have := hL.1; omega) to
  have of := of_fn ex L (by have := hL.1; omega) (fun y hy => ⟨(hL.2 y hy).2.1, (hL.2 y hy).2.2⟩) to
  have oy := okx_of hL hto
  have ly := lays_fn false M (by omega) (fun y hy => (hm.2 y hy).2) { ofS L to with b := ((ofS L to).b + n) % WW } ⟨Nat.mod_lt _ (by decide), oy.2⟩
  have ad := add_fn (ofS L to).b n oy.1.2.1 hn
  generalize laysL L x = X at lx ⊢
  generalize laysL M _ = Y at ly ⊢
  generalize ofS L to = y at of ly ad
  generalize (y.b + n) % WW = k at ad ly
  generalize decide (WW ≤ y.b + n) = q at ad
  generalize decide (n = 0) = q1 at f1 ⊢
  obtain ⟨q2, e2⟩ : ∃ q, (fr == to) = q := ⟨_, rfl⟩
  rw [e2]
  generalize roomS L to = q3 at rm ⊢
  cases q1 <;> cases q2 <;> cases q3
  all_goals (refine fn_of Try.func62 rfl (by rfl) ?_; simp only [Try.ntmps62, List.length_cons, List.length_nil, Nat.reduceAdd, Nat.reduceSub, List.replicate, List.cons_append, List.nil_append])
  all_goals (have W := ndI e0 (ndI e2 f1); (repeat (any_goals (first | ((with_reducible refine evL_call ?_ ?_ ?_); rfl; rfl; intro K hK; (first | ((first | (apply opA_callB (ls); rfl; rfl; rfl; rfl; exact Try.func63) | (apply opA_callB (rm); rfl; rfl; rfl; rfl; exact Try.func60) | (apply opA_callB (of); rfl; rfl; rfl; rfl; exact Try.func49) | (apply opA_callB (ad); rfl; rfl; rfl; rfl; exact Try.func22)); kernel_rfl; rfl; (simp only [go_sem, W]; rfl); (first | rfl | simp [AV.inNL, AV.inN])) | ((apply opA_callB (lx); rfl; rfl; rfl; rfl; exact Try.func64); kernel_rfl; rfl; (simp only [go_sem, W]; rfl); (first | rfl | simp [AV.inNL, AV.inN])) | ((apply opA_callB (ly); rfl; rfl; rfl; rfl; exact Try.func64); kernel_rfl; rfl; (simp only [go_sem, W]; rfl); (first | rfl | simp [AV.inNL, AV.inN]))); (simp only [go_sem, W]; refine hK _ ?_; clear hK K)) | ((with_reducible refine evL_one ?_ ?_); rfl; intro K hK; simp only [go_sem, W]; ((repeat (refine ndI (by first | assumption | omega | rfl) ?_)); refine hK _ ?_; clear hK K)) | (with_reducible first | (refine evL_nil ?_; refine hR _ ?_; clear hR R) | ((first | refine evC_seq ?_ | refine evC_block ?_); intro J hJ hJ') | (refine evC_region ?_; intro R hR) | (refine hJ _ ?_; clear hJ hJ' J) | refine evC_skip ?_ | refine evC_ret ?_ | refine evC_exit ?_) | ((with_reducible refine hJ' _ _ ?_ ?_); (focus (simp; done)); clear hJ hJ' J) | ((with_reducible apply evL_unmet); rfl; rfl; rfl; (try simp only [go_sem, W])) | ((with_reducible apply evL_grd); rfl; rfl; rfl; all_goals (intro hb; first | (cases hb; done) | ((try simp only [Bool.not_true, Bool.not_false] at hb); (first | ((with_reducible intro K hK); simp only [go_sem, W]; ((repeat (refine ndI (by first | assumption | omega | rfl) ?_)); refine hK _ ?_; clear hK K)) | ((fail_if_success (with_reducible intro _)); simp only [go_sem, W]))))) | ((with_reducible apply evC_cond); rfl; rfl; all_goals (intro hc; first | (cases hc; done) | (try simp only at hc)))))))
  all_goals first
    | exact ⟨by simp, ⟨_, rfl, nilRes _⟩, leH_get (by simp [leH, hget])⟩
    | ((refine ⟨by simp, ⟨_, ?_, AV.le_refl _⟩, leH_get (by simp [leH, hget])⟩; simp only [Try.results62, resL, ldA, oneOf, go_sem]); done)
    | ((refine ⟨by simp, ⟨_, ?_, AV.le_refl _⟩, leH_get (by simp [leH, hget])⟩; simp only [Try.results62, resL, ldA, oneOf, go_sem]); rfl)
def moveS (L : List Ac) (fr to : Int) (n : Nat) : List Ac × Int := withS L fr (moveR L (ofS L fr) fr to n)
theorem move_fn (ex : Bool) (L : List Ac) (hL : Okl L) (fr to : Int) (hf : U fr) (hto : U to) (n : Nat) (hn : n < WW) : Fn Try.prog 32 [stA ex L, vi .u64 fr, vi .u64 to, wN n] [] (resS (moveS L fr to n)) [] := by
  have w2 := with4_fn ex L hL fr Try.func62 rfl rfl _ _ _ _ _ (move1_fn ex L hL (ofS L fr) (okx_of hL hf) fr to hto n hn)
  unfold moveS
  generalize withS L fr _ = r at w2 ⊢
  obtain ⟨R, e⟩ := r
  unfold wpv at w2
  (refine fn_of Try.func32 rfl (by rfl) ?_; simp only [Try.ntmps32, List.length_cons, List.length_nil, Nat.reduceAdd, Nat.reduceSub, List.replicate, List.cons_append, List.nil_append])
  (repeat (any_goals (first | ((with_reducible refine evL_one ?_ ?_); rfl; intro K hK; simp only [go_sem]; ((repeat (refine ndI (by first | assumption | omega | rfl) ?_)); refine hK _ ?_; clear hK K)) | (with_reducible first | (refine evL_nil ?_; refine hR _ ?_; clear hR R) | ((first | refine evC_seq ?_ | refine evC_block ?_); intro J hJ hJ') | (refine evC_region ?_; intro R hR) | (refine hJ _ ?_; clear hJ hJ' J) | refine evC_skip ?_ | refine evC_ret ?_ | refine evC_exit ?_) | ((with_reducible refine hJ' _ _ ?_ ?_); (focus (simp; done)); clear hJ hJ' J) | ((with_reducible apply evC_cond); rfl; rfl; all_goals (intro hc; first | (cases hc; done) | (try simp only at hc))))))
  refine evL_to rfl (St.to.frz 4 (pcs := [.sl ex 8 L.length (L.flatMap Ac.pv)]) (by simp [hget])) ?_
  simp only [St.frz, AV.frzL, AV.frz, frzH, if_true, eq_self, ↓reduceIte, Nat.reduceEqDiff, List.length_cons, List.length_nil, List.drop, Nat.reduceAdd, Nat.reduceLT]
  refine evL_to rfl (St.to.frz 5 (pcs := [.v (.int .u64 fr)]) (by simp [hget])) ?_
  simp only [St.frz, AV.frzL, AV.frz, frzH, if_true, eq_self, ↓reduceIte, Nat.reduceEqDiff, List.length_cons, List.length_nil, List.drop, Nat.reduceAdd, Nat.reduceLT]
  refine evL_to rfl (St.to.frz 6 (pcs := [.v (.int .u64 to)]) (by simp [hget])) ?_
  simp only [St.frz, AV.frzL, AV.frz, frzH, if_true, eq_self, ↓reduceIte, Nat.reduceEqDiff, List.length_cons, List.length_nil, List.drop, Nat.reduceAdd, Nat.reduceLT]
  refine evL_to rfl (St.to.frz 7 (pcs := [.v (.int .u64 (l0 n)), .v (.int .u64 (l1 n)), .v (.int .u64 (l2 n)), .v (.int .u64 (l3 n))]) (by simp [hget])) ?_
  simp only [St.frz, AV.frzL, AV.frz, frzH, if_true, eq_self, ↓reduceIte, Nat.reduceEqDiff, List.length_cons, List.length_nil, List.drop, Nat.reduceAdd, Nat.reduceLT]
  (repeat (any_goals (first | ((with_reducible refine evL_call ?_ ?_ ?_); rfl; rfl; intro K hK; ((apply opA_callB (w2); rfl; rfl; rfl; rfl; exact Try.func61); kernel_rfl; rfl; (simp only [go_sem]; rfl); (first | rfl | simp [AV.inNL, AV.inN])); (simp only [go_sem]; refine hK _ ?_; clear hK K)) | ((with_reducible refine evL_one ?_ ?_); rfl; intro K hK; simp only [go_sem]; ((repeat (refine ndI (by first | assumption | omega | rfl) ?_)); refine hK _ ?_; clear hK K)) | (with_reducible first | (refine evL_nil ?_; refine hR _ ?_; clear hR R) | ((first | refine evC_seq ?_ | refine evC_block ?_); intro J hJ hJ') | (refine evC_region ?_; intro R hR) | (refine hJ _ ?_; clear hJ hJ' J) | refine evC_skip ?_ | refine evC_ret ?_ | refine evC_exit ?_) | ((with_reducible refine hJ' _ _ ?_ ?_); (focus (simp; done)); clear hJ hJ' J) | ((with_reducible apply evC_cond); rfl; rfl; all_goals (intro hc; first | (cases hc; done) | (try simp only at hc))))))
  all_goals (refine ⟨by simp, ⟨_, ?_, AV.le_refl _⟩, leH_get (by simp [leH, hget])⟩; simp only [Try.results32, resL, ldA, oneOf, go_sem])
end Go.Proofs.Ytiggambibcohcaa
namespace Go.Proofs.Ytiggambibcohcaa
open Go.RowKit
open Nat (reduceBEq)
set_option maxRecDepth 20000
set_option maxHeartbeats 2000000
abbrev rbB (l : List Nat) : List AV := (l.flatMap bpv).map .c
theorem of_all (ex : Bool) (L : List Ac) (hL : Okl L) (a : Int) : Fn Try.prog 49 [stA ex L, vi .u64 a] [] (acR (ofS L a) 5 8) [(5, rbB (ofS L a).code), (8, raP (ofS L a).store)] := by
  cases h : isS L a with
  | true => exact of_row ex L (by have := hL.1; omega) (fun y hy => ⟨(hL.2 y hy).2.1, (hL.2 y hy).2.2⟩) a h
  | false =>
    have hof : ofS L a = ⟨a, 0, 0, [], []⟩ := by unfold ofS; rw [h]; rfl
    rw [hof]
    have t1 := St.to.nilagg (σ := ⟨[.agg [vi .u64 a, vi .u64 0, vi .u64 0, vi .u64 0, vi .u64 0, vi .u64 0, .c (.v (.slice none 0 0)), .c (.v (.slice none 0 0))]], []⟩) 0 6 5 5 1 rfl rfl (by simp) (by simp [St.free, freeH, AV.refsL, AV.refs]) (by decide)
    have t2 := St.to.nilagg (σ := ⟨[.agg [vi .u64 a, vi .u64 0, vi .u64 0, vi .u64 0, vi .u64 0, vi .u64 0, .row 5 5 1 0, .c (.v (.slice none 0 0))]], [(5, [])]⟩) 0 7 8 42 8 rfl rfl (by simp) (by simp [St.free, freeH, AV.refsL, AV.refs]) (by decide)
    have k := (of_nil ex L (by have := hL.1; omega) a h).to (t1.trans t2)
    simpa [acR, l0_zero, l1_zero, l2_zero, l3_zero, hput, rbB, raP] using k
theorem raP_split {L : List Pr} {i : Nat} {y : Pr} (h : L[i]? = some y) : raP L = raP (L.take i) ++ (y.pv.map .c ++ raP (L.drop (i + 1))) := by
  obtain ⟨hlt, rfl⟩ := List.getElem?_eq_some_iff.1 h
  conv => lhs; rw [← List.take_append_drop i L, List.drop_eq_getElem_cons hlt]
  unfold raP
  rw [List.flatMap_append, List.map_append, List.flatMap_cons, List.map_append]
theorem splP_set {L : List Pr} {i : Nat} (x : Pr) (hlt : i < L.length) : spl (raP L) (i * 8) (x.pv.map .c) = raP (L.take i ++ x :: L.drop (i + 1)) := by
  have e : (raP (L.take i)).length = i * 8 := by rw [raP_len, List.length_take, Nat.min_eq_left (by omega)]
  rw [raP_split (List.getElem?_eq_getElem hlt), spl_mid (raP (L.take i)) (L[i].pv.map .c) (raP (L.drop (i + 1))) (x.pv.map .c) (i * 8) e rfl]
  unfold raP
  rw [List.flatMap_append, List.map_append, List.flatMap_cons, List.map_append]
def saveR (L : List Ac) (x : Ac) (k v : Nat) : List Ac × Int :=
  let p := bsr (ltP x.store k) x.store.length 0 x.store.length
  let t := eqP x.store k p
  if t && decide (v = 0) then putS L { x with store := x.store.take p ++ x.store.drop (p + 1) }
  else if t then putS L { x with store := x.store.take p ++ ⟨k, v⟩ :: x.store.drop (p + 1) }
  else if !decide (v = 0) && decide (x.store.length = 24) then ([], 6)
  else if !decide (v = 0) then putS L { x with store := x.store.take p ++ ⟨k, v⟩ :: x.store.drop p }
  else putS L x
theorem save1_fn (ex : Bool) (L : List Ac) (hL : Okl L) (x : Ac) (hx : Okx x) (hs : x.store.length ≤ 24) (k v : Nat) (hk : k < WW) (hv : v < WW) : Fn Try.prog 67 [acR x 1005 1008, .ep (Pr.pv ⟨k, v⟩), .ep [.sl ex 8 L.length (L.flatMap Ac.pv)]] [(1005, rbB x.code), (1008, raP x.store)] (resS (saveR L x k v)) [] := by
  have sl := slot_fn x (by omega) hx.1.2.2.2.2.2 k hk
  have hple := bsr_le (ltP x.store k) x.store.length 0 x.store.length (Nat.zero_le _)
  have hqp : eqP x.store k (bsr (ltP x.store k) x.store.length 0 x.store.length) = true → bsr (ltP x.store k) x.store.length 0 x.store.length < x.store.length := fun h => by
    unfold eqP at h
    cases hz : x.store[bsr (ltP x.store k) x.store.length 0 x.store.length]? with
    | none => rw [hz] at h; cases h
    | some z => exact (List.getElem?_eq_some_iff.1 hz).1
  unfold saveR
  dsimp only
  generalize bsr (ltP x.store k) x.store.length 0 x.store.length = p at sl hple hqp ⊢
  generalize eqP x.store k p = q1 at sl hqp ⊢
  have f1 := wN_zero hv
  have f2 : ((x.store.length : Int) == 24) = decide (x.store.length = 24) := by rw [Bool.eq_iff_iff, beq_iff_eq, decide_eq_true_eq]; omega
  generalize decide (v = 0) = q2 at f1 ⊢
  generalize decide (x.store.length = 24) = q3 at f2 ⊢
  have de : q1 = true → Fn Try.prog 68 [.row 1000 42 8 x.store.length, vi .i64 p, vi .i64 (p + 1 : Nat)] [(1000, raP x.store)] (.row 1000 42 8 (x.store.length - 1)) [(1000, raP (x.store.take p ++ x.store.drop (p + 1)))] := fun h => deleteP_fn x.store p (hqp h) (by omega)
  have ins := insertP_fn x.store ⟨k, v⟩ p hple (by omega)
  rw [show raP [⟨k, v⟩] = [vi .u64 (l0 k), vi .u64 (l1 k), vi .u64 (l2 k), vi .u64 (l3 k), vi .u64 (l0 v), vi .u64 (l1 v), vi .u64 (l2 v), vi .u64 (l3 v)] from rfl] at ins
  have pt := fun (s : List Pr) (h1 : s.length ≤ 1000000) (h2 : ∀ p ∈ s, p.ok) => put_fn ex L hL { x with store := s } ⟨⟨hx.1.1, hx.1.2.1, hx.1.2.2.1, hx.1.2.2.2.1, Nat.le_trans h1 (by decide), h2⟩, hx.2.1, h1⟩
  have k4 := raP_len x.store
  have hxs := hx.1.2.2.2.2.2
  have k9 : (p : Int) + 1 = ((p + 1 : Nat) : Int) := by omega
  have ks : q1 = true → List.take (p * 8) (raP x.store) ++ [vi .u64 (l0 k), vi .u64 (l1 k), vi .u64 (l2 k), vi .u64 (l3 k), vi .u64 (l0 v), vi .u64 (l1 v), vi .u64 (l2 v), vi .u64 (l3 v)] ++ List.drop (p * 8 + 8) (raP x.store) = raP (x.store.take p ++ (⟨k, v⟩ : Pr) :: x.store.drop (p + 1)) := fun h => splP_set ⟨k, v⟩ (hqp h)
  unfold Pr.pv
  dsimp only
  cases q1 <;> cases q2 <;> cases q3
  all_goals try replace de := de rfl
  all_goals try replace hqp := hqp rfl
  all_goals try replace ks := ks rfl
  all_goals (refine fn_of Try.func67 rfl (by rfl) ?_; simp only [Try.ntmps67, List.length_cons, List.length_nil, Nat.reduceAdd, Nat.reduceSub, List.replicate, List.cons_append, List.nil_append])
  all_goals (have W := ndI f1 (ndI f2 (ndI k4 (ndI k9 (ndI @wrI (ndI @refsL_map @unC_map))))); (repeat (any_goals (first | ((with_reducible refine evL_call ?_ ?_ ?_); rfl; rfl; intro K hK; (first | ((apply opA_callv (sl); rfl; rfl; rfl; rfl; exact Try.func50); kernel_rfl; rfl; (focus ((simp (disch := omega) only [AV.viewL, AV.view, viewRow, unC, Option.map_some, go_sem, W, flat_length bpv_len, flat_length pr_len, Nat.mul_one]); (try rfl))); rfl) | (apply opA_callR (de) (fun r => 1008); rfl; rfl; rfl; rfl; exact Try.func68; kernel_rfl; rfl; rfl; (intro r hr q hq h; simp (disch := omega) only [List.map_cons, List.map_nil, List.cons_append, List.nil_append, List.mem_cons, List.not_mem_nil, or_false] at hr hq; (try dsimp only at h); first | omega | (rcases hr with rfl | rfl | rfl <;> rcases hq with rfl | rfl | rfl <;> simp at h ⊢) | (rcases hr with rfl | rfl <;> rcases hq with rfl | rfl <;> simp at h ⊢) | ((repeat' split at h) <;> omega)); (simp (disch := omega) only [argsOk, argOk, AV.ren, AV.renL, renL_map, List.mem_cons, List.not_mem_nil, forall_eq_or_imp, forall_eq, newOk, List.contains_cons, List.contains_nil, AV.refsL, AV.refs, refsL_map, AV.inN, AV.inNL, inH, inNL_map, go_sem, W, flat_length bpv_len, flat_length pr_len, Nat.mul_one])) | (apply opA_callR (ins) (fun r => if r = 1000 then 1008 else if r = 1001 then 56 else 57); rfl; rfl; rfl; rfl; exact Try.func69; kernel_rfl; rfl; rfl; (intro r hr q hq h; simp (disch := omega) only [List.map_cons, List.map_nil, List.cons_append, List.nil_append, List.mem_cons, List.not_mem_nil, or_false] at hr hq; (try dsimp only at h); first | omega | (rcases hr with rfl | rfl | rfl <;> rcases hq with rfl | rfl | rfl <;> simp at h ⊢) | (rcases hr with rfl | rfl <;> rcases hq with rfl | rfl <;> simp at h ⊢) | ((repeat' split at h) <;> omega)); (simp (disch := omega) only [argsOk, argOk, AV.ren, AV.renL, renL_map, List.mem_cons, List.not_mem_nil, forall_eq_or_imp, forall_eq, newOk, List.contains_cons, List.contains_nil, AV.refsL, AV.refs, refsL_map, AV.inN, AV.inNL, inH, inNL_map, go_sem, W, flat_length bpv_len, flat_length pr_len, Nat.mul_one]))); (simp (disch := omega) only [hputs, hdels, renH, AV.ren, AV.renL, renL_map, go_sem, W, flat_length bpv_len, flat_length pr_len, Nat.mul_one]; refine hK _ ?_; clear hK K)) | ((with_reducible refine evL_one ?_ ?_); rfl; intro K hK; simp (disch := omega) only [go_sem, W, flat_length bpv_len, flat_length pr_len, Nat.mul_one]; ((repeat (refine ndI (by first | assumption | omega | rfl) ?_)); refine hK _ ?_; clear hK K)) | (with_reducible first | (refine evL_nil ?_; refine hR _ ?_; clear hR R) | ((first | refine evC_seq ?_ | refine evC_block ?_); intro J hJ hJ') | (refine evC_region ?_; intro R hR) | (refine hJ _ ?_; clear hJ hJ' J) | refine evC_skip ?_ | refine evC_ret ?_ | refine evC_exit ?_) | ((with_reducible refine hJ' _ _ ?_ ?_); (focus (simp; done)); clear hJ hJ' J) | ((with_reducible apply evL_unmet); rfl; rfl; rfl; (try simp (disch := omega) only [go_sem, W, flat_length bpv_len, flat_length pr_len, Nat.mul_one])) | ((with_reducible apply evL_grd); rfl; rfl; rfl; all_goals (intro hb; first | (cases hb; done) | ((try simp only [Bool.not_true, Bool.not_false] at hb); (first | ((with_reducible intro K hK); simp (disch := omega) only [go_sem, W, flat_length bpv_len, flat_length pr_len, Nat.mul_one]; ((repeat (refine ndI (by first | assumption | omega | rfl) ?_)); refine hK _ ?_; clear hK K)) | ((fail_if_success (with_reducible intro _)); simp (disch := omega) only [go_sem, W, flat_length bpv_len, flat_length pr_len, Nat.mul_one]))))) | ((with_reducible apply evC_cond); rfl; rfl; all_goals (intro hc; first | (cases hc; done) | (try simp only at hc)))))))
  all_goals first
    | (exact ⟨by simp, ⟨_, rfl, nilRes _⟩, leH_get (by simp [leH, hget])⟩; done)
    | skip
  all_goals try rw [ks]
  all_goals refine evL_to rfl (St.to.frz 1005 (pcs := x.code.flatMap bpv) (by simp [hget])) ?_
  all_goals simp only [St.frz, AV.frzL, AV.frz, frzH, frzL_map, flat_length bpv_len, Nat.mul_one, if_true, eq_self, ↓reduceIte, Nat.reduceEqDiff]
  have el : ((x.store.take p ++ (⟨k, v⟩ : Pr) :: x.store.drop p).flatMap Pr.pv).length = (x.store.length + 1) * 8 := by rw [flat_length pr_len]; simp only [List.length_append, List.length_cons, List.length_take, List.length_drop]; omega
  have en : x.store.length + 1 = (x.store.take p ++ (⟨k, v⟩ : Pr) :: x.store.drop p).length := by simp only [List.length_append, List.length_cons, List.length_take, List.length_drop]; omega
  have pp : Fn Try.prog 66 [stA ex L, .agg (ac8 x.a x.b x.n (bsV x.code) (.sl false 8 (x.store.length + 1) ((x.store.take p ++ (⟨k, v⟩ : Pr) :: x.store.drop p).flatMap Pr.pv)))] [] (resS (putS L { x with store := x.store.take p ++ (⟨k, v⟩ : Pr) :: x.store.drop p })) [] := by
    rw [en]; exact pt _ (by rw [← en]; omega) fun q hq => by simp only [List.mem_append, List.mem_cons] at hq; rcases hq with h | h <;> first | exact hxs q (List.mem_of_mem_take h) | exact hxs q (List.mem_of_mem_drop h) | (rcases h with rfl | h; exact ⟨hk, hv⟩; exact hxs q (List.mem_of_mem_drop h))
  obtain ⟨r, hr⟩ : ∃ r, putS L { x with store := x.store.take p ++ (⟨k, v⟩ : Pr) :: x.store.drop p } = r := ⟨_, rfl⟩
  rw [hr] at pp
  refine evL_to rfl (St.to.frz 57 (pcs := (x.store.take p ++ (⟨k, v⟩ : Pr) :: x.store.drop p).flatMap Pr.pv) (by simp [hget, raP])) ?_
  simp only [St.frz, AV.frzL, AV.frz, frzH, el, if_true, eq_self, ↓reduceIte, Nat.reduceEqDiff]
  rotate_left
  have pp : Fn Try.prog 66 [stA ex L, .agg (ac8 x.a x.b x.n (bsV x.code) (psV x.store))] [] (resS (putS L x)) [] := pt x.store (by omega) hxs
  obtain ⟨r, hr⟩ : ∃ r, putS L x = r := ⟨_, rfl⟩
  rw [hr] at pp
  refine evL_to rfl (St.to.frz 1008 (pcs := x.store.flatMap Pr.pv) (by simp [hget])) ?_
  simp only [St.frz, AV.frzL, AV.frz, frzH, flat_length pr_len, if_true, eq_self, ↓reduceIte, Nat.reduceEqDiff]
  rotate_left
  have pp : Fn Try.prog 66 [stA ex L, .agg (ac8 x.a x.b x.n (bsV x.code) (psV x.store))] [] (resS (putS L x)) [] := pt x.store (by omega) hxs
  obtain ⟨r, hr⟩ : ∃ r, putS L x = r := ⟨_, rfl⟩
  rw [hr] at pp
  refine evL_to rfl (St.to.frz 1008 (pcs := x.store.flatMap Pr.pv) (by simp [hget])) ?_
  simp only [St.frz, AV.frzL, AV.frz, frzH, flat_length pr_len, if_true, eq_self, ↓reduceIte, Nat.reduceEqDiff]
  rotate_left
  have el : ((x.store.take p ++ (⟨k, v⟩ : Pr) :: x.store.drop (p + 1)).flatMap Pr.pv).length = (x.store.length) * 8 := by rw [flat_length pr_len]; simp only [List.length_append, List.length_cons, List.length_take, List.length_drop]; omega
  have en : x.store.length = (x.store.take p ++ (⟨k, v⟩ : Pr) :: x.store.drop (p + 1)).length := by simp only [List.length_append, List.length_cons, List.length_take, List.length_drop]; omega
  have pp : Fn Try.prog 66 [stA ex L, .agg (ac8 x.a x.b x.n (bsV x.code) (.sl false 8 (x.store.length) ((x.store.take p ++ (⟨k, v⟩ : Pr) :: x.store.drop (p + 1)).flatMap Pr.pv)))] [] (resS (putS L { x with store := x.store.take p ++ (⟨k, v⟩ : Pr) :: x.store.drop (p + 1) })) [] := by
    rw [en]; exact pt _ (by rw [← en]; omega) fun q hq => by simp only [List.mem_append, List.mem_cons] at hq; rcases hq with h | h <;> first | exact hxs q (List.mem_of_mem_take h) | exact hxs q (List.mem_of_mem_drop h) | (rcases h with rfl | h; exact ⟨hk, hv⟩; exact hxs q (List.mem_of_mem_drop h))
  obtain ⟨r, hr⟩ : ∃ r, putS L { x with store := x.store.take p ++ (⟨k, v⟩ : Pr) :: x.store.drop (p + 1) } = r := ⟨_, rfl⟩
  rw [hr] at pp
  refine evL_to rfl (St.to.frz 1008 (pcs := (x.store.take p ++ (⟨k, v⟩ : Pr) :: x.store.drop (p + 1)).flatMap Pr.pv) (by simp [hget, raP])) ?_
  simp only [St.frz, AV.frzL, AV.frz, frzH, el, if_true, eq_self, ↓reduceIte, Nat.reduceEqDiff]
  rotate_left
  have el : ((x.store.take p ++ (⟨k, v⟩ : Pr) :: x.store.drop (p + 1)).flatMap Pr.pv).length = (x.store.length) * 8 := by rw [flat_length pr_len]; simp only [List.length_append, List.length_cons, List.length_take, List.length_drop]; omega
  have en : x.store.length = (x.store.take p ++ (⟨k, v⟩ : Pr) :: x.store.drop (p + 1)).length := by simp only [List.length_append, List.length_cons, List.length_take, List.length_drop]; omega
  have pp : Fn Try.prog 66 [stA ex L, .agg (ac8 x.a x.b x.n (bsV x.code) (.sl false 8 (x.store.length) ((x.store.take p ++ (⟨k, v⟩ : Pr) :: x.store.drop (p + 1)).flatMap Pr.pv)))] [] (resS (putS L { x with store := x.store.take p ++ (⟨k, v⟩ : Pr) :: x.store.drop (p + 1) })) [] := by
    rw [en]; exact pt _ (by rw [← en]; omega) fun q hq => by simp only [List.mem_append, List.mem_cons] at hq; rcases hq with h | h <;> first | exact hxs q (List.mem_of_mem_take h) | exact hxs q (List.mem_of_mem_drop h) | (rcases h with rfl | h; exact ⟨hk, hv⟩; exact hxs q (List.mem_of_mem_drop h))
  obtain ⟨r, hr⟩ : ∃ r, putS L { x with store := x.store.take p ++ (⟨k, v⟩ : Pr) :: x.store.drop (p + 1) } = r := ⟨_, rfl⟩
  rw [hr] at pp
  refine evL_to rfl (St.to.frz 1008 (pcs := (x.store.take p ++ (⟨k, v⟩ : Pr) :: x.store.drop (p + 1)).flatMap Pr.pv) (by simp [hget, raP])) ?_
  simp only [St.frz, AV.frzL, AV.frz, frzH, el, if_true, eq_self, ↓reduceIte, Nat.reduceEqDiff]
  rotate_left
  have el : ((x.store.take p ++ x.store.drop (p + 1)).flatMap Pr.pv).length = (x.store.length - 1) * 8 := by rw [flat_length pr_len]; simp only [List.length_append, List.length_cons, List.length_take, List.length_drop]; omega
  have en : x.store.length - 1 = (x.store.take p ++ x.store.drop (p + 1)).length := by simp only [List.length_append, List.length_cons, List.length_take, List.length_drop]; omega
  have pp : Fn Try.prog 66 [stA ex L, .agg (ac8 x.a x.b x.n (bsV x.code) (.sl false 8 (x.store.length - 1) ((x.store.take p ++ x.store.drop (p + 1)).flatMap Pr.pv)))] [] (resS (putS L { x with store := x.store.take p ++ x.store.drop (p + 1) })) [] := by
    rw [en]; exact pt _ (by rw [← en]; omega) fun q hq => by simp only [List.mem_append, List.mem_cons] at hq; rcases hq with h | h <;> first | exact hxs q (List.mem_of_mem_take h) | exact hxs q (List.mem_of_mem_drop h) | (rcases h with rfl | h; exact ⟨hk, hv⟩; exact hxs q (List.mem_of_mem_drop h))
  obtain ⟨r, hr⟩ : ∃ r, putS L { x with store := x.store.take p ++ x.store.drop (p + 1) } = r := ⟨_, rfl⟩
  rw [hr] at pp
  refine evL_to rfl (St.to.frz 1008 (pcs := (x.store.take p ++ x.store.drop (p + 1)).flatMap Pr.pv) (by simp [hget, raP])) ?_
  simp only [St.frz, AV.frzL, AV.frz, frzH, el, if_true, eq_self, ↓reduceIte, Nat.reduceEqDiff]
  rotate_left
  have el : ((x.store.take p ++ x.store.drop (p + 1)).flatMap Pr.pv).length = (x.store.length - 1) * 8 := by rw [flat_length pr_len]; simp only [List.length_append, List.length_cons, List.length_take, List.length_drop]; omega
  have en : x.store.length - 1 = (x.store.take p ++ x.store.drop (p + 1)).length := by simp only [List.length_append, List.length_cons, List.length_take, List.length_drop]; omega
  have pp : Fn Try.prog 66 [stA ex L, .agg (ac8 x.a x.b x.n (bsV x.code) (.sl false 8 (x.store.length - 1) ((x.store.take p ++ x.store.drop (p + 1)).flatMap Pr.pv)))] [] (resS (putS L { x with store := x.store.take p ++ x.store.drop (p + 1) })) [] := by
    rw [en]; exact pt _ (by rw [← en]; omega) fun q hq => by simp only [List.mem_append, List.mem_cons] at hq; rcases hq with h | h <;> first | exact hxs q (List.mem_of_mem_take h) | exact hxs q (List.mem_of_mem_drop h) | (rcases h with rfl | h; exact ⟨hk, hv⟩; exact hxs q (List.mem_of_mem_drop h))
  obtain ⟨r, hr⟩ : ∃ r, putS L { x with store := x.store.take p ++ x.store.drop (p + 1) } = r := ⟨_, rfl⟩
  rw [hr] at pp
  refine evL_to rfl (St.to.frz 1008 (pcs := (x.store.take p ++ x.store.drop (p + 1)).flatMap Pr.pv) (by simp [hget, raP])) ?_
  simp only [St.frz, AV.frzL, AV.frz, frzH, el, if_true, eq_self, ↓reduceIte, Nat.reduceEqDiff]
  rotate_left
  all_goals obtain ⟨r1, r2⟩ := r
  all_goals (repeat (any_goals (first | ((with_reducible refine evL_call ?_ ?_ ?_); rfl; rfl; intro K hK; ((apply opA_callB (pp); rfl; rfl; rfl; rfl; exact Try.func66); kernel_rfl; rfl; (simp only [go_sem]; rfl); (first | rfl | simp [AV.inNL, AV.inN])); (simp only [go_sem]; refine hK _ ?_; clear hK K)) | ((with_reducible refine evL_one ?_ ?_); rfl; intro K hK; simp only [go_sem]; ((repeat (refine ndI (by first | assumption | omega | rfl) ?_)); refine hK _ ?_; clear hK K)) | (with_reducible first | (refine evL_nil ?_; refine hR _ ?_; clear hR R) | ((first | refine evC_seq ?_ | refine evC_block ?_); intro J hJ hJ') | (refine evC_region ?_; intro R hR) | (refine hJ _ ?_; clear hJ hJ' J) | refine evC_skip ?_ | refine evC_ret ?_ | refine evC_exit ?_) | ((with_reducible refine hJ' _ _ ?_ ?_); (focus (simp; done)); clear hJ hJ' J) | ((with_reducible apply evL_unmet); rfl; rfl; rfl; (try simp only [go_sem])) | ((with_reducible apply evL_grd); rfl; rfl; rfl; all_goals (intro hb; first | (cases hb; done) | ((try simp only [Bool.not_true, Bool.not_false] at hb); (first | ((with_reducible intro K hK); simp only [go_sem]; ((repeat (refine ndI (by first | assumption | omega | rfl) ?_)); refine hK _ ?_; clear hK K)) | ((fail_if_success (with_reducible intro _)); simp only [go_sem]))))) | ((with_reducible apply evC_cond); rfl; rfl; all_goals (intro hc; first | (cases hc; done) | (try simp only at hc))))))
  all_goals (refine ⟨by simp, ⟨_, ?_, AV.le_refl _⟩, leH_get (by simp [leH, hget])⟩; simp only [Try.results67, resL, ldA, oneOf, go_sem])
  all_goals first | rfl | (simp only [Bool.and_true, Bool.and_false, Bool.not_true, Bool.not_false, Bool.true_and, Bool.false_and, Bool.false_eq_true, if_true, if_false, hr]; done) | (simp only [Bool.and_true, Bool.and_false, Bool.not_true, Bool.not_false, Bool.true_and, Bool.false_and, Bool.false_eq_true, if_true, if_false, hr]; rfl)
theorem okS_all {q : Bool} {L : List Ac} : ∀ {i : Nat}, okS q L i = true → ∀ j, j < i → okS1 L j = true
  | 0, _, j, hj => by omega
  | i + 1, h, j, hj => by
    unfold okS at h
    rw [Bool.and_eq_true] at h
    by_cases e : j = i
    · rw [e]; exact h.2
    · exact okS_all h.1 j (by omega)
theorem okSt_ac {L : List Ac} (h : okSt L = true) : ∀ y ∈ L, okAc y = true := fun y hy => by
  obtain ⟨j, hj⟩ := List.mem_iff_getElem?.1 hy
  have := okS_all h j (List.getElem?_eq_some_iff.1 hj).1
  unfold okS1 at this
  rw [hj] at this
  simp only [Bool.and_eq_true] at this
  exact this.1.1
theorem okAc_store {x : Ac} (h : okAc x = true) : x.store.length ≤ 24 := by
  unfold okAc at h
  simp only [Bool.and_eq_true, decide_eq_true_eq] at h
  exact h.1.2
theorem ofS_store {L : List Ac} (h : okSt L = true) (a : Int) : (ofS L a).store.length ≤ 24 := by
  unfold ofS
  split
  · cases hx : L[posS L a]? with
    | none => exact Nat.zero_le _
    | some x => exact okAc_store (okSt_ac h x (List.mem_of_getElem? hx))
  · exact Nat.zero_le _
def saveS (L : List Ac) (a : Int) (k v : Nat) : List Ac × Int := withS L a (saveR L (ofS L a) k v)
theorem withSave_fn (ex : Bool) (L : List Ac) (hL : Okl L) (a : Int) (ha : U a) (k v : Nat) (hk : k < WW) (hv : v < WW) :
    Fn Try.prog 61 [stA ex L, vi .u64 a, .fn 67 [.ep (Pr.pv ⟨k, v⟩), .ep [.sl ex 8 L.length (L.flatMap Ac.pv)]]] [] (resS (saveS L a k v)) [] := by
  have ck := checkS_fn ex L (by have := hL.1; omega) (okl_fine hL)
  have of := of_all ex L hL a
  unfold saveS withS
  have D := fun h => save1_fn ex L hL (ofS L a) (okx_of hL ha) (ofS_store (L := L) h a) k v hk hv
  generalize okSt L = q at ck D ⊢
  generalize saveR L (ofS L a) k v = r at D ⊢
  generalize ofS L a = x at of D
  unfold Pr.pv at D ⊢
  dsimp only at D ⊢
  obtain ⟨R, e⟩ := r
  cases q with
  | false =>
    simp only [Bool.false_eq_true, if_false] at ck
    (refine fn_of Try.func61 rfl (by rfl) ?_; simp only [Try.ntmps61, List.length_cons, List.length_nil, Nat.reduceAdd, Nat.reduceSub, List.replicate, List.cons_append, List.nil_append])
    (repeat (any_goals (first | ((with_reducible refine evL_call ?_ ?_ ?_); rfl; rfl; intro K hK; ((apply opA_callB (ck); rfl; rfl; rfl; rfl; exact Try.func17); kernel_rfl; rfl; (simp only [go_sem]; rfl); (first | rfl | simp [AV.inNL, AV.inN])); (simp only [go_sem]; refine hK _ ?_; clear hK K)) | ((with_reducible refine evL_one ?_ ?_); rfl; intro K hK; simp only [go_sem]; ((repeat (refine ndI (by first | assumption | omega | rfl) ?_)); refine hK _ ?_; clear hK K)) | (with_reducible first | (refine evL_nil ?_; refine hR _ ?_; clear hR R) | ((first | refine evC_seq ?_ | refine evC_block ?_); intro J hJ hJ') | (refine evC_region ?_; intro R hR) | (refine hJ _ ?_; clear hJ hJ' J) | refine evC_skip ?_ | refine evC_ret ?_ | refine evC_exit ?_) | ((with_reducible refine hJ' _ _ ?_ ?_); (focus (simp; done)); clear hJ hJ' J) | ((with_reducible apply evC_cond); rfl; rfl; all_goals (intro hc; first | (cases hc; done) | (try simp only at hc))))))
    exact ⟨by simp, ⟨_, rfl, nilRes _⟩, leH_get (by simp [leH, hget])⟩
  | true =>
    replace D := D rfl
    simp only [if_true] at ck
    by_cases h : a = 0
    · subst h
      (refine fn_of Try.func61 rfl (by rfl) ?_; simp only [Try.ntmps61, List.length_cons, List.length_nil, Nat.reduceAdd, Nat.reduceSub, List.replicate, List.cons_append, List.nil_append])
      (repeat (any_goals (first | ((with_reducible refine evL_call ?_ ?_ ?_); rfl; rfl; intro K hK; ((apply opA_callB (ck); rfl; rfl; rfl; rfl; exact Try.func17); kernel_rfl; rfl; (simp only [go_sem]; rfl); (first | rfl | simp [AV.inNL, AV.inN])); (simp only [go_sem]; refine hK _ ?_; clear hK K)) | ((with_reducible refine evL_one ?_ ?_); rfl; intro K hK; simp only [go_sem]; ((repeat (refine ndI (by first | assumption | omega | rfl) ?_)); refine hK _ ?_; clear hK K)) | (with_reducible first | (refine evL_nil ?_; refine hR _ ?_; clear hR R) | ((first | refine evC_seq ?_ | refine evC_block ?_); intro J hJ hJ') | (refine evC_region ?_; intro R hR) | (refine hJ _ ?_; clear hJ hJ' J) | refine evC_skip ?_ | refine evC_ret ?_ | refine evC_exit ?_) | ((with_reducible refine hJ' _ _ ?_ ?_); (focus (simp; done)); clear hJ hJ' J) | ((with_reducible apply evC_cond); rfl; rfl; all_goals (intro hc; first | (cases hc; done) | (try simp only at hc))))))
      exact ⟨by simp, ⟨_, rfl, nilRes _⟩, leH_get (by simp [leH, hget])⟩
    · have ha : (a == 0) = false := by simpa using h
      rw [if_neg h]
      (refine fn_of Try.func61 rfl (by rfl) ?_; simp only [Try.ntmps61, List.length_cons, List.length_nil, Nat.reduceAdd, Nat.reduceSub, List.replicate, List.cons_append, List.nil_append])
      (repeat (any_goals (first | ((with_reducible refine evL_call ?_ ?_ ?_); rfl; rfl; intro K hK; (first | ((apply opA_callB (ck); rfl; rfl; rfl; rfl; exact Try.func17); kernel_rfl; rfl; (simp only [go_sem, ha, refsL_map]; rfl); (first | rfl | simp [AV.inNL, AV.inN])) | (apply opA_callR (of) (fun r => r); rfl; rfl; rfl; rfl; exact Try.func49; kernel_rfl; rfl; rfl; (intro r hr q hq h; simp only [List.map_cons, List.map_nil, List.cons_append, List.nil_append, List.mem_cons, List.not_mem_nil, or_false] at hr hq; (try dsimp only at h); first | omega | (rcases hr with rfl | rfl | rfl <;> rcases hq with rfl | rfl | rfl <;> simp at h ⊢) | (rcases hr with rfl | rfl <;> rcases hq with rfl | rfl <;> simp at h ⊢) | ((repeat' split at h) <;> omega)); (simp only [argsOk, argOk, AV.ren, AV.renL, renL_map, List.mem_cons, List.not_mem_nil, forall_eq_or_imp, forall_eq, newOk, List.contains_cons, List.contains_nil, AV.refsL, AV.refs, refsL_map, AV.inN, AV.inNL, inH, inNL_map, go_sem, ha, refsL_map])) | (apply opA_callR (D) (fun r => r - 1000); rfl; rfl; rfl; rfl; exact Try.func67; kernel_rfl; rfl; rfl; (intro r hr q hq h; simp only [List.map_cons, List.map_nil, List.cons_append, List.nil_append, List.mem_cons, List.not_mem_nil, or_false] at hr hq; (try dsimp only at h); first | omega | (rcases hr with rfl | rfl | rfl <;> rcases hq with rfl | rfl | rfl <;> simp at h ⊢) | (rcases hr with rfl | rfl <;> rcases hq with rfl | rfl <;> simp at h ⊢) | ((repeat' split at h) <;> omega)); (simp only [argsOk, argOk, AV.ren, AV.renL, renL_map, List.mem_cons, List.not_mem_nil, forall_eq_or_imp, forall_eq, newOk, List.contains_cons, List.contains_nil, AV.refsL, AV.refs, refsL_map, AV.inN, AV.inNL, inH, inNL_map, go_sem, ha, refsL_map]))); (simp only [hputs, hdels, renH, AV.ren, AV.renL, renL_map, go_sem, ha, refsL_map]; refine hK _ ?_; clear hK K)) | ((with_reducible refine evL_one ?_ ?_); rfl; intro K hK; simp only [go_sem, ha, refsL_map]; ((repeat (refine ndI (by first | assumption | omega | rfl) ?_)); refine hK _ ?_; clear hK K)) | (with_reducible first | (refine evL_nil ?_; refine hR _ ?_; clear hR R) | ((first | refine evC_seq ?_ | refine evC_block ?_); intro J hJ hJ') | (refine evC_region ?_; intro R hR) | (refine hJ _ ?_; clear hJ hJ' J) | refine evC_skip ?_ | refine evC_ret ?_ | refine evC_exit ?_) | ((with_reducible refine hJ' _ _ ?_ ?_); (focus (simp; done)); clear hJ hJ' J) | ((with_reducible apply evC_cond); rfl; rfl; all_goals (intro hc; first | (cases hc; done) | (try simp only at hc))))))
      all_goals (refine ⟨by simp, ⟨_, ?_, AV.le_refl _⟩, leH_get (by simp [leH, hget])⟩; simp only [Try.results61, resL, ldA, oneOf, go_sem])
theorem save_fn (ex : Bool) (L : List Ac) (hL : Okl L) (a : Int) (ha : U a) (k v : Nat) (hk : k < WW) (hv : v < WW) : Fn Try.prog 37 [stA ex L, vi .u64 a, prA ⟨k, v⟩] [] (resS (saveS L a k v)) [] := by
  have w2 := withSave_fn ex L hL a ha k v hk hv
  generalize saveS L a k v = r at w2 ⊢
  obtain ⟨R, e⟩ := r
  unfold Pr.pv at w2
  dsimp only at w2 ⊢
  (refine fn_of Try.func37 rfl (by rfl) ?_; simp only [Try.ntmps37, List.length_cons, List.length_nil, Nat.reduceAdd, Nat.reduceSub, List.replicate, List.cons_append, List.nil_append])
  (repeat (any_goals (first | ((with_reducible refine evL_one ?_ ?_); rfl; intro K hK; simp only [go_sem]; ((repeat (refine ndI (by first | assumption | omega | rfl) ?_)); refine hK _ ?_; clear hK K)) | (with_reducible first | (refine evL_nil ?_; refine hR _ ?_; clear hR R) | ((first | refine evC_seq ?_ | refine evC_block ?_); intro J hJ hJ') | (refine evC_region ?_; intro R hR) | (refine hJ _ ?_; clear hJ hJ' J) | refine evC_skip ?_ | refine evC_ret ?_ | refine evC_exit ?_) | ((with_reducible refine hJ' _ _ ?_ ?_); (focus (simp; done)); clear hJ hJ' J) | ((with_reducible apply evC_cond); rfl; rfl; all_goals (intro hc; first | (cases hc; done) | (try simp only at hc))))))
  refine evL_to rfl (St.to.frz 3 (pcs := [.sl ex 8 L.length (L.flatMap Ac.pv)]) (by simp [hget])) ?_
  simp only [St.frz, AV.frzL, AV.frz, frzH, if_true, eq_self, ↓reduceIte, Nat.reduceEqDiff, List.length_cons, List.length_nil, List.drop, Nat.reduceAdd, Nat.reduceLT]
  refine evL_to rfl (St.to.frz 5 (pcs := [.v (.int .u64 (l0 k)), .v (.int .u64 (l1 k)), .v (.int .u64 (l2 k)), .v (.int .u64 (l3 k)), .v (.int .u64 (l0 v)), .v (.int .u64 (l1 v)), .v (.int .u64 (l2 v)), .v (.int .u64 (l3 v))]) (by simp [hget])) ?_
  simp only [St.frz, AV.frzL, AV.frz, frzH, if_true, eq_self, ↓reduceIte, Nat.reduceEqDiff, List.length_cons, List.length_nil, List.drop, Nat.reduceAdd, Nat.reduceLT]
  (repeat (any_goals (first | ((with_reducible refine evL_call ?_ ?_ ?_); rfl; rfl; intro K hK; ((apply opA_callB (w2); rfl; rfl; rfl; rfl; exact Try.func61); kernel_rfl; rfl; (simp only [go_sem]; rfl); (first | rfl | simp [AV.inNL, AV.inN])); (simp only [go_sem]; refine hK _ ?_; clear hK K)) | ((with_reducible refine evL_one ?_ ?_); rfl; intro K hK; simp only [go_sem]; ((repeat (refine ndI (by first | assumption | omega | rfl) ?_)); refine hK _ ?_; clear hK K)) | (with_reducible first | (refine evL_nil ?_; refine hR _ ?_; clear hR R) | ((first | refine evC_seq ?_ | refine evC_block ?_); intro J hJ hJ') | (refine evC_region ?_; intro R hR) | (refine hJ _ ?_; clear hJ hJ' J) | refine evC_skip ?_ | refine evC_ret ?_ | refine evC_exit ?_) | ((with_reducible refine hJ' _ _ ?_ ?_); (focus (simp; done)); clear hJ hJ' J) | ((with_reducible apply evC_cond); rfl; rfl; all_goals (intro hc; first | (cases hc; done) | (try simp only at hc))))))
  all_goals (refine ⟨by simp, ⟨_, ?_, AV.le_refl _⟩, leH_get (by simp [leH, hget])⟩; simp only [Try.results37, resL, ldA, oneOf, go_sem])
def totalS (L : List Ac) : Nat := if okSt L then (L.map Ac.b).sum % WW else 0
theorem totalS_fn (ex : Bool) (L : List Ac) (hL : Okl L) : Fn Try.prog 20 [stA ex L] [] (wN (totalS L)) [] := by
  have ck := checkS_fn ex L (by have := hL.1; omega) (okl_fine hL)
  have tn := total_nil ex L (by have := hL.1; omega) fun y hy => (hL.2 y hy).1.2.1
  unfold totalS
  generalize okSt L = q at ck ⊢
  generalize (L.map Ac.b).sum % WW = m at tn ⊢
  generalize decide (WW ≤ (L.map Ac.b).sum) = q2 at tn
  cases q
  all_goals simp only [Bool.false_eq_true, if_true, if_false] at ck ⊢
  all_goals (refine fn_of Try.func20 rfl (by rfl) ?_; simp only [Try.ntmps20, List.length_cons, List.length_nil, Nat.reduceAdd, Nat.reduceSub, List.replicate, List.cons_append, List.nil_append])
  all_goals (repeat (any_goals (first | ((with_reducible refine evL_call ?_ ?_ ?_); rfl; rfl; intro K hK; ((first | (apply opA_callB (ck); rfl; rfl; rfl; rfl; exact Try.func17) | (apply opA_callB (tn); rfl; rfl; rfl; rfl; exact Try.func46)); kernel_rfl; rfl; (simp only [go_sem]; rfl); (first | rfl | simp [AV.inNL, AV.inN])); (simp only [go_sem]; refine hK _ ?_; clear hK K)) | ((with_reducible refine evL_one ?_ ?_); rfl; intro K hK; simp only [go_sem]; ((repeat (refine ndI (by first | assumption | omega | rfl) ?_)); refine hK _ ?_; clear hK K)) | (with_reducible first | (refine evL_nil ?_; refine hR _ ?_; clear hR R) | ((first | refine evC_seq ?_ | refine evC_block ?_); intro J hJ hJ') | (refine evC_region ?_; intro R hR) | (refine hJ _ ?_; clear hJ hJ' J) | refine evC_skip ?_ | refine evC_ret ?_ | refine evC_exit ?_) | ((with_reducible refine hJ' _ _ ?_ ?_); (focus (simp; done)); clear hJ hJ' J) | ((with_reducible apply evC_cond); rfl; rfl; all_goals (intro hc; first | (cases hc; done) | (try simp only at hc))))))
  all_goals (refine ⟨by simp, ⟨_, ?_, AV.le_refl _⟩, leH_get (by simp [leH, hget])⟩; simp only [Try.results20, resL, ldA, oneOf, go_sem])
  all_goals simp only [wN, l0_zero, l1_zero, l2_zero, l3_zero]
def OfS (L : List Ac) (a : Int) : Ac := if okSt L then ofS L a else ⟨a, 0, 0, [], []⟩
theorem OfS_fn (ex : Bool) (L : List Ac) (hL : Okl L) (a : Int) : Fn Try.prog 19 [stA ex L, vi .u64 a] [] (acA (OfS L a)) [] := by
  have ck := checkS_fn ex L (by have := hL.1; omega) (okl_fine hL)
  have of := of_fn ex L (by have := hL.1; omega) (fun y hy => ⟨(hL.2 y hy).2.1, (hL.2 y hy).2.2⟩) a
  unfold OfS
  generalize ofS L a = x at of ⊢
  generalize okSt L = q at ck ⊢
  cases q
  · simp only [Bool.false_eq_true, if_false] at ck ⊢
    have z := AV.le_agg (a := [vi .u64 a, vi .u64 0, vi .u64 0, vi .u64 0, vi .u64 0, vi .u64 0, .c (.v (.slice none 0 0)), .c (.v (.slice none 0 0))]) (b := ac8 a 0 0 (bsV []) (psV [])) ⟨AV.le_refl _, AV.le_of (by rw [l0_zero]), AV.le_of (by rw [l1_zero]), AV.le_of (by rw [l2_zero]), AV.le_of (by rw [l3_zero]), AV.le_refl _, AV.le_nil _ _, AV.le_nil _ _, trivial⟩
    have k : Fn Try.prog 19 [stA ex L, vi .u64 a] [] (.agg [vi .u64 a, vi .u64 0, vi .u64 0, vi .u64 0, vi .u64 0, vi .u64 0, .c (.v (.slice none 0 0)), .c (.v (.slice none 0 0))]) [] := by
      (refine fn_of Try.func19 rfl (by rfl) ?_; simp only [Try.ntmps19, List.length_cons, List.length_nil, Nat.reduceAdd, Nat.reduceSub, List.replicate, List.cons_append, List.nil_append])
      (repeat (any_goals (first | ((with_reducible refine evL_call ?_ ?_ ?_); rfl; rfl; intro K hK; ((apply opA_callB (ck); rfl; rfl; rfl; rfl; exact Try.func17); kernel_rfl; rfl; (simp only [go_sem]; rfl); (first | rfl | simp [AV.inNL, AV.inN])); (simp only [go_sem]; refine hK _ ?_; clear hK K)) | ((with_reducible refine evL_one ?_ ?_); rfl; intro K hK; simp only [go_sem]; ((repeat (refine ndI (by first | assumption | omega | rfl) ?_)); refine hK _ ?_; clear hK K)) | (with_reducible first | (refine evL_nil ?_; refine hR _ ?_; clear hR R) | ((first | refine evC_seq ?_ | refine evC_block ?_); intro J hJ hJ') | (refine evC_region ?_; intro R hR) | (refine hJ _ ?_; clear hJ hJ' J) | refine evC_skip ?_ | refine evC_ret ?_ | refine evC_exit ?_) | ((with_reducible refine hJ' _ _ ?_ ?_); (focus (simp; done)); clear hJ hJ' J) | ((with_reducible apply evC_cond); rfl; rfl; all_goals (intro hc; first | (cases hc; done) | (try simp only at hc))))))
      all_goals (refine ⟨by simp, ⟨_, ?_, AV.le_refl _⟩, leH_get (by simp [leH, hget])⟩; simp only [Try.results19, resL, ldA, oneOf, go_sem])
    exact k.weaken z fun r cs h => by cases h
  · simp only [if_true] at ck ⊢
    (refine fn_of Try.func19 rfl (by rfl) ?_; simp only [Try.ntmps19, List.length_cons, List.length_nil, Nat.reduceAdd, Nat.reduceSub, List.replicate, List.cons_append, List.nil_append])
    (repeat (any_goals (first | ((with_reducible refine evL_call ?_ ?_ ?_); rfl; rfl; intro K hK; ((first | (apply opA_callB (ck); rfl; rfl; rfl; rfl; exact Try.func17) | (apply opA_callB (of); rfl; rfl; rfl; rfl; exact Try.func49)); kernel_rfl; rfl; (simp only [go_sem]; rfl); (first | rfl | simp [AV.inNL, AV.inN])); (simp only [go_sem]; refine hK _ ?_; clear hK K)) | ((with_reducible refine evL_one ?_ ?_); rfl; intro K hK; simp only [go_sem]; ((repeat (refine ndI (by first | assumption | omega | rfl) ?_)); refine hK _ ?_; clear hK K)) | (with_reducible first | (refine evL_nil ?_; refine hR _ ?_; clear hR R) | ((first | refine evC_seq ?_ | refine evC_block ?_); intro J hJ hJ') | (refine evC_region ?_; intro R hR) | (refine hJ _ ?_; clear hJ hJ' J) | refine evC_skip ?_ | refine evC_ret ?_ | refine evC_exit ?_) | ((with_reducible refine hJ' _ _ ?_ ?_); (focus (simp; done)); clear hJ hJ' J) | ((with_reducible apply evC_cond); rfl; rfl; all_goals (intro hc; first | (cases hc; done) | (try simp only at hc))))))
    all_goals (refine ⟨by simp, ⟨_, ?_, AV.le_refl _⟩, leH_get (by simp [leH, hget])⟩; simp only [Try.results19, resL, ldA, oneOf, go_sem])
def loadX (x : Ac) (k : Nat) : Nat := if eqP x.store k (bsr (ltP x.store k) x.store.length 0 x.store.length) then ((x.store[bsr (ltP x.store k) x.store.length 0 x.store.length]?).map Pr.v).getD 0 else 0
theorem OfS_store (L : List Ac) (a : Int) : (OfS L a).store.length ≤ 24 := by
  unfold OfS
  split
  · exact ofS_store (by assumption) a
  · exact Nat.zero_le _
theorem OfS_ok {L : List Ac} (hL : Okl L) {a : Int} (ha : U a) : Okx (OfS L a) := by
  unfold OfS
  split
  · exact okx_of hL ha
  · exact okx_zero ha
theorem load_fn (ex : Bool) (L : List Ac) (hL : Okl L) (a : Int) (ha : U a) (k : Nat) (hk : k < WW) : Fn Try.prog 21 [stA ex L, vi .u64 a, wN k] [] (wN (loadX (OfS L a) k)) [] := by
  have of := OfS_fn ex L hL a
  have hs := OfS_store L a
  have ho := (OfS_ok hL ha).1.2.2.2.2.2
  generalize OfS L a = x at of hs ho ⊢
  have sl := slot_fn x (by omega) ho k hk
  unfold loadX
  have hqp : eqP x.store k (bsr (ltP x.store k) x.store.length 0 x.store.length) = true → ∃ y, x.store[bsr (ltP x.store k) x.store.length 0 x.store.length]? = some y := fun h => by
    unfold eqP at h
    cases hz : x.store[bsr (ltP x.store k) x.store.length 0 x.store.length]? with
    | none => rw [hz] at h; cases h
    | some z => exact ⟨z, rfl⟩
  generalize bsr (ltP x.store k) x.store.length 0 x.store.length = p at sl hqp ⊢
  generalize eqP x.store k p = q at sl hqp ⊢
  cases q with
  | false =>
    simp only [Bool.false_eq_true, if_false]
    (refine fn_of Try.func21 rfl (by rfl) ?_; simp only [Try.ntmps21, List.length_cons, List.length_nil, Nat.reduceAdd, Nat.reduceSub, List.replicate, List.cons_append, List.nil_append])
    (repeat (any_goals (first | ((with_reducible refine evL_call ?_ ?_ ?_); rfl; rfl; intro K hK; ((first | (apply opA_callB (of); rfl; rfl; rfl; rfl; exact Try.func19) | (apply opA_callB (sl); rfl; rfl; rfl; rfl; exact Try.func50)); kernel_rfl; rfl; (simp only [go_sem]; rfl); (first | rfl | simp [AV.inNL, AV.inN])); (simp only [go_sem]; refine hK _ ?_; clear hK K)) | ((with_reducible refine evL_one ?_ ?_); rfl; intro K hK; simp only [go_sem]; ((repeat (refine ndI (by first | assumption | omega | rfl) ?_)); refine hK _ ?_; clear hK K)) | (with_reducible first | (refine evL_nil ?_; refine hR _ ?_; clear hR R) | ((first | refine evC_seq ?_ | refine evC_block ?_); intro J hJ hJ') | (refine evC_region ?_; intro R hR) | (refine hJ _ ?_; clear hJ hJ' J) | refine evC_skip ?_ | refine evC_ret ?_ | refine evC_exit ?_) | ((with_reducible refine hJ' _ _ ?_ ?_); (focus (simp; done)); clear hJ hJ' J) | ((with_reducible apply evC_cond); rfl; rfl; all_goals (intro hc; first | (cases hc; done) | (try simp only at hc))))))
    all_goals (refine ⟨by simp, ⟨_, ?_, AV.le_refl _⟩, leH_get (by simp [leH, hget])⟩; simp only [Try.results21, resL, ldA, oneOf, go_sem])
    all_goals simp only [wN, l0_zero, l1_zero, l2_zero, l3_zero]
  | true =>
    obtain ⟨y, hy⟩ := hqp rfl
    have hlt := (List.getElem?_eq_some_iff.1 hy).1
    have k2 := ps_at hy
    simp only [if_true, hy, Option.map_some, Option.getD_some]
    (refine fn_of Try.func21 rfl (by rfl) ?_; simp only [Try.ntmps21, List.length_cons, List.length_nil, Nat.reduceAdd, Nat.reduceSub, List.replicate, List.cons_append, List.nil_append])
    (repeat (any_goals (first | ((with_reducible refine evL_call ?_ ?_ ?_); rfl; rfl; intro K hK; ((first | (apply opA_callB (of); rfl; rfl; rfl; rfl; exact Try.func19) | (apply opA_callB (sl); rfl; rfl; rfl; rfl; exact Try.func50)); kernel_rfl; rfl; (simp (disch := omega) only [go_sem, k2]; rfl); (first | rfl | simp [AV.inNL, AV.inN])); (simp (disch := omega) only [go_sem, k2]; refine hK _ ?_; clear hK K)) | ((with_reducible refine evL_one ?_ ?_); rfl; intro K hK; simp (disch := omega) only [go_sem, k2]; ((repeat (refine ndI (by first | assumption | omega | rfl) ?_)); refine hK _ ?_; clear hK K)) | (with_reducible first | (refine evL_nil ?_; refine hR _ ?_; clear hR R) | ((first | refine evC_seq ?_ | refine evC_block ?_); intro J hJ hJ') | (refine evC_region ?_; intro R hR) | (refine hJ _ ?_; clear hJ hJ' J) | refine evC_skip ?_ | refine evC_ret ?_ | refine evC_exit ?_) | ((with_reducible refine hJ' _ _ ?_ ?_); (focus (simp; done)); clear hJ hJ' J) | ((with_reducible apply evC_cond); rfl; rfl; all_goals (intro hc; first | (cases hc; done) | (try simp only at hc))))))
    all_goals (refine ⟨by simp, ⟨_, ?_, AV.le_refl _⟩, leH_get (by simp [leH, hget])⟩; simp only [Try.results21, resL, ldA, oneOf, go_sem])
end Go.Proofs.Ytiggambibcohcaa
namespace Go.Proofs.Ytiggambibcohcaa
open Go.RowKit
def optA (x : Ac) : Option Ac := if emptyA x then none else some x
theorem optA_key {x : Ac} : ∀ y ∈ optA x, y.a = x.a := fun y h => by
  unfold optA at h
  split at h
  · cases h
  · cases h; rfl
theorem empty_eq {x : Ac} (h : emptyA x = true) : x = ⟨x.a, 0, 0, [], []⟩ := by
  unfold emptyA at h
  simp only [Bool.and_eq_true, decide_eq_true_eq] at h
  obtain ⟨⟨h1, h2⟩, h3⟩ := h
  refine ac_ext ⟨rfl, h1, h2, List.eq_nil_of_length_eq_zero (by omega), List.eq_nil_of_length_eq_zero (by omega)⟩
theorem posS_parts {L : List Ac} (hr : RisesS L) (a : Int) : Parts Ac.a L a (posS L a) := bsr_parts (key := Ac.a) hr fun i h => ltA_eq h
theorem isS_fnd {L : List Ac} (hr : RisesS L) (a : Int) : isS L a = (fnd Ac.a a L).isSome := by
  rw [parts_fnd hr (posS_parts hr a)]
  unfold isS eqA
  cases L[posS L a]? with
  | none => rfl
  | some z =>
    simp only [Option.filter_some, decide_eq_true_eq]
    unfold cmpI
    by_cases h : z.a = a
    · rw [if_pos h, if_neg (by omega), if_neg (by omega)]; rfl
    · rw [if_neg h]
      by_cases h2 : z.a < a
      · rw [if_pos h2]; rfl
      · rw [if_neg h2, if_pos (by omega)]; rfl
theorem ofS_fnd {L : List Ac} (hr : RisesS L) (a : Int) : ofS L a = (fnd Ac.a a L).getD ⟨a, 0, 0, [], []⟩ := by
  have h := isS_fnd hr a
  unfold ofS
  cases hf : fnd Ac.a a L with
  | none => rw [hf] at h; rw [h]; rfl
  | some z =>
    rw [hf] at h
    rw [h]
    show (L[posS L a]?).getD _ = z
    rw [parts_fnd hr (posS_parts hr a)] at hf
    cases hz : L[posS L a]? with
    | none => rw [hz] at hf; cases hf
    | some w =>
      rw [hz] at hf
      rw [Option.filter_some] at hf
      split at hf
      · cases hf; rfl
      · cases hf
theorem laysL_lay {L : List Ac} (hr : RisesS L) (x : Ac) : laysL L x = lay Ac.a x.a (optA x) L := by
  rw [parts_lay hr (posS_parts hr x.a), ← isS_fnd hr]
  unfold laysL optA
  cases isS L x.a <;> cases emptyA x <;> simp
theorem rises_lays {L : List Ac} (hr : RisesS L) (x : Ac) : RisesS (laysL L x) := by
  rw [laysL_lay hr]; exact rises_lay (key := Ac.a) optA_key hr
def FullS (L : List Ac) : Prop := ∀ x ∈ L, okAc x = true ∧ emptyA x = false
theorem bal_lays {L : List Ac} (hr : RisesS L) (x : Ac) : ((laysL L x).map Ac.b).sum + (ofS L x.a).b = (L.map Ac.b).sum + x.b := by
  have := sum_lay (key := Ac.a) (k := x.a) (o := optA x) Ac.b hr
  rw [← laysL_lay hr] at this
  have e1 : ((fnd Ac.a x.a L).map Ac.b).getD 0 = (ofS L x.a).b := by
    rw [ofS_fnd hr]; cases fnd Ac.a x.a L <;> rfl
  have e2 : ((optA x).map Ac.b).getD 0 = x.b := by
    unfold optA
    cases he : emptyA x with
    | false => rfl
    | true => rw [empty_eq he]; rfl
  omega
theorem okS_of {q : Bool} {L : List Ac} : ∀ {i : Nat}, q = true → (∀ j, j < i → okS1 L j = true) → okS q L i = true
  | 0, hq, _ => hq
  | i + 1, hq, h => by
    unfold okS
    rw [okS_of hq fun j hj => h j (by omega), h i (by omega)]; rfl
theorem okS_q {q : Bool} {L : List Ac} : ∀ {i : Nat}, okS q L i = true → q = true
  | 0, h => h
  | i + 1, h => by
    unfold okS at h
    rw [Bool.and_eq_true] at h
    exact okS_q h.1
theorem okSt_iff {L : List Ac} : okSt L = true ↔ RisesS L ∧ FullS L ∧ (L.map Ac.b).sum < WW ∧ manyL L ≤ 24 := by
  constructor
  · intro h
    have := okS_q h
    simp only [Bool.and_eq_true, Bool.not_eq_true', decide_eq_true_eq, decide_eq_false_iff_not] at this
    exact ⟨okSt_rises h, fun x hx => ⟨okSt_ac h x hx, okSt_full h hx⟩, by omega, this.2⟩
  · rintro ⟨h1, h2, h3, h4⟩
    refine okS_of (by simp only [Bool.and_eq_true, Bool.not_eq_true', decide_eq_true_eq, decide_eq_false_iff_not]; exact ⟨by omega, h4⟩) fun j hj => ?_
    have hp := List.pairwise_iff_getElem.1 h1
    have hf := h2 L[j] (List.getElem_mem hj)
    cases j with
    | zero => rw [okS1_zero (List.getElem?_eq_getElem hj), hf.1, hf.2]; rfl
    | succ j =>
      rw [okS1_succ (List.getElem?_eq_getElem (by omega)) (List.getElem?_eq_getElem hj), hf.1, hf.2]
      simpa using hp j (j + 1) (by omega) hj (by omega)
def Ac.bal (x : Ac) (b : Nat) : Ac := ⟨x.a, b, x.n, x.code, x.store⟩
theorem okAc_bal {x : Ac} (b : Nat) (h : okAc x = true) : okAc (x.bal b) = true := h
theorem ofS_a {L : List Ac} (hr : RisesS L) (a : Int) : (ofS L a).a = a := by
  rw [ofS_fnd hr]
  cases hf : fnd Ac.a a L with
  | none => rfl
  | some z => exact (fnd_key hf).1
theorem okAc_of {L : List Ac} (h : okSt L = true) {a : Int} (ha : a ≠ 0) : okAc (ofS L a) = true := by
  obtain ⟨h1, h2, _⟩ := okSt_iff.1 h
  rw [ofS_fnd h1]
  cases hf : fnd Ac.a a L with
  | none => simp [okAc, okTo, ha]
  | some z => exact (h2 z (fnd_key hf).2).1
theorem ofS_le {L : List Ac} (hr : RisesS L) (a : Int) : (ofS L a).b ≤ (L.map Ac.b).sum := by
  have e1 := bal_lays hr ⟨a, 0, 0, [], []⟩
  simp only at e1
  omega
theorem roomS_eq {L : List Ac} {a : Int} (ha : a ≠ 0) : roomS L a = (isS L a || (decide (a < 16) || decide (manyL L < 24))) := by simp [roomS, ha]
theorem isS_full {L : List Ac} (hr : RisesS L) (hf : FullS L) (a : Int) : isS L a = !emptyA (ofS L a) := by
  rw [isS_fnd hr, ofS_fnd hr]
  cases h1 : fnd Ac.a a L with
  | none => simp [emptyA]
  | some z => simp [(hf z (fnd_key h1).2).2]
theorem moveR_ok {L : List Ac} {x : Ac} {fr to : Int} {n : Nat} (h0 : to ≠ 0) (h1 : n ≤ x.b) (h2 : n ≠ 0) (h3 : fr ≠ to) :
    moveR L x fr to n = if roomS L to = false then ([], 6) else (laysL (laysL L (x.bal (x.b - n))) ((ofS L to).bal (((ofS L to).b + n) % WW)), 0) := by
  unfold moveR
  rw [if_neg h0, if_neg (by omega), if_neg (by simp only [Bool.or_eq_true, decide_eq_true_eq, beq_iff_eq]; rintro (e | e); exact h2 e; exact h3 e)]
  rfl
end Go.Proofs.Ytiggambibcohcaa
namespace Go.Proofs.Ytiggambibcohcaa
open Go.RowKit
open Nat (reduceBEq)
set_option maxRecDepth 20000
set_option maxHeartbeats 2000000
theorem rmany_fn (ex : Bool) (L : List Ac) (hL : L.length ≤ maxLen) : Fn Try.prog 57 [acS ex L] [] (vi .i64 (manyL L : Nat)) [] := by
  unfold manyL
  (refine fn_of Try.func57 rfl (by rfl) ?_; simp only [Try.ntmps57, List.length_cons, List.length_nil, Nat.reduceAdd, Nat.reduceSub, List.replicate, List.cons_append, List.nil_append])
  (repeat (any_goals (first | ((with_reducible refine evL_one ?_ ?_); rfl; intro K hK; simp only [go_sem]; ((repeat (refine ndI (by first | assumption | omega | rfl) ?_)); refine hK _ ?_; clear hK K)) | (with_reducible first | (refine evL_nil ?_; refine hR _ ?_; clear hR R) | ((first | refine evC_seq ?_ | refine evC_block ?_); intro J hJ hJ') | (refine evC_region ?_; intro R hR) | (refine hJ _ ?_; clear hJ hJ' J) | refine evC_skip ?_ | refine evC_ret ?_ | refine evC_exit ?_) | ((with_reducible refine hJ' _ _ ?_ ?_); (focus (simp; done)); clear hJ hJ' J) | ((with_reducible apply evC_cond); rfl; rfl; all_goals (intro hc; first | (cases hc; done) | (try simp only at hc))))))
  refine evC_upto L.length (fun i => ⟨[.any, .any, .any, vi .i64 (((L.take i).filter fun x => decide (16 ≤ x.a)).length : Nat), .any, .any, acS ex L, vi .i64 L.length, vi .i64 (i : Int), .any, .any, .any, .any, .any, .any, .any, .any, .any, .any], []⟩) (St.le_of (by simp [leT]) (by simp [leH, hget])) ?_
  intro i hi J hJ hJ'
  (try dsimp only at hJ ⊢)
  have k8 : L.length < 9223372036854775808 := Nat.lt_succ_of_le hL
  rcases Nat.lt_or_ge i L.length with hlt | hge
  · obtain ⟨x, hx⟩ : ∃ x, L[i]? = some x := ⟨_, List.getElem?_eq_getElem hlt⟩
    have k1 : (decide ((i : Int) < (L.length : Int))) = true := decide_eq_true (by omega)
    have k2 := ac_at hx
    have k7 : (i : Int) + 1 = ((i + 1 : Nat) : Int) := by omega
    have k3 : ((L.take (i + 1)).filter fun x => decide (16 ≤ x.a)) = ((L.take i).filter fun x => decide (16 ≤ x.a)) ++ (if decide (16 ≤ x.a) then [x] else []) := by
      rw [List.take_add_one, hx, List.filter_append]; simp [List.filter_cons]
    have k5 : ((L.take i).filter fun x => decide (16 ≤ x.a)).length ≤ i := Nat.le_trans (List.length_filter_le _ _) (by rw [List.length_take]; omega)
    rw [k3, List.length_append] at hJ
    generalize ((L.take i).filter fun x => decide (16 ≤ x.a)).length = c at hJ k5 ⊢
    have k6 : (c : Int) + 1 = ((c + 1 : Nat) : Int) := by omega
    cases hq : decide (16 ≤ x.a)
    all_goals rw [hq] at hJ
    all_goals (have W := ndI k1 (ndI k2 (ndI k6 (ndI k7 @wrI))); (repeat (any_goals (first | ((with_reducible refine evL_one ?_ ?_); rfl; intro K hK; simp (disch := omega) only [go_sem, W, hq]; ((repeat (refine ndI (by first | assumption | omega | rfl) ?_)); refine hK _ ?_; clear hK K)) | (with_reducible first | (refine evL_nil ?_; refine hR _ ?_; clear hR R) | ((first | refine evC_seq ?_ | refine evC_block ?_); intro J hJ hJ') | (refine evC_region ?_; intro R hR) | (refine hJ _ ?_; clear hJ hJ' J) | refine evC_skip ?_ | refine evC_ret ?_ | refine evC_exit ?_) | ((with_reducible refine hJ' _ _ ?_ ?_); (focus (simp; done)); clear hJ hJ' J) | ((with_reducible apply evC_cond); rfl; rfl; all_goals (intro hc; first | (cases hc; done) | (try simp only at hc)))))))
    all_goals exact hJ _ hlt (St.le_of (by simp [leT]) (by simp [leH, hget]))
  · have k1 : (decide ((i : Int) < (L.length : Int))) = false := decide_eq_false (by omega)
    rw [List.take_of_length_le hge]
    (repeat (any_goals (first | ((with_reducible refine evL_one ?_ ?_); rfl; intro K hK; simp only [go_sem, k1]; ((repeat (refine ndI (by first | assumption | omega | rfl) ?_)); refine hK _ ?_; clear hK K)) | (with_reducible first | (refine evL_nil ?_; refine hR _ ?_; clear hR R) | ((first | refine evC_seq ?_ | refine evC_block ?_); intro J hJ hJ') | (refine evC_region ?_; intro R hR) | (refine hJ _ ?_; clear hJ hJ' J) | refine evC_skip ?_ | refine evC_ret ?_ | refine evC_exit ?_) | ((with_reducible refine hJ' _ _ ?_ ?_); (focus (simp; done)); clear hJ hJ' J) | ((with_reducible apply evC_cond); rfl; rfl; all_goals (intro hc; first | (cases hc; done) | (try simp only at hc))))))
    all_goals (refine ⟨by simp, ⟨_, ?_, AV.le_refl _⟩, leH_get (by simp [leH, hget])⟩; simp only [Try.results57, resL, ldA, oneOf, go_sem])
abbrev stO (ex : Bool) (L : List Ac) (r : Nat) (out : List Nat) (i : Int) : St := ⟨[.any, .any, .ptr 2 0, vb false, .row r 27 4 out.length, .any, .any, acS ex L, vi .i64 L.length, vi .i64 i, .any, .any, .any, .any, .any, .any, .any, .any, .any, .any, .any, .any, .any], [(2, [vi .u64 0, vi .u64 0, vi .u64 0, vi .u64 0]), (r, rcW out)]⟩
theorem stO_rn (ex : Bool) (L : List Ac) (out : List Nat) (i : Int) : (stO ex L 17 out i).to (stO ex L 500 out i) := by
  refine (St.to.rn (fun r => if r = 17 then 500 else r) (fun r => if r = 500 then 17 else r) [2, 17] (by simp [AV.inNL, AV.inN]) (by simp) (by simp [inH, AV.inNL, AV.inN, inNL_rcW]) (by simp) (by simp)).trans (St.to.of_le (St.le_of (by simp [leT, AV.renL, AV.ren]) (by simp [leH, hget, renH, AV.renL, AV.ren, renL_rcW])))
theorem rtotal_fn (ex : Bool) (L : List Ac) (hL : L.length ≤ 1000) (ok : ∀ x ∈ L, x.b < WW) : Fn Try.prog 26 [acS ex L] [] (.tup [wN ((L.map Ac.b).sum % WW), vb (decide (WW ≤ (L.map Ac.b).sum))]) [] := by
  have sm := refsum_fn false (L.map Ac.b) (by rw [List.length_map]; exact hL) (fun x hx => by obtain ⟨y, hy, rfl⟩ := List.mem_map.1 hx; exact ok y hy)
  obtain ⟨tn, htn⟩ : ∃ n, (L.map Ac.b).sum % WW = n := ⟨_, rfl⟩
  obtain ⟨tq, htq⟩ : ∃ q, decide (WW ≤ (L.map Ac.b).sum) = q := ⟨_, rfl⟩
  rw [htn, htq] at sm ⊢
  (refine fn_of Try.func26 rfl (by rfl) ?_; simp only [Try.ntmps26, List.length_cons, List.length_nil, Nat.reduceAdd, Nat.reduceSub, List.replicate, List.cons_append, List.nil_append])
  (repeat (any_goals (first | ((with_reducible refine evL_one ?_ ?_); rfl; intro K hK; simp only [go_sem]; ((repeat (refine ndI (by first | assumption | omega | rfl) ?_)); refine hK _ ?_; clear hK K)) | (with_reducible first | (refine evL_nil ?_; refine hR _ ?_; clear hR R) | ((first | refine evC_seq ?_ | refine evC_block ?_); intro J hJ hJ') | (refine evC_region ?_; intro R hR) | (refine hJ _ ?_; clear hJ hJ' J) | refine evC_skip ?_ | refine evC_ret ?_ | refine evC_exit ?_) | ((with_reducible refine hJ' _ _ ?_ ?_); (focus (simp; done)); clear hJ hJ' J) | ((with_reducible apply evC_cond); rfl; rfl; all_goals (intro hc; first | (cases hc; done) | (try simp only at hc))))))
  refine evC_uptoT L.length (fun i => stO ex L 500 ((L.take i).map Ac.b) i) ?_ ?_
  · refine (St.to.nilrow 4 500 27 4 rfl (by simp) (by simp [St.free, freeH, AV.refs, AV.refsL]) (by omega)).trans (St.to.of_le (St.le_of (by simp [leT]) (by simp [leH, hget, hput, rcW])))
  · intro i hi J hJ hJ'
    have k8 : L.length < 9223372036854775808 := by omega
    have ln : ((L.take i).map Ac.b).length ≤ 1000 := by rw [List.length_map, List.length_take]; omega
    rcases Nat.lt_or_ge i L.length with hlt | hge
    · obtain ⟨x, hx⟩ : ∃ x, L[i]? = some x := ⟨_, List.getElem?_eq_getElem hlt⟩
      have k1 : (decide ((i : Int) < (L.length : Int))) = true := decide_eq_true (by omega)
      have k2 := ac_at hx
      have k7 : (i : Int) + 1 = ((i + 1 : Nat) : Int) := by omega
      have k3 : (L.take (i + 1)).map Ac.b = (L.take i).map Ac.b ++ [x.b] := by rw [List.take_add_one, hx, List.map_append]; rfl
      (try dsimp only at hJ ⊢)
      rw [k3] at hJ
      generalize (L.take i).map Ac.b = out at hJ ln ⊢
      have e1 := rcW_len out
      have e2 : rcW (out ++ [x.b]) = rcW out ++ (wpv x.b).map .c := by unfold rcW; rw [List.flatMap_append]; simp [List.flatMap_cons]
      have e3 : ∀ r, AV.refsL r (rcW out) = false := fun r => refsL_map r _
      (have W := ndI k1 (ndI k2 (ndI k7 (ndI e1 (ndI e3 @wrI)))); (repeat (any_goals (first | ((with_reducible refine evL_one ?_ ?_); rfl; intro K hK; simp (disch := omega) only [go_sem, W]; ((repeat (refine ndI (by first | assumption | omega | rfl) ?_)); refine hK _ ?_; clear hK K)) | (with_reducible first | (refine evL_nil ?_; refine hR _ ?_; clear hR R) | ((first | refine evC_seq ?_ | refine evC_block ?_); intro J hJ hJ') | (refine evC_region ?_; intro R hR) | (refine hJ _ ?_; clear hJ hJ' J) | refine evC_skip ?_ | refine evC_ret ?_ | refine evC_exit ?_) | ((with_reducible refine hJ' _ _ ?_ ?_); (focus (simp; done)); clear hJ hJ' J) | ((with_reducible apply evC_cond); rfl; rfl; all_goals (intro hc; first | (cases hc; done) | (try simp only at hc)))))))
      all_goals exact hJ _ hlt (St.to.trans (St.to.of_le (τ := stO ex L 17 (out ++ [x.b]) ((i + 1 : Nat) : Int)) (St.le_of (by simp [leT]) (by simp [leH, hget, e2, wpv]))) (stO_rn ex L _ _))
    · have k1 : (decide ((i : Int) < (L.length : Int))) = false := decide_eq_false (by omega)
      rw [List.take_of_length_le hge]
      (try dsimp only)
      (repeat (any_goals (first | ((with_reducible refine evL_one ?_ ?_); rfl; intro K hK; simp only [go_sem, k1]; ((repeat (refine ndI (by first | assumption | omega | rfl) ?_)); refine hK _ ?_; clear hK K)) | (with_reducible first | (refine evL_nil ?_; refine hR _ ?_; clear hR R) | ((first | refine evC_seq ?_ | refine evC_block ?_); intro J hJ hJ') | (refine evC_region ?_; intro R hR) | (refine hJ _ ?_; clear hJ hJ' J) | refine evC_skip ?_ | refine evC_ret ?_ | refine evC_exit ?_) | ((with_reducible refine hJ' _ _ ?_ ?_); (focus (simp; done)); clear hJ hJ' J) | ((with_reducible apply evC_cond); rfl; rfl; all_goals (intro hc; first | (cases hc; done) | (try simp only at hc))))))
      refine evL_to rfl (St.to.frz 500 (pcs := (L.map Ac.b).flatMap wpv) (by simp [hget, rcW])) ?_
      have el : ((L.map Ac.b).flatMap wpv).length = (L.map Ac.b).length * 4 := flat_length wpv_len _
      simp only [St.frz, AV.frzL, AV.frz, frzH, el, if_true, eq_self, ↓reduceIte, Nat.reduceEqDiff]
      (repeat (any_goals (first | ((with_reducible refine evL_call ?_ ?_ ?_); rfl; rfl; intro K hK; ((apply opA_callB (sm); rfl; rfl; rfl; rfl; exact Try.func59); kernel_rfl; rfl; (simp only [go_sem]; rfl); (first | rfl | simp [AV.inNL, AV.inN])); (simp only [go_sem]; refine hK _ ?_; clear hK K)) | ((with_reducible refine evL_one ?_ ?_); rfl; intro K hK; simp only [go_sem]; ((repeat (refine ndI (by first | assumption | omega | rfl) ?_)); refine hK _ ?_; clear hK K)) | (with_reducible first | (refine evL_nil ?_; refine hR _ ?_; clear hR R) | ((first | refine evC_seq ?_ | refine evC_block ?_); intro J hJ hJ') | (refine evC_region ?_; intro R hR) | (refine hJ _ ?_; clear hJ hJ' J) | refine evC_skip ?_ | refine evC_ret ?_ | refine evC_exit ?_) | ((with_reducible refine hJ' _ _ ?_ ?_); (focus (simp; done)); clear hJ hJ' J) | ((with_reducible apply evC_cond); rfl; rfl; all_goals (intro hc; first | (cases hc; done) | (try simp only at hc))))))
      all_goals (refine ⟨by simp, ⟨_, ?_, AV.le_refl _⟩, leH_get (by simp [leH, hget])⟩; simp only [Try.results26, resL, ldA, oneOf, go_sem])
end Go.Proofs.Ytiggambibcohcaa
namespace Go.Proofs.Ytiggambibcohcaa
open Go.RowKit
open Nat (reduceBEq)
set_option maxRecDepth 20000
set_option maxHeartbeats 2000000
section
variable {α : Type} (key : α → Int)
def pass (p : α) : Bool → List α → List α
  | laid, [] => if laid then [] else [p]
  | laid, q :: l => if key q = key p then pass p laid l else if laid = false ∧ key p < key q then p :: q :: pass p true l else q :: pass p laid l
variable {key}
theorem pass_true {p : α} : ∀ {l : List α}, (∀ x ∈ l, key x ≠ key p) → pass key p true l = l
  | [], _ => rfl
  | q :: l, h => by
    unfold pass
    rw [if_neg (h q (by simp)), if_neg (by simp), pass_true fun x hx => h x (by simp [hx])]
theorem pass_lay {p : α} : ∀ {l : List α} (laid : Bool), Rises key l → pass key p laid l = lay key (key p) (if laid then none else some p) l
  | [], laid, _ => by cases laid <;> rfl
  | q :: l, laid, h => by
    obtain ⟨l1, l2⟩ := List.pairwise_cons.1 h
    unfold pass lay
    rcases Int.lt_trichotomy (key q) (key p) with hlt | heq | hgt
    · rw [if_neg (show ¬ key q = key p by omega), if_neg (show ¬ (laid = false ∧ key p < key q) by omega), if_pos hlt, pass_lay laid l2]
    · rw [if_pos heq, if_neg (show ¬ key q < key p by omega), if_pos heq]
      have gt : ∀ x ∈ l, key p < key x := fun x hx => by have := l1 x hx; omega
      cases laid with
      | true => rw [pass_true fun x hx => by have := gt x hx; omega]; rfl
      | false =>
        rw [pass_lay false l2]
        cases l with
        | nil => rfl
        | cons y l =>
          have := gt y (by simp)
          unfold lay
          rw [if_neg (show ¬ key y < key p by omega), if_neg (show ¬ key y = key p by omega)]
    · have gt : ∀ x ∈ l, key x ≠ key p := fun x hx => by have := l1 x hx; omega
      rw [if_neg (show ¬ key q = key p by omega), if_neg (show ¬ key q < key p by omega), if_neg (show ¬ key q = key p by omega)]
      cases laid with
      | true => rw [if_neg (by simp), pass_true gt]; rfl
      | false => rw [if_pos ⟨rfl, hgt⟩, pass_true gt]; rfl
end
theorem copy_fn (x : Ac) (hc : x.code.length ≤ 1000000) (hs : x.store.length ≤ 1000000) : Fn Try.prog 88 [acA x] [] (acA x) [] := by
  obtain ⟨a, b, n, C, S⟩ := x
  dsimp only at hc hs ⊢
  have d1 : ((C.flatMap bpv).map AV.c).length = C.length := by rw [List.length_map, flat_length bpv_len, Nat.mul_one]
  have d2 : ((S.flatMap Pr.pv).map AV.c).length = S.length * 8 := by rw [List.length_map, flat_length pr_len]
  have k : Fn Try.prog 88 [acA ⟨a, b, n, C, S⟩] [] (.agg [vi .u64 a, vi .u64 (l0 b), vi .u64 (Ytiggambibcohcaa.l1 b), vi .u64 (Ytiggambibcohcaa.l2 b), vi .u64 (l3 b), vi .u64 n, .row 6 5 1 C.length, .row 11 42 8 S.length]) [(6, (C.flatMap bpv).map AV.c), (11, (S.flatMap Pr.pv).map AV.c)] := by
    (refine fn_of Try.func88 rfl (by rfl) ?_; simp only [Try.ntmps88, List.length_cons, List.length_nil, Nat.reduceAdd, Nat.reduceSub, List.replicate, List.cons_append, List.nil_append])
    (have W := ndI d1 (ndI d2 @refsL_map); (repeat (any_goals (first | ((with_reducible refine evL_one ?_ ?_); rfl; intro K hK; simp (disch := omega) only [go_sem, W, Nat.mul_one]; ((repeat (refine ndI (by first | assumption | omega | rfl) ?_)); refine hK _ ?_; clear hK K)) | (with_reducible first | (refine evL_nil ?_; refine hR _ ?_; clear hR R) | ((first | refine evC_seq ?_ | refine evC_block ?_); intro J hJ hJ') | (refine evC_region ?_; intro R hR) | (refine hJ _ ?_; clear hJ hJ' J) | refine evC_skip ?_ | refine evC_ret ?_ | refine evC_exit ?_) | ((with_reducible refine hJ' _ _ ?_ ?_); (focus (simp; done)); clear hJ hJ' J) | ((with_reducible apply evC_cond); rfl; rfl; all_goals (intro hc; first | (cases hc; done) | (try simp only at hc)))))))
    all_goals (refine ⟨by simp, ⟨_, ?_, AV.le_refl _⟩, leH_get (by simp [leH, hget])⟩; simp only [Try.results88, resL, ldA, oneOf, go_sem])
  have k1 := k.frzN (d := 6) rfl
  have k2 := k1.frzN (d := 11) (pcs := S.flatMap Pr.pv) (by simp [frzH, hget_cons])
  have e1 : (C.flatMap bpv).length = C.length * 1 := by rw [flat_length bpv_len]
  have e2 : (S.flatMap Pr.pv).length = S.length * 8 := by rw [flat_length pr_len]
  simpa [-List.length_flatMap, e1, e2, ac8, AV.frz, AV.frzL, frzH, acA, vi, bsV, psV] using k2
theorem paid_fn (x : Ac) (n : Nat) : Fn Try.prog 76 [acA x, wN n] [] (acA (x.bal n)) [] := by
  obtain ⟨a, b, m, C, S⟩ := x
  unfold Ac.bal
  dsimp only
  (refine fn_of Try.func76 rfl (by rfl) ?_; simp only [Try.ntmps76, List.length_cons, List.length_nil, Nat.reduceAdd, Nat.reduceSub, List.replicate, List.cons_append, List.nil_append])
  (repeat (any_goals (first | ((with_reducible refine evL_one ?_ ?_); rfl; intro K hK; simp only [go_sem]; ((repeat (refine ndI (by first | assumption | omega | rfl) ?_)); refine hK _ ?_; clear hK K)) | (with_reducible first | (refine evL_nil ?_; refine hR _ ?_; clear hR R) | ((first | refine evC_seq ?_ | refine evC_block ?_); intro J hJ hJ') | (refine evC_region ?_; intro R hR) | (refine hJ _ ?_; clear hJ hJ' J) | refine evC_skip ?_ | refine evC_ret ?_ | refine evC_exit ?_) | ((with_reducible refine hJ' _ _ ?_ ?_); (focus (simp; done)); clear hJ hJ' J) | ((with_reducible apply evC_cond); rfl; rfl; all_goals (intro hc; first | (cases hc; done) | (try simp only at hc))))))
  all_goals (refine ⟨by simp, ⟨_, ?_, AV.le_refl _⟩, leH_get (by simp [leH, hget])⟩; simp only [Try.results76, resL, ldA, oneOf, go_sem])
abbrev pr8 (p : Pr) : List AV := [vi .u64 (l0 p.k), vi .u64 (l1 p.k), vi .u64 (l2 p.k), vi .u64 (l3 p.k), vi .u64 (l0 p.v), vi .u64 (l1 p.v), vi .u64 (l2 p.v), vi .u64 (l3 p.v)]
abbrev stV8 (a : Int) (b : Nat) (n : Int) (C : List Nat) (l : List Pr) (p : Pr) (r : Nat) (out : List Pr) (laid : Bool) (i : Nat) : St := ⟨[.any, .any, .ptr 2 0, .ptr 3 0, .ptr 4 0, .row r 42 8 out.length, vb laid, .any, .any, .any, .any, .any, .any, .any, .c (psV l), vi .i64 l.length, vi .i64 (i : Int), .any, .any, .any, .any, .any, .any, .any, .any, .any, .any, .any, .any, .any, .any, .any, .any, .any, .any, .any, .any, .any, .any, .any, .any, .any, .any, .any, .any, .any, .any, .any, .any, .any, .any, .any, .any], [(2, ac8 a b n (bsV C) (psV l)), (3, pr8 p), (4, [vi .u64 0, vi .u64 0, vi .u64 0, vi .u64 0, vi .u64 0, vi .u64 0, .c (.v (.slice none 0 0)), .c (.v (.slice none 0 0))]), (r, (out.flatMap Pr.pv).map .c)]⟩
theorem stV8_rn (a : Int) (b : Nat) (n : Int) (C : List Nat) (l : List Pr) (p : Pr) (out : List Pr) (laid : Bool) (i : Nat) : (stV8 a b n C l p 42 out laid i).to (stV8 a b n C l p 500 out laid i) := by
  have h := St.to.rn (σ := stV8 a b n C l p 42 out laid i) (fun r => if r = 42 then 500 else r) (fun r => if r = 500 then 42 else r) [2, 3, 4, 42] (by simp [AV.inNL, AV.inN]) (by simp) (by simp [inH, AV.inNL, AV.inN, Pr.pv]) (by simp) (by simp)
  simpa [AV.renL, AV.ren, renH, Pr.pv, stV8] using h
end Go.Proofs.Ytiggambibcohcaa
namespace Go.Proofs.Ytiggambibcohcaa
open Go.RowKit
open Nat (reduceBEq)
set_option maxRecDepth 20000
set_option maxHeartbeats 2000000
theorem rfits_fn (ex : Bool) (L : List Ac) (hL : L.length ≤ 1000) (ok : ∀ x ∈ L, x.b < WW) : Fn Try.prog 58 [acS ex L] [] (vb (!decide (WW ≤ (L.map Ac.b).sum))) [] := by
  have tt := rtotal_fn ex L hL ok
  generalize (L.map Ac.b).sum % WW = n at tt
  generalize decide (WW ≤ (L.map Ac.b).sum) = q at tt ⊢
  (refine fn_of Try.func58 rfl (by rfl) ?_; simp only [Try.ntmps58, List.length_cons, List.length_nil, Nat.reduceAdd, Nat.reduceSub, List.replicate, List.cons_append, List.nil_append])
  (repeat (any_goals (first | ((with_reducible refine evL_call ?_ ?_ ?_); rfl; rfl; intro K hK; ((apply opA_callB (tt); rfl; rfl; rfl; rfl; exact Try.func26); kernel_rfl; rfl; (simp only [go_sem]; rfl); (first | rfl | simp [AV.inNL, AV.inN])); (simp only [go_sem]; refine hK _ ?_; clear hK K)) | ((with_reducible refine evL_one ?_ ?_); rfl; intro K hK; simp only [go_sem]; ((repeat (refine ndI (by first | assumption | omega | rfl) ?_)); refine hK _ ?_; clear hK K)) | (with_reducible first | (refine evL_nil ?_; refine hR _ ?_; clear hR R) | ((first | refine evC_seq ?_ | refine evC_block ?_); intro J hJ hJ') | (refine evC_region ?_; intro R hR) | (refine hJ _ ?_; clear hJ hJ' J) | refine evC_skip ?_ | refine evC_ret ?_ | refine evC_exit ?_) | ((with_reducible refine hJ' _ _ ?_ ?_); (focus (simp; done)); clear hJ hJ' J) | ((with_reducible apply evC_cond); rfl; rfl; all_goals (intro hc; first | (cases hc; done) | (try simp only at hc))))))
  all_goals (refine ⟨by simp, ⟨_, ?_, AV.le_refl _⟩, leH_get (by simp [leH, hget])⟩; simp only [Try.results58, resL, ldA, oneOf, go_sem])
theorem rempty_fn (x : Ac) (hb : x.b < WW) : Fn Try.prog 56 [acA x] [] (vb (emptyA x)) [] := by
  obtain ⟨a, b, n, code, store⟩ := x
  dsimp only at hb
  unfold emptyA
  dsimp only
  obtain ⟨q1, e1⟩ : ∃ p, decide (b = 0) = p := ⟨_, rfl⟩
  obtain ⟨q2, e2⟩ : ∃ p, decide (n = 0) = p := ⟨_, rfl⟩
  obtain ⟨q3, e3⟩ : ∃ p, decide (code.length = 0) = p := ⟨_, rfl⟩
  obtain ⟨q4, e4⟩ : ∃ p, decide (store.length = 0) = p := ⟨_, rfl⟩
  have f1 : (l0 b == 0 && (l1 b == 0 && (l2 b == 0 && l3 b == 0))) = q1 := by rw [← e1, wN_zero hb]
  have f2 : (n == 0) = q2 := by rw [← e2]; by_cases h : n = 0 <;> simp [h]
  have f3 : ((code.length : Int) == 0) = q3 := by rw [← e3]; by_cases h : code.length = 0 <;> simp [h]
  have f4 : ((store.length : Int) == 0) = q4 := by rw [← e4]; by_cases h : store.length = 0 <;> simp [h]
  have f5 : decide (code.length + store.length = 0) = (q3 && q4) := by
    rw [← e3, ← e4, Bool.eq_iff_iff]
    simp only [Bool.and_eq_true, decide_eq_true_eq]
    omega
  rw [e1, e2, f5]
  clear e1 e2 e3 e4 f5
  cases q1 <;> cases q2 <;> cases q3 <;> cases q4
  all_goals (refine fn_of Try.func56 rfl (by rfl) ?_; simp only [Try.ntmps56, List.length_cons, List.length_nil, Nat.reduceAdd, Nat.reduceSub, List.replicate, List.cons_append, List.nil_append])
  all_goals (have W := ndI f1 (ndI f2 (ndI f3 f4)); (repeat (any_goals (first | ((with_reducible refine evL_one ?_ ?_); rfl; intro K hK; simp only [go_sem, W]; ((repeat (refine ndI (by first | assumption | omega | rfl) ?_)); refine hK _ ?_; clear hK K)) | (with_reducible first | (refine evL_nil ?_; refine hR _ ?_; clear hR R) | ((first | refine evC_seq ?_ | refine evC_block ?_); intro J hJ hJ') | (refine evC_region ?_; intro R hR) | (refine hJ _ ?_; clear hJ hJ' J) | refine evC_skip ?_ | refine evC_ret ?_ | refine evC_exit ?_) | ((with_reducible refine hJ' _ _ ?_ ?_); (focus (simp; done)); clear hJ hJ' J) | ((with_reducible apply evL_unmet); rfl; rfl; rfl; (try simp only [go_sem, W])) | ((with_reducible apply evL_grd); rfl; rfl; rfl; all_goals (intro hb; first | (cases hb; done) | ((try simp only [Bool.not_true, Bool.not_false] at hb); (first | ((with_reducible intro K hK); simp only [go_sem, W]; ((repeat (refine ndI (by first | assumption | omega | rfl) ?_)); refine hK _ ?_; clear hK K)) | ((fail_if_success (with_reducible intro _)); simp only [go_sem, W]))))) | ((with_reducible apply evC_cond); rfl; rfl; all_goals (intro hc; first | (cases hc; done) | (try simp only at hc)))))))
  all_goals (refine ⟨by simp, ⟨_, ?_, AV.le_refl _⟩, leH_get (by simp [leH, hget])⟩; simp only [Try.results56, resL, ldA, oneOf, go_sem])
  all_goals rfl
theorem okS_eq {q : Bool} {L : List Ac} : ∀ i, okS q L i = (q && okS true L i)
  | 0 => by simp [okS]
  | i + 1 => by
    unfold okS
    rw [okS_eq i, Bool.and_assoc]
theorem rright_fn (ex : Bool) (L : List Ac) (hL : Okl L) : Fn Try.prog 25 [stA ex L] [] (vb (okSt L)) [] := by
  have hl := hL.1
  have mn := rmany_fn ex L (by unfold maxLen; omega)
  have ft := rfits_fn ex L (by omega) (fun x hx => (hL.2 x hx).1.2.1)
  unfold okSt
  rw [okS_eq]
  obtain ⟨q1, e1⟩ : ∃ p, decide (WW ≤ (L.map Ac.b).sum) = p := ⟨_, rfl⟩
  obtain ⟨q2, e2⟩ : ∃ p, decide (manyL L ≤ 24) = p := ⟨_, rfl⟩
  have e3 : decide (((manyL L : Nat) : Int) ≤ 24) = q2 := by rw [← e2]; exact decide_eq_decide.2 (by omega)
  rw [e1] at ft
  rw [e1, e2]
  clear e1 e2
  obtain ⟨rr, hrr⟩ : ∃ r, okS true L L.length = r := ⟨_, rfl⟩
  rw [hrr]
  (refine fn_of Try.func25 rfl (by rfl) ?_; simp only [Try.ntmps25, List.length_cons, List.length_nil, Nat.reduceAdd, Nat.reduceSub, List.replicate, List.cons_append, List.nil_append])
  (repeat (any_goals (first | ((with_reducible refine evL_one ?_ ?_); rfl; intro K hK; simp only [go_sem]; ((repeat (refine ndI (by first | assumption | omega | rfl) ?_)); refine hK _ ?_; clear hK K)) | (with_reducible first | (refine evL_nil ?_; refine hR _ ?_; clear hR R) | ((first | refine evC_seq ?_ | refine evC_block ?_); intro J hJ hJ') | (refine evC_region ?_; intro R hR) | (refine hJ _ ?_; clear hJ hJ' J) | refine evC_skip ?_ | refine evC_ret ?_ | refine evC_exit ?_) | ((with_reducible refine hJ' _ _ ?_ ?_); (focus (simp; done)); clear hJ hJ' J) | ((with_reducible apply evL_unmet); rfl; rfl; rfl; (try simp only [go_sem])) | ((with_reducible apply evL_grd); rfl; rfl; rfl; all_goals (intro hb; first | (cases hb; done) | ((try simp only [Bool.not_true, Bool.not_false] at hb); (first | ((with_reducible intro K hK); simp only [go_sem]; ((repeat (refine ndI (by first | assumption | omega | rfl) ?_)); refine hK _ ?_; clear hK K)) | ((fail_if_success (with_reducible intro _)); simp only [go_sem]))))) | ((with_reducible apply evC_cond); rfl; rfl; all_goals (intro hc; first | (cases hc; done) | (try simp only at hc))) | ((with_reducible refine evD_nil ?_ ?_); kernel_rfl; (with_reducible refine hR _ ?_); clear hR R) | ((first | ((with_reducible apply evD_skip); rfl; rfl; rfl; rfl) | ((with_reducible apply evD_unmet); rfl; rfl; rfl) | ((first | ((with_reducible apply evD_any); rfl; rfl) | ((with_reducible apply evD_gany); rfl; rfl; rfl; rfl; rfl)); (simp only [rdE, rdOf, go_sem]; rfl); (intro τ hA hQ hN; ((try simp only [agree, Op.operands, Call.operands, go_sem, List.mem_cons, List.not_mem_nil, forall_eq_or_imp, forall_eq, List.append_toArray, Option.toArray] at hA); (try simp only [go_sem, List.mem_cons, List.not_mem_nil, forall_eq_or_imp, forall_eq] at hQ hN); (first | (revert hA; intro hA) | have hA := trivial); (first | (revert hQ; intro hQ) | have hQ := trivial); (first | (revert hN; intro hN) | have hN := trivial); simp only [go_sem, hA, hQ, hN]; (repeat (refine ndI (by first | assumption | omega | rfl) ?_)); (first | apply eff_rd | apply eff_st | apply eff_nw))))); (simp only [St.eff, setO, hputs, go_sem])) | ((with_reducible apply evD_split); rfl; rfl; rfl; all_goals intro hb; all_goals (simp only [St.eff, setO, hputs, go_sem])) | ((with_reducible refine evC_draw ?_ ?_ ?_ ?_); kernel_rfl; kernel_rfl; (first | kernel_rfl | simp [newNames, isNew, St.free, freeH, AV.refsL, AV.refs]); intro R hR))))
  refine evC_loop (α := { i : Nat // i ≤ L.length ∧ okS true L i = true }) (fun x => ⟨[.any, .ptr 1 0, vb false, .any, .any, .any, acS ex L, vi .i64 L.length, vi .i64 (x.1 : Int), .any, .any, .any, .any, .any, .any, .any, .any, .any, .any, .any, .any, .any, .any, .any, .any, .any, .any, .any, .any, .any, .any, .any, .any, .any, .any, .any, .any, .any, .any, .any, .any, .any, .any, .any, .any, .any], [(1, [acS ex L])]⟩) (fun x => L.length - x.1) ⟨0, Nat.zero_le _, rfl⟩ (St.le_of (by simp [leT]) (by simp [leH, hget])) ?_
  rintro ⟨i, hi, hok⟩ J hJ hJ'
  (try dsimp only at hJ ⊢)
  have k7 : (i : Int) + 1 = ((i + 1 : Nat) : Int) := by omega
  rcases Nat.lt_or_ge i L.length with hlt | hge
  · obtain ⟨x, hx⟩ : ∃ x, L[i]? = some x := ⟨_, List.getElem?_eq_getElem hlt⟩
    have k1 : (decide ((i : Int) < (L.length : Int))) = true := decide_eq_true (by omega)
    have k2 := ac_at hx
    have xo := hL.2 x (List.mem_of_getElem? hx)
    have ra := right_fn x xo.1.2.2.2.2.2
    have em := rempty_fn x xo.1.2.1
    obtain ⟨q3, hq3⟩ : ∃ q, okAc x = q := ⟨_, rfl⟩
    obtain ⟨q4, hq4⟩ : ∃ q, emptyA x = q := ⟨_, rfl⟩
    rw [hq3] at ra
    rw [hq4] at em
    have hnx : okS true L (i + 1) = okS1 L i := by show (okS true L i && okS1 L i) = _; rw [hok, Bool.true_and]
    have hno : okS1 L i = false → rr = false := fun h => by
      rw [← hrr]
      exact okS_no (by rw [hnx]; exact h) L.length hlt
    have hJ1 := fun (h : okS1 L i = true) σ' => hJ σ' ⟨i + 1, hlt, by rw [hnx]; exact h⟩ (by dsimp only; omega)
    dsimp only at hJ1
    rcases Nat.eq_zero_or_pos i with h0 | h0
    · have n3 : (decide ((i : Int) > 0)) = false := by simp; omega
      have hok' : okS1 L i = (q3 && !q4) := by
        rw [h0] at hx ⊢
        rw [okS1_zero hx, hq3, hq4]
      rw [hok'] at hno hJ1
      cases q3 <;> cases q4
      all_goals first | (have hrf := hno rfl; clear hJ1) | skip
      all_goals (have W := ndI k1 (ndI k2 (ndI k7 (ndI n3 @wrI))); (repeat (any_goals (first | ((with_reducible refine evL_one ?_ ?_); rfl; intro K hK; simp (disch := omega) only [go_sem, W]; ((repeat (refine ndI (by first | assumption | omega | rfl) ?_)); refine hK _ ?_; clear hK K)) | (with_reducible first | (refine evL_nil ?_; refine hR _ ?_; clear hR R) | ((first | refine evC_seq ?_ | refine evC_block ?_); intro J hJ hJ') | (refine evC_region ?_; intro R hR) | (refine hJ _ ?_; clear hJ hJ' J) | refine evC_skip ?_ | refine evC_ret ?_ | refine evC_exit ?_) | ((with_reducible refine hJ' _ _ ?_ ?_); (focus (simp; done)); clear hJ hJ' J) | ((with_reducible apply evL_unmet); rfl; rfl; rfl; (try simp (disch := omega) only [go_sem, W])) | ((with_reducible apply evL_grd); rfl; rfl; rfl; all_goals (intro hb; first | (cases hb; done) | ((try simp only [Bool.not_true, Bool.not_false] at hb); (first | ((with_reducible intro K hK); simp (disch := omega) only [go_sem, W]; ((repeat (refine ndI (by first | assumption | omega | rfl) ?_)); refine hK _ ?_; clear hK K)) | ((fail_if_success (with_reducible intro _)); simp (disch := omega) only [go_sem, W]))))) | ((with_reducible apply evC_cond); rfl; rfl; all_goals (intro hc; first | (cases hc; done) | (try simp only at hc))) | ((with_reducible refine evD_nil ?_ ?_); kernel_rfl; (with_reducible refine hR _ ?_); clear hR R) | ((first | ((with_reducible apply evD_skip); rfl; rfl; rfl; rfl) | ((with_reducible apply evD_unmet); rfl; rfl; rfl) | ((first | ((with_reducible apply evD_fcall); rfl; rfl) | ((with_reducible apply evD_gcall); rfl; rfl; rfl; rfl; rfl)); ((first | (apply opF_callB (ra); rfl; rfl; rfl; rfl; exact Try.func10) | (apply opF_callB (em); rfl; rfl; rfl; rfl; exact Try.func56)); kernel_rfl; rfl; (simp (disch := omega) only [go_sem, W]; rfl); (first | rfl | simp [AV.inNL, AV.inN]))) | ((first | ((with_reducible apply evD_any); rfl; rfl) | ((with_reducible apply evD_gany); rfl; rfl; rfl; rfl; rfl)); (simp (disch := omega) only [rdE, rdOf, go_sem, W]; rfl); (intro τ hA hQ hN; ((try simp only [agree, Op.operands, Call.operands, go_sem, W, go_sem, List.mem_cons, List.not_mem_nil, forall_eq_or_imp, forall_eq, List.append_toArray, Option.toArray] at hA); (try simp only [go_sem, W, List.mem_cons, List.not_mem_nil, forall_eq_or_imp, forall_eq] at hQ hN); (first | (revert hA; intro hA) | have hA := trivial); (first | (revert hQ; intro hQ) | have hQ := trivial); (first | (revert hN; intro hN) | have hN := trivial); simp (disch := omega) only [go_sem, W, go_sem, hA, hQ, hN]; (repeat (refine ndI (by first | assumption | omega | rfl) ?_)); (first | apply eff_rd | apply eff_st | apply eff_nw))))); (simp (disch := omega) only [St.eff, setO, hputs, go_sem, W])) | ((with_reducible apply evD_split); rfl; rfl; rfl; all_goals intro hb; all_goals (simp (disch := omega) only [St.eff, setO, hputs, go_sem, W])) | ((with_reducible refine evC_draw ?_ ?_ ?_ ?_); kernel_rfl; kernel_rfl; (first | kernel_rfl | simp [newNames, isNew, St.free, freeH, AV.refsL, AV.refs]); intro R hR)))))
      all_goals first | exact hJ1 rfl _ (St.le_of (by simp [leT]) (by simp [leH, hget])) | (rw [hrf]; (refine ⟨by simp, ⟨_, ?_, AV.le_refl _⟩, leH_get (by simp [leH, hget])⟩; simp only [Try.results25, resL, ldA, oneOf, go_sem]); simp)
    · obtain ⟨j, hj⟩ : ∃ j, i = j + 1 := ⟨i - 1, by omega⟩
      obtain ⟨q, hq⟩ : ∃ q, L[j]? = some q := ⟨_, List.getElem?_eq_getElem (by omega)⟩
      have n3 : (decide ((i : Int) > 0)) = true := by simp; omega
      have n4 := ac_at hq
      have n5 : (i : Int) - 1 = (j : Int) := by omega
      have hjl : j < L.length := by omega
      obtain ⟨q5, hq5⟩ : ∃ c, decide (q.a < x.a) = c := ⟨_, rfl⟩
      have hge : decide (q.a ≥ x.a) = !q5 := by
        rw [← hq5]
        by_cases h : q.a < x.a
        · rw [decide_eq_true h, decide_eq_false (by omega)]; rfl
        · rw [decide_eq_false h, decide_eq_true (by omega)]; rfl
      have hok' : okS1 L i = (q3 && !q4 && q5) := by
        rw [hj] at hx ⊢
        rw [okS1_succ hq hx, hq3, hq4, hq5]
      rw [hok'] at hno hJ1
      cases q3 <;> cases q4 <;> cases q5
      all_goals simp only [Bool.not_true, Bool.not_false] at hge
      all_goals first | (have hrf := hno rfl; clear hJ1) | skip
      all_goals (have W := ndI k1 (ndI k2 (ndI k7 (ndI n3 (ndI n4 (ndI n5 @wrI))))); (repeat (any_goals (first | ((with_reducible refine evL_one ?_ ?_); rfl; intro K hK; simp (disch := omega) only [go_sem, W, hge]; ((repeat (refine ndI (by first | assumption | omega | rfl) ?_)); refine hK _ ?_; clear hK K)) | (with_reducible first | (refine evL_nil ?_; refine hR _ ?_; clear hR R) | ((first | refine evC_seq ?_ | refine evC_block ?_); intro J hJ hJ') | (refine evC_region ?_; intro R hR) | (refine hJ _ ?_; clear hJ hJ' J) | refine evC_skip ?_ | refine evC_ret ?_ | refine evC_exit ?_) | ((with_reducible refine hJ' _ _ ?_ ?_); (focus (simp; done)); clear hJ hJ' J) | ((with_reducible apply evL_unmet); rfl; rfl; rfl; (try simp (disch := omega) only [go_sem, W, hge])) | ((with_reducible apply evL_grd); rfl; rfl; rfl; all_goals (intro hb; first | (cases hb; done) | ((try simp only [Bool.not_true, Bool.not_false] at hb); (first | ((with_reducible intro K hK); simp (disch := omega) only [go_sem, W, hge]; ((repeat (refine ndI (by first | assumption | omega | rfl) ?_)); refine hK _ ?_; clear hK K)) | ((fail_if_success (with_reducible intro _)); simp (disch := omega) only [go_sem, W, hge]))))) | ((with_reducible apply evC_cond); rfl; rfl; all_goals (intro hc; first | (cases hc; done) | (try simp only at hc))) | ((with_reducible refine evD_nil ?_ ?_); kernel_rfl; (with_reducible refine hR _ ?_); clear hR R) | ((first | ((with_reducible apply evD_skip); rfl; rfl; rfl; rfl) | ((with_reducible apply evD_unmet); rfl; rfl; rfl) | ((first | ((with_reducible apply evD_fcall); rfl; rfl) | ((with_reducible apply evD_gcall); rfl; rfl; rfl; rfl; rfl)); ((first | (apply opF_callB (ra); rfl; rfl; rfl; rfl; exact Try.func10) | (apply opF_callB (em); rfl; rfl; rfl; rfl; exact Try.func56)); kernel_rfl; rfl; (simp (disch := omega) only [go_sem, W, hge]; rfl); (first | rfl | simp [AV.inNL, AV.inN]))) | ((first | ((with_reducible apply evD_any); rfl; rfl) | ((with_reducible apply evD_gany); rfl; rfl; rfl; rfl; rfl)); (simp (disch := omega) only [rdE, rdOf, go_sem, W, hge]; rfl); (intro τ hA hQ hN; ((try simp only [agree, Op.operands, Call.operands, go_sem, W, hge, go_sem, List.mem_cons, List.not_mem_nil, forall_eq_or_imp, forall_eq, List.append_toArray, Option.toArray] at hA); (try simp only [go_sem, W, hge, List.mem_cons, List.not_mem_nil, forall_eq_or_imp, forall_eq] at hQ hN); (first | (revert hA; intro hA) | have hA := trivial); (first | (revert hQ; intro hQ) | have hQ := trivial); (first | (revert hN; intro hN) | have hN := trivial); simp (disch := omega) only [go_sem, W, hge, go_sem, hA, hQ, hN]; (repeat (refine ndI (by first | assumption | omega | rfl) ?_)); (first | apply eff_rd | apply eff_st | apply eff_nw))))); (simp (disch := omega) only [St.eff, setO, hputs, go_sem, W, hge])) | ((with_reducible apply evD_split); rfl; rfl; rfl; all_goals intro hb; all_goals (simp (disch := omega) only [St.eff, setO, hputs, go_sem, W, hge])) | ((with_reducible refine evC_draw ?_ ?_ ?_ ?_); kernel_rfl; kernel_rfl; (first | kernel_rfl | simp [newNames, isNew, St.free, freeH, AV.refsL, AV.refs]); intro R hR)))))
      all_goals first | exact hJ1 rfl _ (St.le_of (by simp [leT]) (by simp [leH, hget])) | (rw [hrf]; (refine ⟨by simp, ⟨_, ?_, AV.le_refl _⟩, leH_get (by simp [leH, hget])⟩; simp only [Try.results25, resL, ldA, oneOf, go_sem]); simp)
  · have k1 : (decide ((i : Int) < (L.length : Int))) = false := decide_eq_false (by omega)
    have e : i = L.length := by omega
    have hrt : rr = true := by rw [← hrr, ← e]; exact hok
    (repeat (any_goals (first | ((with_reducible refine evL_call ?_ ?_ ?_); rfl; rfl; intro K hK; ((apply opA_callB (mn); rfl; rfl; rfl; rfl; exact Try.func57); kernel_rfl; rfl; (simp only [go_sem, k1, e3]; rfl); (first | rfl | simp [AV.inNL, AV.inN])); (simp only [go_sem, k1, e3]; refine hK _ ?_; clear hK K)) | ((with_reducible refine evL_one ?_ ?_); rfl; intro K hK; simp only [go_sem, k1, e3]; ((repeat (refine ndI (by first | assumption | omega | rfl) ?_)); refine hK _ ?_; clear hK K)) | (with_reducible first | (refine evL_nil ?_; refine hR _ ?_; clear hR R) | ((first | refine evC_seq ?_ | refine evC_block ?_); intro J hJ hJ') | (refine evC_region ?_; intro R hR) | (refine hJ _ ?_; clear hJ hJ' J) | refine evC_skip ?_ | refine evC_ret ?_ | refine evC_exit ?_) | ((with_reducible refine hJ' _ _ ?_ ?_); (focus (simp; done)); clear hJ hJ' J) | ((with_reducible apply evL_unmet); rfl; rfl; rfl; (try simp only [go_sem, k1, e3])) | ((with_reducible apply evL_grd); rfl; rfl; rfl; all_goals (intro hb; first | (cases hb; done) | ((try simp only [Bool.not_true, Bool.not_false] at hb); (first | ((with_reducible intro K hK); (first | ((apply opA_callB (ft); rfl; rfl; rfl; rfl; exact Try.func58); kernel_rfl; rfl; (simp only [go_sem, k1, e3]; rfl); (first | rfl | simp [AV.inNL, AV.inN])) | skip); simp only [go_sem, k1, e3]; ((repeat (refine ndI (by first | assumption | omega | rfl) ?_)); refine hK _ ?_; clear hK K)) | ((fail_if_success (with_reducible intro _)); simp only [go_sem, k1, e3]))))) | ((with_reducible apply evC_cond); rfl; rfl; all_goals (intro hc; first | (cases hc; done) | (try simp only at hc))) | ((with_reducible refine evD_nil ?_ ?_); kernel_rfl; (with_reducible refine hR _ ?_); clear hR R) | ((first | ((with_reducible apply evD_skip); rfl; rfl; rfl; rfl) | ((with_reducible apply evD_unmet); rfl; rfl; rfl) | ((first | ((with_reducible apply evD_any); rfl; rfl) | ((with_reducible apply evD_gany); rfl; rfl; rfl; rfl; rfl)); (simp only [rdE, rdOf, go_sem, k1, e3]; rfl); (intro τ hA hQ hN; ((try simp only [agree, Op.operands, Call.operands, go_sem, k1, e3, go_sem, List.mem_cons, List.not_mem_nil, forall_eq_or_imp, forall_eq, List.append_toArray, Option.toArray] at hA); (try simp only [go_sem, k1, e3, List.mem_cons, List.not_mem_nil, forall_eq_or_imp, forall_eq] at hQ hN); (first | (revert hA; intro hA) | have hA := trivial); (first | (revert hQ; intro hQ) | have hQ := trivial); (first | (revert hN; intro hN) | have hN := trivial); simp only [go_sem, k1, e3, go_sem, hA, hQ, hN]; (repeat (refine ndI (by first | assumption | omega | rfl) ?_)); (first | apply eff_rd | apply eff_st | apply eff_nw))))); (simp only [St.eff, setO, hputs, go_sem, k1, e3])) | ((with_reducible apply evD_split); rfl; rfl; rfl; all_goals intro hb; all_goals (simp only [St.eff, setO, hputs, go_sem, k1, e3])) | ((with_reducible refine evC_draw ?_ ?_ ?_ ?_); kernel_rfl; kernel_rfl; (first | kernel_rfl | simp [newNames, isNew, St.free, freeH, AV.refsL, AV.refs]); intro R hR))))
    all_goals rw [hrt]
    all_goals (refine ⟨by simp, ⟨_, ?_, AV.le_refl _⟩, leH_get (by simp [leH, hget])⟩; simp only [Try.results25, resL, ldA, oneOf, go_sem])
    all_goals simp_all
def findS (L : List Ac) (a : Int) : Ac := (fnd Ac.a a L).getD ⟨a, 0, 0, [], []⟩
theorem fnd_drop {α : Type} {key : α → Int} {k : Int} {L : List α} {i : Nat} {x : α} (hx : L[i]? = some x) : fnd key k (L.drop i) = if key x = k then some x else fnd key k (L.drop (i + 1)) := by
  obtain ⟨h, rfl⟩ := List.getElem?_eq_some_iff.1 hx
  rw [List.drop_eq_getElem_cons h]; rfl
theorem rof_fn (ex : Bool) (L : List Ac) (hL : Okl L) (a : Int) : Fn Try.prog 27 [stA ex L, vi .u64 a] [] (acA (findS L a)) [] := by
  have hl := hL.1
  have z0 := AV.le_agg (a := [vi .u64 a, vi .u64 0, vi .u64 0, vi .u64 0, vi .u64 0, vi .u64 0, .c (.v (.slice none 0 0)), .c (.v (.slice none 0 0))]) (b := ac8 a 0 0 (bsV []) (psV [])) ⟨AV.le_refl _, AV.le_of (by rw [l0_zero]), AV.le_of (by rw [l1_zero]), AV.le_of (by rw [l2_zero]), AV.le_of (by rw [l3_zero]), AV.le_refl _, AV.le_nil _ _, AV.le_nil _ _, trivial⟩
  obtain ⟨r, hr⟩ : ∃ r, findS L a = r := ⟨_, rfl⟩
  rw [hr]
  (refine fn_of Try.func27 rfl (by rfl) ?_; simp only [Try.ntmps27, List.length_cons, List.length_nil, Nat.reduceAdd, Nat.reduceSub, List.replicate, List.cons_append, List.nil_append])
  (repeat (any_goals (first | ((with_reducible refine evL_one ?_ ?_); rfl; intro K hK; simp only [go_sem]; ((repeat (refine ndI (by first | assumption | omega | rfl) ?_)); refine hK _ ?_; clear hK K)) | (with_reducible first | (refine evL_nil ?_; refine hR _ ?_; clear hR R) | ((first | refine evC_seq ?_ | refine evC_block ?_); intro J hJ hJ') | (refine evC_region ?_; intro R hR) | (refine hJ _ ?_; clear hJ hJ' J) | refine evC_skip ?_ | refine evC_ret ?_ | refine evC_exit ?_) | ((with_reducible refine hJ' _ _ ?_ ?_); (focus (simp; done)); clear hJ hJ' J) | ((with_reducible apply evC_cond); rfl; rfl; all_goals (intro hc; first | (cases hc; done) | (try simp only at hc))))))
  refine evC_loop (α := { i : Nat // i ≤ L.length ∧ findS (L.drop i) a = r }) (fun x => ⟨[.any, vi .u64 a, .ptr 2 0, .any, .ptr 4 0, .any, .any, .any, acS ex L, vi .i64 L.length, vi .i64 (x.1 : Int), .any, .any, .any, .any, .any, .any, .any, .any, .any, .any, .any], [(4, [vi .u64 0, vi .u64 0, vi .u64 0, vi .u64 0, vi .u64 0, vi .u64 0, .c (.v (.slice none 0 0)), .c (.v (.slice none 0 0))])]⟩) (fun x => L.length - x.1) ⟨0, Nat.zero_le _, hr⟩ (St.le_of (by simp [leT]) (by simp [leH, hget])) ?_
  rintro ⟨i, hi, hok⟩ J hJ hJ'
  (try dsimp only at hJ ⊢)
  have k7 : (i : Int) + 1 = ((i + 1 : Nat) : Int) := by omega
  rcases Nat.lt_or_ge i L.length with hlt | hge
  · obtain ⟨x, hx⟩ : ∃ x, L[i]? = some x := ⟨_, List.getElem?_eq_getElem hlt⟩
    have k1 : (decide ((i : Int) < (L.length : Int))) = true := decide_eq_true (by omega)
    have k2 := ac_at hx
    unfold findS at hok
    rw [fnd_drop hx] at hok
    by_cases he : x.a = a
    · rw [if_pos he] at hok
      have k3 : (x.a == a) = true := by simpa using he
      have e : r = x := hok.symm
      (have W := ndI k1 (ndI k2 k3); (repeat (any_goals (first | ((with_reducible refine evL_one ?_ ?_); rfl; intro K hK; simp only [go_sem, W]; ((repeat (refine ndI (by first | assumption | omega | rfl) ?_)); refine hK _ ?_; clear hK K)) | (with_reducible first | (refine evL_nil ?_; refine hR _ ?_; clear hR R) | ((first | refine evC_seq ?_ | refine evC_block ?_); intro J hJ hJ') | (refine evC_region ?_; intro R hR) | (refine hJ _ ?_; clear hJ hJ' J) | refine evC_skip ?_ | refine evC_ret ?_ | refine evC_exit ?_) | ((with_reducible refine hJ' _ _ ?_ ?_); (focus (simp; done)); clear hJ hJ' J) | ((with_reducible apply evC_cond); rfl; rfl; all_goals (intro hc; first | (cases hc; done) | (try simp only at hc)))))))
      all_goals rw [e]
      all_goals (refine ⟨by simp, ⟨_, ?_, AV.le_refl _⟩, leH_get (by simp [leH, hget])⟩; simp only [Try.results27, resL, ldA, oneOf, go_sem])
    · rw [if_neg he] at hok
      have k3 : (x.a == a) = false := by simpa using he
      (have W := ndI k1 (ndI k2 (ndI k3 (ndI k7 @wrI))); (repeat (any_goals (first | ((with_reducible refine evL_one ?_ ?_); rfl; intro K hK; simp (disch := omega) only [go_sem, W]; ((repeat (refine ndI (by first | assumption | omega | rfl) ?_)); refine hK _ ?_; clear hK K)) | (with_reducible first | (refine evL_nil ?_; refine hR _ ?_; clear hR R) | ((first | refine evC_seq ?_ | refine evC_block ?_); intro J hJ hJ') | (refine evC_region ?_; intro R hR) | (refine hJ _ ?_; clear hJ hJ' J) | refine evC_skip ?_ | refine evC_ret ?_ | refine evC_exit ?_) | ((with_reducible refine hJ' _ _ ?_ ?_); (focus (simp; done)); clear hJ hJ' J) | ((with_reducible apply evC_cond); rfl; rfl; all_goals (intro hc; first | (cases hc; done) | (try simp only at hc)))))))
      exact hJ _ ⟨i + 1, hlt, hok⟩ (by dsimp only; omega) (St.le_of (by simp [leT]) (by simp [leH, hget]))
  · have k1 : (decide ((i : Int) < (L.length : Int))) = false := decide_eq_false (by omega)
    rw [List.drop_eq_nil_of_le hge] at hok
    have e : r = ⟨a, 0, 0, [], []⟩ := hok.symm
    (repeat (any_goals (first | ((with_reducible refine evL_one ?_ ?_); rfl; intro K hK; simp only [go_sem, k1]; ((repeat (refine ndI (by first | assumption | omega | rfl) ?_)); refine hK _ ?_; clear hK K)) | (with_reducible first | (refine evL_nil ?_; refine hR _ ?_; clear hR R) | ((first | refine evC_seq ?_ | refine evC_block ?_); intro J hJ hJ') | (refine evC_region ?_; intro R hR) | (refine hJ _ ?_; clear hJ hJ' J) | refine evC_skip ?_ | refine evC_ret ?_ | refine evC_exit ?_) | ((with_reducible refine hJ' _ _ ?_ ?_); (focus (simp; done)); clear hJ hJ' J) | ((with_reducible apply evC_cond); rfl; rfl; all_goals (intro hc; first | (cases hc; done) | (try simp only at hc))))))
    all_goals rw [e]
    all_goals (refine ⟨by simp, ⟨_, ?_, z0⟩, leH_get (by simp [leH, hget])⟩; simp only [Try.results27, resL, ldA, oneOf, go_sem])
theorem rroom_fn (ex : Bool) (L : List Ac) (hL : Okl L) (a : Int) (ha : U a) : Fn Try.prog 30 [stA ex L, vi .u64 a] [] (vb (decide (a ≠ 0) && (!emptyA (findS L a) || (decide (a < 16) || decide (manyL L < 24))))) [] := by
  have hl := hL.1
  have o := rof_fn ex L hL a
  have hb : (findS L a).b < WW := by
    unfold findS
    cases h : fnd Ac.a a L with
    | none => show 0 < WW; decide
    | some z => exact (hL.2 z (fnd_key h).2).1.2.1
  have em := rempty_fn (findS L a) hb
  have mn := rmany_fn ex L (by unfold maxLen; omega)
  generalize findS L a = x at o em ⊢
  obtain ⟨q1, e1⟩ : ∃ p, decide (a ≠ 0) = p := ⟨_, rfl⟩
  obtain ⟨q3, e3⟩ : ∃ p, decide (a < 16) = p := ⟨_, rfl⟩
  obtain ⟨q4, e4⟩ : ∃ p, decide (manyL L < 24) = p := ⟨_, rfl⟩
  have f1 : (a == 0) = !q1 := by rw [← e1]; by_cases h : a = 0 <;> simp [h]
  have f4 : decide (((manyL L : Nat) : Int) < 24) = q4 := by rw [← e4]; exact decide_eq_decide.2 (by omega)
  rw [e1, e3, e4]
  clear e1 e4
  generalize emptyA x = q2 at em ⊢
  cases q1 <;> cases q2 <;> cases q3 <;> cases q4
  all_goals simp only [Bool.not_true, Bool.not_false] at f1
  all_goals (refine fn_of Try.func30 rfl (by rfl) ?_; simp only [Try.ntmps30, List.length_cons, List.length_nil, Nat.reduceAdd, Nat.reduceSub, List.replicate, List.cons_append, List.nil_append])
  all_goals (have W := ndI f1 (ndI e3 f4); (repeat (any_goals (first | ((with_reducible refine evL_call ?_ ?_ ?_); rfl; rfl; intro K hK; ((first | (apply opA_callB (o); rfl; rfl; rfl; rfl; exact Try.func27) | (apply opA_callB (em); rfl; rfl; rfl; rfl; exact Try.func56)); kernel_rfl; rfl; (simp only [go_sem, W]; rfl); (first | rfl | simp [AV.inNL, AV.inN])); (simp only [go_sem, W]; refine hK _ ?_; clear hK K)) | ((with_reducible refine evL_one ?_ ?_); rfl; intro K hK; simp only [go_sem, W]; ((repeat (refine ndI (by first | assumption | omega | rfl) ?_)); refine hK _ ?_; clear hK K)) | (with_reducible first | (refine evL_nil ?_; refine hR _ ?_; clear hR R) | ((first | refine evC_seq ?_ | refine evC_block ?_); intro J hJ hJ') | (refine evC_region ?_; intro R hR) | (refine hJ _ ?_; clear hJ hJ' J) | refine evC_skip ?_ | refine evC_ret ?_ | refine evC_exit ?_) | ((with_reducible refine hJ' _ _ ?_ ?_); (focus (simp; done)); clear hJ hJ' J) | ((with_reducible apply evL_unmet); rfl; rfl; rfl; (try simp only [go_sem, W])) | ((with_reducible apply evL_grd); rfl; rfl; rfl; all_goals (intro hb; first | (cases hb; done) | ((try simp only [Bool.not_true, Bool.not_false] at hb); (first | ((with_reducible intro K hK); (first | ((apply opA_callB (mn); rfl; rfl; rfl; rfl; exact Try.func57); kernel_rfl; rfl; (simp only [go_sem, W]; rfl); (first | rfl | simp [AV.inNL, AV.inN])) | skip); simp only [go_sem, W]; ((repeat (refine ndI (by first | assumption | omega | rfl) ?_)); refine hK _ ?_; clear hK K)) | ((fail_if_success (with_reducible intro _)); simp only [go_sem, W]))))) | ((with_reducible apply evC_cond); rfl; rfl; all_goals (intro hc; first | (cases hc; done) | (try simp only at hc)))))))
  all_goals (refine ⟨by simp, ⟨_, ?_, AV.le_refl _⟩, leH_get (by simp [leH, hget])⟩; simp only [Try.results30, resL, ldA, oneOf, go_sem])
  all_goals rfl
end Go.Proofs.Ytiggambibcohcaa
namespace Go.Proofs.Ytiggambibcohcaa
open Go.RowKit
open Nat (reduceBEq)
set_option maxRecDepth 20000
set_option maxHeartbeats 2000000
theorem bs_at {l : List Nat} {i : Nat} {y : Nat} (h : l[i]? = some y) : ((l.flatMap bpv).drop i).take 1 = [.v (.int .u8 (y : Int))] := by
  have := flat_at (f := bpv) bpv_len h
  rwa [Nat.mul_one] at this
theorem take_next {α : Type} {l m : List α} {i : Nat} {x y : α} (hx : l[i]? = some x) (hy : m[i]? = some y) (h : l.take i = m.take i) (e : x = y) : l.take (i + 1) = m.take (i + 1) := by
  rw [List.take_add_one, List.take_add_one, hx, hy, h, e]
theorem rsameacc_fn (x y : Ac) (hx : x.ok) (hy : y.ok) : Fn Try.prog 28 [acA x, acA y] [] (vb (decide (x = y))) [] := by
  obtain ⟨a, b, n, c, s⟩ := x
  obtain ⟨a', b', n', c', s'⟩ := y
  obtain ⟨u1, u2, u3, ⟨u4, u5⟩, u6, u7⟩ := hx
  obtain ⟨v1, v2, v3, ⟨v4, v5⟩, v6, v7⟩ := hy
  dsimp only at u1 u2 u3 u4 u5 u6 u7 v1 v2 v3 v4 v5 v6 v7
  obtain ⟨rr, hrr⟩ : ∃ r, decide ((⟨a, b, n, c, s⟩ : Ac) = ⟨a', b', n', c', s'⟩) = r := ⟨_, rfl⟩
  rw [hrr]
  have hno : ¬ (a = a' ∧ b = b' ∧ n = n' ∧ c = c' ∧ s = s') → rr = false := fun h => by
    rw [← hrr]
    exact decide_eq_false fun e => h (by cases e; exact ⟨rfl, rfl, rfl, rfl, rfl⟩)
  have hyes : a = a' → b = b' → n = n' → c = c' → s = s' → rr = true := fun h1 h2 h3 h4 h5 => by
    rw [← hrr]
    subst h1 h2 h3 h4 h5
    exact decide_eq_true rfl
  obtain ⟨q1, e1⟩ : ∃ p, decide (a = a') = p := ⟨_, rfl⟩
  obtain ⟨q2, e2⟩ : ∃ p, decide (b = b') = p := ⟨_, rfl⟩
  obtain ⟨q3, e3⟩ : ∃ p, decide (n = n') = p := ⟨_, rfl⟩
  obtain ⟨q4, e4⟩ : ∃ p, decide (c.length = c'.length) = p := ⟨_, rfl⟩
  obtain ⟨q5, e5⟩ : ∃ p, decide (s.length = s'.length) = p := ⟨_, rfl⟩
  have f1 : (a != a') = !q1 := by rw [← e1]; by_cases h : a = a' <;> simp [h]
  have f2 : (l0 b == l0 b' && (l1 b == l1 b' && (l2 b == l2 b' && l3 b == l3 b'))) = q2 := by rw [← e2, wN_eq u2 v2]
  have f3 : (n != n') = !q3 := by rw [← e3]; by_cases h : n = n' <;> simp [h]
  have f4 : ((c.length : Int) != (c'.length : Int)) = !q4 := by
    rw [← e4]
    by_cases h : c.length = c'.length
    · rw [h]; simp
    · rw [decide_eq_false h]; simp; omega
  have f5 : ((s.length : Int) != (s'.length : Int)) = !q5 := by
    rw [← e5]
    by_cases h : s.length = s'.length
    · rw [h]; simp
    · rw [decide_eq_false h]; simp; omega
  have k8 : c.length < 9223372036854775808 := Nat.lt_succ_of_le u4
  have k9 : s.length < 9223372036854775808 := Nat.lt_succ_of_le u6
  by_cases hq : (q1 && q2 && q3 && q4 && q5) = true
  · simp only [Bool.and_eq_true] at hq
    obtain ⟨⟨⟨⟨rfl, rfl⟩, rfl⟩, rfl⟩, rfl⟩ := hq
    have g1 : a = a' := of_decide_eq_true e1
    have g2 : b = b' := of_decide_eq_true e2
    have g3 : n = n' := of_decide_eq_true e3
    have g4 : c.length = c'.length := of_decide_eq_true e4
    have g5 : s.length = s'.length := of_decide_eq_true e5
    simp only [Bool.not_true] at f1 f3 f4 f5
    clear e1 e2 e3 e4 e5
    (refine fn_of Try.func28 rfl (by rfl) ?_; simp only [Try.ntmps28, List.length_cons, List.length_nil, Nat.reduceAdd, Nat.reduceSub, List.replicate, List.cons_append, List.nil_append])
    (have W := ndI f1 (ndI f2 (ndI f3 (ndI f4 f5))); (repeat (any_goals (first | ((with_reducible refine evL_one ?_ ?_); rfl; intro K hK; simp only [go_sem, W]; ((repeat (refine ndI (by first | assumption | omega | rfl) ?_)); refine hK _ ?_; clear hK K)) | (with_reducible first | (refine evL_nil ?_; refine hR _ ?_; clear hR R) | ((first | refine evC_seq ?_ | refine evC_block ?_); intro J hJ hJ') | (refine evC_region ?_; intro R hR) | (refine hJ _ ?_; clear hJ hJ' J) | refine evC_skip ?_ | refine evC_ret ?_ | refine evC_exit ?_) | ((with_reducible refine hJ' _ _ ?_ ?_); (focus (simp; done)); clear hJ hJ' J) | ((with_reducible apply evL_unmet); rfl; rfl; rfl; (try simp only [go_sem, W])) | ((with_reducible apply evL_grd); rfl; rfl; rfl; all_goals (intro hb; first | (cases hb; done) | ((try simp only [Bool.not_true, Bool.not_false] at hb); (first | ((with_reducible intro K hK); simp only [go_sem, W]; ((repeat (refine ndI (by first | assumption | omega | rfl) ?_)); refine hK _ ?_; clear hK K)) | ((fail_if_success (with_reducible intro _)); simp only [go_sem, W]))))) | ((with_reducible apply evC_cond); rfl; rfl; all_goals (intro hc; first | (cases hc; done) | (try simp only at hc))) | ((with_reducible refine evD_nil ?_ ?_); kernel_rfl; (with_reducible refine hR _ ?_); clear hR R) | (((with_reducible apply evD_any); rfl; rfl; (simp only [rdE, rdOf, go_sem, W]; rfl); (intro τ hA hQ hN; ((try simp only [agree, Op.operands, Call.operands, go_sem, W, go_sem, List.mem_cons, List.not_mem_nil, forall_eq_or_imp, forall_eq, List.append_toArray, Option.toArray] at hA); (try simp only [go_sem, W, List.mem_cons, List.not_mem_nil, forall_eq_or_imp, forall_eq] at hQ hN); (first | (revert hA; intro hA) | have hA := trivial); (first | (revert hQ; intro hQ) | have hQ := trivial); (first | (revert hN; intro hN) | have hN := trivial); simp only [go_sem, W, go_sem, hA, hQ, hN]; (repeat (refine ndI (by first | assumption | omega | rfl) ?_)); (first | apply eff_rd | apply eff_st | apply eff_nw)))); (simp only [St.eff, setO, hputs, go_sem, W])) | ((with_reducible refine evC_draw ?_ ?_ ?_ ?_); kernel_rfl; kernel_rfl; (first | kernel_rfl | simp [newNames, isNew, St.free, freeH, AV.refsL, AV.refs]); intro R hR)))))
    refine evC_loop (α := { i : Nat // i ≤ c.length ∧ c.take i = c'.take i }) (fun x => ⟨[.any, .any, .ptr 2 0, .ptr 3 0, vb false, .any, .any, .any, .any, .any, .any, .any, .any, .any, .any, .any, .any, .any, .any, .any, .any, .any, .any, .any, .any, .any, .any, .any, .any, .any, .any, .any, .any, .any, .any, .any, .any, .any, .any, .any, .any, .any, .any, .any, .any, .any, vi .i64 c.length, vi .i64 (x.1 : Int), .any, .any, .any, .any, .any, .any, .any, .any, .any, .any, .any, .any, .any, .any, .any, .any, .any, .any, .any, .any, .any, .any, .any, .any, .any, .any, .any, .any, .any, .any, .any, .any], [(2, ac8 a b n (bsV c) (psV s)), (3, ac8 a' b' n' (bsV c') (psV s'))]⟩) (fun x => c.length - x.1) ⟨0, Nat.zero_le _, rfl⟩ (St.le_of (by simp [leT]) (by simp [leH, hget])) ?_
    rintro ⟨i, hi, hok⟩ J hJ hJ'
    (try dsimp only at hJ ⊢)
    have k7 : (i : Int) + 1 = ((i + 1 : Nat) : Int) := by omega
    rcases Nat.lt_or_ge i c.length with hlt | hge
    · obtain ⟨p, hp⟩ : ∃ p, c[i]? = some p := ⟨_, List.getElem?_eq_getElem hlt⟩
      obtain ⟨p', hp'⟩ : ∃ p, c'[i]? = some p := ⟨_, List.getElem?_eq_getElem (by omega)⟩
      have k1 : (decide ((i : Int) < (c.length : Int))) = true := decide_eq_true (by omega)
      have k2 := bs_at hp
      have k3 := bs_at hp'
      have hlt' : i < c'.length := by omega
      by_cases he : p = p'
      · have k4 : ((p : Int) != (p' : Int)) = false := by rw [he]; simp
        (have W := ndI k1 (ndI k2 (ndI k3 (ndI k4 (ndI k7 @wrI)))); (repeat (any_goals (first | ((with_reducible refine evL_one ?_ ?_); rfl; intro K hK; simp (disch := omega) only [go_sem, W, Nat.mul_one]; ((repeat (refine ndI (by first | assumption | omega | rfl) ?_)); refine hK _ ?_; clear hK K)) | (with_reducible first | (refine evL_nil ?_; refine hR _ ?_; clear hR R) | ((first | refine evC_seq ?_ | refine evC_block ?_); intro J hJ hJ') | (refine evC_region ?_; intro R hR) | (refine hJ _ ?_; clear hJ hJ' J) | refine evC_skip ?_ | refine evC_ret ?_ | refine evC_exit ?_) | ((with_reducible refine hJ' _ _ ?_ ?_); (focus (simp; done)); clear hJ hJ' J) | ((with_reducible apply evL_unmet); rfl; rfl; rfl; (try simp (disch := omega) only [go_sem, W, Nat.mul_one])) | ((with_reducible apply evL_grd); rfl; rfl; rfl; all_goals (intro hb; first | (cases hb; done) | ((try simp only [Bool.not_true, Bool.not_false] at hb); (first | ((with_reducible intro K hK); simp (disch := omega) only [go_sem, W, Nat.mul_one]; ((repeat (refine ndI (by first | assumption | omega | rfl) ?_)); refine hK _ ?_; clear hK K)) | ((fail_if_success (with_reducible intro _)); simp (disch := omega) only [go_sem, W, Nat.mul_one]))))) | ((with_reducible apply evC_cond); rfl; rfl; all_goals (intro hc; first | (cases hc; done) | (try simp only at hc))) | ((with_reducible refine evD_nil ?_ ?_); kernel_rfl; (with_reducible refine hR _ ?_); clear hR R) | (((with_reducible apply evD_any); rfl; rfl; (simp (disch := omega) only [rdE, rdOf, go_sem, W, Nat.mul_one]; rfl); (intro τ hA hQ hN; ((try simp only [agree, Op.operands, Call.operands, go_sem, W, Nat.mul_one, go_sem, List.mem_cons, List.not_mem_nil, forall_eq_or_imp, forall_eq, List.append_toArray, Option.toArray] at hA); (try simp only [go_sem, W, Nat.mul_one, List.mem_cons, List.not_mem_nil, forall_eq_or_imp, forall_eq] at hQ hN); (first | (revert hA; intro hA) | have hA := trivial); (first | (revert hQ; intro hQ) | have hQ := trivial); (first | (revert hN; intro hN) | have hN := trivial); simp (disch := omega) only [go_sem, W, Nat.mul_one, go_sem, hA, hQ, hN]; (repeat (refine ndI (by first | assumption | omega | rfl) ?_)); (first | apply eff_rd | apply eff_st | apply eff_nw)))); (simp (disch := omega) only [St.eff, setO, hputs, go_sem, W, Nat.mul_one])) | ((with_reducible refine evC_draw ?_ ?_ ?_ ?_); kernel_rfl; kernel_rfl; (first | kernel_rfl | simp [newNames, isNew, St.free, freeH, AV.refsL, AV.refs]); intro R hR)))))
        exact hJ _ ⟨i + 1, hlt, take_next hp hp' hok he⟩ (by dsimp only; omega) (St.le_of (by simp [leT]) (by simp [leH, hget]))
      · have k4 : ((p : Int) != (p' : Int)) = true := by simp; omega
        have hf := hno (fun h => he (by rw [h.2.2.2.1] at hp; rw [hp] at hp'; exact Option.some.inj hp'))
        (have W := ndI k1 (ndI k2 (ndI k3 (ndI k4 (ndI k7 @wrI)))); (repeat (any_goals (first | ((with_reducible refine evL_one ?_ ?_); rfl; intro K hK; simp (disch := omega) only [go_sem, W, Nat.mul_one]; ((repeat (refine ndI (by first | assumption | omega | rfl) ?_)); refine hK _ ?_; clear hK K)) | (with_reducible first | (refine evL_nil ?_; refine hR _ ?_; clear hR R) | ((first | refine evC_seq ?_ | refine evC_block ?_); intro J hJ hJ') | (refine evC_region ?_; intro R hR) | (refine hJ _ ?_; clear hJ hJ' J) | refine evC_skip ?_ | refine evC_ret ?_ | refine evC_exit ?_) | ((with_reducible refine hJ' _ _ ?_ ?_); (focus (simp; done)); clear hJ hJ' J) | ((with_reducible apply evL_unmet); rfl; rfl; rfl; (try simp (disch := omega) only [go_sem, W, Nat.mul_one])) | ((with_reducible apply evL_grd); rfl; rfl; rfl; all_goals (intro hb; first | (cases hb; done) | ((try simp only [Bool.not_true, Bool.not_false] at hb); (first | ((with_reducible intro K hK); simp (disch := omega) only [go_sem, W, Nat.mul_one]; ((repeat (refine ndI (by first | assumption | omega | rfl) ?_)); refine hK _ ?_; clear hK K)) | ((fail_if_success (with_reducible intro _)); simp (disch := omega) only [go_sem, W, Nat.mul_one]))))) | ((with_reducible apply evC_cond); rfl; rfl; all_goals (intro hc; first | (cases hc; done) | (try simp only at hc))) | ((with_reducible refine evD_nil ?_ ?_); kernel_rfl; (with_reducible refine hR _ ?_); clear hR R) | (((with_reducible apply evD_any); rfl; rfl; (simp (disch := omega) only [rdE, rdOf, go_sem, W, Nat.mul_one]; rfl); (intro τ hA hQ hN; ((try simp only [agree, Op.operands, Call.operands, go_sem, W, Nat.mul_one, go_sem, List.mem_cons, List.not_mem_nil, forall_eq_or_imp, forall_eq, List.append_toArray, Option.toArray] at hA); (try simp only [go_sem, W, Nat.mul_one, List.mem_cons, List.not_mem_nil, forall_eq_or_imp, forall_eq] at hQ hN); (first | (revert hA; intro hA) | have hA := trivial); (first | (revert hQ; intro hQ) | have hQ := trivial); (first | (revert hN; intro hN) | have hN := trivial); simp (disch := omega) only [go_sem, W, Nat.mul_one, go_sem, hA, hQ, hN]; (repeat (refine ndI (by first | assumption | omega | rfl) ?_)); (first | apply eff_rd | apply eff_st | apply eff_nw)))); (simp (disch := omega) only [St.eff, setO, hputs, go_sem, W, Nat.mul_one])) | ((with_reducible refine evC_draw ?_ ?_ ?_ ?_); kernel_rfl; kernel_rfl; (first | kernel_rfl | simp [newNames, isNew, St.free, freeH, AV.refsL, AV.refs]); intro R hR)))))
        all_goals rw [hf]
        all_goals (refine ⟨by simp, ⟨_, ?_, AV.le_refl _⟩, leH_get (by simp [leH, hget])⟩; simp only [Try.results28, resL, ldA, oneOf, go_sem])
    · have k1 : (decide ((i : Int) < (c.length : Int))) = false := decide_eq_false (by omega)
      have g6 : c = c' := by rwa [List.take_of_length_le hge, List.take_of_length_le (by omega)] at hok
      (repeat (any_goals (first | ((with_reducible refine evL_one ?_ ?_); rfl; intro K hK; simp only [go_sem, k1]; ((repeat (refine ndI (by first | assumption | omega | rfl) ?_)); refine hK _ ?_; clear hK K)) | (with_reducible first | (refine evL_nil ?_; refine hR _ ?_; clear hR R) | ((first | refine evC_seq ?_ | refine evC_block ?_); intro J hJ hJ') | (refine evC_region ?_; intro R hR) | (refine hJ _ ?_; clear hJ hJ' J) | refine evC_skip ?_ | refine evC_ret ?_ | refine evC_exit ?_) | ((with_reducible refine hJ' _ _ ?_ ?_); (focus (simp; done)); clear hJ hJ' J) | ((with_reducible apply evL_unmet); rfl; rfl; rfl; (try simp only [go_sem, k1])) | ((with_reducible apply evL_grd); rfl; rfl; rfl; all_goals (intro hb; first | (cases hb; done) | ((try simp only [Bool.not_true, Bool.not_false] at hb); (first | ((with_reducible intro K hK); simp only [go_sem, k1]; ((repeat (refine ndI (by first | assumption | omega | rfl) ?_)); refine hK _ ?_; clear hK K)) | ((fail_if_success (with_reducible intro _)); simp only [go_sem, k1]))))) | ((with_reducible apply evC_cond); rfl; rfl; all_goals (intro hc; first | (cases hc; done) | (try simp only at hc))) | ((with_reducible refine evD_nil ?_ ?_); kernel_rfl; (with_reducible refine hR _ ?_); clear hR R) | (((with_reducible apply evD_any); rfl; rfl; (simp only [rdE, rdOf, go_sem, k1]; rfl); (intro τ hA hQ hN; ((try simp only [agree, Op.operands, Call.operands, go_sem, k1, go_sem, List.mem_cons, List.not_mem_nil, forall_eq_or_imp, forall_eq, List.append_toArray, Option.toArray] at hA); (try simp only [go_sem, k1, List.mem_cons, List.not_mem_nil, forall_eq_or_imp, forall_eq] at hQ hN); (first | (revert hA; intro hA) | have hA := trivial); (first | (revert hQ; intro hQ) | have hQ := trivial); (first | (revert hN; intro hN) | have hN := trivial); simp only [go_sem, k1, go_sem, hA, hQ, hN]; (repeat (refine ndI (by first | assumption | omega | rfl) ?_)); (first | apply eff_rd | apply eff_st | apply eff_nw)))); (simp only [St.eff, setO, hputs, go_sem, k1])) | ((with_reducible refine evC_draw ?_ ?_ ?_ ?_); kernel_rfl; kernel_rfl; (first | kernel_rfl | simp [newNames, isNew, St.free, freeH, AV.refsL, AV.refs]); intro R hR))))
      refine evC_loop (α := { i : Nat // i ≤ s.length ∧ s.take i = s'.take i }) (fun x => ⟨[.any, .any, .ptr 2 0, .ptr 3 0, vb false, .any, .any, .any, .any, .any, .any, .any, .any, .any, .any, .any, .any, .any, .any, .any, .any, .any, .any, .any, .any, .any, .any, .any, .any, .any, .any, .any, .any, .any, .any, .any, .any, .any, .any, .any, .any, .any, .any, .any, .any, .any, .any, .any, .any, .any, .any, .any, .any, .any, .any, .any, .any, .any, .any, .any, .any, .any, .any, .any, vi .i64 s.length, vi .i64 (x.1 : Int), .any, .any, .any, .any, .any, .any, .any, .any, .any, .any, .any, .any, .any, .any], [(2, ac8 a b n (bsV c) (psV s)), (3, ac8 a' b' n' (bsV c') (psV s'))]⟩) (fun x => s.length - x.1) ⟨0, Nat.zero_le _, rfl⟩ (St.le_of (by simp [leT]) (by simp [leH, hget])) ?_
      rintro ⟨i, hi, hok⟩ J hJ hJ'
      (try dsimp only at hJ ⊢)
      have k7 : (i : Int) + 1 = ((i + 1 : Nat) : Int) := by omega
      rcases Nat.lt_or_ge i s.length with hlt | hge
      · obtain ⟨p, hp⟩ : ∃ p, s[i]? = some p := ⟨_, List.getElem?_eq_getElem hlt⟩
        obtain ⟨p', hp'⟩ : ∃ p, s'[i]? = some p := ⟨_, List.getElem?_eq_getElem (by omega)⟩
        have k1 : (decide ((i : Int) < (s.length : Int))) = true := decide_eq_true (by omega)
        have k2 := ps_at hp
        have k3 := ps_at hp'
        have hlt' : i < s'.length := by omega
        have k4 := pr_eq (u7 p (List.mem_of_getElem? hp)) (v7 p' (List.mem_of_getElem? hp'))
        by_cases he : p = p'
        · rw [decide_eq_true he] at k4
          (have W := ndI k1 (ndI k2 (ndI k3 (ndI k4 (ndI k7 @wrI)))); (repeat (any_goals (first | ((with_reducible refine evL_one ?_ ?_); rfl; intro K hK; simp (disch := omega) only [go_sem, W]; ((repeat (refine ndI (by first | assumption | omega | rfl) ?_)); refine hK _ ?_; clear hK K)) | (with_reducible first | (refine evL_nil ?_; refine hR _ ?_; clear hR R) | ((first | refine evC_seq ?_ | refine evC_block ?_); intro J hJ hJ') | (refine evC_region ?_; intro R hR) | (refine hJ _ ?_; clear hJ hJ' J) | refine evC_skip ?_ | refine evC_ret ?_ | refine evC_exit ?_) | ((with_reducible refine hJ' _ _ ?_ ?_); (focus (simp; done)); clear hJ hJ' J) | ((with_reducible apply evL_unmet); rfl; rfl; rfl; (try simp (disch := omega) only [go_sem, W])) | ((with_reducible apply evL_grd); rfl; rfl; rfl; all_goals (intro hb; first | (cases hb; done) | ((try simp only [Bool.not_true, Bool.not_false] at hb); (first | ((with_reducible intro K hK); simp (disch := omega) only [go_sem, W]; ((repeat (refine ndI (by first | assumption | omega | rfl) ?_)); refine hK _ ?_; clear hK K)) | ((fail_if_success (with_reducible intro _)); simp (disch := omega) only [go_sem, W]))))) | ((with_reducible apply evC_cond); rfl; rfl; all_goals (intro hc; first | (cases hc; done) | (try simp only at hc))) | ((with_reducible refine evD_nil ?_ ?_); kernel_rfl; (with_reducible refine hR _ ?_); clear hR R) | (((with_reducible apply evD_any); rfl; rfl; (simp (disch := omega) only [rdE, rdOf, go_sem, W]; rfl); (intro τ hA hQ hN; ((try simp only [agree, Op.operands, Call.operands, go_sem, W, go_sem, List.mem_cons, List.not_mem_nil, forall_eq_or_imp, forall_eq, List.append_toArray, Option.toArray] at hA); (try simp only [go_sem, W, List.mem_cons, List.not_mem_nil, forall_eq_or_imp, forall_eq] at hQ hN); (first | (revert hA; intro hA) | have hA := trivial); (first | (revert hQ; intro hQ) | have hQ := trivial); (first | (revert hN; intro hN) | have hN := trivial); simp (disch := omega) only [go_sem, W, go_sem, hA, hQ, hN]; (repeat (refine ndI (by first | assumption | omega | rfl) ?_)); (first | apply eff_rd | apply eff_st | apply eff_nw)))); (simp (disch := omega) only [St.eff, setO, hputs, go_sem, W])) | ((with_reducible refine evC_draw ?_ ?_ ?_ ?_); kernel_rfl; kernel_rfl; (first | kernel_rfl | simp [newNames, isNew, St.free, freeH, AV.refsL, AV.refs]); intro R hR)))))
          exact hJ _ ⟨i + 1, hlt, take_next hp hp' hok he⟩ (by dsimp only; omega) (St.le_of (by simp [leT]) (by simp [leH, hget]))
        · rw [decide_eq_false he] at k4
          have hf := hno (fun h => he (by rw [h.2.2.2.2] at hp; rw [hp] at hp'; exact Option.some.inj hp'))
          (have W := ndI k1 (ndI k2 (ndI k3 (ndI k4 (ndI k7 @wrI)))); (repeat (any_goals (first | ((with_reducible refine evL_one ?_ ?_); rfl; intro K hK; simp (disch := omega) only [go_sem, W]; ((repeat (refine ndI (by first | assumption | omega | rfl) ?_)); refine hK _ ?_; clear hK K)) | (with_reducible first | (refine evL_nil ?_; refine hR _ ?_; clear hR R) | ((first | refine evC_seq ?_ | refine evC_block ?_); intro J hJ hJ') | (refine evC_region ?_; intro R hR) | (refine hJ _ ?_; clear hJ hJ' J) | refine evC_skip ?_ | refine evC_ret ?_ | refine evC_exit ?_) | ((with_reducible refine hJ' _ _ ?_ ?_); (focus (simp; done)); clear hJ hJ' J) | ((with_reducible apply evL_unmet); rfl; rfl; rfl; (try simp (disch := omega) only [go_sem, W])) | ((with_reducible apply evL_grd); rfl; rfl; rfl; all_goals (intro hb; first | (cases hb; done) | ((try simp only [Bool.not_true, Bool.not_false] at hb); (first | ((with_reducible intro K hK); simp (disch := omega) only [go_sem, W]; ((repeat (refine ndI (by first | assumption | omega | rfl) ?_)); refine hK _ ?_; clear hK K)) | ((fail_if_success (with_reducible intro _)); simp (disch := omega) only [go_sem, W]))))) | ((with_reducible apply evC_cond); rfl; rfl; all_goals (intro hc; first | (cases hc; done) | (try simp only at hc))) | ((with_reducible refine evD_nil ?_ ?_); kernel_rfl; (with_reducible refine hR _ ?_); clear hR R) | (((with_reducible apply evD_any); rfl; rfl; (simp (disch := omega) only [rdE, rdOf, go_sem, W]; rfl); (intro τ hA hQ hN; ((try simp only [agree, Op.operands, Call.operands, go_sem, W, go_sem, List.mem_cons, List.not_mem_nil, forall_eq_or_imp, forall_eq, List.append_toArray, Option.toArray] at hA); (try simp only [go_sem, W, List.mem_cons, List.not_mem_nil, forall_eq_or_imp, forall_eq] at hQ hN); (first | (revert hA; intro hA) | have hA := trivial); (first | (revert hQ; intro hQ) | have hQ := trivial); (first | (revert hN; intro hN) | have hN := trivial); simp (disch := omega) only [go_sem, W, go_sem, hA, hQ, hN]; (repeat (refine ndI (by first | assumption | omega | rfl) ?_)); (first | apply eff_rd | apply eff_st | apply eff_nw)))); (simp (disch := omega) only [St.eff, setO, hputs, go_sem, W])) | ((with_reducible refine evC_draw ?_ ?_ ?_ ?_); kernel_rfl; kernel_rfl; (first | kernel_rfl | simp [newNames, isNew, St.free, freeH, AV.refsL, AV.refs]); intro R hR)))))
          all_goals rw [hf]
          all_goals (refine ⟨by simp, ⟨_, ?_, AV.le_refl _⟩, leH_get (by simp [leH, hget])⟩; simp only [Try.results28, resL, ldA, oneOf, go_sem])
      · have k1 : (decide ((i : Int) < (s.length : Int))) = false := decide_eq_false (by omega)
        have g7 : s = s' := by rwa [List.take_of_length_le hge, List.take_of_length_le (by omega)] at hok
        (repeat (any_goals (first | ((with_reducible refine evL_one ?_ ?_); rfl; intro K hK; simp only [go_sem, k1]; ((repeat (refine ndI (by first | assumption | omega | rfl) ?_)); refine hK _ ?_; clear hK K)) | (with_reducible first | (refine evL_nil ?_; refine hR _ ?_; clear hR R) | ((first | refine evC_seq ?_ | refine evC_block ?_); intro J hJ hJ') | (refine evC_region ?_; intro R hR) | (refine hJ _ ?_; clear hJ hJ' J) | refine evC_skip ?_ | refine evC_ret ?_ | refine evC_exit ?_) | ((with_reducible refine hJ' _ _ ?_ ?_); (focus (simp; done)); clear hJ hJ' J) | ((with_reducible apply evL_unmet); rfl; rfl; rfl; (try simp only [go_sem, k1])) | ((with_reducible apply evL_grd); rfl; rfl; rfl; all_goals (intro hb; first | (cases hb; done) | ((try simp only [Bool.not_true, Bool.not_false] at hb); (first | ((with_reducible intro K hK); simp only [go_sem, k1]; ((repeat (refine ndI (by first | assumption | omega | rfl) ?_)); refine hK _ ?_; clear hK K)) | ((fail_if_success (with_reducible intro _)); simp only [go_sem, k1]))))) | ((with_reducible apply evC_cond); rfl; rfl; all_goals (intro hc; first | (cases hc; done) | (try simp only at hc))) | ((with_reducible refine evD_nil ?_ ?_); kernel_rfl; (with_reducible refine hR _ ?_); clear hR R) | (((with_reducible apply evD_any); rfl; rfl; (simp only [rdE, rdOf, go_sem, k1]; rfl); (intro τ hA hQ hN; ((try simp only [agree, Op.operands, Call.operands, go_sem, k1, go_sem, List.mem_cons, List.not_mem_nil, forall_eq_or_imp, forall_eq, List.append_toArray, Option.toArray] at hA); (try simp only [go_sem, k1, List.mem_cons, List.not_mem_nil, forall_eq_or_imp, forall_eq] at hQ hN); (first | (revert hA; intro hA) | have hA := trivial); (first | (revert hQ; intro hQ) | have hQ := trivial); (first | (revert hN; intro hN) | have hN := trivial); simp only [go_sem, k1, go_sem, hA, hQ, hN]; (repeat (refine ndI (by first | assumption | omega | rfl) ?_)); (first | apply eff_rd | apply eff_st | apply eff_nw)))); (simp only [St.eff, setO, hputs, go_sem, k1])) | ((with_reducible refine evC_draw ?_ ?_ ?_ ?_); kernel_rfl; kernel_rfl; (first | kernel_rfl | simp [newNames, isNew, St.free, freeH, AV.refsL, AV.refs]); intro R hR))))
        all_goals rw [hyes g1 g2 g3 g6 g7]
        all_goals (refine ⟨by simp, ⟨_, ?_, AV.le_refl _⟩, leH_get (by simp [leH, hget])⟩; simp only [Try.results28, resL, ldA, oneOf, go_sem])
  · have hf : rr = false := hno fun ⟨h1, h2, h3, h4, h5⟩ => hq (by rw [← e1, ← e2, ← e3, ← e4, ← e5]; subst h1 h2 h3 h4 h5; simp)
    rw [hf]
    have hq : (q1 && q2 && q3 && q4 && q5) = false := by simpa using hq
    clear e1 e2 e3 e4 e5 hno hyes hrr
    cases q1 <;> cases q2 <;> cases q3 <;> cases q4 <;> cases q5
    all_goals first | (cases hq; done) | skip
    all_goals simp only [Bool.not_true, Bool.not_false] at f1 f3 f4 f5
    all_goals (refine fn_of Try.func28 rfl (by rfl) ?_; simp only [Try.ntmps28, List.length_cons, List.length_nil, Nat.reduceAdd, Nat.reduceSub, List.replicate, List.cons_append, List.nil_append])
    all_goals (have W := ndI f1 (ndI f2 (ndI f3 (ndI f4 f5))); (repeat (any_goals (first | ((with_reducible refine evL_one ?_ ?_); rfl; intro K hK; simp only [go_sem, W]; ((repeat (refine ndI (by first | assumption | omega | rfl) ?_)); refine hK _ ?_; clear hK K)) | (with_reducible first | (refine evL_nil ?_; refine hR _ ?_; clear hR R) | ((first | refine evC_seq ?_ | refine evC_block ?_); intro J hJ hJ') | (refine evC_region ?_; intro R hR) | (refine hJ _ ?_; clear hJ hJ' J) | refine evC_skip ?_ | refine evC_ret ?_ | refine evC_exit ?_) | ((with_reducible refine hJ' _ _ ?_ ?_); (focus (simp; done)); clear hJ hJ' J) | ((with_reducible apply evL_unmet); rfl; rfl; rfl; (try simp only [go_sem, W])) | ((with_reducible apply evL_grd); rfl; rfl; rfl; all_goals (intro hb; first | (cases hb; done) | ((try simp only [Bool.not_true, Bool.not_false] at hb); (first | ((with_reducible intro K hK); simp only [go_sem, W]; ((repeat (refine ndI (by first | assumption | omega | rfl) ?_)); refine hK _ ?_; clear hK K)) | ((fail_if_success (with_reducible intro _)); simp only [go_sem, W]))))) | ((with_reducible apply evC_cond); rfl; rfl; all_goals (intro hc; first | (cases hc; done) | (try simp only at hc))) | ((with_reducible refine evD_nil ?_ ?_); kernel_rfl; (with_reducible refine hR _ ?_); clear hR R) | (((with_reducible apply evD_any); rfl; rfl; (simp only [rdE, rdOf, go_sem, W]; rfl); (intro τ hA hQ hN; ((try simp only [agree, Op.operands, Call.operands, go_sem, W, go_sem, List.mem_cons, List.not_mem_nil, forall_eq_or_imp, forall_eq, List.append_toArray, Option.toArray] at hA); (try simp only [go_sem, W, List.mem_cons, List.not_mem_nil, forall_eq_or_imp, forall_eq] at hQ hN); (first | (revert hA; intro hA) | have hA := trivial); (first | (revert hQ; intro hQ) | have hQ := trivial); (first | (revert hN; intro hN) | have hN := trivial); simp only [go_sem, W, go_sem, hA, hQ, hN]; (repeat (refine ndI (by first | assumption | omega | rfl) ?_)); (first | apply eff_rd | apply eff_st | apply eff_nw)))); (simp only [St.eff, setO, hputs, go_sem, W])) | ((with_reducible refine evC_draw ?_ ?_ ?_ ?_); kernel_rfl; kernel_rfl; (first | kernel_rfl | simp [newNames, isNew, St.free, freeH, AV.refsL, AV.refs]); intro R hR)))))
    all_goals (refine ⟨by simp, ⟨_, ?_, AV.le_refl _⟩, leH_get (by simp [leH, hget])⟩; simp only [Try.results28, resL, ldA, oneOf, go_sem])
theorem rsame_fn (e1 e2 : Bool) (L M : List Ac) (hl : L.length ≤ maxLen) (hm : M.length ≤ maxLen) (ol : ∀ x ∈ L, x.ok) (om : ∀ x ∈ M, x.ok) : Fn Try.prog 16 [stA e1 L, stA e2 M] [] (vb (decide (L = M))) [] := by
  obtain ⟨rr, hrr⟩ : ∃ r, decide (L = M) = r := ⟨_, rfl⟩
  rw [hrr]
  have k8 : L.length < 9223372036854775808 := Nat.lt_succ_of_le hl
  by_cases hlen : L.length = M.length
  · have f1 : ((L.length : Int) != (M.length : Int)) = false := by rw [hlen]; simp
    (refine fn_of Try.func16 rfl (by rfl) ?_; simp only [Try.ntmps16, List.length_cons, List.length_nil, Nat.reduceAdd, Nat.reduceSub, List.replicate, List.cons_append, List.nil_append])
    (repeat (any_goals (first | ((with_reducible refine evL_one ?_ ?_); rfl; intro K hK; simp only [go_sem, f1]; ((repeat (refine ndI (by first | assumption | omega | rfl) ?_)); refine hK _ ?_; clear hK K)) | (with_reducible first | (refine evL_nil ?_; refine hR _ ?_; clear hR R) | ((first | refine evC_seq ?_ | refine evC_block ?_); intro J hJ hJ') | (refine evC_region ?_; intro R hR) | (refine hJ _ ?_; clear hJ hJ' J) | refine evC_skip ?_ | refine evC_ret ?_ | refine evC_exit ?_) | ((with_reducible refine hJ' _ _ ?_ ?_); (focus (simp; done)); clear hJ hJ' J) | ((with_reducible apply evC_cond); rfl; rfl; all_goals (intro hc; first | (cases hc; done) | (try simp only at hc))) | ((with_reducible refine evD_nil ?_ ?_); kernel_rfl; (with_reducible refine hR _ ?_); clear hR R) | (((with_reducible apply evD_any); rfl; rfl; (simp only [rdE, rdOf, go_sem, f1]; rfl); (intro τ hA hQ hN; ((try simp only [agree, Op.operands, Call.operands, go_sem, f1, go_sem, List.mem_cons, List.not_mem_nil, forall_eq_or_imp, forall_eq, List.append_toArray, Option.toArray] at hA); (try simp only [go_sem, f1, List.mem_cons, List.not_mem_nil, forall_eq_or_imp, forall_eq] at hQ hN); (first | (revert hA; intro hA) | have hA := trivial); (first | (revert hQ; intro hQ) | have hQ := trivial); (first | (revert hN; intro hN) | have hN := trivial); simp only [go_sem, f1, go_sem, hA, hQ, hN]; (repeat (refine ndI (by first | assumption | omega | rfl) ?_)); (first | apply eff_rd | apply eff_st | apply eff_nw)))); (simp only [St.eff, setO, hputs, go_sem, f1])) | ((with_reducible refine evC_draw ?_ ?_ ?_ ?_); kernel_rfl; kernel_rfl; (first | kernel_rfl | simp [newNames, isNew, St.free, freeH, AV.refsL, AV.refs]); intro R hR))))
    refine evC_loop (α := { i : Nat // i ≤ L.length ∧ L.take i = M.take i }) (fun x => ⟨[.any, .any, .ptr 2 0, .ptr 3 0, vb false, .any, .any, .any, .any, .any, .any, .any, .any, .any, .any, vi .i64 L.length, vi .i64 (x.1 : Int), .any, .any, .any, .any, .any, .any, .any, .any, .any, .any, .any, .any, .any, .any, .any], [(2, [acS e1 L]), (3, [acS e2 M])]⟩) (fun x => L.length - x.1) ⟨0, Nat.zero_le _, rfl⟩ (St.le_of (by simp [leT]) (by simp [leH, hget])) ?_
    rintro ⟨i, hi, hok⟩ J hJ hJ'
    (try dsimp only at hJ ⊢)
    have k7 : (i : Int) + 1 = ((i + 1 : Nat) : Int) := by omega
    rcases Nat.lt_or_ge i L.length with hlt | hge
    · obtain ⟨p, hp⟩ : ∃ p, L[i]? = some p := ⟨_, List.getElem?_eq_getElem hlt⟩
      obtain ⟨p', hp'⟩ : ∃ p, M[i]? = some p := ⟨_, List.getElem?_eq_getElem (by omega)⟩
      have k1 : (decide ((i : Int) < (L.length : Int))) = true := decide_eq_true (by omega)
      have k2 := ac_at hp
      have k3 := ac_at hp'
      have hlt' : i < M.length := by omega
      have sa := rsameacc_fn p p' (ol p (List.mem_of_getElem? hp)) (om p' (List.mem_of_getElem? hp'))
      by_cases he : p = p'
      · rw [decide_eq_true he] at sa
        (have W := ndI k1 (ndI k2 (ndI k3 (ndI k7 @wrI))); (repeat (any_goals (first | ((with_reducible refine evL_one ?_ ?_); rfl; intro K hK; simp (disch := omega) only [go_sem, W]; ((repeat (refine ndI (by first | assumption | omega | rfl) ?_)); refine hK _ ?_; clear hK K)) | (with_reducible first | (refine evL_nil ?_; refine hR _ ?_; clear hR R) | ((first | refine evC_seq ?_ | refine evC_block ?_); intro J hJ hJ') | (refine evC_region ?_; intro R hR) | (refine hJ _ ?_; clear hJ hJ' J) | refine evC_skip ?_ | refine evC_ret ?_ | refine evC_exit ?_) | ((with_reducible refine hJ' _ _ ?_ ?_); (focus (simp; done)); clear hJ hJ' J) | ((with_reducible apply evC_cond); rfl; rfl; all_goals (intro hc; first | (cases hc; done) | (try simp only at hc))) | ((with_reducible refine evD_nil ?_ ?_); kernel_rfl; (with_reducible refine hR _ ?_); clear hR R) | ((first | ((with_reducible apply evD_fcall); rfl; rfl; ((apply opF_callB (sa); rfl; rfl; rfl; rfl; exact Try.func28); kernel_rfl; rfl; (simp (disch := omega) only [go_sem, W]; rfl); (first | rfl | simp [AV.inNL, AV.inN]))) | ((with_reducible apply evD_any); rfl; rfl; (simp (disch := omega) only [rdE, rdOf, go_sem, W]; rfl); (intro τ hA hQ hN; ((try simp only [agree, Op.operands, Call.operands, go_sem, W, go_sem, List.mem_cons, List.not_mem_nil, forall_eq_or_imp, forall_eq, List.append_toArray, Option.toArray] at hA); (try simp only [go_sem, W, List.mem_cons, List.not_mem_nil, forall_eq_or_imp, forall_eq] at hQ hN); (first | (revert hA; intro hA) | have hA := trivial); (first | (revert hQ; intro hQ) | have hQ := trivial); (first | (revert hN; intro hN) | have hN := trivial); simp (disch := omega) only [go_sem, W, go_sem, hA, hQ, hN]; (repeat (refine ndI (by first | assumption | omega | rfl) ?_)); (first | apply eff_rd | apply eff_st | apply eff_nw))))); (simp (disch := omega) only [St.eff, setO, hputs, go_sem, W])) | ((with_reducible refine evC_draw ?_ ?_ ?_ ?_); kernel_rfl; kernel_rfl; (first | kernel_rfl | simp [newNames, isNew, St.free, freeH, AV.refsL, AV.refs]); intro R hR)))))
        exact hJ _ ⟨i + 1, hlt, take_next hp hp' hok he⟩ (by dsimp only; omega) (St.le_of (by simp [leT]) (by simp [leH, hget]))
      · rw [decide_eq_false he] at sa
        have hf : rr = false := by rw [← hrr]; exact decide_eq_false fun h => he (by rw [h] at hp; rw [hp] at hp'; exact Option.some.inj hp')
        (have W := ndI k1 (ndI k2 (ndI k3 (ndI k7 @wrI))); (repeat (any_goals (first | ((with_reducible refine evL_one ?_ ?_); rfl; intro K hK; simp (disch := omega) only [go_sem, W]; ((repeat (refine ndI (by first | assumption | omega | rfl) ?_)); refine hK _ ?_; clear hK K)) | (with_reducible first | (refine evL_nil ?_; refine hR _ ?_; clear hR R) | ((first | refine evC_seq ?_ | refine evC_block ?_); intro J hJ hJ') | (refine evC_region ?_; intro R hR) | (refine hJ _ ?_; clear hJ hJ' J) | refine evC_skip ?_ | refine evC_ret ?_ | refine evC_exit ?_) | ((with_reducible refine hJ' _ _ ?_ ?_); (focus (simp; done)); clear hJ hJ' J) | ((with_reducible apply evC_cond); rfl; rfl; all_goals (intro hc; first | (cases hc; done) | (try simp only at hc))) | ((with_reducible refine evD_nil ?_ ?_); kernel_rfl; (with_reducible refine hR _ ?_); clear hR R) | ((first | ((with_reducible apply evD_fcall); rfl; rfl; ((apply opF_callB (sa); rfl; rfl; rfl; rfl; exact Try.func28); kernel_rfl; rfl; (simp (disch := omega) only [go_sem, W]; rfl); (first | rfl | simp [AV.inNL, AV.inN]))) | ((with_reducible apply evD_any); rfl; rfl; (simp (disch := omega) only [rdE, rdOf, go_sem, W]; rfl); (intro τ hA hQ hN; ((try simp only [agree, Op.operands, Call.operands, go_sem, W, go_sem, List.mem_cons, List.not_mem_nil, forall_eq_or_imp, forall_eq, List.append_toArray, Option.toArray] at hA); (try simp only [go_sem, W, List.mem_cons, List.not_mem_nil, forall_eq_or_imp, forall_eq] at hQ hN); (first | (revert hA; intro hA) | have hA := trivial); (first | (revert hQ; intro hQ) | have hQ := trivial); (first | (revert hN; intro hN) | have hN := trivial); simp (disch := omega) only [go_sem, W, go_sem, hA, hQ, hN]; (repeat (refine ndI (by first | assumption | omega | rfl) ?_)); (first | apply eff_rd | apply eff_st | apply eff_nw))))); (simp (disch := omega) only [St.eff, setO, hputs, go_sem, W])) | ((with_reducible refine evC_draw ?_ ?_ ?_ ?_); kernel_rfl; kernel_rfl; (first | kernel_rfl | simp [newNames, isNew, St.free, freeH, AV.refsL, AV.refs]); intro R hR)))))
        all_goals rw [hf]
        all_goals (refine ⟨by simp, ⟨_, ?_, AV.le_refl _⟩, leH_get (by simp [leH, hget])⟩; simp only [Try.results16, resL, ldA, oneOf, go_sem])
    · have k1 : (decide ((i : Int) < (L.length : Int))) = false := decide_eq_false (by omega)
      have hf : rr = true := by rw [← hrr]; exact decide_eq_true (by rwa [List.take_of_length_le hge, List.take_of_length_le (by omega)] at hok)
      (repeat (any_goals (first | ((with_reducible refine evL_one ?_ ?_); rfl; intro K hK; simp only [go_sem, k1]; ((repeat (refine ndI (by first | assumption | omega | rfl) ?_)); refine hK _ ?_; clear hK K)) | (with_reducible first | (refine evL_nil ?_; refine hR _ ?_; clear hR R) | ((first | refine evC_seq ?_ | refine evC_block ?_); intro J hJ hJ') | (refine evC_region ?_; intro R hR) | (refine hJ _ ?_; clear hJ hJ' J) | refine evC_skip ?_ | refine evC_ret ?_ | refine evC_exit ?_) | ((with_reducible refine hJ' _ _ ?_ ?_); (focus (simp; done)); clear hJ hJ' J) | ((with_reducible apply evC_cond); rfl; rfl; all_goals (intro hc; first | (cases hc; done) | (try simp only at hc))) | ((with_reducible refine evD_nil ?_ ?_); kernel_rfl; (with_reducible refine hR _ ?_); clear hR R) | (((with_reducible apply evD_any); rfl; rfl; (simp only [rdE, rdOf, go_sem, k1]; rfl); (intro τ hA hQ hN; ((try simp only [agree, Op.operands, Call.operands, go_sem, k1, go_sem, List.mem_cons, List.not_mem_nil, forall_eq_or_imp, forall_eq, List.append_toArray, Option.toArray] at hA); (try simp only [go_sem, k1, List.mem_cons, List.not_mem_nil, forall_eq_or_imp, forall_eq] at hQ hN); (first | (revert hA; intro hA) | have hA := trivial); (first | (revert hQ; intro hQ) | have hQ := trivial); (first | (revert hN; intro hN) | have hN := trivial); simp only [go_sem, k1, go_sem, hA, hQ, hN]; (repeat (refine ndI (by first | assumption | omega | rfl) ?_)); (first | apply eff_rd | apply eff_st | apply eff_nw)))); (simp only [St.eff, setO, hputs, go_sem, k1])) | ((with_reducible refine evC_draw ?_ ?_ ?_ ?_); kernel_rfl; kernel_rfl; (first | kernel_rfl | simp [newNames, isNew, St.free, freeH, AV.refsL, AV.refs]); intro R hR))))
      all_goals rw [hf]
      all_goals (refine ⟨by simp, ⟨_, ?_, AV.le_refl _⟩, leH_get (by simp [leH, hget])⟩; simp only [Try.results16, resL, ldA, oneOf, go_sem])
  · have f1 : ((L.length : Int) != (M.length : Int)) = true := by simp; omega
    have hf : rr = false := by rw [← hrr]; exact decide_eq_false fun h => hlen (by rw [h])
    rw [hf]
    (refine fn_of Try.func16 rfl (by rfl) ?_; simp only [Try.ntmps16, List.length_cons, List.length_nil, Nat.reduceAdd, Nat.reduceSub, List.replicate, List.cons_append, List.nil_append])
    (repeat (any_goals (first | ((with_reducible refine evL_one ?_ ?_); rfl; intro K hK; simp only [go_sem, f1]; ((repeat (refine ndI (by first | assumption | omega | rfl) ?_)); refine hK _ ?_; clear hK K)) | (with_reducible first | (refine evL_nil ?_; refine hR _ ?_; clear hR R) | ((first | refine evC_seq ?_ | refine evC_block ?_); intro J hJ hJ') | (refine evC_region ?_; intro R hR) | (refine hJ _ ?_; clear hJ hJ' J) | refine evC_skip ?_ | refine evC_ret ?_ | refine evC_exit ?_) | ((with_reducible refine hJ' _ _ ?_ ?_); (focus (simp; done)); clear hJ hJ' J) | ((with_reducible apply evC_cond); rfl; rfl; all_goals (intro hc; first | (cases hc; done) | (try simp only at hc))) | ((with_reducible refine evD_nil ?_ ?_); kernel_rfl; (with_reducible refine hR _ ?_); clear hR R) | (((with_reducible apply evD_any); rfl; rfl; (simp only [rdE, rdOf, go_sem, f1]; rfl); (intro τ hA hQ hN; ((try simp only [agree, Op.operands, Call.operands, go_sem, f1, go_sem, List.mem_cons, List.not_mem_nil, forall_eq_or_imp, forall_eq, List.append_toArray, Option.toArray] at hA); (try simp only [go_sem, f1, List.mem_cons, List.not_mem_nil, forall_eq_or_imp, forall_eq] at hQ hN); (first | (revert hA; intro hA) | have hA := trivial); (first | (revert hQ; intro hQ) | have hQ := trivial); (first | (revert hN; intro hN) | have hN := trivial); simp only [go_sem, f1, go_sem, hA, hQ, hN]; (repeat (refine ndI (by first | assumption | omega | rfl) ?_)); (first | apply eff_rd | apply eff_st | apply eff_nw)))); (simp only [St.eff, setO, hputs, go_sem, f1])) | ((with_reducible refine evC_draw ?_ ?_ ?_ ?_); kernel_rfl; kernel_rfl; (first | kernel_rfl | simp [newNames, isNew, St.free, freeH, AV.refsL, AV.refs]); intro R hR))))
    all_goals (refine ⟨by simp, ⟨_, ?_, AV.le_refl _⟩, leH_get (by simp [leH, hget])⟩; simp only [Try.results16, resL, ldA, oneOf, go_sem])
end Go.Proofs.Ytiggambibcohcaa
namespace Go.Proofs.Ytiggambibcohcaa
open Go.RowKit Go.ChangeShapes Go.WideShapes Go.ChangeAt Go.Deep

section
variable {H : Type} {enc : TypeId × Value → H} {P : Program}

def Dec {α : Type} (P : Program) (t : TypeId) (sz : Nat) (f : α → List Value) (Good : α → Prop) : Prop :=
  P.cellsOf t = sz ∧ ∀ (H : Type) (enc : TypeId × Value → H) (w : World) (base : Nat) (spare : Nat → Bool) (held : Bool) (fuel : Nat) (cs : List Value) (x : DataW H × List MemPlace),
    DataW.trod enc P w base spare held fuel t cs = some x → ∃ a, cs = f a ∧ Good a

theorem dec_int {t : TypeId} {k : IntKind} (ht : P.underlying t = some (.int k)) (hc : P.cellsOf t = 1) : Dec P t 1 (fun n : Int => [.int k n]) (fun n => (Lit.int k n).wf = true) :=
  ⟨hc, fun H enc w base spare held fuel cs x h => by
    obtain ⟨n, rfl, _, hw⟩ := DataW.trod_int ht h
    exact ⟨n, rfl, hw⟩⟩
theorem dec_map {α β : Type} {t : TypeId} {sz : Nat} {f : α → List Value} {G : α → Prop} (h : Dec P t sz f G) {f' : β → List Value} {G' : β → Prop} (hg : ∀ a, G a → ∃ b, f a = f' b ∧ G' b) : Dec P t sz f' G' :=
  ⟨h.1, fun H enc w base spare held fuel cs x hx => by
    obtain ⟨a, e, g⟩ := h.2 H enc w base spare held fuel cs x hx
    obtain ⟨b, e', g'⟩ := hg a g
    exact ⟨b, e.trans e', g'⟩⟩
theorem wf_u64 {n : Int} (h : (Lit.int .u64 n).wf = true) : 0 ≤ n ∧ n < 18446744073709551616 := by
  simp [Lit.wf, IntKind.min, IntKind.max, IntKind.signed, IntKind.bits] at h; omega
theorem wf_i64 {n : Int} (h : (Lit.int .i64 n).wf = true) : -9223372036854775808 ≤ n ∧ n ≤ 9223372036854775807 := by
  simp [Lit.wf, IntKind.min, IntKind.max, IntKind.signed, IntKind.bits] at h; omega
theorem wf_u8 {n : Int} (h : (Lit.int .u8 n).wf = true) : 0 ≤ n ∧ n < 256 := by
  simp [Lit.wf, IntKind.min, IntKind.max, IntKind.signed, IntKind.bits] at h; omega
theorem dec_u64 {t : TypeId} (ht : P.underlying t = some (.int .u64)) (hc : P.cellsOf t = 1) : Dec P t 1 (fun n : Nat => [.int .u64 (n : Int)]) (fun n => n < 18446744073709551616) :=
  dec_map (dec_int ht hc) fun n h => ⟨n.toNat, by have := wf_u64 h; rw [Int.toNat_of_nonneg (by omega)], by have := wf_u64 h; omega⟩
theorem choose_list {α : Type} {p : Nat → α → Prop} (n : Nat) (h : ∀ i, i < n → ∃ b, p i b) : ∃ l : List α, l.length = n ∧ ∀ i b, l[i]? = some b → p i b := by
  induction n with
  | zero => exact ⟨[], rfl, by simp⟩
  | succ k ih =>
    obtain ⟨l, hl, hp⟩ := ih fun i hi => h i (by omega)
    obtain ⟨b, hb⟩ := h k (by omega)
    refine ⟨l ++ [b], by simp [hl], fun i b' hib => ?_⟩
    rw [List.getElem?_append] at hib
    split at hib
    · exact hp i b' hib
    · have hi0 : i = k := by
        have := (List.getElem?_eq_some_iff.1 hib).1
        simp at this; omega
      subst hi0
      rw [hl, Nat.sub_self] at hib
      simp at hib
      subst hib
      exact hb
theorem dec_arr {α : Type} {t e : TypeId} {n sz : Nat} {f : α → List Value} {G : α → Prop} (ht : P.underlying t = some (.array n e)) (hc : P.cellsOf t = n * sz) (hs : 0 < sz)
    (he : Dec P e sz f G) (hf : ∀ a, (f a).length = sz) : Dec P t (n * sz) (sts f) (fun l => l.length = n ∧ ∀ a ∈ l, G a) :=
  ⟨hc, fun H enc w base spare held fuel cs x hx => by
    obtain ⟨xs, m, _, _, hlen, hxl, hi⟩ := DataW.trod_array ht hx
    rw [hc] at hlen
    obtain ⟨l, hl, hp⟩ := choose_list (p := fun i b => G b ∧ (cs.drop (i * sz)).take sz = f b) n fun i hin => by
      have h1 := hi i hin
      rw [he.1, List.getElem?_eq_getElem (by omega)] at h1
      obtain ⟨b, hb, hg⟩ := he.2 H enc w base spare held m _ _ h1
      exact ⟨b, hg, hb⟩
    refine ⟨l, ?_, hl, fun a ha => ?_⟩
    · apply List.ext_getElem?
      intro j
      by_cases hj : j < n * sz
      · have hq : j / sz < n := Nat.div_lt_of_lt_mul (by rw [Nat.mul_comm]; exact hj)
        have hr : j % sz < sz := Nat.mod_lt _ hs
        have hje : j = j / sz * sz + j % sz := by rw [Nat.mul_comm]; exact (Nat.div_add_mod j sz).symm
        have hk : l[j / sz]? = some (l[j / sz]'(by omega)) := List.getElem?_eq_getElem (by omega)
        have h1 := sts_get hf hk hr
        rw [← hje] at h1
        rw [h1, ← (hp _ _ hk).2, List.getElem?_take, if_pos hr, List.getElem?_drop, ← hje]
      · rw [List.getElem?_eq_none (by omega), List.getElem?_eq_none (by rw [sts_length f sz hf, hl]; omega)]
    · obtain ⟨i, hi'⟩ := List.mem_iff_getElem?.1 ha
      exact (hp i a hi').1⟩
theorem trodAll_stays (hl : laidOutB P = true) {W W' : World} (hb : Below W.heap.size W W') : ∀ {ts : List TypeId} {vs : List Value} {ds : List (DataW H)} {ps : List MemPlace},
    (∀ t ∈ ts, P.readableRec t = true ∧ t < P.types.size) → DataW.TrodAll enc P W 0 (fun _ => true) true ts vs ds ps → DataW.TrodAll enc P W' 0 (fun b => decide (b < W.heap.size)) true ts vs ds ps
  | [], [], [], _, _, h => h
  | t :: ts, v :: vs, d :: ds, ps, hr, h => by
    obtain ⟨p, q, ⟨m, hm⟩, hq, rfl⟩ := h
    have h1 := hr t (List.mem_cons_self ..)
    exact ⟨p, q, Below.trod hl h1.1 h1.2 ⟨m, hm⟩ hb (fun x hx => DataW.trod_lt m _ _ _ hm x hx), trodAll_stays hl hb (fun t ht => hr t (List.mem_cons_of_mem _ ht)) hq, rfl⟩
  | [], _ :: _, _, _, _, h => h.elim
  | [], [], _ :: _, _, _, h => h.elim
  | _ :: _, [], _, _, _, h => h.elim
  | _ :: _, _ :: _, [], _, _, h => h.elim

theorem trodAll_size : ∀ {w : World} {base : Nat} {spare : Nat → Bool} {held : Bool} {ts : List TypeId} {vs : List Value} {ds : List (DataW H)} {ps : List MemPlace}, DataW.TrodAll enc P w base spare held ts vs ds ps → ds.length = ts.length
  | _, _, _, _, [], [], [], _, _ => rfl
  | _, _, _, _, t :: ts, v :: vs, d :: ds, _, h => by
    obtain ⟨p, q, _, hq, _⟩ := h
    simp [trodAll_size hq]
  | _, _, _, _, [], _ :: _, _, _, h => h.elim
  | _, _, _, _, [], [], _ :: _, _, h => h.elim
  | _, _, _, _, _ :: _, [], _, _, h => h.elim
  | _, _, _, _, _ :: _, _ :: _, [], _, h => h.elim

theorem law_post {W : World} {args : Array Value} {ds gs : List (DataW H)} {before : List MemPlace} {fn : Func} {s : ChangeSpec} {f : Nat} {tb : TypeId} (hl : laidOutB P = true) (hvars : s.vars = []) (htb : P.underlying tb = some .bool) (hrt : fn.resultTypes = #[tb])
    (hr : ∀ t ∈ fn.params.toList, P.readableRec t = true ∧ t < P.types.size) (hfn : ∀ ds : List (DataW H), ds.length = fn.params.toList.length → s.fn H ds = { results := [.lit (.bool true)], args := ds })
    (hW : DataW.Whole enc P fn.params.toList s.vars false W args.toList ds gs before) (hc : Calls P f args W (RetT W true)) :
    Calls P f args W fun e W' => ∃ v, e = .returned v ∧ s.post enc P fn false true false false W args v W' := by
  refine hc.mono fun e W' h => ?_
  obtain ⟨he, bel⟩ := h
  subst he
  have hW' := hW
  obtain ⟨p, q, hA, hV, rfl, hfz, hnd⟩ := hW
  rw [hvars] at hV
  obtain ⟨rfl, rfl⟩ := trodVars_none hV
  have hfd := hfn ds (trodAll_size hA)
  refine ⟨_, rfl, ds, [], p ++ [], [], p, [], hW', ?_, ?_, ?_, bel.frame _, fun h => by cases h⟩
  · rw [hrt, List.append_nil, hfd]
    exact trodAll_mk1 (shut_bool htb _)
  · rw [List.append_nil, hfd]
    exact trodAll_stays hl bel hr hA
  · rw [hvars, List.append_nil, hfd]
    rfl
end
end Go.Proofs.Ytiggambibcohcaa
namespace Go.Proofs.Ytiggambibcohcaa
open Go.RowKit Go.ChangeShapes Go.WideShapes Go.ChangeAt Go.Deep
def DecV {α : Type} (P : Program) (t : TypeId) (sz : Nat) (g : α → List PV) (Good : α → Prop) : Prop :=
  P.cellsOf t = sz ∧ ∀ (H : Type) (enc : TypeId × Value → H) (w : World) (base : Nat) (spare : Nat → Bool) (held : Bool) (fuel : Nat) (cs : List Value) (x : DataW H × List MemPlace),
    DataW.trod enc P w base spare held fuel t cs = some x → ∃ a, cs.length = sz ∧ (g a).length = sz ∧ (∀ (j : Nat) (u : Value) (y : PV), cs[j]? = some u → (g a)[j]? = some y → RVp (fun _ => True) w u y) ∧ Good a
theorem Dec.toV {α : Type} {P : Program} {t : TypeId} {sz : Nat} {f : α → List Value} {G : α → Prop} (h : Dec P t sz f G) (hf : ∀ a, (f a).length = sz) (ho : ∀ a, ∀ u ∈ f a, u.oneCell' = true) : DecV P t sz (fun a => (f a).map .v) G :=
  ⟨h.1, fun H enc w base spare held fuel cs x hx => by
    obtain ⟨a, rfl, ga⟩ := h.2 H enc w base spare held fuel cs x hx
    refine ⟨a, hf a, by simp [hf], fun j u y hu hy => ?_, ga⟩
    rw [List.getElem?_map, hu] at hy
    cases hy
    exact .v u (ho a u (List.mem_of_getElem? hu))⟩
theorem DecV.map {α β : Type} {P : Program} {t : TypeId} {sz : Nat} {g : α → List PV} {G : α → Prop} (h : DecV P t sz g G) {g' : β → List PV} {G' : β → Prop} (hg : ∀ a, G a → ∃ b, g a = g' b ∧ G' b) : DecV P t sz g' G' :=
  ⟨h.1, fun H enc w base spare held fuel cs x hx => by
    obtain ⟨a, h1, h2, h3, ga⟩ := h.2 H enc w base spare held fuel cs x hx
    obtain ⟨b, e, gb⟩ := hg a ga
    exact ⟨b, h1, by rw [← e]; exact h2, by rw [← e]; exact h3, gb⟩⟩
theorem decV_slice {α : Type} {P : Program} {t e : TypeId} {sz : Nat} {g : α → List PV} {G : α → Prop} (ht : P.underlying t = some (.slice e)) (hc : P.cellsOf t = 1) (he : DecV P e sz g G) (hs : 0 < sz) (hgl : ∀ a, (g a).length = sz) :
    DecV P t 1 (fun l : List α => [PV.sl false sz l.length (l.flatMap g)]) (fun l => l.length ≤ maxLen ∧ ∀ a ∈ l, G a) :=
  ⟨hc, fun H enc w base spare held fuel cs x hx => by
    rcases DataW.trod_slice ht hx with ⟨rfl, _⟩ | ⟨a, n, c, elems, rest, m, _, rfl, _, _, hl, hm, hel, hi, _, _⟩
    · refine ⟨[], rfl, rfl, fun j u y hu hy => ?_, Nat.zero_le _, by simp⟩
      cases j with
      | zero =>
        simp only [List.getElem?_cons_zero, Option.some.injEq] at hu hy
        subst hu hy
        exact .sl false sz none 0 0 [] [] (Nat.le_refl _) (Nat.zero_le _) (fun _ => rfl) (fun h => by cases h) rfl (by simp) (fun h => absurd rfl h) fun j u x hu => by cases hu
      | succ j => simp at hu
    · have key : ∀ i, i < n → ∃ b : α, G b ∧ ∃ us : List Value, us.length = sz ∧ (∀ j, j < sz → w.cell? (a.add (i * sz + j)) = us[j]?) ∧ ∀ (j : Nat) (u : Value) (y : PV), us[j]? = some u → (g b)[j]? = some y → RVp (fun _ => True) w u y := by
        intro i hin
        have h1 := hi i hin
        rw [List.getElem?_eq_getElem (by omega)] at h1
        obtain ⟨us, hcs, htr⟩ := Option.bind_eq_some_iff.1 h1
        rw [he.1] at hcs
        obtain ⟨b, hb1, hb2, hb3, hG⟩ := he.2 H enc w base spare held m us _ htr
        obtain ⟨_, hcl, hat⟩ := World.cells?_some hcs
        refine ⟨b, hG, us, hb1, fun j hj => ?_, hb3⟩
        rw [← Go.Deep.add_add, hat j hj]
      have key2 : ∃ l : List α, l.length = n ∧ ∀ i b, l[i]? = some b → G b ∧ ∃ us : List Value, us.length = sz ∧ (∀ j, j < sz → w.cell? (a.add (i * sz + j)) = us[j]?) ∧ ∀ (j : Nat) (u : Value) (y : PV), us[j]? = some u → (g b)[j]? = some y → RVp (fun _ => True) w u y :=
        choose_list (p := fun i b => G b ∧ ∃ us : List Value, us.length = sz ∧ (∀ j, j < sz → w.cell? (a.add (i * sz + j)) = us[j]?) ∧ ∀ (j : Nat) (u : Value) (y : PV), us[j]? = some u → (g b)[j]? = some y → RVp (fun _ => True) w u y) n key
      obtain ⟨l, hll, hp⟩ := key2
      have hcell : ∀ j, j < n * sz → ∃ u, w.cell? (a.add j) = some u ∧ ∀ y, (l.flatMap g)[j]? = some y → RVp (fun _ => True) w u y := fun j hjl => by
        have hq : j / sz < n := Nat.div_lt_of_lt_mul (by rw [Nat.mul_comm]; exact hjl)
        have hr : j % sz < sz := Nat.mod_lt _ hs
        have hj : j = j / sz * sz + j % sz := by rw [Nat.mul_comm]; exact (Nat.div_add_mod j sz).symm
        have hk : l[j / sz]? = some (l[j / sz]'(by omega)) := List.getElem?_eq_getElem (by omega)
        obtain ⟨_, us, hul, hc1, hrv⟩ := hp _ _ hk
        have h1 := hc1 _ hr
        rw [← hj, List.getElem?_eq_getElem (by omega)] at h1
        refine ⟨_, h1, fun y hy => hrv (j % sz) _ y (List.getElem?_eq_getElem (by omega)) ?_⟩
        have h2 := flat_at hgl hk
        have h3 : ((l.flatMap g).drop (j / sz * sz)).take sz = g (l[j / sz]'(by omega)) := h2
        rw [← h3, List.getElem?_take, if_pos hr, List.getElem?_drop, ← hj]
        exact hy
      have hus : ∃ us : List Value, us.length = n * sz ∧ ∀ j u, us[j]? = some u → w.cell? (a.add j) = some u ∧ ∀ y, (l.flatMap g)[j]? = some y → RVp (fun _ => True) w u y :=
        choose_list (p := fun j u => w.cell? (a.add j) = some u ∧ ∀ y, (l.flatMap g)[j]? = some y → RVp (fun _ => True) w u y) (n * sz) hcell
      obtain ⟨us, husl, hu⟩ := hus
      have hfl : (l.flatMap g).length = n * sz := by rw [flat_length hgl, hll]
      refine ⟨l, rfl, rfl, fun j u y hu0 hy => ?_, by omega, fun b hb => ?_⟩
      · cases j with
        | zero =>
          simp only [List.getElem?_cons_zero, Option.some.injEq] at hu0 hy
          subst hu0 hy
          rw [hll]
          refine .sl false sz (some a) n c us _ hl hm (fun h => by cases h) (fun h => by cases h) (by rw [husl, hfl]) hfl (fun hne => ?_) fun j u x hj hx => (hu j u hj).2 x hx
          obtain ⟨u0, rest0, hu0⟩ := List.exists_cons_of_ne_nil hne
          have hc0 := (hu 0 u0 (by rw [hu0]; rfl)).1
          rw [add_zero'] at hc0
          have hspot := World.cell?_spot hc0
          obtain ⟨ab, ao, asp⟩ := a
          simp only at hspot
          subst hspot
          exact ⟨ab, ao, rfl, trivial, fun j u hj => by have := (hu j u hj).1; rwa [add_none] at this⟩
        | succ j => simp at hu0
      · obtain ⟨i, hi'⟩ := List.mem_iff_getElem?.1 hb
        exact (hp i b hi').1⟩
theorem open_V {H : Type} {enc : TypeId × Value → H} {α : Type} {P : Program} {t : TypeId} {g : α → PV} {G : α → Prop} {w : World} {base : Nat} {spare : Nat → Bool} {held : Bool} {v : Value} {d : DataW H} {ps : List MemPlace} (h : DecV P t 1 (fun a => [g a]) G) (hv : v.cells.toList = [v]) (ht : DataW.Trod enc P w base spare held t v d ps) (ι : Nat → Nat × Nat × Nat) :
    ∃ a, RV (fun _ => True) ι w v (.c (g a)) ∧ G a := by
  obtain ⟨fuel, ht⟩ := ht
  obtain ⟨a, _, _, h3, ga⟩ := h.2 H enc w base spare held fuel _ _ ht
  exact ⟨a, .c _ _ (h3 0 v (g a) (by rw [hv]; rfl) rfl), ga⟩
theorem decV_int {P : Program} {t : TypeId} {k : IntKind} (ht : P.underlying t = some (.int k)) (hc : P.cellsOf t = 1) : DecV P t 1 (fun n : Int => [PV.v (.int k n)]) (fun n => (Lit.int k n).wf = true) :=
  ((dec_int ht hc).toV (fun _ => rfl) (fun a u hu => by simp at hu; subst hu; rfl)).map fun a ga => ⟨a, rfl, ga⟩
theorem decV_u64 {P : Program} {t : TypeId} (ht : P.underlying t = some (.int .u64)) (hc : P.cellsOf t = 1) : DecV P t 1 (fun n : Int => [PV.v (.int .u64 n)]) (fun n => 0 ≤ n ∧ n ≤ 18446744073709551615) :=
  (decV_int ht hc).map fun a ga => ⟨a, rfl, by have := wf_u64 ga; omega⟩
theorem decV_w4 {P : Program} {t e : TypeId} (ht : P.underlying t = some (.array 4 e)) (hc : P.cellsOf t = 4 * 1) (he : P.underlying e = some (.int .u64)) (hce : P.cellsOf e = 1) :
    DecV P t 4 (fun x : Int × Int × Int × Int => [PV.v (.int .u64 x.1), .v (.int .u64 x.2.1), .v (.int .u64 x.2.2.1), .v (.int .u64 x.2.2.2)]) (fun x => (0 ≤ x.1 ∧ x.1 ≤ 18446744073709551615) ∧ (0 ≤ x.2.1 ∧ x.2.1 ≤ 18446744073709551615) ∧ (0 ≤ x.2.2.1 ∧ x.2.2.1 ≤ 18446744073709551615) ∧ (0 ≤ x.2.2.2 ∧ x.2.2.2 ≤ 18446744073709551615)) :=
  ((dec_map (f' := fun x : Int × Int × Int × Int => [.int .u64 x.1, .int .u64 x.2.1, .int .u64 x.2.2.1, .int .u64 x.2.2.2]) (G' := fun x => (0 ≤ x.1 ∧ x.1 ≤ 18446744073709551615) ∧ (0 ≤ x.2.1 ∧ x.2.1 ≤ 18446744073709551615) ∧ (0 ≤ x.2.2.1 ∧ x.2.2.1 ≤ 18446744073709551615) ∧ (0 ≤ x.2.2.2 ∧ x.2.2.2 ≤ 18446744073709551615)) (dec_arr (n := 4) ht hc (by omega) (dec_u64 he hce) (fun _ => rfl)) fun l ⟨hl, hg⟩ => by
    match l, hl with
    | [x, y, z, u], _ =>
      have h1 := hg x (by simp)
      have h2 := hg y (by simp)
      have h3 := hg z (by simp)
      have h4 := hg u (by simp)
      exact ⟨(x, y, z, u), by simp [sts], ⟨by simp only; omega, by simp only; omega⟩, ⟨by simp only; omega, by simp only; omega⟩, ⟨by simp only; omega, by simp only; omega⟩, ⟨by simp only; omega, by simp only; omega⟩⟩).toV (fun _ => rfl) (fun a u hu => by simp at hu; rcases hu with rfl | rfl | rfl | rfl <;> rfl)).map fun a ga => ⟨a, rfl, ga⟩
open Go.RowKit Go.ChangeShapes Go.WideShapes Go.ChangeAt Go.Deep
def DecF {α : Type} (P : Program) (fs : List Field) (o sz : Nat) (g : α → List PV) (Good : α → Prop) : Prop :=
  ∀ (H : Type) (enc : TypeId × Value → H) (w : World) (base : Nat) (spare : Nat → Bool) (held : Bool) (fuel : Nat) (cs : List Value), o + sz ≤ cs.length →
    (∀ f ∈ fs, ∃ x : DataW H × List MemPlace, DataW.trod enc P w base spare held fuel f.type ((cs.drop f.offset).take (P.cellsOf f.type)) = some x) →
    ∃ a, (g a).length = sz ∧ (∀ (j : Nat) (u : Value) (y : PV), cs[o + j]? = some u → (g a)[j]? = some y → RVp (fun _ => True) w u y) ∧ Good a
theorem decF_one {α : Type} {P : Program} {f : Field} {o sz : Nat} {g : α → List PV} {G : α → Prop} (h : DecV P f.type sz g G) (ho : f.offset = o) : DecF P [f] o sz g G := by
  intro H enc w base spare held fuel cs hlen hf
  obtain ⟨x, hx⟩ := hf f (by simp)
  rw [ho, h.1] at hx
  obtain ⟨a, a1, a2, a3, ga⟩ := h.2 H enc w base spare held fuel _ _ hx
  refine ⟨a, a2, fun j u y hu hy => a3 j u y ?_ hy, ga⟩
  have hj := (List.getElem?_eq_some_iff.1 hy).1
  rw [List.getElem?_take, if_pos (by omega), List.getElem?_drop]
  exact hu
theorem decF_cons {α β : Type} {P : Program} {f : Field} {fs : List Field} {o s0 s1 : Nat} {g : α → List PV} {g' : β → List PV} {G : α → Prop} {G' : β → Prop} (h : DecV P f.type s0 g G) (ho : f.offset = o) (hr : DecF P fs (o + s0) s1 g' G') :
    DecF P (f :: fs) o (s0 + s1) (fun x : α × β => g x.1 ++ g' x.2) (fun x => G x.1 ∧ G' x.2) := by
  intro H enc w base spare held fuel cs hlen hf
  obtain ⟨a, a2, a3, ga⟩ := decF_one h ho H enc w base spare held fuel cs (by omega) (fun f' hf' => hf f' (by simp at hf'; simp [hf']))
  obtain ⟨b, b2, b3, gb⟩ := hr H enc w base spare held fuel cs (by omega) (fun f' hf' => hf f' (by simp [hf']))
  refine ⟨(a, b), by simp [a2, b2], fun j u y hu hy => ?_, ga, gb⟩
  dsimp only at hy
  rw [List.getElem?_append] at hy
  split at hy
  · exact a3 j u y hu hy
  · exact b3 (j - (g a).length) u y (by rw [a2, show o + s0 + (j - s0) = o + j by omega]; exact hu) hy
theorem decV_struct {α : Type} {P : Program} {t : TypeId} {fs : Array Field} {sz : Nat} {g : α → List PV} {G : α → Prop} (ht : P.underlying t = some (.struct fs)) (hc : P.cellsOf t = sz) (h : DecF P fs.toList 0 sz g G) : DecV P t sz g G :=
  ⟨hc, fun H enc w base spare held fuel cs x hx => by
    obtain ⟨xs, n, _, _, hlen, hxl, hf⟩ := DataW.trod_struct ht hx
    rw [hc] at hlen
    obtain ⟨a, a2, a3, ga⟩ := h H enc w base spare held n cs (by omega) (fun f hf' => by
      obtain ⟨k, hk⟩ := List.mem_iff_getElem?.1 hf'
      have hk' : fs[k]? = some f := by rw [← Array.getElem?_toList]; exact hk
      have h1 := hf k f hk'
      have hlt := (Array.getElem?_eq_some_iff.1 hk').1
      rw [List.getElem?_eq_getElem (by omega)] at h1
      exact ⟨_, h1⟩)
    exact ⟨a, hlen, a2, fun j u y hu hy => a3 j u y (by rw [Nat.zero_add]; exact hu) hy, ga⟩⟩
theorem open_VA {H : Type} {enc : TypeId × Value → H} {α : Type} {P : Program} {t : TypeId} {sz : Nat} {g : α → List PV} {G : α → Prop} {w : World} {base : Nat} {spare : Nat → Bool} {held : Bool} {cs : Array Value} {d : DataW H} {ps : List MemPlace} (h : DecV P t sz g G) (ht : DataW.Trod enc P w base spare held t (.agg cs) d ps) (ι : Nat → Nat × Nat × Nat) :
    ∃ a, RV (fun _ => True) ι w (.agg cs) (.agg ((g a).map .c)) ∧ G a := by
  obtain ⟨fuel, ht⟩ := ht
  obtain ⟨a, a1, a2, a3, ga⟩ := h.2 H enc w base spare held fuel _ _ ht
  have e : (Value.agg cs).cells.toList = cs.toList := rfl
  rw [e] at a1 a3
  refine ⟨a, ?_, ga⟩
  have hc : cs = cs.toList.toArray := by simp
  rw [hc]
  have key : ∀ (j : Nat) (u : Value) (y : PV), cs.toList[j]? = some u → (g a)[j]? = some y → RVp (fun _ => True) w u y := a3
  refine .agg cs.toList _ (by rw [List.length_map, a1, a2]) (fun u hu => ?_) fun j u x hu hx => ?_
  · obtain ⟨j, hj⟩ := List.mem_iff_getElem?.1 hu
    have hlt := (List.getElem?_eq_some_iff.1 hj).1
    exact (key j u _ hj (List.getElem?_eq_getElem (by omega))).one
  · rw [List.getElem?_map, Option.map_eq_some_iff] at hx
    obtain ⟨y, hy, rfl⟩ := hx
    exact .c _ _ (key j u y hu hy)
theorem okWide_struct {P : Program} {w : World} {r : Reach} {base : Nat} {t : TypeId} {fs : Array Field} {v : Value} (ht : P.underlying t = some (.struct fs)) (h : Value.okWide P w r base t v) : ∃ cs, v = .agg cs := by
  simp only [Value.okWide, ht] at h
  obtain ⟨cs, h1, _⟩ := h
  exact ⟨cs, h1⟩
end Go.Proofs.Ytiggambibcohcaa
namespace Go.Proofs.Ytiggambibcohcaa
open Go.RowKit
open Nat (reduceBEq)
set_option maxRecDepth 20000
set_option maxHeartbeats 2000000
def w1 : List Ac := [⟨20, 7, 0, [], []⟩]
def w2 : List Ac := [⟨20, 4, 0, [], []⟩, ⟨21, 3, 0, [], []⟩]
def w3 : List Ac := [⟨20, 4, 0, [], []⟩, ⟨21, 3, 0, [], [⟨5, 9⟩]⟩]
theorem v1 : mintS [] 20 7 = (w1, 0) := by kernel_rfl
theorem v2 : moveS w1 20 21 3 = (w2, 0) := by kernel_rfl
theorem v3 : saveS w2 21 5 9 = (w3, 0) := by kernel_rfl
theorem v4 : totalS w3 = 7 := by kernel_rfl
theorem v5 : loadX (OfS w3 21) 5 = 9 := by kernel_rfl
theorem ok_small (a : Int) (b : Nat) (st : List Pr) (h1 : U a) (h2 : b < WW) (h3 : st.length ≤ 1000000) (h4 : ∀ p ∈ st, p.ok) : Okx ⟨a, b, 0, [], st⟩ :=
  ⟨⟨h1, h2, ⟨Int.le_refl 0, by show (0 : Int) ≤ _; decide⟩, ⟨Nat.zero_le _, fun c h => by cases h⟩, Nat.le_trans h3 (by decide), h4⟩, Nat.zero_le _, h3⟩
theorem u20 : U 20 := by unfold U; decide
theorem u21 : U 21 := by unfold U; decide
theorem k0 : Okl [] := ⟨Nat.zero_le _, fun x h => by cases h⟩
theorem k1w : Okl w1 := ⟨by decide, fun x h => by
  simp only [w1, List.mem_cons, List.not_mem_nil, or_false] at h
  subst h
  exact ok_small 20 7 [] u20 (by decide) (Nat.zero_le _) (fun p h => by cases h)⟩
theorem k2w : Okl w2 := ⟨by decide, fun x h => by
  simp only [w2, List.mem_cons, List.not_mem_nil, or_false] at h
  rcases h with rfl | rfl
  · exact ok_small 20 4 [] u20 (by decide) (Nat.zero_le _) (fun p h => by cases h)
  · exact ok_small 21 3 [] u21 (by decide) (Nat.zero_le _) (fun p h => by cases h)⟩
theorem k3w : Okl w3 := ⟨by decide, fun x h => by
  simp only [w3, List.mem_cons, List.not_mem_nil, or_false] at h
  rcases h with rfl | rfl
  · exact ok_small 20 4 [] u20 (by decide) (Nat.zero_le _) (fun p h => by cases h)
  · exact ok_small 21 3 [⟨5, 9⟩] u21 (by decide) (by decide) (fun p h => by
      simp only [List.mem_cons, List.not_mem_nil, or_false] at h
      subst h
      exact ⟨(by decide : 5 < WW), (by decide : 9 < WW)⟩)⟩
abbrev c40 (x : Int) : AV := .agg [vi .u64 x, vi .u64 0, vi .u64 0, vi .u64 0]
theorem wakes_fn : Fn Try.prog 9 [] [] (vb true) [] := by
  have g1 : Fn Try.prog 36 [.agg [.c (.v (.slice none 0 0))], vi .u64 20, c40 7] [] (resS (w1, 0)) [] := by
    have h := mint_fn false [] k0 20 u20 7 (by decide)
    rw [v1] at h
    exact h.args ⟨AV.le_agg ⟨AV.le_nil _ _, trivial⟩, AV.le_refl _, AV.le_of rfl, trivial⟩
  have g2 : Fn Try.prog 32 [stA false w1, vi .u64 20, vi .u64 21, c40 3] [] (resS (w2, 0)) [] := by
    have h := move_fn false w1 k1w 20 21 u20 u21 3 (by decide)
    rw [v2] at h
    exact h
  have g3 : Fn Try.prog 37 [stA false w2, vi .u64 21, .agg [vi .u64 5, vi .u64 0, vi .u64 0, vi .u64 0, vi .u64 9, vi .u64 0, vi .u64 0, vi .u64 0]] [] (resS (w3, 0)) [] := by
    have h := save_fn false w2 k2w 21 u21 5 9 (by decide) (by decide)
    rw [v3] at h
    exact h
  have g4 : Fn Try.prog 20 [stA false w3] [] (c40 7) [] := by
    have h := totalS_fn false w3 k3w
    rw [v4] at h
    exact h
  have g5 : Fn Try.prog 21 [stA false w3, vi .u64 21, c40 5] [] (c40 9) [] := by
    have h := load_fn false w3 k3w 21 u21 5 (by decide)
    rw [v5] at h
    exact h
  have e : ((w3.length : Int) == 2) = true := rfl
  generalize w1 = a1 at g1 g2
  generalize w2 = a2 at g2 g3
  generalize w3 = a3 at g3 g4 g5 e
  (refine fn_of Try.func9 rfl (by rfl) ?_; simp only [Try.ntmps9, List.length_cons, List.length_nil, Nat.reduceAdd, Nat.reduceSub, List.replicate, List.cons_append, List.nil_append])
  (repeat (any_goals (first | ((with_reducible refine evL_call ?_ ?_ ?_); rfl; rfl; intro K hK; ((first | (apply opA_callB (g1); rfl; rfl; rfl; rfl; exact Try.func36) | (apply opA_callB (g2); rfl; rfl; rfl; rfl; exact Try.func32) | (apply opA_callB (g3); rfl; rfl; rfl; rfl; exact Try.func37)); kernel_rfl; rfl; (simp only [go_sem, e]; rfl); (first | rfl | simp [AV.inNL, AV.inN])); (simp only [go_sem, e]; refine hK _ ?_; clear hK K)) | ((with_reducible refine evL_one ?_ ?_); rfl; intro K hK; simp only [go_sem, e]; ((repeat (refine ndI (by first | assumption | omega | rfl) ?_)); refine hK _ ?_; clear hK K)) | (with_reducible first | (refine evL_nil ?_; refine hR _ ?_; clear hR R) | ((first | refine evC_seq ?_ | refine evC_block ?_); intro J hJ hJ') | (refine evC_region ?_; intro R hR) | (refine hJ _ ?_; clear hJ hJ' J) | refine evC_skip ?_ | refine evC_ret ?_ | refine evC_exit ?_) | ((with_reducible refine hJ' _ _ ?_ ?_); (focus (simp; done)); clear hJ hJ' J) | ((with_reducible apply evL_unmet); rfl; rfl; rfl; (try simp only [go_sem, e])) | ((with_reducible apply evL_grd); rfl; rfl; rfl; all_goals (intro hb; first | (cases hb; done) | ((try simp only [Bool.not_true, Bool.not_false] at hb); (first | ((with_reducible intro K hK); (first | ((first | (apply opA_callB (g4); rfl; rfl; rfl; rfl; exact Try.func20) | (apply opA_callB (g5); rfl; rfl; rfl; rfl; exact Try.func21)); kernel_rfl; rfl; (simp only [go_sem, e]; rfl); (first | rfl | simp [AV.inNL, AV.inN])) | skip); simp only [go_sem, e]; ((repeat (refine ndI (by first | assumption | omega | rfl) ?_)); refine hK _ ?_; clear hK K)) | ((fail_if_success (with_reducible intro _)); simp only [go_sem, e]))))) | ((with_reducible apply evC_cond); rfl; rfl; all_goals (intro hc; first | (cases hc; done) | (try simp only at hc))))))
  all_goals (refine ⟨by simp, ⟨_, ?_, AV.le_refl _⟩, leH_get (by simp [leH, hget])⟩; simp only [Try.results9, resL, ldA, oneOf, go_sem])
theorem word_of {a b c d : Int} (ha : 0 ≤ a ∧ a ≤ 18446744073709551615) (hb : 0 ≤ b ∧ b ≤ 18446744073709551615) (hc : 0 ≤ c ∧ c ≤ 18446744073709551615) (hd : 0 ≤ d ∧ d ≤ 18446744073709551615) : ∃ n : Nat, n < WW ∧ l0 n = a ∧ l1 n = b ∧ l2 n = c ∧ l3 n = d := by
  refine ⟨a.toNat + 18446744073709551616 * (b.toNat + 18446744073709551616 * (c.toNat + 18446744073709551616 * d.toNat)), ?_, ?_⟩
  · show _ < 115792089237316195423570985008687907853269984665640564039457584007913129639936
    omega
  · obtain ⟨h0, h1, h2, h3⟩ := limbs_of (s0 := a.toNat) (s1 := b.toNat) (s2 := c.toNat) (s3 := d.toNat) rfl (by omega) (by omega) (by omega) (by omega)
    rw [h0, h1, h2, h3]
    exact ⟨Int.toNat_of_nonneg ha.1, Int.toNat_of_nonneg hb.1, Int.toNat_of_nonneg hc.1, Int.toNat_of_nonneg hd.1⟩
theorem decV_word : DecV Try.prog 27 4 wpv (fun n => n < WW) :=
  (decV_w4 Try.underlying27 (by kernel_rfl) Try.underlying24 (by kernel_rfl)).map fun x hx => by
    obtain ⟨n, hn, h0, h1, h2, h3⟩ := word_of hx.1 hx.2.1 hx.2.2.1 hx.2.2.2
    exact ⟨n, by unfold wpv; rw [h0, h1, h2, h3], hn⟩
theorem decV_addr : DecV Try.prog 25 1 (fun n : Int => [PV.v (.int .u64 n)]) U := (decV_u64 Try.underlying25 (by kernel_rfl)).map fun a ga => ⟨a, rfl, ga⟩
theorem decV_num : DecV Try.prog 24 1 (fun n : Int => [PV.v (.int .u64 n)]) U := (decV_u64 Try.underlying24 (by kernel_rfl)).map fun a ga => ⟨a, rfl, ga⟩
theorem decV_byte : DecV Try.prog 5 1 bpv (fun n => n < 256) := (decV_int Try.underlying5 (by kernel_rfl)).map fun a ga => ⟨a.toNat, by unfold bpv; rw [Int.toNat_of_nonneg (wf_u8 ga).1], by have := wf_u8 ga; omega⟩
theorem decV_bytes : DecV Try.prog 28 1 (fun l : List Nat => [PV.sl false 1 l.length (l.flatMap bpv)]) (fun l => l.length ≤ maxLen ∧ ∀ a ∈ l, a < 256) :=
  decV_slice Try.underlying28 (by kernel_rfl) decV_byte (by omega) bpv_len
theorem decV_pairP : DecV Try.prog 42 8 Pr.pv Pr.ok :=
  (decV_struct (sz := 4 + 4) Try.underlying42 (by kernel_rfl) (decF_cons decV_word rfl (decF_one decV_word rfl))).map fun x hx => ⟨⟨x.1, x.2⟩, rfl, hx⟩
theorem decV_pairs : DecV Try.prog 29 1 (fun l : List Pr => [PV.sl false 8 l.length (l.flatMap Pr.pv)]) (fun l => l.length ≤ maxLen ∧ ∀ a ∈ l, a.ok) :=
  decV_slice Try.underlying29 (by kernel_rfl) decV_pairP (by omega) pr_len
theorem decV_account : DecV Try.prog 31 8 Ac.pv Ac.ok :=
  (decV_struct (sz := 1 + (4 + (1 + (1 + 1)))) Try.underlying31 (by kernel_rfl) (decF_cons decV_addr rfl (decF_cons decV_word rfl (decF_cons decV_num rfl (decF_cons decV_bytes rfl (decF_one decV_pairs rfl)))))).map fun x hx => ⟨⟨x.1, x.2.1, x.2.2.1, x.2.2.2.1, x.2.2.2.2⟩, rfl, hx⟩
theorem decV_accounts : DecV Try.prog 22 1 (fun l : List Ac => [PV.sl false 8 l.length (l.flatMap Ac.pv)]) (fun l => l.length ≤ maxLen ∧ ∀ a ∈ l, a.ok) :=
  decV_slice Try.underlying22 (by kernel_rfl) decV_account (by omega) ac_len
end Go.Proofs.Ytiggambibcohcaa
namespace Go.Proofs.Ytiggambibcohcaa
open Go.RowKit
open Nat (reduceBEq)
set_option maxRecDepth 20000
set_option maxHeartbeats 2000000
theorem okl_few {L : List Ac} (ok : ∀ x ∈ L, x.ok) : Okl (fewL L) := by
  refine ⟨by unfold fewL; rw [List.length_map, List.length_take]; omega, fun y hy => ?_⟩
  unfold fewL at hy
  obtain ⟨x, hx, rfl⟩ := List.mem_map.1 hy
  obtain ⟨u1, u2, u3, ⟨u4, u5⟩, u6, u7⟩ := ok x (List.mem_of_mem_take hx)
  exact ⟨⟨u1, u2, u3, ⟨by show (x.code.take 201).length ≤ maxLen; rw [List.length_take]; omega, fun c hc => u5 c (List.mem_of_mem_take hc)⟩, by show (x.store.take 25).length ≤ maxLen; rw [List.length_take]; omega, fun p hp => u7 p (List.mem_of_mem_take hp)⟩, by show (x.code.take 201).length ≤ 1000000; rw [List.length_take]; omega, by show (x.store.take 25).length ≤ 1000000; rw [List.length_take]; omega⟩
theorem decV_state : DecV Try.prog 38 1 (fun l : List Ac => [PV.sl false 8 l.length (l.flatMap Ac.pv)]) (fun l => l.length ≤ maxLen ∧ ∀ h ∈ l, h.ok) :=
  decV_struct Try.underlying38 (by kernel_rfl) (decF_one decV_accounts rfl)
end Go.Proofs.Ytiggambibcohcaa
