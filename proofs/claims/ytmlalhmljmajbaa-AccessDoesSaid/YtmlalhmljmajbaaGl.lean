/-
  What passes is kept; deeds, by the code; reckoned.
-/
import Derived.Test.YtmlalhmljmajbaaGk
namespace Go.Proofs.Ytmlalhmljmajbaa
open Go.RowKit
open Nat (reduceBEq)
set_option linter.unusedVariables false
set_option linter.unusedSimpArgs false
set_option maxRecDepth 20000
set_option maxHeartbeats 2000000
theorem keep_bad (x : Xs) (hx : x.ok) (fx : x.few) (s : Sp) (v : Nat) (h : okXs x = false) : Fn Try.prog 50 [xsA x, spA s, wN v] [] (res2 (keepL x s v)) [] := by
  have ck := checkX_fn x hx fx
  unfold keepL
  rw [h] at ck ⊢
  simp only [Bool.false_eq_true, if_false] at ck ⊢
  obtain ⟨A, S, P⟩ := x
  obtain ⟨sa, sk⟩ := s
  (refine fn_of Try.func50 rfl (by rfl) ?_; simp only [Try.ntmps50, List.length_cons, List.length_nil, Nat.reduceAdd, Nat.reduceSub, List.replicate, List.cons_append, List.nil_append])
  (repeat (any_goals (first | ((with_reducible refine evL_call ?_ ?_ ?_); rfl; rfl; intro K hK; ((apply opA_callB (ck); rfl; rfl; rfl; rfl; exact Try.func20); kernel_rfl; rfl; (simp only [go_sem]; rfl); (simp only [AV.inNL, AV.inN, inNL_map, Bool.and_true])); (simp only [go_sem]; (with_reducible refine hK _ ?_); clear hK K)) | ((with_reducible refine evL_one ?_ ?_); rfl; intro K hK; simp only [go_sem]; ((repeat (refine And.intro (by first | assumption | omega | rfl) ?_)); (with_reducible refine hK _ ?_); clear hK K)) | ((with_reducible refine evL_nil ?_); (with_reducible refine hR _ ?_); clear hR R) | ((with_reducible first | refine evC_seq ?_ | refine evC_block ?_); intro Ψ hΨ hΨ') | ((with_reducible refine evC_region ?_); intro R hR) | ((with_reducible refine hΨ _ ?_); clear hΨ hΨ' Ψ) | ((with_reducible refine hΨ' _ _ ?_ ?_); (focus (first | ((intro hx; cases hx); done) | ((intro j hj; cases hj); done) | (intro j hj; cases hj; (decide); done))); clear hΨ hΨ' Ψ) | (with_reducible first | refine evC_skip ?_ | refine evC_ret ?_ | refine evC_exit ?_) | ((with_reducible apply evC_cond); rfl; rfl; all_goals (intro hc; first | (exact absurd hc (by decide)) | (try simp only at hc))))))
  all_goals exact ⟨by simp, ⟨_, rfl, nil2 _⟩, leH_get (by simp [leH, hget])⟩
theorem zeroPg (s : Sp) : pgA ⟨s, 0⟩ = .agg [vi .u64 s.a, vi .u64 (l0 s.k), vi .u64 (l1 s.k), vi .u64 (l2 s.k), vi .u64 (l3 s.k), vi .u64 0, vi .u64 0, vi .u64 0, vi .u64 0] := by simp only [pgA, l0_zero, l1_zero, l2_zero, l3_zero]
theorem keep_not (x : Xs) (hx : x.ok) (fx : x.few) (s : Sp) (os : s.ok) (v : Nat) (hv : v < WW) (h : okXs x = true) (hg : isG Pg.key x.pg s.key = false) : Fn Try.prog 50 [xsA x, spA s, wN v] [] (res2 (keepL x s v)) [] := by
  have ck := checkX_fn x hx fx
  have bs := bsfP_fn false x.pg (by have := fx.2.2; omega) hx.2.2 ⟨s, 0⟩ ⟨os, (by decide : 0 < WW)⟩
  have cp := copiedX_fn x fx
  have pt := putP_fn false x.pg (by have := fx.2.2; omega) hx.2.2 ⟨s, v⟩ ⟨os, hv⟩
  have e := putL_err (key := Pg.key) x.pg ⟨s, v⟩
  have z := wN_zero hv
  rw [zeroPg] at bs
  unfold keepL delP
  dsimp only [Pg.key] at bs
  rw [hg] at bs ⊢
  rw [h] at ck ⊢
  simp only [Bool.false_eq_true, if_true, if_false] at ck ⊢
  generalize posG Pg.key x.pg s.key = p at bs
  generalize putL Pg.key x.pg ⟨s, v⟩ = r at pt e ⊢
  obtain ⟨l, c, n⟩ := r
  obtain ⟨A, S, P⟩ := x
  obtain ⟨sa, sk⟩ := s
  dsimp only at *
  by_cases h0 : v = 0
  · rw [decide_eq_true h0] at z
    rw [if_pos h0]
    (refine fn_of Try.func50 rfl (by rfl) ?_; simp only [Try.ntmps50, List.length_cons, List.length_nil, Nat.reduceAdd, Nat.reduceSub, List.replicate, List.cons_append, List.nil_append])
    (repeat (any_goals (first | ((with_reducible refine evL_call ?_ ?_ ?_); rfl; rfl; intro K hK; ((first | (apply opA_callB (ck); rfl; rfl; rfl; rfl; exact Try.func20) | (apply opA_callB (cp); rfl; rfl; rfl; rfl; exact Try.func37) | (apply opA_callB (bs); rfl; rfl; rfl; rfl; exact Try.func48)); kernel_rfl; rfl; (simp only [go_sem, z]; rfl); (simp only [AV.inNL, AV.inN, inNL_map, Bool.and_true])); (simp only [go_sem, z, go_sem]; (with_reducible refine hK _ ?_); clear hK K)) | ((with_reducible refine evL_one ?_ ?_); rfl; intro K hK; simp only [go_sem, z, go_sem]; ((repeat (refine And.intro (by first | assumption | omega | rfl) ?_)); (with_reducible refine hK _ ?_); clear hK K)) | ((with_reducible refine evL_nil ?_); (with_reducible refine hR _ ?_); clear hR R) | ((with_reducible first | refine evC_seq ?_ | refine evC_block ?_); intro Ψ hΨ hΨ') | ((with_reducible refine evC_region ?_); intro R hR) | ((with_reducible refine hΨ _ ?_); clear hΨ hΨ' Ψ) | ((with_reducible refine hΨ' _ _ ?_ ?_); (focus (first | ((intro hx; cases hx); done) | ((intro j hj; cases hj); done) | (intro j hj; cases hj; (decide); done))); clear hΨ hΨ' Ψ) | (with_reducible first | refine evC_skip ?_ | refine evC_ret ?_ | refine evC_exit ?_) | ((with_reducible apply evC_cond); rfl; rfl; all_goals (intro hc; first | (exact absurd hc (by decide)) | (try simp only at hc))))))
    all_goals (refine ⟨by simp, ⟨_, ?_, AV.le_refl _⟩, leH_get (by simp [leH, hget])⟩; simp only [Try.results50, resL, ldA, oneOf, go_sem])
  · rw [decide_eq_false h0] at z
    rw [if_neg h0]
    by_cases h1 : n = 0
    · rw [decide_eq_true h1, Bool.not_true] at e
      rw [if_pos h1]
      (refine fn_of Try.func50 rfl (by rfl) ?_; simp only [Try.ntmps50, List.length_cons, List.length_nil, Nat.reduceAdd, Nat.reduceSub, List.replicate, List.cons_append, List.nil_append])
      (repeat (any_goals (first | ((with_reducible refine evL_call ?_ ?_ ?_); rfl; rfl; intro K hK; ((first | (apply opA_callB (ck); rfl; rfl; rfl; rfl; exact Try.func20) | (apply opA_callB (cp); rfl; rfl; rfl; rfl; exact Try.func37) | (apply opA_callB (bs); rfl; rfl; rfl; rfl; exact Try.func48) | (apply opA_callB (pt); rfl; rfl; rfl; rfl; exact Try.func67)); kernel_rfl; rfl; (simp only [go_sem, z, e]; rfl); (simp only [AV.inNL, AV.inN, inNL_map, Bool.and_true])); (simp only [go_sem, z, e, go_sem]; (with_reducible refine hK _ ?_); clear hK K)) | ((with_reducible refine evL_one ?_ ?_); rfl; intro K hK; simp only [go_sem, z, e, go_sem]; ((repeat (refine And.intro (by first | assumption | omega | rfl) ?_)); (with_reducible refine hK _ ?_); clear hK K)) | ((with_reducible refine evL_nil ?_); (with_reducible refine hR _ ?_); clear hR R) | ((with_reducible first | refine evC_seq ?_ | refine evC_block ?_); intro Ψ hΨ hΨ') | ((with_reducible refine evC_region ?_); intro R hR) | ((with_reducible refine hΨ _ ?_); clear hΨ hΨ' Ψ) | ((with_reducible refine hΨ' _ _ ?_ ?_); (focus (first | ((intro hx; cases hx); done) | ((intro j hj; cases hj); done) | (intro j hj; cases hj; (decide); done))); clear hΨ hΨ' Ψ) | (with_reducible first | refine evC_skip ?_ | refine evC_ret ?_ | refine evC_exit ?_) | ((with_reducible apply evC_cond); rfl; rfl; all_goals (intro hc; first | (exact absurd hc (by decide)) | (try simp only at hc))))))
      all_goals (refine ⟨by simp, ⟨_, ?_, AV.le_refl _⟩, leH_get (by simp [leH, hget])⟩; simp only [Try.results50, resL, ldA, oneOf, go_sem])
    · rw [decide_eq_false h1, Bool.not_false] at e
      rw [if_neg h1]
      (refine fn_of Try.func50 rfl (by rfl) ?_; simp only [Try.ntmps50, List.length_cons, List.length_nil, Nat.reduceAdd, Nat.reduceSub, List.replicate, List.cons_append, List.nil_append])
      (repeat (any_goals (first | ((with_reducible refine evL_call ?_ ?_ ?_); rfl; rfl; intro K hK; ((first | (apply opA_callB (ck); rfl; rfl; rfl; rfl; exact Try.func20) | (apply opA_callB (cp); rfl; rfl; rfl; rfl; exact Try.func37) | (apply opA_callB (bs); rfl; rfl; rfl; rfl; exact Try.func48) | (apply opA_callB (pt); rfl; rfl; rfl; rfl; exact Try.func67)); kernel_rfl; rfl; (simp only [go_sem, z, e]; rfl); (simp only [AV.inNL, AV.inN, inNL_map, Bool.and_true])); (simp only [go_sem, z, e, go_sem]; (with_reducible refine hK _ ?_); clear hK K)) | ((with_reducible refine evL_one ?_ ?_); rfl; intro K hK; simp only [go_sem, z, e, go_sem]; ((repeat (refine And.intro (by first | assumption | omega | rfl) ?_)); (with_reducible refine hK _ ?_); clear hK K)) | ((with_reducible refine evL_nil ?_); (with_reducible refine hR _ ?_); clear hR R) | ((with_reducible first | refine evC_seq ?_ | refine evC_block ?_); intro Ψ hΨ hΨ') | ((with_reducible refine evC_region ?_); intro R hR) | ((with_reducible refine hΨ _ ?_); clear hΨ hΨ' Ψ) | ((with_reducible refine hΨ' _ _ ?_ ?_); (focus (first | ((intro hx; cases hx); done) | ((intro j hj; cases hj); done) | (intro j hj; cases hj; (decide); done))); clear hΨ hΨ' Ψ) | (with_reducible first | refine evC_skip ?_ | refine evC_ret ?_ | refine evC_exit ?_) | ((with_reducible apply evC_cond); rfl; rfl; all_goals (intro hc; first | (exact absurd hc (by decide)) | (try simp only at hc))))))
      all_goals exact ⟨by simp, ⟨_, rfl, nil2 _⟩, leH_get (by simp [leH, hget])⟩
theorem isG_lt {α : Type} {key : α → Int} {l : List α} {k : Int} (h : isG key l k = true) : posG key l k < l.length := by
  unfold isG at h
  cases hp : l[posG key l k]? with
  | none => rw [hp] at h; cases h
  | some p => exact (List.getElem?_eq_some_iff.1 hp).1
theorem keep_is (x : Xs) (hx : x.ok) (fx : x.few) (s : Sp) (os : s.ok) (v : Nat) (hv : v < WW) (h : okXs x = true) (hg : isG Pg.key x.pg s.key = true) : Fn Try.prog 50 [xsA x, spA s, wN v] [] (res2 (keepL x s v)) [] := by
  have ck := checkX_fn x hx fx
  have bs := bsfP_fn false x.pg (by have := fx.2.2; omega) hx.2.2 ⟨s, 0⟩ ⟨os, (by decide : 0 < WW)⟩
  have cp := copiedX_row x fx
  have hlt := isG_lt hg
  have de := deleteP_fn x.pg (posG Pg.key x.pg s.key) hlt (by have := fx.2.2; omega)
  have z := wN_zero hv
  have hD : delP x.pg s.key = x.pg.take (posG Pg.key x.pg s.key) ++ x.pg.drop (posG Pg.key x.pg s.key + 1) := by unfold delP; rw [hg]; rfl
  have hDl : (delP x.pg s.key).length = x.pg.length - 1 := by rw [hD, List.length_append, List.length_take, List.length_drop]; omega
  rw [← hD] at de
  have hm : ∀ y ∈ delP x.pg s.key, y.ok := fun y hy => hx.2.2 y (by
    rw [hD] at hy
    rcases List.mem_append.1 hy with hy | hy
    · exact List.mem_of_mem_take hy
    · exact List.mem_of_mem_drop hy)
  have pt := putP_fn false (delP x.pg s.key) (by have := fx.2.2; omega) hm ⟨s, v⟩ ⟨os, hv⟩
  have e := putL_err (key := Pg.key) (delP x.pg s.key) ⟨s, v⟩
  rw [zeroPg] at bs
  unfold keepL
  dsimp only [Pg.key] at bs
  rw [hg] at bs
  rw [h] at ck ⊢
  simp only [if_true] at ck ⊢
  have k9 : ((posG Pg.key x.pg s.key : Nat) : Int) + 1 = ((posG Pg.key x.pg s.key + 1 : Nat) : Int) := by omega
  rw [← hDl] at de
  generalize putL Pg.key (delP x.pg s.key) ⟨s, v⟩ = r at pt e ⊢
  clear hD hg
  generalize posG Pg.key x.pg s.key = p at bs de k9 hlt
  generalize delP x.pg s.key = D at *
  obtain ⟨l, c, n⟩ := r
  obtain ⟨A, S, P⟩ := x
  obtain ⟨sa, sk⟩ := s
  obtain ⟨fa, fs, fp⟩ := fx
  dsimp only at *
  have d1 : (P.flatMap Pg.pv).length = P.length * 9 := flat_length pg_len P
  have d2 : (D.flatMap Pg.pv).length = D.length * 9 := flat_length pg_len D
  have r1 : ∀ d, AV.refsL d ((P.flatMap Pg.pv).map AV.c) = false := fun d => refsL_map d _
  have r2 : ∀ d, AV.refsL d ((D.flatMap Pg.pv).map AV.c) = false := fun d => refsL_map d _
  by_cases h0 : v = 0
  · rw [decide_eq_true h0] at z
    rw [if_pos h0]
    have row : Fn Try.prog 50 [xsA ⟨A, S, P⟩, .agg [vi .u64 sa, vi .u64 (l0 sk), vi .u64 (l1 sk), vi .u64 (l2 sk), vi .u64 (l3 sk)], wN v] [] (.tup [.agg [asl false A, spl5 false S, .row 22 67 9 D.length], vi .i64 0]) [(22, raP D)] := by
      (refine fn_of Try.func50 rfl (by rfl) ?_; simp only [Try.ntmps50, List.length_cons, List.length_nil, Nat.reduceAdd, Nat.reduceSub, List.replicate, List.cons_append, List.nil_append])
      (repeat (any_goals (first | ((with_reducible refine evL_call ?_ ?_ ?_); rfl; rfl; intro K hK; (first | ((apply opA_callB (ck); rfl; rfl; rfl; rfl; exact Try.func20); kernel_rfl; rfl; (simp (disch := omega) only [go_sem, z, k9, unC_map, d1, r1, r2, refsL_map, wrI]; rfl); (simp (disch := omega) only [AV.inNL, AV.inN, inNL_map, Bool.and_true])) | ((apply opA_callv (bs); rfl; rfl; rfl; rfl; exact Try.func48); kernel_rfl; rfl; (focus ((simp (disch := omega) only [AV.viewL, AV.view, viewRow, unC, Option.map_some, go_sem, z, k9, unC_map, d1, r1, r2, refsL_map, wrI]); (try rfl))); rfl) | (apply opA_callR (cp) (fun r => 22); rfl; rfl; rfl; rfl; exact Try.func37; kernel_rfl; rfl; rfl; (intro r hr q hq h; simp (disch := omega) only [List.map_cons, List.map_nil, List.cons_append, List.nil_append, List.mem_cons, List.not_mem_nil, or_false] at hr hq; (try dsimp only at h); first | omega | (rcases hr with rfl | rfl | rfl <;> rcases hq with rfl | rfl | rfl <;> simp at h ⊢) | (rcases hr with rfl | rfl <;> rcases hq with rfl | rfl <;> simp at h ⊢) | ((repeat' split at h) <;> omega)); (simp (disch := omega) only [argsOk, argOk, AV.ren, AV.renL, renL_map, List.mem_cons, List.not_mem_nil, forall_eq_or_imp, forall_eq, newOk, List.contains_cons, List.contains_nil, AV.refsL, AV.refs, refsL_map, AV.inN, AV.inNL, inH, inNL_map, go_sem, z, k9, unC_map, d1, r1, r2, refsL_map, wrI])) | (apply opA_callR (de) (fun r => 22); rfl; rfl; rfl; rfl; exact Try.func66; kernel_rfl; rfl; rfl; (intro r hr q hq h; simp (disch := omega) only [List.map_cons, List.map_nil, List.cons_append, List.nil_append, List.mem_cons, List.not_mem_nil, or_false] at hr hq; (try dsimp only at h); first | omega | (rcases hr with rfl | rfl | rfl <;> rcases hq with rfl | rfl | rfl <;> simp at h ⊢) | (rcases hr with rfl | rfl <;> rcases hq with rfl | rfl <;> simp at h ⊢) | ((repeat' split at h) <;> omega)); (simp (disch := omega) only [argsOk, argOk, AV.ren, AV.renL, renL_map, List.mem_cons, List.not_mem_nil, forall_eq_or_imp, forall_eq, newOk, List.contains_cons, List.contains_nil, AV.refsL, AV.refs, refsL_map, AV.inN, AV.inNL, inH, inNL_map, go_sem, z, k9, unC_map, d1, r1, r2, refsL_map, wrI]))); (simp (disch := omega) only [hputs, hdels, renH, AV.ren, AV.renL, renL_map, go_sem, z, k9, unC_map, d1, r1, r2, refsL_map, wrI, go_sem]; (with_reducible refine hK _ ?_); clear hK K)) | ((with_reducible refine evL_one ?_ ?_); rfl; intro K hK; simp (disch := omega) only [go_sem, z, k9, unC_map, d1, r1, r2, refsL_map, wrI, go_sem]; ((repeat (refine And.intro (by first | assumption | omega | rfl) ?_)); (with_reducible refine hK _ ?_); clear hK K)) | ((with_reducible refine evL_nil ?_); (with_reducible refine hR _ ?_); clear hR R) | ((with_reducible first | refine evC_seq ?_ | refine evC_block ?_); intro Ψ hΨ hΨ') | ((with_reducible refine evC_region ?_); intro R hR) | ((with_reducible refine hΨ _ ?_); clear hΨ hΨ' Ψ) | ((with_reducible refine hΨ' _ _ ?_ ?_); (focus (first | ((intro hx; cases hx); done) | ((intro j hj; cases hj); done) | (intro j hj; cases hj; (decide); done))); clear hΨ hΨ' Ψ) | (with_reducible first | refine evC_skip ?_ | refine evC_ret ?_ | refine evC_exit ?_) | ((with_reducible apply evC_cond); rfl; rfl; all_goals (intro hc; first | (exact absurd hc (by decide)) | (try simp only at hc))))))
      all_goals exact ⟨by simp, ⟨_, rfl, AV.le_refl _⟩, leH_get (by simp [leH, hget, raP])⟩
    have h := Fn.frzG row
    simpa [-List.length_flatMap, AV.frz, AV.frzL, d2] using h
  · rw [decide_eq_false h0] at z
    rw [if_neg h0]
    by_cases h1 : n = 0
    · rw [decide_eq_true h1, Bool.not_true] at e
      rw [if_pos h1]
      (refine fn_of Try.func50 rfl (by rfl) ?_; simp only [Try.ntmps50, List.length_cons, List.length_nil, Nat.reduceAdd, Nat.reduceSub, List.replicate, List.cons_append, List.nil_append])
      (repeat (any_goals (first | ((with_reducible refine evL_call ?_ ?_ ?_); rfl; rfl; intro K hK; (first | ((apply opA_callB (ck); rfl; rfl; rfl; rfl; exact Try.func20); kernel_rfl; rfl; (simp (disch := omega) only [go_sem, z, k9, unC_map, d1, r1, r2, refsL_map, wrI]; rfl); (simp (disch := omega) only [AV.inNL, AV.inN, inNL_map, Bool.and_true])) | ((apply opA_callv (bs); rfl; rfl; rfl; rfl; exact Try.func48); kernel_rfl; rfl; (focus ((simp (disch := omega) only [AV.viewL, AV.view, viewRow, unC, Option.map_some, go_sem, z, k9, unC_map, d1, r1, r2, refsL_map, wrI]); (try rfl))); rfl) | (apply opA_callR (cp) (fun r => 22); rfl; rfl; rfl; rfl; exact Try.func37; kernel_rfl; rfl; rfl; (intro r hr q hq h; simp (disch := omega) only [List.map_cons, List.map_nil, List.cons_append, List.nil_append, List.mem_cons, List.not_mem_nil, or_false] at hr hq; (try dsimp only at h); first | omega | (rcases hr with rfl | rfl | rfl <;> rcases hq with rfl | rfl | rfl <;> simp at h ⊢) | (rcases hr with rfl | rfl <;> rcases hq with rfl | rfl <;> simp at h ⊢) | ((repeat' split at h) <;> omega)); (simp (disch := omega) only [argsOk, argOk, AV.ren, AV.renL, renL_map, List.mem_cons, List.not_mem_nil, forall_eq_or_imp, forall_eq, newOk, List.contains_cons, List.contains_nil, AV.refsL, AV.refs, refsL_map, AV.inN, AV.inNL, inH, inNL_map, go_sem, z, k9, unC_map, d1, r1, r2, refsL_map, wrI])) | (apply opA_callR (de) (fun r => 22); rfl; rfl; rfl; rfl; exact Try.func66; kernel_rfl; rfl; rfl; (intro r hr q hq h; simp (disch := omega) only [List.map_cons, List.map_nil, List.cons_append, List.nil_append, List.mem_cons, List.not_mem_nil, or_false] at hr hq; (try dsimp only at h); first | omega | (rcases hr with rfl | rfl | rfl <;> rcases hq with rfl | rfl | rfl <;> simp at h ⊢) | (rcases hr with rfl | rfl <;> rcases hq with rfl | rfl <;> simp at h ⊢) | ((repeat' split at h) <;> omega)); (simp (disch := omega) only [argsOk, argOk, AV.ren, AV.renL, renL_map, List.mem_cons, List.not_mem_nil, forall_eq_or_imp, forall_eq, newOk, List.contains_cons, List.contains_nil, AV.refsL, AV.refs, refsL_map, AV.inN, AV.inNL, inH, inNL_map, go_sem, z, k9, unC_map, d1, r1, r2, refsL_map, wrI]))); (simp (disch := omega) only [hputs, hdels, renH, AV.ren, AV.renL, renL_map, go_sem, z, k9, unC_map, d1, r1, r2, refsL_map, wrI, go_sem]; (with_reducible refine hK _ ?_); clear hK K)) | ((with_reducible refine evL_one ?_ ?_); rfl; intro K hK; simp (disch := omega) only [go_sem, z, k9, unC_map, d1, r1, r2, refsL_map, wrI, go_sem]; ((repeat (refine And.intro (by first | assumption | omega | rfl) ?_)); (with_reducible refine hK _ ?_); clear hK K)) | ((with_reducible refine evL_nil ?_); (with_reducible refine hR _ ?_); clear hR R) | ((with_reducible first | refine evC_seq ?_ | refine evC_block ?_); intro Ψ hΨ hΨ') | ((with_reducible refine evC_region ?_); intro R hR) | ((with_reducible refine hΨ _ ?_); clear hΨ hΨ' Ψ) | ((with_reducible refine hΨ' _ _ ?_ ?_); (focus (first | ((intro hx; cases hx); done) | ((intro j hj; cases hj); done) | (intro j hj; cases hj; (decide); done))); clear hΨ hΨ' Ψ) | (with_reducible first | refine evC_skip ?_ | refine evC_ret ?_ | refine evC_exit ?_) | ((with_reducible apply evC_cond); rfl; rfl; all_goals (intro hc; first | (exact absurd hc (by decide)) | (try simp only at hc))))))
      refine evL_to rfl (St.to.frz 22 (pcs := D.flatMap Pg.pv) (by simp [hget])) ?_
      simp only [St.frz, AV.frzL, AV.frz, frzH, d2, if_true, eq_self, ↓reduceIte, Nat.reduceEqDiff]
      (repeat (any_goals (first | ((with_reducible refine evL_call ?_ ?_ ?_); rfl; rfl; intro K hK; ((apply opA_callB (pt); rfl; rfl; rfl; rfl; exact Try.func67); kernel_rfl; rfl; (simp only [go_sem, e]; rfl); (simp only [AV.inNL, AV.inN, inNL_map, Bool.and_true])); (simp only [go_sem, e, go_sem]; (with_reducible refine hK _ ?_); clear hK K)) | ((with_reducible refine evL_one ?_ ?_); rfl; intro K hK; simp only [go_sem, e, go_sem]; ((repeat (refine And.intro (by first | assumption | omega | rfl) ?_)); (with_reducible refine hK _ ?_); clear hK K)) | ((with_reducible refine evL_nil ?_); (with_reducible refine hR _ ?_); clear hR R) | ((with_reducible first | refine evC_seq ?_ | refine evC_block ?_); intro Ψ hΨ hΨ') | ((with_reducible refine evC_region ?_); intro R hR) | ((with_reducible refine hΨ _ ?_); clear hΨ hΨ' Ψ) | ((with_reducible refine hΨ' _ _ ?_ ?_); (focus (first | ((intro hx; cases hx); done) | ((intro j hj; cases hj); done) | (intro j hj; cases hj; (decide); done))); clear hΨ hΨ' Ψ) | (with_reducible first | refine evC_skip ?_ | refine evC_ret ?_ | refine evC_exit ?_) | ((with_reducible apply evC_cond); rfl; rfl; all_goals (intro hc; first | (exact absurd hc (by decide)) | (try simp only at hc))))))
      all_goals (refine ⟨by simp, ⟨_, ?_, AV.le_refl _⟩, leH_get (by simp [leH, hget])⟩; simp only [Try.results50, resL, ldA, oneOf, go_sem])
    · rw [decide_eq_false h1, Bool.not_false] at e
      rw [if_neg h1]
      (refine fn_of Try.func50 rfl (by rfl) ?_; simp only [Try.ntmps50, List.length_cons, List.length_nil, Nat.reduceAdd, Nat.reduceSub, List.replicate, List.cons_append, List.nil_append])
      (repeat (any_goals (first | ((with_reducible refine evL_call ?_ ?_ ?_); rfl; rfl; intro K hK; (first | ((apply opA_callB (ck); rfl; rfl; rfl; rfl; exact Try.func20); kernel_rfl; rfl; (simp (disch := omega) only [go_sem, z, k9, unC_map, d1, r1, r2, refsL_map, wrI]; rfl); (simp (disch := omega) only [AV.inNL, AV.inN, inNL_map, Bool.and_true])) | ((apply opA_callv (bs); rfl; rfl; rfl; rfl; exact Try.func48); kernel_rfl; rfl; (focus ((simp (disch := omega) only [AV.viewL, AV.view, viewRow, unC, Option.map_some, go_sem, z, k9, unC_map, d1, r1, r2, refsL_map, wrI]); (try rfl))); rfl) | (apply opA_callR (cp) (fun r => 22); rfl; rfl; rfl; rfl; exact Try.func37; kernel_rfl; rfl; rfl; (intro r hr q hq h; simp (disch := omega) only [List.map_cons, List.map_nil, List.cons_append, List.nil_append, List.mem_cons, List.not_mem_nil, or_false] at hr hq; (try dsimp only at h); first | omega | (rcases hr with rfl | rfl | rfl <;> rcases hq with rfl | rfl | rfl <;> simp at h ⊢) | (rcases hr with rfl | rfl <;> rcases hq with rfl | rfl <;> simp at h ⊢) | ((repeat' split at h) <;> omega)); (simp (disch := omega) only [argsOk, argOk, AV.ren, AV.renL, renL_map, List.mem_cons, List.not_mem_nil, forall_eq_or_imp, forall_eq, newOk, List.contains_cons, List.contains_nil, AV.refsL, AV.refs, refsL_map, AV.inN, AV.inNL, inH, inNL_map, go_sem, z, k9, unC_map, d1, r1, r2, refsL_map, wrI])) | (apply opA_callR (de) (fun r => 22); rfl; rfl; rfl; rfl; exact Try.func66; kernel_rfl; rfl; rfl; (intro r hr q hq h; simp (disch := omega) only [List.map_cons, List.map_nil, List.cons_append, List.nil_append, List.mem_cons, List.not_mem_nil, or_false] at hr hq; (try dsimp only at h); first | omega | (rcases hr with rfl | rfl | rfl <;> rcases hq with rfl | rfl | rfl <;> simp at h ⊢) | (rcases hr with rfl | rfl <;> rcases hq with rfl | rfl <;> simp at h ⊢) | ((repeat' split at h) <;> omega)); (simp (disch := omega) only [argsOk, argOk, AV.ren, AV.renL, renL_map, List.mem_cons, List.not_mem_nil, forall_eq_or_imp, forall_eq, newOk, List.contains_cons, List.contains_nil, AV.refsL, AV.refs, refsL_map, AV.inN, AV.inNL, inH, inNL_map, go_sem, z, k9, unC_map, d1, r1, r2, refsL_map, wrI]))); (simp (disch := omega) only [hputs, hdels, renH, AV.ren, AV.renL, renL_map, go_sem, z, k9, unC_map, d1, r1, r2, refsL_map, wrI, go_sem]; (with_reducible refine hK _ ?_); clear hK K)) | ((with_reducible refine evL_one ?_ ?_); rfl; intro K hK; simp (disch := omega) only [go_sem, z, k9, unC_map, d1, r1, r2, refsL_map, wrI, go_sem]; ((repeat (refine And.intro (by first | assumption | omega | rfl) ?_)); (with_reducible refine hK _ ?_); clear hK K)) | ((with_reducible refine evL_nil ?_); (with_reducible refine hR _ ?_); clear hR R) | ((with_reducible first | refine evC_seq ?_ | refine evC_block ?_); intro Ψ hΨ hΨ') | ((with_reducible refine evC_region ?_); intro R hR) | ((with_reducible refine hΨ _ ?_); clear hΨ hΨ' Ψ) | ((with_reducible refine hΨ' _ _ ?_ ?_); (focus (first | ((intro hx; cases hx); done) | ((intro j hj; cases hj); done) | (intro j hj; cases hj; (decide); done))); clear hΨ hΨ' Ψ) | (with_reducible first | refine evC_skip ?_ | refine evC_ret ?_ | refine evC_exit ?_) | ((with_reducible apply evC_cond); rfl; rfl; all_goals (intro hc; first | (exact absurd hc (by decide)) | (try simp only at hc))))))
      refine evL_to rfl (St.to.frz 22 (pcs := D.flatMap Pg.pv) (by simp [hget])) ?_
      simp only [St.frz, AV.frzL, AV.frz, frzH, d2, if_true, eq_self, ↓reduceIte, Nat.reduceEqDiff]
      (repeat (any_goals (first | ((with_reducible refine evL_call ?_ ?_ ?_); rfl; rfl; intro K hK; ((apply opA_callB (pt); rfl; rfl; rfl; rfl; exact Try.func67); kernel_rfl; rfl; (simp only [go_sem, e]; rfl); (simp only [AV.inNL, AV.inN, inNL_map, Bool.and_true])); (simp only [go_sem, e, go_sem]; (with_reducible refine hK _ ?_); clear hK K)) | ((with_reducible refine evL_one ?_ ?_); rfl; intro K hK; simp only [go_sem, e, go_sem]; ((repeat (refine And.intro (by first | assumption | omega | rfl) ?_)); (with_reducible refine hK _ ?_); clear hK K)) | ((with_reducible refine evL_nil ?_); (with_reducible refine hR _ ?_); clear hR R) | ((with_reducible first | refine evC_seq ?_ | refine evC_block ?_); intro Ψ hΨ hΨ') | ((with_reducible refine evC_region ?_); intro R hR) | ((with_reducible refine hΨ _ ?_); clear hΨ hΨ' Ψ) | ((with_reducible refine hΨ' _ _ ?_ ?_); (focus (first | ((intro hx; cases hx); done) | ((intro j hj; cases hj); done) | (intro j hj; cases hj; (decide); done))); clear hΨ hΨ' Ψ) | (with_reducible first | refine evC_skip ?_ | refine evC_ret ?_ | refine evC_exit ?_) | ((with_reducible apply evC_cond); rfl; rfl; all_goals (intro hc; first | (exact absurd hc (by decide)) | (try simp only at hc))))))
      all_goals exact ⟨by simp, ⟨_, rfl, nil2 _⟩, leH_get (by simp [leH, hget])⟩
theorem keep_fn (x : Xs) (hx : x.ok) (fx : x.few) (s : Sp) (os : s.ok) (v : Nat) (hv : v < WW) : Fn Try.prog 50 [xsA x, spA s, wN v] [] (res2 (keepL x s v)) [] := by
  cases h : okXs x with
  | false => exact keep_bad x hx fx s v h
  | true =>
    cases hg : isG Pg.key x.pg s.key with
    | false => exact keep_not x hx fx s os v hv h hg
    | true => exact keep_is x hx fx s os v hv h hg
/-- what is done -/
structure Dd where
  kind : Int
  s : Sp
  v : Nat
def Dd.ok (d : Dd) : Prop := (-9223372036854775808 ≤ d.kind ∧ d.kind ≤ 9223372036854775807) ∧ d.s.ok ∧ d.v < WW
abbrev ddA (d : Dd) : AV := .agg [vi .i64 d.kind, vi .u64 d.s.a, vi .u64 (l0 d.s.k), vi .u64 (l1 d.s.k), vi .u64 (l2 d.s.k), vi .u64 (l3 d.s.k), vi .u64 (l0 d.v), vi .u64 (l1 d.v), vi .u64 (l2 d.v), vi .u64 (l3 d.v)]
def kindD (d : Dd) : Int := (IntKind.u64.wrap d.kind).tmod 3
theorem beqI (a c : Int) : (a == c) = decide (a = c) := by
  by_cases h : a = c
  · subst h; simp
  · rw [decide_eq_false h]; simpa using h
def doX (x : Xs) (d : Dd) : Xs × Bool × Int := if kindD d = 0 then touchL x d.s.a else if kindD d = 1 then reachL x d.s else ((keepL x d.s d.v).1, false, (keepL x d.s d.v).2)
theorem does_fn (x : Xs) (hx : x.ok) (fx : x.few) (d : Dd) (hd : d.ok) : Fn Try.prog 26 [ddA d, xsA x] [] (res3 (doX x d)) [] := by
  have h1 := touch_fn x hx fx d.s.a
  have h2 := reach_fn x hx fx d.s hd.2.1
  have h3 := keep_fn x hx fx d.s hd.2.1 d.v hd.2.2
  have q0 := beqI (kindD d) 0
  have q1 := beqI (kindD d) 1
  have hk : (IntKind.u64.wrap d.kind).tmod 3 = kindD d := rfl
  have z3 : ((3 : Int) = 0) = False := eq_false (by decide)
  unfold doX
  generalize touchL x d.s.a = r1 at h1 ⊢
  generalize reachL x d.s = r2 at h2 ⊢
  generalize keepL x d.s d.v = r3 at h3 ⊢
  obtain ⟨y1, c1, n1⟩ := r1
  obtain ⟨y2, c2, n2⟩ := r2
  obtain ⟨y3, n3⟩ := r3
  obtain ⟨kind, ⟨sa, sk⟩, v⟩ := d
  obtain ⟨A, S, P⟩ := x
  obtain ⟨A1, S1, P1⟩ := y1
  obtain ⟨A2, S2, P2⟩ := y2
  obtain ⟨A3, S3, P3⟩ := y3
  dsimp only at *
  generalize kindD ⟨kind, ⟨sa, sk⟩, v⟩ = k at *
  by_cases c0 : k = 0
  · rw [decide_eq_true c0] at q0
    rw [if_pos c0]
    (refine fn_of Try.func26 rfl (by rfl) ?_; simp only [Try.ntmps26, List.length_cons, List.length_nil, Nat.reduceAdd, Nat.reduceSub, List.replicate, List.cons_append, List.nil_append])
    (repeat (any_goals (first | ((with_reducible refine evL_call ?_ ?_ ?_); rfl; rfl; intro K hK; ((apply opA_callB (h1); rfl; rfl; rfl; rfl; exact Try.func15); kernel_rfl; rfl; (simp only [go_sem, hk, z3, q0]; rfl); (simp only [AV.inNL, AV.inN, inNL_map, Bool.and_true])); (simp only [go_sem, hk, z3, q0, go_sem]; (with_reducible refine hK _ ?_); clear hK K)) | ((with_reducible refine evL_one ?_ ?_); rfl; intro K hK; simp only [go_sem, hk, z3, q0, go_sem]; ((repeat (refine And.intro (by first | assumption | omega | rfl) ?_)); (with_reducible refine hK _ ?_); clear hK K)) | ((with_reducible refine evL_nil ?_); (with_reducible refine hR _ ?_); clear hR R) | ((with_reducible first | refine evC_seq ?_ | refine evC_block ?_); intro Ψ hΨ hΨ') | ((with_reducible refine evC_region ?_); intro R hR) | ((with_reducible refine hΨ _ ?_); clear hΨ hΨ' Ψ) | ((with_reducible refine hΨ' _ _ ?_ ?_); (focus (first | ((intro hx; cases hx); done) | ((intro j hj; cases hj); done) | (intro j hj; cases hj; (decide); done))); clear hΨ hΨ' Ψ) | (with_reducible first | refine evC_skip ?_ | refine evC_ret ?_ | refine evC_exit ?_) | ((with_reducible apply evC_cond); rfl; rfl; all_goals (intro hc; first | (exact absurd hc (by decide)) | (try simp only at hc))))))
    all_goals (refine ⟨by simp, ⟨_, ?_, AV.le_refl _⟩, leH_get (by simp [leH, hget])⟩; simp only [Try.results26, resL, ldA, oneOf, go_sem])
  rw [decide_eq_false c0] at q0
  rw [if_neg c0]
  by_cases c1 : k = 1
  · rw [decide_eq_true c1] at q1
    rw [if_pos c1]
    (refine fn_of Try.func26 rfl (by rfl) ?_; simp only [Try.ntmps26, List.length_cons, List.length_nil, Nat.reduceAdd, Nat.reduceSub, List.replicate, List.cons_append, List.nil_append])
    (repeat (any_goals (first | ((with_reducible refine evL_call ?_ ?_ ?_); rfl; rfl; intro K hK; ((apply opA_callB (h2); rfl; rfl; rfl; rfl; exact Try.func49); kernel_rfl; rfl; (simp only [go_sem, hk, z3, q0, q1]; rfl); (simp only [AV.inNL, AV.inN, inNL_map, Bool.and_true])); (simp only [go_sem, hk, z3, q0, q1, go_sem]; (with_reducible refine hK _ ?_); clear hK K)) | ((with_reducible refine evL_one ?_ ?_); rfl; intro K hK; simp only [go_sem, hk, z3, q0, q1, go_sem]; ((repeat (refine And.intro (by first | assumption | omega | rfl) ?_)); (with_reducible refine hK _ ?_); clear hK K)) | ((with_reducible refine evL_nil ?_); (with_reducible refine hR _ ?_); clear hR R) | ((with_reducible first | refine evC_seq ?_ | refine evC_block ?_); intro Ψ hΨ hΨ') | ((with_reducible refine evC_region ?_); intro R hR) | ((with_reducible refine hΨ _ ?_); clear hΨ hΨ' Ψ) | ((with_reducible refine hΨ' _ _ ?_ ?_); (focus (first | ((intro hx; cases hx); done) | ((intro j hj; cases hj); done) | (intro j hj; cases hj; (decide); done))); clear hΨ hΨ' Ψ) | (with_reducible first | refine evC_skip ?_ | refine evC_ret ?_ | refine evC_exit ?_) | ((with_reducible apply evC_cond); rfl; rfl; all_goals (intro hc; first | (exact absurd hc (by decide)) | (try simp only at hc))))))
    all_goals (refine ⟨by simp, ⟨_, ?_, AV.le_refl _⟩, leH_get (by simp [leH, hget])⟩; simp only [Try.results26, resL, ldA, oneOf, go_sem])
  rw [decide_eq_false c1] at q1
  rw [if_neg c1]
  (refine fn_of Try.func26 rfl (by rfl) ?_; simp only [Try.ntmps26, List.length_cons, List.length_nil, Nat.reduceAdd, Nat.reduceSub, List.replicate, List.cons_append, List.nil_append])
  (repeat (any_goals (first | ((with_reducible refine evL_call ?_ ?_ ?_); rfl; rfl; intro K hK; ((apply opA_callB (h3); rfl; rfl; rfl; rfl; exact Try.func50); kernel_rfl; rfl; (simp only [go_sem, hk, z3, q0, q1]; rfl); (simp only [AV.inNL, AV.inN, inNL_map, Bool.and_true])); (simp only [go_sem, hk, z3, q0, q1, go_sem]; (with_reducible refine hK _ ?_); clear hK K)) | ((with_reducible refine evL_one ?_ ?_); rfl; intro K hK; simp only [go_sem, hk, z3, q0, q1, go_sem]; ((repeat (refine And.intro (by first | assumption | omega | rfl) ?_)); (with_reducible refine hK _ ?_); clear hK K)) | ((with_reducible refine evL_nil ?_); (with_reducible refine hR _ ?_); clear hR R) | ((with_reducible first | refine evC_seq ?_ | refine evC_block ?_); intro Ψ hΨ hΨ') | ((with_reducible refine evC_region ?_); intro R hR) | ((with_reducible refine hΨ _ ?_); clear hΨ hΨ' Ψ) | ((with_reducible refine hΨ' _ _ ?_ ?_); (focus (first | ((intro hx; cases hx); done) | ((intro j hj; cases hj); done) | (intro j hj; cases hj; (decide); done))); clear hΨ hΨ' Ψ) | (with_reducible first | refine evC_skip ?_ | refine evC_ret ?_ | refine evC_exit ?_) | ((with_reducible apply evC_cond); rfl; rfl; all_goals (intro hc; first | (exact absurd hc (by decide)) | (try simp only at hc))))))
  all_goals (refine ⟨by simp, ⟨_, ?_, AV.le_refl _⟩, leH_get (by simp [leH, hget])⟩; simp only [Try.results26, resL, ldA, oneOf, go_sem])
def overX (x : Xs) : Bool := decide (500 < x.ad.length) || (decide (500 < x.sp.length) || decide (500 < x.pg.length))
theorem over_fn (x : Xs) : Fn Try.prog 19 [xsA x] [] (vb (overX x)) [] := by
  have e1 : decide ((x.ad.length : Int) > 500) = decide (500 < x.ad.length) := decide_eq_decide.2 (by omega)
  have e2 : decide ((x.sp.length : Int) > 500) = decide (500 < x.sp.length) := decide_eq_decide.2 (by omega)
  have e3 : decide ((x.pg.length : Int) > 500) = decide (500 < x.pg.length) := decide_eq_decide.2 (by omega)
  unfold overX
  generalize decide (500 < x.ad.length) = q1 at e1 ⊢
  generalize decide (500 < x.sp.length) = q2 at e2 ⊢
  generalize decide (500 < x.pg.length) = q3 at e3 ⊢
  obtain ⟨A, S, P⟩ := x
  dsimp only at *
  (refine fn_of Try.func19 rfl (by rfl) ?_; simp only [Try.ntmps19, List.length_cons, List.length_nil, Nat.reduceAdd, Nat.reduceSub, List.replicate, List.cons_append, List.nil_append])
  cases q1 <;> cases q2 <;> cases q3
  all_goals (repeat (any_goals (first | ((with_reducible refine evL_one ?_ ?_); rfl; intro K hK; simp only [go_sem, e1, e2, e3, go_sem]; ((repeat (refine And.intro (by first | assumption | omega | rfl) ?_)); (with_reducible refine hK _ ?_); clear hK K)) | ((with_reducible refine evL_nil ?_); (with_reducible refine hR _ ?_); clear hR R) | ((with_reducible first | refine evC_seq ?_ | refine evC_block ?_); intro Ψ hΨ hΨ') | ((with_reducible refine evC_region ?_); intro R hR) | ((with_reducible refine hΨ _ ?_); clear hΨ hΨ' Ψ) | ((with_reducible refine hΨ' _ _ ?_ ?_); (focus (first | ((intro hx; cases hx); done) | ((intro j hj; cases hj); done) | (intro j hj; cases hj; (decide); done))); clear hΨ hΨ' Ψ) | (with_reducible first | refine evC_skip ?_ | refine evC_ret ?_ | refine evC_exit ?_) | ((with_reducible apply evL_unmet); rfl; rfl; rfl; (try simp only [go_sem, e1, e2, e3, go_sem])) | ((with_reducible apply evL_grd); rfl; rfl; rfl; all_goals (intro hb; first | (exact absurd hb (by decide)) | ((try simp only [Bool.not_true, Bool.not_false] at hb); (first | ((with_reducible intro K hK); simp only [go_sem, e1, e2, e3, go_sem]; ((repeat (refine And.intro (by first | assumption | omega | rfl) ?_)); (with_reducible refine hK _ ?_); clear hK K)) | ((fail_if_success (with_reducible intro _)); simp only [go_sem, e1, e2, e3, go_sem]))))) | ((with_reducible apply evC_cond); rfl; rfl; all_goals (intro hc; first | (exact absurd hc (by decide)) | (try simp only at hc))))))
  all_goals (refine ⟨by simp, ⟨_, ?_, AV.le_refl _⟩, leH_get (by simp [leH, hget])⟩; simp only [Try.results19, resL, ldA, oneOf, go_sem])
  all_goals rfl
end Go.Proofs.Ytmlalhmljmajbaa

