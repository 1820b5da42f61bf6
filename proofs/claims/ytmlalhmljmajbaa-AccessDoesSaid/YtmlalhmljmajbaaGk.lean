/-
  What is done to accesses, by the code; reckoned.
-/
import Derived.Test.YtmlalhmljmajbaaGj
import Derived.Test.YtmlalhmljmajbaaDh
namespace Go.Proofs.Ytmlalhmljmajbaa
open Go.RowKit
open Nat (reduceBEq)
set_option linter.unusedVariables false
set_option linter.unusedSimpArgs false
set_option maxRecDepth 20000
set_option maxHeartbeats 2000000
abbrev nilX : AV := .agg [.c (.v (.slice none 0 0)), .c (.v (.slice none 0 0)), .c (.v (.slice none 0 0))]
theorem nilX_le : nilX.le (xsA ⟨[], [], []⟩) := AV.le_agg ⟨AV.le_nil _ _, AV.le_nil _ _, AV.le_nil _ _, trivial⟩
abbrev res3 (r : Xs × Bool × Int) : AV := .tup [xsA r.1, vb r.2.1, vi .i64 r.2.2]
abbrev res2 (r : Xs × Int) : AV := .tup [xsA r.1, vi .i64 r.2]
theorem nil3 (e : Int) : (AV.tup [nilX, vb false, vi .i64 e]).le (res3 (⟨[], [], []⟩, false, e)) := AV.le_tupL ⟨nilX_le, AV.le_refl _, AV.le_refl _, trivial⟩
theorem nil2 (e : Int) : (AV.tup [nilX, vi .i64 e]).le (res2 (⟨[], [], []⟩, e)) := AV.le_tupL ⟨nilX_le, AV.le_refl _, trivial⟩
def touchL (x : Xs) (a : Int) : Xs × Bool × Int := if okXs x then (if (putL aKey x.ad a).2.2 = 0 then (⟨(putL aKey x.ad a).1, x.sp, x.pg⟩, (putL aKey x.ad a).2.1, 0) else (⟨[], [], []⟩, false, (putL aKey x.ad a).2.2)) else (⟨[], [], []⟩, false, 190)
def reachL (x : Xs) (s : Sp) : Xs × Bool × Int := if okXs x then (if (putL Sp.key x.sp s).2.2 = 0 then (⟨x.ad, (putL Sp.key x.sp s).1, x.pg⟩, (putL Sp.key x.sp s).2.1, 0) else (⟨[], [], []⟩, false, (putL Sp.key x.sp s).2.2)) else (⟨[], [], []⟩, false, 190)
def delP (l : List Pg) (k : Int) : List Pg := if isG Pg.key l k then l.take (posG Pg.key l k) ++ l.drop (posG Pg.key l k + 1) else l
def keepL (x : Xs) (s : Sp) (v : Nat) : Xs × Int := if okXs x then (if v = 0 then (⟨x.ad, x.sp, delP x.pg s.key⟩, 0) else if (putL Pg.key (delP x.pg s.key) ⟨s, v⟩).2.2 = 0 then (⟨x.ad, x.sp, (putL Pg.key (delP x.pg s.key) ⟨s, v⟩).1⟩, 0) else (⟨[], [], []⟩, (putL Pg.key (delP x.pg s.key) ⟨s, v⟩).2.2)) else (⟨[], [], []⟩, 190)
theorem putL_err {α : Type} {key : α → Int} (l : List α) (x : α) : ((putL key l x).2.2 != 0) = !decide ((putL key l x).2.2 = 0) := by
  by_cases h : (putL key l x).2.2 = 0 <;> simp [h]
theorem touch_fn (x : Xs) (hx : x.ok) (fx : x.few) (a : Int) : Fn Try.prog 15 [xsA x, vi .u64 a] [] (res3 (touchL x a)) [] := by
  have ck := checkX_fn x hx fx
  have cp := copiedX_fn x fx
  have pt := putA_fn false x.ad (by have := fx.1; omega) a
  have e := putL_err (key := aKey) x.ad a
  unfold touchL
  generalize putL aKey x.ad a = r at pt e ⊢
  obtain ⟨l, c, n⟩ := r
  obtain ⟨A, S, P⟩ := x
  dsimp only at *
  cases h : okXs ⟨A, S, P⟩ with
  | false =>
    rw [h] at ck
    simp only [Bool.false_eq_true, if_false] at ck ⊢
    (refine fn_of Try.func15 rfl (by rfl) ?_; simp only [Try.ntmps15, List.length_cons, List.length_nil, Nat.reduceAdd, Nat.reduceSub, List.replicate, List.cons_append, List.nil_append])
    (repeat (any_goals (first | ((with_reducible refine evL_call ?_ ?_ ?_); rfl; rfl; intro K hK; ((apply opA_callB (ck); rfl; rfl; rfl; rfl; exact Try.func20); kernel_rfl; rfl; (simp only [go_sem]; rfl); (simp only [AV.inNL, AV.inN, inNL_map, Bool.and_true])); (simp only [go_sem]; (with_reducible refine hK _ ?_); clear hK K)) | ((with_reducible refine evL_one ?_ ?_); rfl; intro K hK; simp only [go_sem]; ((repeat (refine And.intro (by first | assumption | omega | rfl) ?_)); (with_reducible refine hK _ ?_); clear hK K)) | ((with_reducible refine evL_nil ?_); (with_reducible refine hR _ ?_); clear hR R) | ((with_reducible first | refine evC_seq ?_ | refine evC_block ?_); intro Ψ hΨ hΨ') | ((with_reducible refine evC_region ?_); intro R hR) | ((with_reducible refine hΨ _ ?_); clear hΨ hΨ' Ψ) | ((with_reducible refine hΨ' _ _ ?_ ?_); (focus (first | ((intro hx; cases hx); done) | ((intro j hj; cases hj); done) | (intro j hj; cases hj; (decide); done))); clear hΨ hΨ' Ψ) | (with_reducible first | refine evC_skip ?_ | refine evC_ret ?_ | refine evC_exit ?_) | ((with_reducible apply evC_cond); rfl; rfl; all_goals (intro hc; first | (exact absurd hc (by decide)) | (try simp only at hc))))))
    all_goals exact ⟨by simp, ⟨_, rfl, nil3 _⟩, leH_get (by simp [leH, hget])⟩
  | true =>
    rw [h] at ck
    simp only [if_true] at ck ⊢
    by_cases h0 : n = 0
    · rw [decide_eq_true h0, Bool.not_true] at e
      rw [if_pos h0]
      (refine fn_of Try.func15 rfl (by rfl) ?_; simp only [Try.ntmps15, List.length_cons, List.length_nil, Nat.reduceAdd, Nat.reduceSub, List.replicate, List.cons_append, List.nil_append])
      (repeat (any_goals (first | ((with_reducible refine evL_call ?_ ?_ ?_); rfl; rfl; intro K hK; ((first | (apply opA_callB (ck); rfl; rfl; rfl; rfl; exact Try.func20) | (apply opA_callB (pt); rfl; rfl; rfl; rfl; exact Try.func36) | (apply opA_callB (cp); rfl; rfl; rfl; rfl; exact Try.func37)); kernel_rfl; rfl; (simp only [go_sem, e]; rfl); (simp only [AV.inNL, AV.inN, inNL_map, Bool.and_true])); (simp only [go_sem, e, go_sem]; (with_reducible refine hK _ ?_); clear hK K)) | ((with_reducible refine evL_one ?_ ?_); rfl; intro K hK; simp only [go_sem, e, go_sem]; ((repeat (refine And.intro (by first | assumption | omega | rfl) ?_)); (with_reducible refine hK _ ?_); clear hK K)) | ((with_reducible refine evL_nil ?_); (with_reducible refine hR _ ?_); clear hR R) | ((with_reducible first | refine evC_seq ?_ | refine evC_block ?_); intro Ψ hΨ hΨ') | ((with_reducible refine evC_region ?_); intro R hR) | ((with_reducible refine hΨ _ ?_); clear hΨ hΨ' Ψ) | ((with_reducible refine hΨ' _ _ ?_ ?_); (focus (first | ((intro hx; cases hx); done) | ((intro j hj; cases hj); done) | (intro j hj; cases hj; (decide); done))); clear hΨ hΨ' Ψ) | (with_reducible first | refine evC_skip ?_ | refine evC_ret ?_ | refine evC_exit ?_) | ((with_reducible apply evC_cond); rfl; rfl; all_goals (intro hc; first | (exact absurd hc (by decide)) | (try simp only at hc))))))
      all_goals (refine ⟨by simp, ⟨_, ?_, AV.le_refl _⟩, leH_get (by simp [leH, hget])⟩; simp only [Try.results15, resL, ldA, oneOf, go_sem])
    · rw [decide_eq_false h0, Bool.not_false] at e
      rw [if_neg h0]
      (refine fn_of Try.func15 rfl (by rfl) ?_; simp only [Try.ntmps15, List.length_cons, List.length_nil, Nat.reduceAdd, Nat.reduceSub, List.replicate, List.cons_append, List.nil_append])
      (repeat (any_goals (first | ((with_reducible refine evL_call ?_ ?_ ?_); rfl; rfl; intro K hK; ((first | (apply opA_callB (ck); rfl; rfl; rfl; rfl; exact Try.func20) | (apply opA_callB (pt); rfl; rfl; rfl; rfl; exact Try.func36)); kernel_rfl; rfl; (simp only [go_sem, e]; rfl); (simp only [AV.inNL, AV.inN, inNL_map, Bool.and_true])); (simp only [go_sem, e, go_sem]; (with_reducible refine hK _ ?_); clear hK K)) | ((with_reducible refine evL_one ?_ ?_); rfl; intro K hK; simp only [go_sem, e, go_sem]; ((repeat (refine And.intro (by first | assumption | omega | rfl) ?_)); (with_reducible refine hK _ ?_); clear hK K)) | ((with_reducible refine evL_nil ?_); (with_reducible refine hR _ ?_); clear hR R) | ((with_reducible first | refine evC_seq ?_ | refine evC_block ?_); intro Ψ hΨ hΨ') | ((with_reducible refine evC_region ?_); intro R hR) | ((with_reducible refine hΨ _ ?_); clear hΨ hΨ' Ψ) | ((with_reducible refine hΨ' _ _ ?_ ?_); (focus (first | ((intro hx; cases hx); done) | ((intro j hj; cases hj); done) | (intro j hj; cases hj; (decide); done))); clear hΨ hΨ' Ψ) | (with_reducible first | refine evC_skip ?_ | refine evC_ret ?_ | refine evC_exit ?_) | ((with_reducible apply evC_cond); rfl; rfl; all_goals (intro hc; first | (exact absurd hc (by decide)) | (try simp only at hc))))))
      all_goals exact ⟨by simp, ⟨_, rfl, nil3 _⟩, leH_get (by simp [leH, hget])⟩
theorem reach_fn (x : Xs) (hx : x.ok) (fx : x.few) (s : Sp) (os : s.ok) : Fn Try.prog 49 [xsA x, spA s] [] (res3 (reachL x s)) [] := by
  have ck := checkX_fn x hx fx
  have cp := copiedX_fn x fx
  have pt := putS_fn false x.sp (by have := fx.2.1; omega) hx.2.1 s os
  have e := putL_err (key := Sp.key) x.sp s
  unfold reachL
  generalize putL Sp.key x.sp s = r at pt e ⊢
  obtain ⟨l, c, n⟩ := r
  obtain ⟨A, S, P⟩ := x
  obtain ⟨sa, sk⟩ := s
  dsimp only at *
  cases h : okXs ⟨A, S, P⟩ with
  | false =>
    rw [h] at ck
    simp only [Bool.false_eq_true, if_false] at ck ⊢
    (refine fn_of Try.func49 rfl (by rfl) ?_; simp only [Try.ntmps49, List.length_cons, List.length_nil, Nat.reduceAdd, Nat.reduceSub, List.replicate, List.cons_append, List.nil_append])
    (repeat (any_goals (first | ((with_reducible refine evL_call ?_ ?_ ?_); rfl; rfl; intro K hK; ((apply opA_callB (ck); rfl; rfl; rfl; rfl; exact Try.func20); kernel_rfl; rfl; (simp only [go_sem]; rfl); (simp only [AV.inNL, AV.inN, inNL_map, Bool.and_true])); (simp only [go_sem]; (with_reducible refine hK _ ?_); clear hK K)) | ((with_reducible refine evL_one ?_ ?_); rfl; intro K hK; simp only [go_sem]; ((repeat (refine And.intro (by first | assumption | omega | rfl) ?_)); (with_reducible refine hK _ ?_); clear hK K)) | ((with_reducible refine evL_nil ?_); (with_reducible refine hR _ ?_); clear hR R) | ((with_reducible first | refine evC_seq ?_ | refine evC_block ?_); intro Ψ hΨ hΨ') | ((with_reducible refine evC_region ?_); intro R hR) | ((with_reducible refine hΨ _ ?_); clear hΨ hΨ' Ψ) | ((with_reducible refine hΨ' _ _ ?_ ?_); (focus (first | ((intro hx; cases hx); done) | ((intro j hj; cases hj); done) | (intro j hj; cases hj; (decide); done))); clear hΨ hΨ' Ψ) | (with_reducible first | refine evC_skip ?_ | refine evC_ret ?_ | refine evC_exit ?_) | ((with_reducible apply evC_cond); rfl; rfl; all_goals (intro hc; first | (exact absurd hc (by decide)) | (try simp only at hc))))))
    all_goals exact ⟨by simp, ⟨_, rfl, nil3 _⟩, leH_get (by simp [leH, hget])⟩
  | true =>
    rw [h] at ck
    simp only [if_true] at ck ⊢
    by_cases h0 : n = 0
    · rw [decide_eq_true h0, Bool.not_true] at e
      rw [if_pos h0]
      (refine fn_of Try.func49 rfl (by rfl) ?_; simp only [Try.ntmps49, List.length_cons, List.length_nil, Nat.reduceAdd, Nat.reduceSub, List.replicate, List.cons_append, List.nil_append])
      (repeat (any_goals (first | ((with_reducible refine evL_call ?_ ?_ ?_); rfl; rfl; intro K hK; ((first | (apply opA_callB (ck); rfl; rfl; rfl; rfl; exact Try.func20) | (apply opA_callB (pt); rfl; rfl; rfl; rfl; exact Try.func65) | (apply opA_callB (cp); rfl; rfl; rfl; rfl; exact Try.func37)); kernel_rfl; rfl; (simp only [go_sem, e]; rfl); (simp only [AV.inNL, AV.inN, inNL_map, Bool.and_true])); (simp only [go_sem, e, go_sem]; (with_reducible refine hK _ ?_); clear hK K)) | ((with_reducible refine evL_one ?_ ?_); rfl; intro K hK; simp only [go_sem, e, go_sem]; ((repeat (refine And.intro (by first | assumption | omega | rfl) ?_)); (with_reducible refine hK _ ?_); clear hK K)) | ((with_reducible refine evL_nil ?_); (with_reducible refine hR _ ?_); clear hR R) | ((with_reducible first | refine evC_seq ?_ | refine evC_block ?_); intro Ψ hΨ hΨ') | ((with_reducible refine evC_region ?_); intro R hR) | ((with_reducible refine hΨ _ ?_); clear hΨ hΨ' Ψ) | ((with_reducible refine hΨ' _ _ ?_ ?_); (focus (first | ((intro hx; cases hx); done) | ((intro j hj; cases hj); done) | (intro j hj; cases hj; (decide); done))); clear hΨ hΨ' Ψ) | (with_reducible first | refine evC_skip ?_ | refine evC_ret ?_ | refine evC_exit ?_) | ((with_reducible apply evC_cond); rfl; rfl; all_goals (intro hc; first | (exact absurd hc (by decide)) | (try simp only at hc))))))
      all_goals (refine ⟨by simp, ⟨_, ?_, AV.le_refl _⟩, leH_get (by simp [leH, hget])⟩; simp only [Try.results49, resL, ldA, oneOf, go_sem])
    · rw [decide_eq_false h0, Bool.not_false] at e
      rw [if_neg h0]
      (refine fn_of Try.func49 rfl (by rfl) ?_; simp only [Try.ntmps49, List.length_cons, List.length_nil, Nat.reduceAdd, Nat.reduceSub, List.replicate, List.cons_append, List.nil_append])
      (repeat (any_goals (first | ((with_reducible refine evL_call ?_ ?_ ?_); rfl; rfl; intro K hK; ((first | (apply opA_callB (ck); rfl; rfl; rfl; rfl; exact Try.func20) | (apply opA_callB (pt); rfl; rfl; rfl; rfl; exact Try.func65)); kernel_rfl; rfl; (simp only [go_sem, e]; rfl); (simp only [AV.inNL, AV.inN, inNL_map, Bool.and_true])); (simp only [go_sem, e, go_sem]; (with_reducible refine hK _ ?_); clear hK K)) | ((with_reducible refine evL_one ?_ ?_); rfl; intro K hK; simp only [go_sem, e, go_sem]; ((repeat (refine And.intro (by first | assumption | omega | rfl) ?_)); (with_reducible refine hK _ ?_); clear hK K)) | ((with_reducible refine evL_nil ?_); (with_reducible refine hR _ ?_); clear hR R) | ((with_reducible first | refine evC_seq ?_ | refine evC_block ?_); intro Ψ hΨ hΨ') | ((with_reducible refine evC_region ?_); intro R hR) | ((with_reducible refine hΨ _ ?_); clear hΨ hΨ' Ψ) | ((with_reducible refine hΨ' _ _ ?_ ?_); (focus (first | ((intro hx; cases hx); done) | ((intro j hj; cases hj); done) | (intro j hj; cases hj; (decide); done))); clear hΨ hΨ' Ψ) | (with_reducible first | refine evC_skip ?_ | refine evC_ret ?_ | refine evC_exit ?_) | ((with_reducible apply evC_cond); rfl; rfl; all_goals (intro hc; first | (exact absurd hc (by decide)) | (try simp only at hc))))))
      all_goals exact ⟨by simp, ⟨_, rfl, nil3 _⟩, leH_get (by simp [leH, hget])⟩
theorem warm_fn (x : Xs) (hx : x.ok) (fx : x.few) (a : Int) : Fn Try.prog 17 [xsA x, vi .u64 a] [] (vb (okXs x && decide (a ∈ x.ad))) [] := by
  have ck := checkX_fn x hx fx
  have ct := containsA_fn false x.ad (by have := fx.1; omega) a
  obtain ⟨A, S, P⟩ := x
  dsimp only at *
  generalize decide (a ∈ A) = q at ct ⊢
  cases h : okXs ⟨A, S, P⟩ with
  | false =>
    rw [h] at ck
    simp only [Bool.false_eq_true, if_false] at ck
    (refine fn_of Try.func17 rfl (by rfl) ?_; simp only [Try.ntmps17, List.length_cons, List.length_nil, Nat.reduceAdd, Nat.reduceSub, List.replicate, List.cons_append, List.nil_append])
    (repeat (any_goals (first | ((with_reducible refine evL_call ?_ ?_ ?_); rfl; rfl; intro K hK; ((first | (apply opA_callB (ck); rfl; rfl; rfl; rfl; exact Try.func20) | (apply opA_callB (ct); rfl; rfl; rfl; rfl; exact Try.func16)); kernel_rfl; rfl; (simp only [go_sem]; rfl); (simp only [AV.inNL, AV.inN, inNL_map, Bool.and_true])); (simp only [go_sem]; (with_reducible refine hK _ ?_); clear hK K)) | ((with_reducible refine evL_one ?_ ?_); rfl; intro K hK; simp only [go_sem]; ((repeat (refine And.intro (by first | assumption | omega | rfl) ?_)); (with_reducible refine hK _ ?_); clear hK K)) | ((with_reducible refine evL_nil ?_); (with_reducible refine hR _ ?_); clear hR R) | ((with_reducible first | refine evC_seq ?_ | refine evC_block ?_); intro Ψ hΨ hΨ') | ((with_reducible refine evC_region ?_); intro R hR) | ((with_reducible refine hΨ _ ?_); clear hΨ hΨ' Ψ) | ((with_reducible refine hΨ' _ _ ?_ ?_); (focus (first | ((intro hx; cases hx); done) | ((intro j hj; cases hj); done) | (intro j hj; cases hj; (decide); done))); clear hΨ hΨ' Ψ) | (with_reducible first | refine evC_skip ?_ | refine evC_ret ?_ | refine evC_exit ?_) | ((with_reducible apply evL_unmet); rfl; rfl; rfl; (try simp only [go_sem])) | ((with_reducible apply evL_grd); rfl; rfl; rfl; all_goals (intro hb; first | (exact absurd hb (by decide)) | ((try simp only [Bool.not_true, Bool.not_false] at hb); (first | ((with_reducible intro K hK); (first | ((apply opA_callB (ct); rfl; rfl; rfl; rfl; exact Try.func16); kernel_rfl; rfl; (simp only [go_sem]; rfl); (simp only [AV.inNL, AV.inN, inNL_map, Bool.and_true])) | skip); simp only [go_sem]; ((repeat (refine And.intro (by first | assumption | omega | rfl) ?_)); (with_reducible refine hK _ ?_); clear hK K)) | ((fail_if_success (with_reducible intro _)); simp only [go_sem]))))) | ((with_reducible apply evC_cond); rfl; rfl; all_goals (intro hc; first | (exact absurd hc (by decide)) | (try simp only at hc))))))
    all_goals (refine ⟨by simp, ⟨_, ?_, AV.le_refl _⟩, leH_get (by simp [leH, hget])⟩; simp only [Try.results17, resL, ldA, oneOf, go_sem])
    all_goals rfl
  | true =>
    rw [h] at ck
    simp only [if_true] at ck
    (refine fn_of Try.func17 rfl (by rfl) ?_; simp only [Try.ntmps17, List.length_cons, List.length_nil, Nat.reduceAdd, Nat.reduceSub, List.replicate, List.cons_append, List.nil_append])
    (repeat (any_goals (first | ((with_reducible refine evL_call ?_ ?_ ?_); rfl; rfl; intro K hK; ((first | (apply opA_callB (ck); rfl; rfl; rfl; rfl; exact Try.func20) | (apply opA_callB (ct); rfl; rfl; rfl; rfl; exact Try.func16)); kernel_rfl; rfl; (simp only [go_sem]; rfl); (simp only [AV.inNL, AV.inN, inNL_map, Bool.and_true])); (simp only [go_sem]; (with_reducible refine hK _ ?_); clear hK K)) | ((with_reducible refine evL_one ?_ ?_); rfl; intro K hK; simp only [go_sem]; ((repeat (refine And.intro (by first | assumption | omega | rfl) ?_)); (with_reducible refine hK _ ?_); clear hK K)) | ((with_reducible refine evL_nil ?_); (with_reducible refine hR _ ?_); clear hR R) | ((with_reducible first | refine evC_seq ?_ | refine evC_block ?_); intro Ψ hΨ hΨ') | ((with_reducible refine evC_region ?_); intro R hR) | ((with_reducible refine hΨ _ ?_); clear hΨ hΨ' Ψ) | ((with_reducible refine hΨ' _ _ ?_ ?_); (focus (first | ((intro hx; cases hx); done) | ((intro j hj; cases hj); done) | (intro j hj; cases hj; (decide); done))); clear hΨ hΨ' Ψ) | (with_reducible first | refine evC_skip ?_ | refine evC_ret ?_ | refine evC_exit ?_) | ((with_reducible apply evL_unmet); rfl; rfl; rfl; (try simp only [go_sem])) | ((with_reducible apply evL_grd); rfl; rfl; rfl; all_goals (intro hb; first | (exact absurd hb (by decide)) | ((try simp only [Bool.not_true, Bool.not_false] at hb); (first | ((with_reducible intro K hK); (first | ((apply opA_callB (ct); rfl; rfl; rfl; rfl; exact Try.func16); kernel_rfl; rfl; (simp only [go_sem]; rfl); (simp only [AV.inNL, AV.inN, inNL_map, Bool.and_true])) | skip); simp only [go_sem]; ((repeat (refine And.intro (by first | assumption | omega | rfl) ?_)); (with_reducible refine hK _ ?_); clear hK K)) | ((fail_if_success (with_reducible intro _)); simp only [go_sem]))))) | ((with_reducible apply evC_cond); rfl; rfl; all_goals (intro hc; first | (exact absurd hc (by decide)) | (try simp only at hc))))))
    all_goals (refine ⟨by simp, ⟨_, ?_, AV.le_refl _⟩, leH_get (by simp [leH, hget])⟩; simp only [Try.results17, resL, ldA, oneOf, go_sem])
    all_goals rfl
theorem new_fn (ex : Bool) (l : List Int) (hl : l.length ≤ 1000000) (hu : ∀ a ∈ l, U a) : ∃ r : List Int, r.Pairwise (· < ·) ∧ (∀ x, x ∈ r ↔ x ∈ l) ∧ r.length ≤ l.length ∧ Fn Try.prog 10 [asl ex l] [] (res2 (if r.length ≤ 400 then (⟨r, [], []⟩, 0) else (⟨[], [], []⟩, 6))) [] := by
  obtain ⟨r, h1, h2, h3, so⟩ := sorted_any ex l hl hu
  refine ⟨r, h1, h2, h3, ?_⟩
  by_cases h : r.length ≤ 400
  · have e : decide ((r.length : Int) > 400) = false := decide_eq_false (by omega)
    rw [if_pos h]
    (refine fn_of Try.func10 rfl (by rfl) ?_; simp only [Try.ntmps10, List.length_cons, List.length_nil, Nat.reduceAdd, Nat.reduceSub, List.replicate, List.cons_append, List.nil_append])
    (repeat (any_goals (first | ((with_reducible refine evL_call ?_ ?_ ?_); rfl; rfl; intro K hK; ((apply opA_callB (so); rfl; rfl; rfl; rfl; exact Try.func29); kernel_rfl; rfl; (simp only [go_sem, e]; rfl); (simp only [AV.inNL, AV.inN, inNL_map, Bool.and_true])); (simp only [go_sem, e, go_sem]; (with_reducible refine hK _ ?_); clear hK K)) | ((with_reducible refine evL_one ?_ ?_); rfl; intro K hK; simp only [go_sem, e, go_sem]; ((repeat (refine And.intro (by first | assumption | omega | rfl) ?_)); (with_reducible refine hK _ ?_); clear hK K)) | ((with_reducible refine evL_nil ?_); (with_reducible refine hR _ ?_); clear hR R) | ((with_reducible first | refine evC_seq ?_ | refine evC_block ?_); intro Ψ hΨ hΨ') | ((with_reducible refine evC_region ?_); intro R hR) | ((with_reducible refine hΨ _ ?_); clear hΨ hΨ' Ψ) | ((with_reducible refine hΨ' _ _ ?_ ?_); (focus (first | ((intro hx; cases hx); done) | ((intro j hj; cases hj); done) | (intro j hj; cases hj; (decide); done))); clear hΨ hΨ' Ψ) | (with_reducible first | refine evC_skip ?_ | refine evC_ret ?_ | refine evC_exit ?_) | ((with_reducible apply evC_cond); rfl; rfl; all_goals (intro hc; first | (exact absurd hc (by decide)) | (try simp only at hc))))))
    all_goals exact ⟨by simp, ⟨_, rfl, AV.le_tupL ⟨AV.le_agg ⟨AV.le_refl _, AV.le_nil _ _, AV.le_nil _ _, trivial⟩, AV.le_refl _, trivial⟩⟩, leH_get (by simp [leH, hget])⟩
  · have e : decide ((r.length : Int) > 400) = true := decide_eq_true (by omega)
    rw [if_neg h]
    (refine fn_of Try.func10 rfl (by rfl) ?_; simp only [Try.ntmps10, List.length_cons, List.length_nil, Nat.reduceAdd, Nat.reduceSub, List.replicate, List.cons_append, List.nil_append])
    (repeat (any_goals (first | ((with_reducible refine evL_call ?_ ?_ ?_); rfl; rfl; intro K hK; ((apply opA_callB (so); rfl; rfl; rfl; rfl; exact Try.func29); kernel_rfl; rfl; (simp only [go_sem, e]; rfl); (simp only [AV.inNL, AV.inN, inNL_map, Bool.and_true])); (simp only [go_sem, e, go_sem]; (with_reducible refine hK _ ?_); clear hK K)) | ((with_reducible refine evL_one ?_ ?_); rfl; intro K hK; simp only [go_sem, e, go_sem]; ((repeat (refine And.intro (by first | assumption | omega | rfl) ?_)); (with_reducible refine hK _ ?_); clear hK K)) | ((with_reducible refine evL_nil ?_); (with_reducible refine hR _ ?_); clear hR R) | ((with_reducible first | refine evC_seq ?_ | refine evC_block ?_); intro Ψ hΨ hΨ') | ((with_reducible refine evC_region ?_); intro R hR) | ((with_reducible refine hΨ _ ?_); clear hΨ hΨ' Ψ) | ((with_reducible refine hΨ' _ _ ?_ ?_); (focus (first | ((intro hx; cases hx); done) | ((intro j hj; cases hj); done) | (intro j hj; cases hj; (decide); done))); clear hΨ hΨ' Ψ) | (with_reducible first | refine evC_skip ?_ | refine evC_ret ?_ | refine evC_exit ?_) | ((with_reducible apply evC_cond); rfl; rfl; all_goals (intro hc; first | (exact absurd hc (by decide)) | (try simp only at hc))))))
    all_goals exact ⟨by simp, ⟨_, rfl, nil2 _⟩, leH_get (by simp [leH, hget])⟩
end Go.Proofs.Ytmlalhmljmajbaa

