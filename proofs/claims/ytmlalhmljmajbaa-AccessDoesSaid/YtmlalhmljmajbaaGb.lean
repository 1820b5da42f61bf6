/-
  Spots and what is passing, by value; their orders; reckoned.
-/
import Derived.Test.YtmlalhmljmajbaaGa
import Derived.Test.YtmlalhmljmajbaaWc
import Derived.Test.YtmlalhmljmajbaaAvBs
namespace Go.Proofs.Ytmlalhmljmajbaa
open Go.RowKit
open Nat (reduceBEq)
set_option linter.unusedVariables false
set_option linter.unusedSimpArgs false
set_option maxRecDepth 20000
set_option maxHeartbeats 2000000
theorem isNaN_fn (a : Int) : Fn Try.prog 59 [vi .u64 a] [] (vb false) [] := by
  (refine fn_of Try.func59 rfl (by rfl) ?_; simp only [Try.ntmps59, List.length_cons, List.length_nil, Nat.reduceAdd, Nat.reduceSub, List.replicate, List.cons_append, List.nil_append])
  (repeat (any_goals (first | ((with_reducible refine evL_one ?_ ?_); rfl; intro K hK; simp only [go_sem]; ((repeat (refine And.intro (by first | assumption | omega | rfl) ?_)); (with_reducible refine hK _ ?_); clear hK K)) | ((with_reducible refine evL_nil ?_); (with_reducible refine hR _ ?_); clear hR R) | ((with_reducible first | refine evC_seq ?_ | refine evC_block ?_); intro Ψ hΨ hΨ') | ((with_reducible refine evC_region ?_); intro R hR) | ((with_reducible refine hΨ _ ?_); clear hΨ hΨ' Ψ) | ((with_reducible refine hΨ' _ _ ?_ ?_); (focus (first | ((intro hx; cases hx); done) | ((intro j hj; cases hj); done) | (intro j hj; cases hj; (decide); done))); clear hΨ hΨ' Ψ) | (with_reducible first | refine evC_skip ?_ | refine evC_ret ?_ | refine evC_exit ?_) | ((with_reducible apply evC_cond); rfl; rfl; all_goals (intro hc; first | (exact absurd hc (by decide)) | (try simp only at hc))))))
  all_goals (refine ⟨by simp, ⟨_, ?_, AV.le_refl _⟩, leH_get (by simp [leH, hget])⟩; simp only [Try.results59, resL, ldA, oneOf, go_sem])
  all_goals simp
/-- -1, 0, 1 -/
def cmpI (a b : Int) : Int := if a < b then -1 else if b < a then 1 else 0
theorem compare_fn (a b : Int) : Fn Try.prog 34 [vi .u64 a, vi .u64 b] [] (vi .i64 (cmpI a b)) [] := by
  (refine fn_of Try.func34 rfl (by rfl) ?_; simp only [Try.ntmps34, List.length_cons, List.length_nil, Nat.reduceAdd, Nat.reduceSub, List.replicate, List.cons_append, List.nil_append])
  (repeat (any_goals (first | ((with_reducible refine evL_call ?_ ?_ ?_); rfl; rfl; intro K hK; ((apply opA_callB (isNaN_fn _); rfl; rfl; rfl; rfl; exact Try.func59); kernel_rfl; rfl; (simp only [go_sem]; rfl); (simp only [AV.inNL, AV.inN, inNL_map, Bool.and_true])); (simp only [go_sem]; (with_reducible refine hK _ ?_); clear hK K)) | ((with_reducible refine evL_one ?_ ?_); rfl; intro K hK; simp only [go_sem]; ((repeat (refine And.intro (by first | assumption | omega | rfl) ?_)); (with_reducible refine hK _ ?_); clear hK K)) | ((with_reducible refine evL_nil ?_); (with_reducible refine hR _ ?_); clear hR R) | ((with_reducible first | refine evC_seq ?_ | refine evC_block ?_); intro Ψ hΨ hΨ') | ((with_reducible refine evC_region ?_); intro R hR) | ((with_reducible refine hΨ _ ?_); clear hΨ hΨ' Ψ) | ((with_reducible refine hΨ' _ _ ?_ ?_); (focus (first | ((intro hx; cases hx); done) | ((intro j hj; cases hj); done) | (intro j hj; cases hj; (decide); done))); clear hΨ hΨ' Ψ) | (with_reducible first | refine evC_skip ?_ | refine evC_ret ?_ | refine evC_exit ?_) | ((with_reducible apply evC_cond); rfl; rfl; all_goals (intro hc; first | (exact absurd hc (by decide)) | (try simp only at hc))))))
  all_goals (refine ⟨by simp, ⟨_, ?_, AV.le_refl _⟩, leH_get (by simp [leH, hget])⟩; simp only [Try.results34, resL, ldA, oneOf, go_sem])
  all_goals simp_all [cmpI]
  all_goals omega
abbrev aKey (a : Int) : Int := a
structure Sp where
  a : Int
  k : Nat
structure Pg where
  s : Sp
  v : Nat
def Sp.pv (s : Sp) : List PV := [.v (.int .u64 s.a), .v (.int .u64 (l0 s.k)), .v (.int .u64 (l1 s.k)), .v (.int .u64 (l2 s.k)), .v (.int .u64 (l3 s.k))]
def Pg.pv (p : Pg) : List PV := [.v (.int .u64 p.s.a), .v (.int .u64 (l0 p.s.k)), .v (.int .u64 (l1 p.s.k)), .v (.int .u64 (l2 p.s.k)), .v (.int .u64 (l3 p.s.k)), .v (.int .u64 (l0 p.v)), .v (.int .u64 (l1 p.v)), .v (.int .u64 (l2 p.v)), .v (.int .u64 (l3 p.v))]
theorem sp_len (s : Sp) : s.pv.length = 5 := rfl
theorem pg_len (p : Pg) : p.pv.length = 9 := rfl
abbrev spA (s : Sp) : AV := .agg [vi .u64 s.a, vi .u64 (l0 s.k), vi .u64 (l1 s.k), vi .u64 (l2 s.k), vi .u64 (l3 s.k)]
abbrev pgA (p : Pg) : AV := .agg [vi .u64 p.s.a, vi .u64 (l0 p.s.k), vi .u64 (l1 p.s.k), vi .u64 (l2 p.s.k), vi .u64 (l3 p.s.k), vi .u64 (l0 p.v), vi .u64 (l1 p.v), vi .u64 (l2 p.v), vi .u64 (l3 p.v)]
abbrev spl5 (ex : Bool) (l : List Sp) : AV := .c (.sl ex 5 l.length (l.flatMap Sp.pv))
abbrev pgl9 (ex : Bool) (l : List Pg) : AV := .c (.sl ex 9 l.length (l.flatMap Pg.pv))
theorem spl5_at {l : List Sp} {i : Nat} {y : Sp} (h : l[i]? = some y) : ((l.flatMap Sp.pv).drop (i * 5)).take 5 = [.v (.int .u64 y.a), .v (.int .u64 (l0 y.k)), .v (.int .u64 (l1 y.k)), .v (.int .u64 (l2 y.k)), .v (.int .u64 (l3 y.k))] := flat_at (f := Sp.pv) sp_len h
theorem pgl9_at {l : List Pg} {i : Nat} {y : Pg} (h : l[i]? = some y) : ((l.flatMap Pg.pv).drop (i * 9)).take 9 = [.v (.int .u64 y.s.a), .v (.int .u64 (l0 y.s.k)), .v (.int .u64 (l1 y.s.k)), .v (.int .u64 (l2 y.s.k)), .v (.int .u64 (l3 y.s.k)), .v (.int .u64 (l0 y.v)), .v (.int .u64 (l1 y.v)), .v (.int .u64 (l2 y.v)), .v (.int .u64 (l3 y.v))] := flat_at (f := Pg.pv) pg_len h
def Sp.ok (s : Sp) : Prop := U s.a ∧ s.k < WW
def Pg.ok (p : Pg) : Prop := p.s.ok ∧ p.v < WW
def Sp.key (s : Sp) : Int := s.a * (WW : Int) + (s.k : Int)
abbrev Pg.key (p : Pg) : Int := p.s.key
theorem key_lt {W a b : Int} {x y : Int} (hx : 0 ≤ x ∧ x < W) (hy : 0 ≤ y ∧ y < W) : a * W + x < b * W + y ↔ a < b ∨ (a = b ∧ x < y) := by
  rcases Int.lt_trichotomy a b with h | h | h
  · have e : (a + 1) * W ≤ b * W := Int.mul_le_mul_of_nonneg_right (by omega) (by omega)
    rw [Int.add_mul] at e
    omega
  · subst h; omega
  · have e : (b + 1) * W ≤ a * W := Int.mul_le_mul_of_nonneg_right (by omega) (by omega)
    rw [Int.add_mul] at e
    omega
theorem Sp.key_lt {s t : Sp} (hs : s.ok) (ht : t.ok) : s.key < t.key ↔ s.a < t.a ∨ (s.a = t.a ∧ s.k < t.k) := by
  have h := @Go.Proofs.Ytmlalhmljmajbaa.key_lt (WW : Int) s.a t.a s.k t.k ⟨by omega, by have := hs.2; exact_mod_cast this⟩ ⟨by omega, by have := ht.2; exact_mod_cast this⟩
  unfold Sp.key
  rw [h]
  omega
theorem Sp.key_inj {s t : Sp} (hs : s.ok) (ht : t.ok) (h : s.key = t.key) : s = t := by
  have h1 := Sp.key_lt hs ht
  have h2 := Sp.key_lt ht hs
  rw [h] at h1 h2
  obtain ⟨a, k⟩ := s
  obtain ⟨b, m⟩ := t
  dsimp only at h1 h2
  have e1 : a = b := by omega
  have e2 : k = m := by omega
  rw [e1, e2]
theorem cmp_key {s t : Sp} (hs : s.ok) (ht : t.ok) : (if cmpI s.a t.a = 0 then (if s.k < t.k then -1 else if t.k < s.k then 1 else 0) else cmpI s.a t.a) = cmpI s.key t.key := by
  have h1 := Sp.key_lt hs ht
  have h2 := Sp.key_lt ht hs
  generalize s.key = x at *
  generalize t.key = y at *
  unfold cmpI
  rcases Int.lt_trichotomy s.a t.a with h | h | h
  · have hx : x < y := by omega
    simp [h, hx]
  · rcases Nat.lt_trichotomy s.k t.k with g | g | g
    · have hx : x < y := by omega
      simp [h, g, hx]
    · have hx : ¬ x < y := by omega
      have hy : ¬ y < x := by omega
      simp [h, g, hx, hy]
    · have hx : ¬ x < y := by omega
      have hy : y < x := by omega
      have g2 : ¬ s.k < t.k := by omega
      simp [h, g, hx, hy, g2]
  · have hx : ¬ x < y := by omega
    have hy : y < x := by omega
    have g2 : ¬ s.a < t.a := by omega
    simp [h, hx, hy, g2]
theorem cmpor_fn (ex : Bool) (x y : Int) : Fn Try.prog 33 [.c (.sl ex 1 2 [.v (.int .i64 x), .v (.int .i64 y)])] [] (vi .i64 (if x = 0 then y else x)) [] := by
  (refine fn_of Try.func33 rfl (by rfl) ?_; simp only [Try.ntmps33, List.length_cons, List.length_nil, Nat.reduceAdd, Nat.reduceSub, List.replicate, List.cons_append, List.nil_append])
  (repeat (any_goals (first | ((with_reducible refine evL_one ?_ ?_); rfl; intro K hK; simp (disch := omega) only [go_sem, wrI, Int.reduceAdd, go_sem]; ((repeat (refine And.intro (by first | assumption | omega | rfl) ?_)); (with_reducible refine hK _ ?_); clear hK K)) | ((with_reducible refine evL_nil ?_); (with_reducible refine hR _ ?_); clear hR R) | ((with_reducible first | refine evC_seq ?_ | refine evC_block ?_); intro Ψ hΨ hΨ') | ((with_reducible refine evC_region ?_); intro R hR) | ((with_reducible refine hΨ _ ?_); clear hΨ hΨ' Ψ) | ((with_reducible refine hΨ' _ _ ?_ ?_); (focus (first | ((intro hx; cases hx); done) | ((intro j hj; cases hj); done) | (intro j hj; cases hj; (decide); done))); clear hΨ hΨ' Ψ) | (with_reducible first | refine evC_skip ?_ | refine evC_ret ?_ | refine evC_exit ?_) | ((with_reducible apply evC_cond); rfl; rfl; all_goals (intro hc; first | (exact absurd hc (by decide)) | (try simp only at hc))) | (with_reducible refine evC_rounds 3 ?_) | ((with_reducible refine evR_succ ?_); intro Ψ hΨ hΨ'))))
  all_goals (refine ⟨by simp, ⟨_, ?_, AV.le_refl _⟩, leH_get (by simp [leH, hget])⟩; simp only [Try.results33, resL, ldA, oneOf, go_sem])
  all_goals simp_all
theorem compareS_fn (s t : Sp) (hs : s.ok) (ht : t.ok) : Fn Try.prog 14 [spA s, spA t] [] (vi .i64 (cmpI s.key t.key)) [] := by
  have c1 := compare_fn s.a t.a
  have c2 := cmp_fn s.k t.k hs.2 ht.2
  rw [← cmp_key hs ht]
  generalize cmpI s.a t.a = x at c1 ⊢
  generalize (if s.k < t.k then -1 else if t.k < s.k then 1 else 0 : Int) = y at c2 ⊢
  (refine fn_of Try.func14 rfl (by rfl) ?_; simp only [Try.ntmps14, List.length_cons, List.length_nil, Nat.reduceAdd, Nat.reduceSub, List.replicate, List.cons_append, List.nil_append])
  (repeat (any_goals (first | ((with_reducible refine evL_call ?_ ?_ ?_); rfl; rfl; intro K hK; ((first | (apply opA_callB (c1); rfl; rfl; rfl; rfl; exact Try.func34) | (apply opA_callB (c2); rfl; rfl; rfl; rfl; exact Try.func35) | (apply opA_callB (cmpor_fn _ _ _); rfl; rfl; rfl; rfl; exact Try.func33)); kernel_rfl; rfl; (simp only [go_sem]; rfl); (simp only [AV.inNL, AV.inN, inNL_map, Bool.and_true])); (simp only [go_sem]; (with_reducible refine hK _ ?_); clear hK K)) | ((with_reducible refine evL_one ?_ ?_); rfl; intro K hK; simp only [go_sem]; ((repeat (refine And.intro (by first | assumption | omega | rfl) ?_)); (with_reducible refine hK _ ?_); clear hK K)) | ((with_reducible refine evL_nil ?_); (with_reducible refine hR _ ?_); clear hR R) | ((with_reducible first | refine evC_seq ?_ | refine evC_block ?_); intro Ψ hΨ hΨ') | ((with_reducible refine evC_region ?_); intro R hR) | ((with_reducible refine hΨ _ ?_); clear hΨ hΨ' Ψ) | ((with_reducible refine hΨ' _ _ ?_ ?_); (focus (first | ((intro hx; cases hx); done) | ((intro j hj; cases hj); done) | (intro j hj; cases hj; (decide); done))); clear hΨ hΨ' Ψ) | (with_reducible first | refine evC_skip ?_ | refine evC_ret ?_ | refine evC_exit ?_) | ((with_reducible apply evC_cond); rfl; rfl; all_goals (intro hc; first | (exact absurd hc (by decide)) | (try simp only at hc))) | ((with_reducible refine evD_nil ?_ ?_); kernel_rfl; (with_reducible refine hR _ ?_); clear hR R) | ((first | ((with_reducible apply evD_fcall); rfl; rfl; ((first | (apply opF_callB (c1); rfl; rfl; rfl; rfl; exact Try.func34) | (apply opF_callB (c2); rfl; rfl; rfl; rfl; exact Try.func35) | (apply opF_callB (cmpor_fn _ _ _); rfl; rfl; rfl; rfl; exact Try.func33)); kernel_rfl; rfl; (simp only [go_sem]; rfl); (simp only [AV.inNL, AV.inN, inNL_map, Bool.and_true]))) | ((with_reducible apply evD_any); rfl; rfl; (simp only [rdE, rdOf, go_sem]; rfl); (intro τ hA hQ hN; ((try simp only [agree, Op.operands, Call.operands, go_sem, List.mem_cons, List.not_mem_nil, forall_eq_or_imp, forall_eq, List.append_toArray, Option.toArray] at hA); (try simp only [go_sem, List.mem_cons, List.not_mem_nil, forall_eq_or_imp, forall_eq] at hQ hN); (first | (revert hA; intro hA) | (have hA := True.intro)); (first | (revert hQ; intro hQ) | (have hQ := True.intro)); (first | (revert hN; intro hN) | (have hN := True.intro)); simp only [go_sem, hA, hQ, hN]; (repeat (refine And.intro (by first | assumption | omega | rfl) ?_)); (first | exact eff_rd _ _ _ | exact eff_st _ _ _ | exact eff_nw _ _ _ _)))) | ((first | ((with_reducible apply evD_one); rfl) | ((with_reducible apply evD_grd); rfl; rfl; rfl; rfl)); apply opF_buildSlice_flat; rfl; rfl; (focus (simp only [go_sem]; try rfl)); (focus (simp only [go_sem]; try rfl)); rfl; (first | omega | (dsimp only; omega) | (simp only [Option.isSome_some, Option.isSome_none]; omega) | (simp; omega) | (focus (simp; done))); (first | omega | (dsimp only; omega) | (simp only [Option.isSome_some, Option.isSome_none]; omega) | (simp; omega) | (focus (simp; done))); (first | omega | (dsimp only; omega) | (simp only [Option.isSome_some, Option.isSome_none]; omega) | (simp; omega) | (focus (simp; done))); (simp only [go_sem]; rfl); rfl; (focus ((simp only [unC, Option.map_some]); (try rfl))))); (simp only [St.eff, setO, hputs, go_sem])) | ((with_reducible refine evC_draw ?_ ?_ ?_ ?_); kernel_rfl; kernel_rfl; (first | kernel_rfl | simp [newNames, isNew, St.free, freeH, AV.refsL, AV.refs]); intro R hR))))
  all_goals (refine ⟨by simp, ⟨_, ?_, AV.le_refl _⟩, leH_get (by simp [leH, hget])⟩; simp only [Try.results14, resL, ldA, oneOf, go_sem])
theorem kept_fn (s t : Pg) (hs : s.ok) (ht : t.ok) : Fn Try.prog 47 [pgA s, pgA t] [] (vi .i64 (cmpI s.key t.key)) [] := by
  have c1 := compare_fn s.s.a t.s.a
  have c2 := cmp_fn s.s.k t.s.k hs.1.2 ht.1.2
  rw [← cmp_key hs.1 ht.1]
  generalize cmpI s.s.a t.s.a = x at c1 ⊢
  generalize (if s.s.k < t.s.k then -1 else if t.s.k < s.s.k then 1 else 0 : Int) = y at c2 ⊢
  (refine fn_of Try.func47 rfl (by rfl) ?_; simp only [Try.ntmps47, List.length_cons, List.length_nil, Nat.reduceAdd, Nat.reduceSub, List.replicate, List.cons_append, List.nil_append])
  (repeat (any_goals (first | ((with_reducible refine evL_call ?_ ?_ ?_); rfl; rfl; intro K hK; ((first | (apply opA_callB (c1); rfl; rfl; rfl; rfl; exact Try.func34) | (apply opA_callB (c2); rfl; rfl; rfl; rfl; exact Try.func35) | (apply opA_callB (cmpor_fn _ _ _); rfl; rfl; rfl; rfl; exact Try.func33)); kernel_rfl; rfl; (simp only [go_sem]; rfl); (simp only [AV.inNL, AV.inN, inNL_map, Bool.and_true])); (simp only [go_sem]; (with_reducible refine hK _ ?_); clear hK K)) | ((with_reducible refine evL_one ?_ ?_); rfl; intro K hK; simp only [go_sem]; ((repeat (refine And.intro (by first | assumption | omega | rfl) ?_)); (with_reducible refine hK _ ?_); clear hK K)) | ((with_reducible refine evL_nil ?_); (with_reducible refine hR _ ?_); clear hR R) | ((with_reducible first | refine evC_seq ?_ | refine evC_block ?_); intro Ψ hΨ hΨ') | ((with_reducible refine evC_region ?_); intro R hR) | ((with_reducible refine hΨ _ ?_); clear hΨ hΨ' Ψ) | ((with_reducible refine hΨ' _ _ ?_ ?_); (focus (first | ((intro hx; cases hx); done) | ((intro j hj; cases hj); done) | (intro j hj; cases hj; (decide); done))); clear hΨ hΨ' Ψ) | (with_reducible first | refine evC_skip ?_ | refine evC_ret ?_ | refine evC_exit ?_) | ((with_reducible apply evC_cond); rfl; rfl; all_goals (intro hc; first | (exact absurd hc (by decide)) | (try simp only at hc))) | ((with_reducible refine evD_nil ?_ ?_); kernel_rfl; (with_reducible refine hR _ ?_); clear hR R) | ((first | ((with_reducible apply evD_fcall); rfl; rfl; ((first | (apply opF_callB (c1); rfl; rfl; rfl; rfl; exact Try.func34) | (apply opF_callB (c2); rfl; rfl; rfl; rfl; exact Try.func35) | (apply opF_callB (cmpor_fn _ _ _); rfl; rfl; rfl; rfl; exact Try.func33)); kernel_rfl; rfl; (simp only [go_sem]; rfl); (simp only [AV.inNL, AV.inN, inNL_map, Bool.and_true]))) | ((with_reducible apply evD_any); rfl; rfl; (simp only [rdE, rdOf, go_sem]; rfl); (intro τ hA hQ hN; ((try simp only [agree, Op.operands, Call.operands, go_sem, List.mem_cons, List.not_mem_nil, forall_eq_or_imp, forall_eq, List.append_toArray, Option.toArray] at hA); (try simp only [go_sem, List.mem_cons, List.not_mem_nil, forall_eq_or_imp, forall_eq] at hQ hN); (first | (revert hA; intro hA) | (have hA := True.intro)); (first | (revert hQ; intro hQ) | (have hQ := True.intro)); (first | (revert hN; intro hN) | (have hN := True.intro)); simp only [go_sem, hA, hQ, hN]; (repeat (refine And.intro (by first | assumption | omega | rfl) ?_)); (first | exact eff_rd _ _ _ | exact eff_st _ _ _ | exact eff_nw _ _ _ _)))) | ((first | ((with_reducible apply evD_one); rfl) | ((with_reducible apply evD_grd); rfl; rfl; rfl; rfl)); apply opF_buildSlice_flat; rfl; rfl; (focus (simp only [go_sem]; try rfl)); (focus (simp only [go_sem]; try rfl)); rfl; (first | omega | (dsimp only; omega) | (simp only [Option.isSome_some, Option.isSome_none]; omega) | (simp; omega) | (focus (simp; done))); (first | omega | (dsimp only; omega) | (simp only [Option.isSome_some, Option.isSome_none]; omega) | (simp; omega) | (focus (simp; done))); (first | omega | (dsimp only; omega) | (simp only [Option.isSome_some, Option.isSome_none]; omega) | (simp; omega) | (focus (simp; done))); (simp only [go_sem]; rfl); rfl; (focus ((simp only [unC, Option.map_some]); (try rfl))))); (simp only [St.eff, setO, hputs, go_sem])) | ((with_reducible refine evC_draw ?_ ?_ ?_ ?_); kernel_rfl; kernel_rfl; (first | kernel_rfl | simp [newNames, isNew, St.free, freeH, AV.refsL, AV.refs]); intro R hR))))
  all_goals (refine ⟨by simp, ⟨_, ?_, AV.le_refl _⟩, leH_get (by simp [leH, hget])⟩; simp only [Try.results47, resL, ldA, oneOf, go_sem])
end Go.Proofs.Ytmlalhmljmajbaa

