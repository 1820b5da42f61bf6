/-
  Rows compared, and what is in them; reckoned.
-/
import Derived.Test.YtmlalhmljmajbaaGc
import Derived.Test.YtmlalhmljmajbaaGf
import Derived.Test.YtmlalhmljmajbaaGg
import Derived.Test.YtmlalhmljmajbaaGe
namespace Go.Proofs.Ytmlalhmljmajbaa
open Go.RowKit
open Nat (reduceBEq)
set_option linter.unusedVariables false
set_option linter.unusedSimpArgs false
set_option maxRecDepth 20000
set_option maxHeartbeats 2000000
instance decSp : DecidableEq Sp := fun p q => decidable_of_iff (p.a = q.a ∧ p.k = q.k) ⟨fun h => by cases p; cases q; simp_all, fun h => by rw [h]; exact ⟨rfl, rfl⟩⟩
instance decPg : DecidableEq Pg := fun p q => decidable_of_iff (p.s = q.s ∧ p.v = q.v) ⟨fun h => by cases p; cases q; simp_all, fun h => by rw [h]; exact ⟨rfl, rfl⟩⟩
theorem sp_eq {p q : Sp} (hp : p.ok) (hq : q.ok) : (p.a == q.a && (l0 p.k == l0 q.k && (l1 p.k == l1 q.k && (l2 p.k == l2 q.k && l3 p.k == l3 q.k)))) = decide (p = q) := by
  rw [wN_eq hp.2 hq.2]
  by_cases h1 : p.a = q.a
  · by_cases h2 : p.k = q.k
    · have e : p = q := by cases p; cases q; simp_all
      simp [h1, h2, e]
    · have e : ¬ p = q := fun h => h2 (by rw [h])
      simp [h1, h2, e]
  · have e : ¬ p = q := fun h => h1 (by rw [h])
    simp [h1, e]
theorem pg_eq {p q : Pg} (hp : p.ok) (hq : q.ok) : (p.s.a == q.s.a && (l0 p.s.k == l0 q.s.k && (l1 p.s.k == l1 q.s.k && (l2 p.s.k == l2 q.s.k && (l3 p.s.k == l3 q.s.k && (l0 p.v == l0 q.v && (l1 p.v == l1 q.v && (l2 p.v == l2 q.v && l3 p.v == l3 q.v)))))))) = decide (p = q) := by
  have h1 := sp_eq hp.1 hq.1
  have h2 := wN_eq hp.2 hq.2
  have e : (p.s.a == q.s.a && (l0 p.s.k == l0 q.s.k && (l1 p.s.k == l1 q.s.k && (l2 p.s.k == l2 q.s.k && (l3 p.s.k == l3 q.s.k && (l0 p.v == l0 q.v && (l1 p.v == l1 q.v && (l2 p.v == l2 q.v && l3 p.v == l3 q.v)))))))) = ((p.s.a == q.s.a && (l0 p.s.k == l0 q.s.k && (l1 p.s.k == l1 q.s.k && (l2 p.s.k == l2 q.s.k && l3 p.s.k == l3 q.s.k)))) && (l0 p.v == l0 q.v && (l1 p.v == l1 q.v && (l2 p.v == l2 q.v && l3 p.v == l3 q.v)))) := by simp only [Bool.and_assoc]
  rw [e, h1, h2, ← Bool.decide_and]
  exact decide_eq_decide.2 ⟨fun h => by cases p; cases q; simp_all, fun h => by rw [h]; exact ⟨rfl, rfl⟩⟩
theorem a_ne (x y : Int) : (x != y) = !decide (x = y) := by
  by_cases h : x = y
  · simp [h]
  · simp [h]
theorem indexA_fn (ex : Bool) (l : List Int) (hl : l.length ≤ 1000000) (a : Int) : ∃ r : Int, decide (r ≥ 0) = decide (a ∈ l) ∧ Fn Try.prog 38 [asl ex l, vi .u64 a] [] (vi .i64 r) [] := by
  by_cases ha : a ∈ l
  · obtain ⟨i1, hi1⟩ := List.mem_iff_getElem?.1 ha
    obtain ⟨i0, h0, h1, h2⟩ := first_out (L := fun j => !decide (l[j]? = some a)) (n := l.length) ⟨i1, (List.getElem?_eq_some_iff.1 hi1).1, by simp [hi1]⟩
    have h1' : l[i0]? = some a := by simpa using h1
    have h2' : ∀ j, j < i0 → l[j]? ≠ some a := fun j hj => by simpa using h2 j hj
    refine ⟨(i0 : Int), by rw [decide_eq_true ha]; simp, ?_⟩
    (refine fn_of Try.func38 rfl (by rfl) ?_; simp only [Try.ntmps38, List.length_cons, List.length_nil, Nat.reduceAdd, Nat.reduceSub, List.replicate, List.cons_append, List.nil_append])
    (repeat (any_goals (first | ((with_reducible refine evL_one ?_ ?_); rfl; intro K hK; simp only [go_sem]; ((repeat (refine And.intro (by first | assumption | omega | rfl) ?_)); (with_reducible refine hK _ ?_); clear hK K)) | ((with_reducible refine evL_nil ?_); (with_reducible refine hR _ ?_); clear hR R) | ((with_reducible first | refine evC_seq ?_ | refine evC_block ?_); intro Ψ hΨ hΨ') | ((with_reducible refine evC_region ?_); intro R hR) | ((with_reducible refine hΨ _ ?_); clear hΨ hΨ' Ψ) | ((with_reducible refine hΨ' _ _ ?_ ?_); (focus (first | ((intro hx; cases hx); done) | ((intro j hj; cases hj); done) | (intro j hj; cases hj; (decide); done))); clear hΨ hΨ' Ψ) | (with_reducible first | refine evC_skip ?_ | refine evC_ret ?_ | refine evC_exit ?_) | ((with_reducible apply evC_cond); rfl; rfl; all_goals (intro hc; first | (exact absurd hc (by decide)) | (try simp only at hc))))))
    refine evC_upto i0 (fun i => ⟨[asl ex l, vi .u64 a, .any, .any, .any, .any, .any, vi .i64 l.length, vi .i64 (i : Int), .any, .any, .any, .any, .any, .any, .any, .any, .any, .any], []⟩) (St.le_of (by simp [leT]) (by simp [leH])) ?_
    intro i hi Ψ hΨ hΨ'
    (try dsimp only at hΨ ⊢)
    have hlt : i < l.length := by omega
    obtain ⟨x, hx⟩ : ∃ x, l[i]? = some x := ⟨_, List.getElem?_eq_getElem hlt⟩
    have k1 : (decide ((i : Int) < (l.length : Int))) = true := by simp; omega
    have k2 := asl_at hx
    have k7 : (i : Int) + 1 = ((i + 1 : Nat) : Int) := by omega
    rcases Nat.lt_or_ge i i0 with hlt2 | hge
    · have k3 : (a == x) = false := by
        simp only [beq_eq_false_iff_ne, ne_eq]
        rintro rfl
        exact h2' i hlt2 hx
      (repeat (any_goals (first | ((with_reducible refine evL_one ?_ ?_); rfl; intro K hK; simp (disch := omega) only [go_sem, k1, k2, k3, k7, wrI, Nat.mul_one, go_sem]; ((repeat (refine And.intro (by first | assumption | omega | rfl) ?_)); (with_reducible refine hK _ ?_); clear hK K)) | ((with_reducible refine evL_nil ?_); (with_reducible refine hR _ ?_); clear hR R) | ((with_reducible first | refine evC_seq ?_ | refine evC_block ?_); intro Ψ hΨ hΨ') | ((with_reducible refine evC_region ?_); intro R hR) | ((with_reducible refine hΨ _ ?_); clear hΨ hΨ' Ψ) | ((with_reducible refine hΨ' _ _ ?_ ?_); (focus (first | ((intro hx; cases hx); done) | ((intro j hj; cases hj); done) | (intro j hj; cases hj; (decide); done))); clear hΨ hΨ' Ψ) | (with_reducible first | refine evC_skip ?_ | refine evC_ret ?_ | refine evC_exit ?_) | ((with_reducible apply evC_cond); rfl; rfl; all_goals (intro hc; first | (exact absurd hc (by decide)) | (try simp only at hc))))))
      all_goals exact hΨ _ hlt2 (St.le_of (by simp [leT]) (by simp [leH]))
    · have e : i = i0 := by omega
      have hxa : x = a := by
        rw [e, h1'] at hx
        exact (Option.some.inj hx).symm
      have k3 : (a == x) = true := by simp [hxa]
      rw [e] at k1 k2 ⊢
      (repeat (any_goals (first | ((with_reducible refine evL_one ?_ ?_); rfl; intro K hK; simp (disch := omega) only [go_sem, k1, k2, k3, wrI, Nat.mul_one, go_sem]; ((repeat (refine And.intro (by first | assumption | omega | rfl) ?_)); (with_reducible refine hK _ ?_); clear hK K)) | ((with_reducible refine evL_nil ?_); (with_reducible refine hR _ ?_); clear hR R) | ((with_reducible first | refine evC_seq ?_ | refine evC_block ?_); intro Ψ hΨ hΨ') | ((with_reducible refine evC_region ?_); intro R hR) | ((with_reducible refine hΨ _ ?_); clear hΨ hΨ' Ψ) | ((with_reducible refine hΨ' _ _ ?_ ?_); (focus (first | ((intro hx; cases hx); done) | ((intro j hj; cases hj); done) | (intro j hj; cases hj; (decide); done))); clear hΨ hΨ' Ψ) | (with_reducible first | refine evC_skip ?_ | refine evC_ret ?_ | refine evC_exit ?_) | ((with_reducible apply evC_cond); rfl; rfl; all_goals (intro hc; first | (exact absurd hc (by decide)) | (try simp only at hc))))))
      all_goals (refine ⟨by simp, ⟨_, ?_, AV.le_refl _⟩, leH_get (by simp [leH, hget])⟩; simp only [Try.results38, resL, ldA, oneOf, go_sem])
  · refine ⟨-1, by rw [decide_eq_false ha]; rfl, ?_⟩
    (refine fn_of Try.func38 rfl (by rfl) ?_; simp only [Try.ntmps38, List.length_cons, List.length_nil, Nat.reduceAdd, Nat.reduceSub, List.replicate, List.cons_append, List.nil_append])
    (repeat (any_goals (first | ((with_reducible refine evL_one ?_ ?_); rfl; intro K hK; simp only [go_sem]; ((repeat (refine And.intro (by first | assumption | omega | rfl) ?_)); (with_reducible refine hK _ ?_); clear hK K)) | ((with_reducible refine evL_nil ?_); (with_reducible refine hR _ ?_); clear hR R) | ((with_reducible first | refine evC_seq ?_ | refine evC_block ?_); intro Ψ hΨ hΨ') | ((with_reducible refine evC_region ?_); intro R hR) | ((with_reducible refine hΨ _ ?_); clear hΨ hΨ' Ψ) | ((with_reducible refine hΨ' _ _ ?_ ?_); (focus (first | ((intro hx; cases hx); done) | ((intro j hj; cases hj); done) | (intro j hj; cases hj; (decide); done))); clear hΨ hΨ' Ψ) | (with_reducible first | refine evC_skip ?_ | refine evC_ret ?_ | refine evC_exit ?_) | ((with_reducible apply evC_cond); rfl; rfl; all_goals (intro hc; first | (exact absurd hc (by decide)) | (try simp only at hc))))))
    refine evC_upto l.length (fun i => ⟨[asl ex l, vi .u64 a, .any, .any, .any, .any, .any, vi .i64 l.length, vi .i64 (i : Int), .any, .any, .any, .any, .any, .any, .any, .any, .any, .any], []⟩) (St.le_of (by simp [leT]) (by simp [leH])) ?_
    intro i hi Ψ hΨ hΨ'
    (try dsimp only at hΨ ⊢)
    rcases Nat.lt_or_ge i l.length with hlt | hge
    · obtain ⟨x, hx⟩ : ∃ x, l[i]? = some x := ⟨_, List.getElem?_eq_getElem hlt⟩
      have k1 : (decide ((i : Int) < (l.length : Int))) = true := by simp; omega
      have k2 := asl_at hx
      have k7 : (i : Int) + 1 = ((i + 1 : Nat) : Int) := by omega
      have k3 : (a == x) = false := by
        simp only [beq_eq_false_iff_ne, ne_eq]
        rintro rfl
        exact ha (List.mem_of_getElem? hx)
      (repeat (any_goals (first | ((with_reducible refine evL_one ?_ ?_); rfl; intro K hK; simp (disch := omega) only [go_sem, k1, k2, k3, k7, wrI, Nat.mul_one, go_sem]; ((repeat (refine And.intro (by first | assumption | omega | rfl) ?_)); (with_reducible refine hK _ ?_); clear hK K)) | ((with_reducible refine evL_nil ?_); (with_reducible refine hR _ ?_); clear hR R) | ((with_reducible first | refine evC_seq ?_ | refine evC_block ?_); intro Ψ hΨ hΨ') | ((with_reducible refine evC_region ?_); intro R hR) | ((with_reducible refine hΨ _ ?_); clear hΨ hΨ' Ψ) | ((with_reducible refine hΨ' _ _ ?_ ?_); (focus (first | ((intro hx; cases hx); done) | ((intro j hj; cases hj); done) | (intro j hj; cases hj; (decide); done))); clear hΨ hΨ' Ψ) | (with_reducible first | refine evC_skip ?_ | refine evC_ret ?_ | refine evC_exit ?_) | ((with_reducible apply evC_cond); rfl; rfl; all_goals (intro hc; first | (exact absurd hc (by decide)) | (try simp only at hc))))))
      all_goals exact hΨ _ hlt (St.le_of (by simp [leT]) (by simp [leH]))
    · have k1 : (decide ((i : Int) < (l.length : Int))) = false := by simp; omega
      (repeat (any_goals (first | ((with_reducible refine evL_one ?_ ?_); rfl; intro K hK; simp only [go_sem, k1, go_sem]; ((repeat (refine And.intro (by first | assumption | omega | rfl) ?_)); (with_reducible refine hK _ ?_); clear hK K)) | ((with_reducible refine evL_nil ?_); (with_reducible refine hR _ ?_); clear hR R) | ((with_reducible first | refine evC_seq ?_ | refine evC_block ?_); intro Ψ hΨ hΨ') | ((with_reducible refine evC_region ?_); intro R hR) | ((with_reducible refine hΨ _ ?_); clear hΨ hΨ' Ψ) | ((with_reducible refine hΨ' _ _ ?_ ?_); (focus (first | ((intro hx; cases hx); done) | ((intro j hj; cases hj); done) | (intro j hj; cases hj; (decide); done))); clear hΨ hΨ' Ψ) | (with_reducible first | refine evC_skip ?_ | refine evC_ret ?_ | refine evC_exit ?_) | ((with_reducible apply evC_cond); rfl; rfl; all_goals (intro hc; first | (exact absurd hc (by decide)) | (try simp only at hc))))))
      all_goals (refine ⟨by simp, ⟨_, ?_, AV.le_refl _⟩, leH_get (by simp [leH, hget])⟩; simp only [Try.results38, resL, ldA, oneOf, go_sem])
theorem containsA_fn (ex : Bool) (l : List Int) (hl : l.length ≤ 1000000) (a : Int) : Fn Try.prog 16 [asl ex l, vi .u64 a] [] (vb (decide (a ∈ l))) [] := by
  obtain ⟨r, hr, h⟩ := indexA_fn ex l hl a
  generalize decide (a ∈ l) = q at hr ⊢
  (refine fn_of Try.func16 rfl (by rfl) ?_; simp only [Try.ntmps16, List.length_cons, List.length_nil, Nat.reduceAdd, Nat.reduceSub, List.replicate, List.cons_append, List.nil_append])
  (repeat (any_goals (first | ((with_reducible refine evL_call ?_ ?_ ?_); rfl; rfl; intro K hK; ((apply opA_callB (h); rfl; rfl; rfl; rfl; exact Try.func38); kernel_rfl; rfl; (simp only [go_sem, hr]; rfl); (simp only [AV.inNL, AV.inN, inNL_map, Bool.and_true])); (simp only [go_sem, hr, go_sem]; (with_reducible refine hK _ ?_); clear hK K)) | ((with_reducible refine evL_one ?_ ?_); rfl; intro K hK; simp only [go_sem, hr, go_sem]; ((repeat (refine And.intro (by first | assumption | omega | rfl) ?_)); (with_reducible refine hK _ ?_); clear hK K)) | ((with_reducible refine evL_nil ?_); (with_reducible refine hR _ ?_); clear hR R) | ((with_reducible first | refine evC_seq ?_ | refine evC_block ?_); intro Ψ hΨ hΨ') | ((with_reducible refine evC_region ?_); intro R hR) | ((with_reducible refine hΨ _ ?_); clear hΨ hΨ' Ψ) | ((with_reducible refine hΨ' _ _ ?_ ?_); (focus (first | ((intro hx; cases hx); done) | ((intro j hj; cases hj); done) | (intro j hj; cases hj; (decide); done))); clear hΨ hΨ' Ψ) | (with_reducible first | refine evC_skip ?_ | refine evC_ret ?_ | refine evC_exit ?_) | ((with_reducible apply evC_cond); rfl; rfl; all_goals (intro hc; first | (exact absurd hc (by decide)) | (try simp only at hc))))))
  all_goals (refine ⟨by simp, ⟨_, ?_, AV.le_refl _⟩, leH_get (by simp [leH, hget])⟩; simp only [Try.results16, resL, ldA, oneOf, go_sem])
end Go.Proofs.Ytmlalhmljmajbaa

