/-
  A world in memory of its own; reckoned.
-/
import Derived.Test.YtgdnmdnhkhpieaaGreatVb
import Derived.Test.YtgdnmdnhkhpieaaGreatRows
import Derived.Test.YtgdnmdnhkhpieaaGreatAvI
import Derived.ProofKit
import Derived.OpenShut
import Derived.ChangeOld
import Derived.Deep.Slices
import Derived.Test.YtgdnmdnhkhpieaaGreatAvW
import Derived.Test.YtgdnmdnhkhpieaaGreatSs
import Derived.Test.YtgdnmdnhkhpieaaGreatIg
set_option linter.unusedSimpArgs false
set_option linter.unusedVariables false
namespace Go.Proofs.YtgdnmdnhkhpieaaGreat
open Go.RowKit
open Nat (reduceBEq)
set_option maxRecDepth 20000
set_option maxHeartbeats 2000000
theorem bs_at {l : List Nat} {i : Nat} {y : Nat} (h : l[i]? = some y) : ((l.flatMap bpv).drop i).take 1 = [.v (.int .u8 (y : Int))] := by
  have := flat_at (f := bpv) bpv_len h
  rwa [Nat.mul_one] at this
theorem take_next {α : Type} {l m : List α} {i : Nat} {x y : α} (hx : l[i]? = some x) (hy : m[i]? = some y) (h : l.take i = m.take i) (e : x = y) : l.take (i + 1) = m.take (i + 1) := by
  rw [List.take_add_one, List.take_add_one, hx, hy, h, e]
theorem rsameacc_fn (x y : Ac) (hx : x.ok) (hy : y.ok) : Fn Tryz.prog 78 [acA x, acA y] [] (vb (decide (x = y))) [] := by
  obtain ⟨a, b, n, c, s⟩ := x
  obtain ⟨a', b', n', c', s'⟩ := y
  obtain ⟨u1, u2, u3, ⟨u4, u5⟩, u6, u7⟩ := hx
  obtain ⟨v1, v2, v3, ⟨v4, v5⟩, v6, v7⟩ := hy
  dsimp only at u1 u2 u3 u4 u5 u6 u7 v1 v2 v3 v4 v5 v6 v7
  obtain ⟨rr, hrr⟩ : ∃ r, decide ((⟨a, b, n, c, s⟩ : Ac) = ⟨a', b', n', c', s'⟩) = r := ⟨_, rfl⟩
  rw [hrr]
  have hno : ¬ (a = a' ∧ b = b' ∧ n = n' ∧ c = c' ∧ s = s') → rr = false := fun h => by
    rw [← hrr]
    exact decide_eq_false fun e => h (by cases e; exact ⟨rfl, rfl, rfl, rfl, rfl⟩)
  have hyes : a = a' → b = b' → n = n' → c = c' → s = s' → rr = true := fun h1 h2 h3 h4 h5 => by
    rw [← hrr]
    subst h1 h2 h3 h4 h5
    exact decide_eq_true rfl
  obtain ⟨q1, e1⟩ : ∃ p, decide (a = a') = p := ⟨_, rfl⟩
  obtain ⟨q2, e2⟩ : ∃ p, decide (b = b') = p := ⟨_, rfl⟩
  obtain ⟨q3, e3⟩ : ∃ p, decide (n = n') = p := ⟨_, rfl⟩
  obtain ⟨q4, e4⟩ : ∃ p, decide (c.length = c'.length) = p := ⟨_, rfl⟩
  obtain ⟨q5, e5⟩ : ∃ p, decide (s.length = s'.length) = p := ⟨_, rfl⟩
  have f1 : (a != a') = !q1 := by rw [← e1]; by_cases h : a = a' <;> simp [h]
  have f2 : (l0 b == l0 b' && (l1 b == l1 b' && (l2 b == l2 b' && l3 b == l3 b'))) = q2 := by rw [← e2, wN_eq u2 v2]
  have f3 : (n != n') = !q3 := by rw [← e3]; by_cases h : n = n' <;> simp [h]
  have f4 : ((c.length : Int) != (c'.length : Int)) = !q4 := by
    rw [← e4]
    by_cases h : c.length = c'.length
    · rw [h]; simp
    · rw [decide_eq_false h]; simp; omega
  have f5 : ((s.length : Int) != (s'.length : Int)) = !q5 := by
    rw [← e5]
    by_cases h : s.length = s'.length
    · rw [h]; simp
    · rw [decide_eq_false h]; simp; omega
  have k8 : c.length < 9223372036854775808 := Nat.lt_succ_of_le u4
  have k9 : s.length < 9223372036854775808 := Nat.lt_succ_of_le u6
  by_cases hq : (q1 && q2 && q3 && q4 && q5) = true
  · simp only [Bool.and_eq_true] at hq
    obtain ⟨⟨⟨⟨rfl, rfl⟩, rfl⟩, rfl⟩, rfl⟩ := hq
    have g1 : a = a' := of_decide_eq_true e1
    have g2 : b = b' := of_decide_eq_true e2
    have g3 : n = n' := of_decide_eq_true e3
    have g4 : c.length = c'.length := of_decide_eq_true e4
    have g5 : s.length = s'.length := of_decide_eq_true e5
    simp only [Bool.not_true] at f1 f3 f4 f5
    clear e1 e2 e3 e4 e5
    (refine fn_of Tryz.func78 rfl (by rfl) ?_; simp only [Tryz.ntmps78, List.length_cons, List.length_nil, Nat.reduceAdd, Nat.reduceSub, List.replicate, List.cons_append, List.nil_append])
    (have W := ndI f1 (ndI f2 (ndI f3 (ndI f4 f5))); (repeat (any_goals (first | ((with_reducible refine evL_one ?_ ?_); rfl; intro K hK; simp only [go_sem, W]; ((repeat (refine ndI (by first | assumption | omega | rfl) ?_)); refine hK _ ?_; clear hK K)) | (with_reducible first | (refine evL_nil ?_; refine hR _ ?_; clear hR R) | ((first | refine evC_seq ?_ | refine evC_block ?_); intro Ψ hΨ hΨ') | (refine evC_region ?_; intro R hR) | (refine hΨ _ ?_; clear hΨ hΨ' Ψ) | refine evC_skip ?_ | refine evC_ret ?_ | refine evC_exit ?_) | ((with_reducible refine hΨ' _ _ ?_ ?_); (focus (simp; done)); clear hΨ hΨ' Ψ) | ((with_reducible apply evL_unmet); rfl; rfl; rfl; (try simp only [go_sem, W])) | ((with_reducible apply evL_grd); rfl; rfl; rfl; all_goals (intro hb; first | (cases hb; done) | ((try simp only [Bool.not_true, Bool.not_false] at hb); (first | ((with_reducible intro K hK); simp only [go_sem, W]; ((repeat (refine ndI (by first | assumption | omega | rfl) ?_)); refine hK _ ?_; clear hK K)) | ((fail_if_success (with_reducible intro _)); simp only [go_sem, W]))))) | ((with_reducible apply evC_cond); rfl; rfl; all_goals (intro hc; first | (cases hc; done) | (try simp only at hc))) | ((with_reducible refine evD_nil ?_ ?_); kernel_rfl; (with_reducible refine hR _ ?_); clear hR R) | (((with_reducible apply evD_any); rfl; rfl; (simp only [rdE, rdOf, go_sem, W]; rfl); (intro τ hA hQ hN; ((try simp only [agree, Op.operands, Call.operands, go_sem, W, go_sem, List.mem_cons, List.not_mem_nil, forall_eq_or_imp, forall_eq, List.append_toArray, Option.toArray] at hA); (try simp only [go_sem, W, List.mem_cons, List.not_mem_nil, forall_eq_or_imp, forall_eq] at hQ hN); (first | (revert hA; intro hA) | have hA := trivial); (first | (revert hQ; intro hQ) | have hQ := trivial); (first | (revert hN; intro hN) | have hN := trivial); simp only [go_sem, W, go_sem, hA, hQ, hN]; (repeat (refine ndI (by first | assumption | omega | rfl) ?_)); (first | apply eff_rd | apply eff_st | apply eff_nw)))); (simp only [St.eff, setO, hputs, go_sem, W])) | ((with_reducible refine evC_draw ?_ ?_ ?_ ?_); kernel_rfl; kernel_rfl; (first | kernel_rfl | simp [newNames, isNew, St.free, freeH, AV.refsL, AV.refs]); intro R hR)))))
    refine evC_loop (α := { i : Nat // i ≤ c.length ∧ c.take i = c'.take i }) (fun x => ⟨[.any, .any, .ptr 2 0, .ptr 3 0, vb false, .any, .any, .any, .any, .any, .any, .any, .any, .any, .any, .any, .any, .any, .any, .any, .any, .any, .any, .any, .any, .any, .any, .any, .any, .any, .any, .any, .any, .any, .any, .any, .any, .any, .any, .any, .any, .any, .any, .any, .any, .any, vi .i64 c.length, vi .i64 (x.1 : Int), .any, .any, .any, .any, .any, .any, .any, .any, .any, .any, .any, .any, .any, .any, .any, .any, .any, .any, .any, .any, .any, .any, .any, .any, .any, .any, .any, .any, .any, .any, .any, .any], [(2, ac8 a b n (bsV c) (psV s)), (3, ac8 a' b' n' (bsV c') (psV s'))]⟩) (fun x => c.length - x.1) ⟨0, Nat.zero_le _, rfl⟩ (St.le_of (by simp [leT]) (by simp [leH, hget])) ?_
    rintro ⟨i, hi, hok⟩ Ψ hΨ hΨ'
    (try dsimp only at hΨ ⊢)
    have k7 : (i : Int) + 1 = ((i + 1 : Nat) : Int) := by omega
    rcases Nat.lt_or_ge i c.length with hlt | hge
    · obtain ⟨p, hp⟩ : ∃ p, c[i]? = some p := ⟨_, List.getElem?_eq_getElem hlt⟩
      obtain ⟨p', hp'⟩ : ∃ p, c'[i]? = some p := ⟨_, List.getElem?_eq_getElem (by omega)⟩
      have k1 : (decide ((i : Int) < (c.length : Int))) = true := decide_eq_true (by omega)
      have k2 := bs_at hp
      have k3 := bs_at hp'
      have hlt' : i < c'.length := by omega
      by_cases he : p = p'
      · have k4 : ((p : Int) != (p' : Int)) = false := by rw [he]; simp
        (have W := ndI k1 (ndI k2 (ndI k3 (ndI k4 (ndI k7 @wrI)))); (repeat (any_goals (first | ((with_reducible refine evL_one ?_ ?_); rfl; intro K hK; simp (disch := omega) only [go_sem, W, Nat.mul_one]; ((repeat (refine ndI (by first | assumption | omega | rfl) ?_)); refine hK _ ?_; clear hK K)) | (with_reducible first | (refine evL_nil ?_; refine hR _ ?_; clear hR R) | ((first | refine evC_seq ?_ | refine evC_block ?_); intro Ψ hΨ hΨ') | (refine evC_region ?_; intro R hR) | (refine hΨ _ ?_; clear hΨ hΨ' Ψ) | refine evC_skip ?_ | refine evC_ret ?_ | refine evC_exit ?_) | ((with_reducible refine hΨ' _ _ ?_ ?_); (focus (simp; done)); clear hΨ hΨ' Ψ) | ((with_reducible apply evL_unmet); rfl; rfl; rfl; (try simp (disch := omega) only [go_sem, W, Nat.mul_one])) | ((with_reducible apply evL_grd); rfl; rfl; rfl; all_goals (intro hb; first | (cases hb; done) | ((try simp only [Bool.not_true, Bool.not_false] at hb); (first | ((with_reducible intro K hK); simp (disch := omega) only [go_sem, W, Nat.mul_one]; ((repeat (refine ndI (by first | assumption | omega | rfl) ?_)); refine hK _ ?_; clear hK K)) | ((fail_if_success (with_reducible intro _)); simp (disch := omega) only [go_sem, W, Nat.mul_one]))))) | ((with_reducible apply evC_cond); rfl; rfl; all_goals (intro hc; first | (cases hc; done) | (try simp only at hc))) | ((with_reducible refine evD_nil ?_ ?_); kernel_rfl; (with_reducible refine hR _ ?_); clear hR R) | (((with_reducible apply evD_any); rfl; rfl; (simp (disch := omega) only [rdE, rdOf, go_sem, W, Nat.mul_one]; rfl); (intro τ hA hQ hN; ((try simp only [agree, Op.operands, Call.operands, go_sem, W, Nat.mul_one, go_sem, List.mem_cons, List.not_mem_nil, forall_eq_or_imp, forall_eq, List.append_toArray, Option.toArray] at hA); (try simp only [go_sem, W, Nat.mul_one, List.mem_cons, List.not_mem_nil, forall_eq_or_imp, forall_eq] at hQ hN); (first | (revert hA; intro hA) | have hA := trivial); (first | (revert hQ; intro hQ) | have hQ := trivial); (first | (revert hN; intro hN) | have hN := trivial); simp (disch := omega) only [go_sem, W, Nat.mul_one, go_sem, hA, hQ, hN]; (repeat (refine ndI (by first | assumption | omega | rfl) ?_)); (first | apply eff_rd | apply eff_st | apply eff_nw)))); (simp (disch := omega) only [St.eff, setO, hputs, go_sem, W, Nat.mul_one])) | ((with_reducible refine evC_draw ?_ ?_ ?_ ?_); kernel_rfl; kernel_rfl; (first | kernel_rfl | simp [newNames, isNew, St.free, freeH, AV.refsL, AV.refs]); intro R hR)))))
        exact hΨ _ ⟨i + 1, hlt, take_next hp hp' hok he⟩ (by dsimp only; omega) (St.le_of (by simp [leT]) (by simp [leH, hget]))
      · have k4 : ((p : Int) != (p' : Int)) = true := by simp; omega
        have hf := hno (fun h => he (by rw [h.2.2.2.1] at hp; rw [hp] at hp'; exact Option.some.inj hp'))
        (have W := ndI k1 (ndI k2 (ndI k3 (ndI k4 (ndI k7 @wrI)))); (repeat (any_goals (first | ((with_reducible refine evL_one ?_ ?_); rfl; intro K hK; simp (disch := omega) only [go_sem, W, Nat.mul_one]; ((repeat (refine ndI (by first | assumption | omega | rfl) ?_)); refine hK _ ?_; clear hK K)) | (with_reducible first | (refine evL_nil ?_; refine hR _ ?_; clear hR R) | ((first | refine evC_seq ?_ | refine evC_block ?_); intro Ψ hΨ hΨ') | (refine evC_region ?_; intro R hR) | (refine hΨ _ ?_; clear hΨ hΨ' Ψ) | refine evC_skip ?_ | refine evC_ret ?_ | refine evC_exit ?_) | ((with_reducible refine hΨ' _ _ ?_ ?_); (focus (simp; done)); clear hΨ hΨ' Ψ) | ((with_reducible apply evL_unmet); rfl; rfl; rfl; (try simp (disch := omega) only [go_sem, W, Nat.mul_one])) | ((with_reducible apply evL_grd); rfl; rfl; rfl; all_goals (intro hb; first | (cases hb; done) | ((try simp only [Bool.not_true, Bool.not_false] at hb); (first | ((with_reducible intro K hK); simp (disch := omega) only [go_sem, W, Nat.mul_one]; ((repeat (refine ndI (by first | assumption | omega | rfl) ?_)); refine hK _ ?_; clear hK K)) | ((fail_if_success (with_reducible intro _)); simp (disch := omega) only [go_sem, W, Nat.mul_one]))))) | ((with_reducible apply evC_cond); rfl; rfl; all_goals (intro hc; first | (cases hc; done) | (try simp only at hc))) | ((with_reducible refine evD_nil ?_ ?_); kernel_rfl; (with_reducible refine hR _ ?_); clear hR R) | (((with_reducible apply evD_any); rfl; rfl; (simp (disch := omega) only [rdE, rdOf, go_sem, W, Nat.mul_one]; rfl); (intro τ hA hQ hN; ((try simp only [agree, Op.operands, Call.operands, go_sem, W, Nat.mul_one, go_sem, List.mem_cons, List.not_mem_nil, forall_eq_or_imp, forall_eq, List.append_toArray, Option.toArray] at hA); (try simp only [go_sem, W, Nat.mul_one, List.mem_cons, List.not_mem_nil, forall_eq_or_imp, forall_eq] at hQ hN); (first | (revert hA; intro hA) | have hA := trivial); (first | (revert hQ; intro hQ) | have hQ := trivial); (first | (revert hN; intro hN) | have hN := trivial); simp (disch := omega) only [go_sem, W, Nat.mul_one, go_sem, hA, hQ, hN]; (repeat (refine ndI (by first | assumption | omega | rfl) ?_)); (first | apply eff_rd | apply eff_st | apply eff_nw)))); (simp (disch := omega) only [St.eff, setO, hputs, go_sem, W, Nat.mul_one])) | ((with_reducible refine evC_draw ?_ ?_ ?_ ?_); kernel_rfl; kernel_rfl; (first | kernel_rfl | simp [newNames, isNew, St.free, freeH, AV.refsL, AV.refs]); intro R hR)))))
        all_goals rw [hf]
        all_goals (refine ⟨by simp, ⟨_, ?_, AV.le_refl _⟩, leH_get (by simp [leH, hget])⟩; simp only [Tryz.results78, resL, ldA, oneOf, go_sem])
    · have k1 : (decide ((i : Int) < (c.length : Int))) = false := decide_eq_false (by omega)
      have g6 : c = c' := by rwa [List.take_of_length_le hge, List.take_of_length_le (by omega)] at hok
      (repeat (any_goals (first | ((with_reducible refine evL_one ?_ ?_); rfl; intro K hK; simp only [go_sem, k1]; ((repeat (refine ndI (by first | assumption | omega | rfl) ?_)); refine hK _ ?_; clear hK K)) | (with_reducible first | (refine evL_nil ?_; refine hR _ ?_; clear hR R) | ((first | refine evC_seq ?_ | refine evC_block ?_); intro Ψ hΨ hΨ') | (refine evC_region ?_; intro R hR) | (refine hΨ _ ?_; clear hΨ hΨ' Ψ) | refine evC_skip ?_ | refine evC_ret ?_ | refine evC_exit ?_) | ((with_reducible refine hΨ' _ _ ?_ ?_); (focus (simp; done)); clear hΨ hΨ' Ψ) | ((with_reducible apply evL_unmet); rfl; rfl; rfl; (try simp only [go_sem, k1])) | ((with_reducible apply evL_grd); rfl; rfl; rfl; all_goals (intro hb; first | (cases hb; done) | ((try simp only [Bool.not_true, Bool.not_false] at hb); (first | ((with_reducible intro K hK); simp only [go_sem, k1]; ((repeat (refine ndI (by first | assumption | omega | rfl) ?_)); refine hK _ ?_; clear hK K)) | ((fail_if_success (with_reducible intro _)); simp only [go_sem, k1]))))) | ((with_reducible apply evC_cond); rfl; rfl; all_goals (intro hc; first | (cases hc; done) | (try simp only at hc))) | ((with_reducible refine evD_nil ?_ ?_); kernel_rfl; (with_reducible refine hR _ ?_); clear hR R) | (((with_reducible apply evD_any); rfl; rfl; (simp only [rdE, rdOf, go_sem, k1]; rfl); (intro τ hA hQ hN; ((try simp only [agree, Op.operands, Call.operands, go_sem, k1, go_sem, List.mem_cons, List.not_mem_nil, forall_eq_or_imp, forall_eq, List.append_toArray, Option.toArray] at hA); (try simp only [go_sem, k1, List.mem_cons, List.not_mem_nil, forall_eq_or_imp, forall_eq] at hQ hN); (first | (revert hA; intro hA) | have hA := trivial); (first | (revert hQ; intro hQ) | have hQ := trivial); (first | (revert hN; intro hN) | have hN := trivial); simp only [go_sem, k1, go_sem, hA, hQ, hN]; (repeat (refine ndI (by first | assumption | omega | rfl) ?_)); (first | apply eff_rd | apply eff_st | apply eff_nw)))); (simp only [St.eff, setO, hputs, go_sem, k1])) | ((with_reducible refine evC_draw ?_ ?_ ?_ ?_); kernel_rfl; kernel_rfl; (first | kernel_rfl | simp [newNames, isNew, St.free, freeH, AV.refsL, AV.refs]); intro R hR))))
      refine evC_loop (α := { i : Nat // i ≤ s.length ∧ s.take i = s'.take i }) (fun x => ⟨[.any, .any, .ptr 2 0, .ptr 3 0, vb false, .any, .any, .any, .any, .any, .any, .any, .any, .any, .any, .any, .any, .any, .any, .any, .any, .any, .any, .any, .any, .any, .any, .any, .any, .any, .any, .any, .any, .any, .any, .any, .any, .any, .any, .any, .any, .any, .any, .any, .any, .any, .any, .any, .any, .any, .any, .any, .any, .any, .any, .any, .any, .any, .any, .any, .any, .any, .any, .any, vi .i64 s.length, vi .i64 (x.1 : Int), .any, .any, .any, .any, .any, .any, .any, .any, .any, .any, .any, .any, .any, .any], [(2, ac8 a b n (bsV c) (psV s)), (3, ac8 a' b' n' (bsV c') (psV s'))]⟩) (fun x => s.length - x.1) ⟨0, Nat.zero_le _, rfl⟩ (St.le_of (by simp [leT]) (by simp [leH, hget])) ?_
      rintro ⟨i, hi, hok⟩ Ψ hΨ hΨ'
      (try dsimp only at hΨ ⊢)
      have k7 : (i : Int) + 1 = ((i + 1 : Nat) : Int) := by omega
      rcases Nat.lt_or_ge i s.length with hlt | hge
      · obtain ⟨p, hp⟩ : ∃ p, s[i]? = some p := ⟨_, List.getElem?_eq_getElem hlt⟩
        obtain ⟨p', hp'⟩ : ∃ p, s'[i]? = some p := ⟨_, List.getElem?_eq_getElem (by omega)⟩
        have k1 : (decide ((i : Int) < (s.length : Int))) = true := decide_eq_true (by omega)
        have k2 := ps_at hp
        have k3 := ps_at hp'
        have hlt' : i < s'.length := by omega
        have k4 := pr_eq (u7 p (List.mem_of_getElem? hp)) (v7 p' (List.mem_of_getElem? hp'))
        by_cases he : p = p'
        · rw [decide_eq_true he] at k4
          (have W := ndI k1 (ndI k2 (ndI k3 (ndI k4 (ndI k7 @wrI)))); (repeat (any_goals (first | ((with_reducible refine evL_one ?_ ?_); rfl; intro K hK; simp (disch := omega) only [go_sem, W]; ((repeat (refine ndI (by first | assumption | omega | rfl) ?_)); refine hK _ ?_; clear hK K)) | (with_reducible first | (refine evL_nil ?_; refine hR _ ?_; clear hR R) | ((first | refine evC_seq ?_ | refine evC_block ?_); intro Ψ hΨ hΨ') | (refine evC_region ?_; intro R hR) | (refine hΨ _ ?_; clear hΨ hΨ' Ψ) | refine evC_skip ?_ | refine evC_ret ?_ | refine evC_exit ?_) | ((with_reducible refine hΨ' _ _ ?_ ?_); (focus (simp; done)); clear hΨ hΨ' Ψ) | ((with_reducible apply evL_unmet); rfl; rfl; rfl; (try simp (disch := omega) only [go_sem, W])) | ((with_reducible apply evL_grd); rfl; rfl; rfl; all_goals (intro hb; first | (cases hb; done) | ((try simp only [Bool.not_true, Bool.not_false] at hb); (first | ((with_reducible intro K hK); simp (disch := omega) only [go_sem, W]; ((repeat (refine ndI (by first | assumption | omega | rfl) ?_)); refine hK _ ?_; clear hK K)) | ((fail_if_success (with_reducible intro _)); simp (disch := omega) only [go_sem, W]))))) | ((with_reducible apply evC_cond); rfl; rfl; all_goals (intro hc; first | (cases hc; done) | (try simp only at hc))) | ((with_reducible refine evD_nil ?_ ?_); kernel_rfl; (with_reducible refine hR _ ?_); clear hR R) | (((with_reducible apply evD_any); rfl; rfl; (simp (disch := omega) only [rdE, rdOf, go_sem, W]; rfl); (intro τ hA hQ hN; ((try simp only [agree, Op.operands, Call.operands, go_sem, W, go_sem, List.mem_cons, List.not_mem_nil, forall_eq_or_imp, forall_eq, List.append_toArray, Option.toArray] at hA); (try simp only [go_sem, W, List.mem_cons, List.not_mem_nil, forall_eq_or_imp, forall_eq] at hQ hN); (first | (revert hA; intro hA) | have hA := trivial); (first | (revert hQ; intro hQ) | have hQ := trivial); (first | (revert hN; intro hN) | have hN := trivial); simp (disch := omega) only [go_sem, W, go_sem, hA, hQ, hN]; (repeat (refine ndI (by first | assumption | omega | rfl) ?_)); (first | apply eff_rd | apply eff_st | apply eff_nw)))); (simp (disch := omega) only [St.eff, setO, hputs, go_sem, W])) | ((with_reducible refine evC_draw ?_ ?_ ?_ ?_); kernel_rfl; kernel_rfl; (first | kernel_rfl | simp [newNames, isNew, St.free, freeH, AV.refsL, AV.refs]); intro R hR)))))
          exact hΨ _ ⟨i + 1, hlt, take_next hp hp' hok he⟩ (by dsimp only; omega) (St.le_of (by simp [leT]) (by simp [leH, hget]))
        · rw [decide_eq_false he] at k4
          have hf := hno (fun h => he (by rw [h.2.2.2.2] at hp; rw [hp] at hp'; exact Option.some.inj hp'))
          (have W := ndI k1 (ndI k2 (ndI k3 (ndI k4 (ndI k7 @wrI)))); (repeat (any_goals (first | ((with_reducible refine evL_one ?_ ?_); rfl; intro K hK; simp (disch := omega) only [go_sem, W]; ((repeat (refine ndI (by first | assumption | omega | rfl) ?_)); refine hK _ ?_; clear hK K)) | (with_reducible first | (refine evL_nil ?_; refine hR _ ?_; clear hR R) | ((first | refine evC_seq ?_ | refine evC_block ?_); intro Ψ hΨ hΨ') | (refine evC_region ?_; intro R hR) | (refine hΨ _ ?_; clear hΨ hΨ' Ψ) | refine evC_skip ?_ | refine evC_ret ?_ | refine evC_exit ?_) | ((with_reducible refine hΨ' _ _ ?_ ?_); (focus (simp; done)); clear hΨ hΨ' Ψ) | ((with_reducible apply evL_unmet); rfl; rfl; rfl; (try simp (disch := omega) only [go_sem, W])) | ((with_reducible apply evL_grd); rfl; rfl; rfl; all_goals (intro hb; first | (cases hb; done) | ((try simp only [Bool.not_true, Bool.not_false] at hb); (first | ((with_reducible intro K hK); simp (disch := omega) only [go_sem, W]; ((repeat (refine ndI (by first | assumption | omega | rfl) ?_)); refine hK _ ?_; clear hK K)) | ((fail_if_success (with_reducible intro _)); simp (disch := omega) only [go_sem, W]))))) | ((with_reducible apply evC_cond); rfl; rfl; all_goals (intro hc; first | (cases hc; done) | (try simp only at hc))) | ((with_reducible refine evD_nil ?_ ?_); kernel_rfl; (with_reducible refine hR _ ?_); clear hR R) | (((with_reducible apply evD_any); rfl; rfl; (simp (disch := omega) only [rdE, rdOf, go_sem, W]; rfl); (intro τ hA hQ hN; ((try simp only [agree, Op.operands, Call.operands, go_sem, W, go_sem, List.mem_cons, List.not_mem_nil, forall_eq_or_imp, forall_eq, List.append_toArray, Option.toArray] at hA); (try simp only [go_sem, W, List.mem_cons, List.not_mem_nil, forall_eq_or_imp, forall_eq] at hQ hN); (first | (revert hA; intro hA) | have hA := trivial); (first | (revert hQ; intro hQ) | have hQ := trivial); (first | (revert hN; intro hN) | have hN := trivial); simp (disch := omega) only [go_sem, W, go_sem, hA, hQ, hN]; (repeat (refine ndI (by first | assumption | omega | rfl) ?_)); (first | apply eff_rd | apply eff_st | apply eff_nw)))); (simp (disch := omega) only [St.eff, setO, hputs, go_sem, W])) | ((with_reducible refine evC_draw ?_ ?_ ?_ ?_); kernel_rfl; kernel_rfl; (first | kernel_rfl | simp [newNames, isNew, St.free, freeH, AV.refsL, AV.refs]); intro R hR)))))
          all_goals rw [hf]
          all_goals (refine ⟨by simp, ⟨_, ?_, AV.le_refl _⟩, leH_get (by simp [leH, hget])⟩; simp only [Tryz.results78, resL, ldA, oneOf, go_sem])
      · have k1 : (decide ((i : Int) < (s.length : Int))) = false := decide_eq_false (by omega)
        have g7 : s = s' := by rwa [List.take_of_length_le hge, List.take_of_length_le (by omega)] at hok
        (repeat (any_goals (first | ((with_reducible refine evL_one ?_ ?_); rfl; intro K hK; simp only [go_sem, k1]; ((repeat (refine ndI (by first | assumption | omega | rfl) ?_)); refine hK _ ?_; clear hK K)) | (with_reducible first | (refine evL_nil ?_; refine hR _ ?_; clear hR R) | ((first | refine evC_seq ?_ | refine evC_block ?_); intro Ψ hΨ hΨ') | (refine evC_region ?_; intro R hR) | (refine hΨ _ ?_; clear hΨ hΨ' Ψ) | refine evC_skip ?_ | refine evC_ret ?_ | refine evC_exit ?_) | ((with_reducible refine hΨ' _ _ ?_ ?_); (focus (simp; done)); clear hΨ hΨ' Ψ) | ((with_reducible apply evL_unmet); rfl; rfl; rfl; (try simp only [go_sem, k1])) | ((with_reducible apply evL_grd); rfl; rfl; rfl; all_goals (intro hb; first | (cases hb; done) | ((try simp only [Bool.not_true, Bool.not_false] at hb); (first | ((with_reducible intro K hK); simp only [go_sem, k1]; ((repeat (refine ndI (by first | assumption | omega | rfl) ?_)); refine hK _ ?_; clear hK K)) | ((fail_if_success (with_reducible intro _)); simp only [go_sem, k1]))))) | ((with_reducible apply evC_cond); rfl; rfl; all_goals (intro hc; first | (cases hc; done) | (try simp only at hc))) | ((with_reducible refine evD_nil ?_ ?_); kernel_rfl; (with_reducible refine hR _ ?_); clear hR R) | (((with_reducible apply evD_any); rfl; rfl; (simp only [rdE, rdOf, go_sem, k1]; rfl); (intro τ hA hQ hN; ((try simp only [agree, Op.operands, Call.operands, go_sem, k1, go_sem, List.mem_cons, List.not_mem_nil, forall_eq_or_imp, forall_eq, List.append_toArray, Option.toArray] at hA); (try simp only [go_sem, k1, List.mem_cons, List.not_mem_nil, forall_eq_or_imp, forall_eq] at hQ hN); (first | (revert hA; intro hA) | have hA := trivial); (first | (revert hQ; intro hQ) | have hQ := trivial); (first | (revert hN; intro hN) | have hN := trivial); simp only [go_sem, k1, go_sem, hA, hQ, hN]; (repeat (refine ndI (by first | assumption | omega | rfl) ?_)); (first | apply eff_rd | apply eff_st | apply eff_nw)))); (simp only [St.eff, setO, hputs, go_sem, k1])) | ((with_reducible refine evC_draw ?_ ?_ ?_ ?_); kernel_rfl; kernel_rfl; (first | kernel_rfl | simp [newNames, isNew, St.free, freeH, AV.refsL, AV.refs]); intro R hR))))
        all_goals rw [hyes g1 g2 g3 g6 g7]
        all_goals (refine ⟨by simp, ⟨_, ?_, AV.le_refl _⟩, leH_get (by simp [leH, hget])⟩; simp only [Tryz.results78, resL, ldA, oneOf, go_sem])
  · have hf : rr = false := hno fun ⟨h1, h2, h3, h4, h5⟩ => hq (by rw [← e1, ← e2, ← e3, ← e4, ← e5]; subst h1 h2 h3 h4 h5; simp)
    rw [hf]
    have hq : (q1 && q2 && q3 && q4 && q5) = false := by simpa using hq
    clear e1 e2 e3 e4 e5 hno hyes hrr
    cases q1 <;> cases q2 <;> cases q3 <;> cases q4 <;> cases q5
    all_goals first | (cases hq; done) | skip
    all_goals simp only [Bool.not_true, Bool.not_false] at f1 f3 f4 f5
    all_goals (refine fn_of Tryz.func78 rfl (by rfl) ?_; simp only [Tryz.ntmps78, List.length_cons, List.length_nil, Nat.reduceAdd, Nat.reduceSub, List.replicate, List.cons_append, List.nil_append])
    all_goals (have W := ndI f1 (ndI f2 (ndI f3 (ndI f4 f5))); (repeat (any_goals (first | ((with_reducible refine evL_one ?_ ?_); rfl; intro K hK; simp only [go_sem, W]; ((repeat (refine ndI (by first | assumption | omega | rfl) ?_)); refine hK _ ?_; clear hK K)) | (with_reducible first | (refine evL_nil ?_; refine hR _ ?_; clear hR R) | ((first | refine evC_seq ?_ | refine evC_block ?_); intro Ψ hΨ hΨ') | (refine evC_region ?_; intro R hR) | (refine hΨ _ ?_; clear hΨ hΨ' Ψ) | refine evC_skip ?_ | refine evC_ret ?_ | refine evC_exit ?_) | ((with_reducible refine hΨ' _ _ ?_ ?_); (focus (simp; done)); clear hΨ hΨ' Ψ) | ((with_reducible apply evL_unmet); rfl; rfl; rfl; (try simp only [go_sem, W])) | ((with_reducible apply evL_grd); rfl; rfl; rfl; all_goals (intro hb; first | (cases hb; done) | ((try simp only [Bool.not_true, Bool.not_false] at hb); (first | ((with_reducible intro K hK); simp only [go_sem, W]; ((repeat (refine ndI (by first | assumption | omega | rfl) ?_)); refine hK _ ?_; clear hK K)) | ((fail_if_success (with_reducible intro _)); simp only [go_sem, W]))))) | ((with_reducible apply evC_cond); rfl; rfl; all_goals (intro hc; first | (cases hc; done) | (try simp only at hc))) | ((with_reducible refine evD_nil ?_ ?_); kernel_rfl; (with_reducible refine hR _ ?_); clear hR R) | (((with_reducible apply evD_any); rfl; rfl; (simp only [rdE, rdOf, go_sem, W]; rfl); (intro τ hA hQ hN; ((try simp only [agree, Op.operands, Call.operands, go_sem, W, go_sem, List.mem_cons, List.not_mem_nil, forall_eq_or_imp, forall_eq, List.append_toArray, Option.toArray] at hA); (try simp only [go_sem, W, List.mem_cons, List.not_mem_nil, forall_eq_or_imp, forall_eq] at hQ hN); (first | (revert hA; intro hA) | have hA := trivial); (first | (revert hQ; intro hQ) | have hQ := trivial); (first | (revert hN; intro hN) | have hN := trivial); simp only [go_sem, W, go_sem, hA, hQ, hN]; (repeat (refine ndI (by first | assumption | omega | rfl) ?_)); (first | apply eff_rd | apply eff_st | apply eff_nw)))); (simp only [St.eff, setO, hputs, go_sem, W])) | ((with_reducible refine evC_draw ?_ ?_ ?_ ?_); kernel_rfl; kernel_rfl; (first | kernel_rfl | simp [newNames, isNew, St.free, freeH, AV.refsL, AV.refs]); intro R hR)))))
    all_goals (refine ⟨by simp, ⟨_, ?_, AV.le_refl _⟩, leH_get (by simp [leH, hget])⟩; simp only [Tryz.results78, resL, ldA, oneOf, go_sem])
theorem rsame_fn (e1 e2 : Bool) (L M : List Ac) (hl : L.length ≤ maxLen) (hm : M.length ≤ maxLen) (ol : ∀ x ∈ L, x.ok) (om : ∀ x ∈ M, x.ok) : Fn Tryz.prog 42 [stA e1 L, stA e2 M] [] (vb (decide (L = M))) [] := by
  obtain ⟨rr, hrr⟩ : ∃ r, decide (L = M) = r := ⟨_, rfl⟩
  rw [hrr]
  have k8 : L.length < 9223372036854775808 := Nat.lt_succ_of_le hl
  by_cases hlen : L.length = M.length
  · have f1 : ((L.length : Int) != (M.length : Int)) = false := by rw [hlen]; simp
    (refine fn_of Tryz.func42 rfl (by rfl) ?_; simp only [Tryz.ntmps42, List.length_cons, List.length_nil, Nat.reduceAdd, Nat.reduceSub, List.replicate, List.cons_append, List.nil_append])
    (repeat (any_goals (first | ((with_reducible refine evL_one ?_ ?_); rfl; intro K hK; simp only [go_sem, f1]; ((repeat (refine ndI (by first | assumption | omega | rfl) ?_)); refine hK _ ?_; clear hK K)) | (with_reducible first | (refine evL_nil ?_; refine hR _ ?_; clear hR R) | ((first | refine evC_seq ?_ | refine evC_block ?_); intro Ψ hΨ hΨ') | (refine evC_region ?_; intro R hR) | (refine hΨ _ ?_; clear hΨ hΨ' Ψ) | refine evC_skip ?_ | refine evC_ret ?_ | refine evC_exit ?_) | ((with_reducible refine hΨ' _ _ ?_ ?_); (focus (simp; done)); clear hΨ hΨ' Ψ) | ((with_reducible apply evC_cond); rfl; rfl; all_goals (intro hc; first | (cases hc; done) | (try simp only at hc))) | ((with_reducible refine evD_nil ?_ ?_); kernel_rfl; (with_reducible refine hR _ ?_); clear hR R) | (((with_reducible apply evD_any); rfl; rfl; (simp only [rdE, rdOf, go_sem, f1]; rfl); (intro τ hA hQ hN; ((try simp only [agree, Op.operands, Call.operands, go_sem, f1, go_sem, List.mem_cons, List.not_mem_nil, forall_eq_or_imp, forall_eq, List.append_toArray, Option.toArray] at hA); (try simp only [go_sem, f1, List.mem_cons, List.not_mem_nil, forall_eq_or_imp, forall_eq] at hQ hN); (first | (revert hA; intro hA) | have hA := trivial); (first | (revert hQ; intro hQ) | have hQ := trivial); (first | (revert hN; intro hN) | have hN := trivial); simp only [go_sem, f1, go_sem, hA, hQ, hN]; (repeat (refine ndI (by first | assumption | omega | rfl) ?_)); (first | apply eff_rd | apply eff_st | apply eff_nw)))); (simp only [St.eff, setO, hputs, go_sem, f1])) | ((with_reducible refine evC_draw ?_ ?_ ?_ ?_); kernel_rfl; kernel_rfl; (first | kernel_rfl | simp [newNames, isNew, St.free, freeH, AV.refsL, AV.refs]); intro R hR))))
    refine evC_loop (α := { i : Nat // i ≤ L.length ∧ L.take i = M.take i }) (fun x => ⟨[.any, .any, .ptr 2 0, .ptr 3 0, vb false, .any, .any, .any, .any, .any, .any, .any, .any, .any, .any, vi .i64 L.length, vi .i64 (x.1 : Int), .any, .any, .any, .any, .any, .any, .any, .any, .any, .any, .any, .any, .any, .any, .any], [(2, [acS e1 L]), (3, [acS e2 M])]⟩) (fun x => L.length - x.1) ⟨0, Nat.zero_le _, rfl⟩ (St.le_of (by simp [leT]) (by simp [leH, hget])) ?_
    rintro ⟨i, hi, hok⟩ Ψ hΨ hΨ'
    (try dsimp only at hΨ ⊢)
    have k7 : (i : Int) + 1 = ((i + 1 : Nat) : Int) := by omega
    rcases Nat.lt_or_ge i L.length with hlt | hge
    · obtain ⟨p, hp⟩ : ∃ p, L[i]? = some p := ⟨_, List.getElem?_eq_getElem hlt⟩
      obtain ⟨p', hp'⟩ : ∃ p, M[i]? = some p := ⟨_, List.getElem?_eq_getElem (by omega)⟩
      have k1 : (decide ((i : Int) < (L.length : Int))) = true := decide_eq_true (by omega)
      have k2 := ac_at hp
      have k3 := ac_at hp'
      have hlt' : i < M.length := by omega
      have sa := rsameacc_fn p p' (ol p (List.mem_of_getElem? hp)) (om p' (List.mem_of_getElem? hp'))
      by_cases he : p = p'
      · rw [decide_eq_true he] at sa
        (have W := ndI k1 (ndI k2 (ndI k3 (ndI k7 @wrI))); (repeat (any_goals (first | ((with_reducible refine evL_one ?_ ?_); rfl; intro K hK; simp (disch := omega) only [go_sem, W]; ((repeat (refine ndI (by first | assumption | omega | rfl) ?_)); refine hK _ ?_; clear hK K)) | (with_reducible first | (refine evL_nil ?_; refine hR _ ?_; clear hR R) | ((first | refine evC_seq ?_ | refine evC_block ?_); intro Ψ hΨ hΨ') | (refine evC_region ?_; intro R hR) | (refine hΨ _ ?_; clear hΨ hΨ' Ψ) | refine evC_skip ?_ | refine evC_ret ?_ | refine evC_exit ?_) | ((with_reducible refine hΨ' _ _ ?_ ?_); (focus (simp; done)); clear hΨ hΨ' Ψ) | ((with_reducible apply evC_cond); rfl; rfl; all_goals (intro hc; first | (cases hc; done) | (try simp only at hc))) | ((with_reducible refine evD_nil ?_ ?_); kernel_rfl; (with_reducible refine hR _ ?_); clear hR R) | ((first | ((with_reducible apply evD_fcall); rfl; rfl; ((apply opF_callB (sa); rfl; rfl; rfl; rfl; exact Tryz.func78); kernel_rfl; rfl; (simp (disch := omega) only [go_sem, W]; rfl); (first | rfl | simp [AV.inNL, AV.inN]))) | ((with_reducible apply evD_any); rfl; rfl; (simp (disch := omega) only [rdE, rdOf, go_sem, W]; rfl); (intro τ hA hQ hN; ((try simp only [agree, Op.operands, Call.operands, go_sem, W, go_sem, List.mem_cons, List.not_mem_nil, forall_eq_or_imp, forall_eq, List.append_toArray, Option.toArray] at hA); (try simp only [go_sem, W, List.mem_cons, List.not_mem_nil, forall_eq_or_imp, forall_eq] at hQ hN); (first | (revert hA; intro hA) | have hA := trivial); (first | (revert hQ; intro hQ) | have hQ := trivial); (first | (revert hN; intro hN) | have hN := trivial); simp (disch := omega) only [go_sem, W, go_sem, hA, hQ, hN]; (repeat (refine ndI (by first | assumption | omega | rfl) ?_)); (first | apply eff_rd | apply eff_st | apply eff_nw))))); (simp (disch := omega) only [St.eff, setO, hputs, go_sem, W])) | ((with_reducible refine evC_draw ?_ ?_ ?_ ?_); kernel_rfl; kernel_rfl; (first | kernel_rfl | simp [newNames, isNew, St.free, freeH, AV.refsL, AV.refs]); intro R hR)))))
        exact hΨ _ ⟨i + 1, hlt, take_next hp hp' hok he⟩ (by dsimp only; omega) (St.le_of (by simp [leT]) (by simp [leH, hget]))
      · rw [decide_eq_false he] at sa
        have hf : rr = false := by rw [← hrr]; exact decide_eq_false fun h => he (by rw [h] at hp; rw [hp] at hp'; exact Option.some.inj hp')
        (have W := ndI k1 (ndI k2 (ndI k3 (ndI k7 @wrI))); (repeat (any_goals (first | ((with_reducible refine evL_one ?_ ?_); rfl; intro K hK; simp (disch := omega) only [go_sem, W]; ((repeat (refine ndI (by first | assumption | omega | rfl) ?_)); refine hK _ ?_; clear hK K)) | (with_reducible first | (refine evL_nil ?_; refine hR _ ?_; clear hR R) | ((first | refine evC_seq ?_ | refine evC_block ?_); intro Ψ hΨ hΨ') | (refine evC_region ?_; intro R hR) | (refine hΨ _ ?_; clear hΨ hΨ' Ψ) | refine evC_skip ?_ | refine evC_ret ?_ | refine evC_exit ?_) | ((with_reducible refine hΨ' _ _ ?_ ?_); (focus (simp; done)); clear hΨ hΨ' Ψ) | ((with_reducible apply evC_cond); rfl; rfl; all_goals (intro hc; first | (cases hc; done) | (try simp only at hc))) | ((with_reducible refine evD_nil ?_ ?_); kernel_rfl; (with_reducible refine hR _ ?_); clear hR R) | ((first | ((with_reducible apply evD_fcall); rfl; rfl; ((apply opF_callB (sa); rfl; rfl; rfl; rfl; exact Tryz.func78); kernel_rfl; rfl; (simp (disch := omega) only [go_sem, W]; rfl); (first | rfl | simp [AV.inNL, AV.inN]))) | ((with_reducible apply evD_any); rfl; rfl; (simp (disch := omega) only [rdE, rdOf, go_sem, W]; rfl); (intro τ hA hQ hN; ((try simp only [agree, Op.operands, Call.operands, go_sem, W, go_sem, List.mem_cons, List.not_mem_nil, forall_eq_or_imp, forall_eq, List.append_toArray, Option.toArray] at hA); (try simp only [go_sem, W, List.mem_cons, List.not_mem_nil, forall_eq_or_imp, forall_eq] at hQ hN); (first | (revert hA; intro hA) | have hA := trivial); (first | (revert hQ; intro hQ) | have hQ := trivial); (first | (revert hN; intro hN) | have hN := trivial); simp (disch := omega) only [go_sem, W, go_sem, hA, hQ, hN]; (repeat (refine ndI (by first | assumption | omega | rfl) ?_)); (first | apply eff_rd | apply eff_st | apply eff_nw))))); (simp (disch := omega) only [St.eff, setO, hputs, go_sem, W])) | ((with_reducible refine evC_draw ?_ ?_ ?_ ?_); kernel_rfl; kernel_rfl; (first | kernel_rfl | simp [newNames, isNew, St.free, freeH, AV.refsL, AV.refs]); intro R hR)))))
        all_goals rw [hf]
        all_goals (refine ⟨by simp, ⟨_, ?_, AV.le_refl _⟩, leH_get (by simp [leH, hget])⟩; simp only [Tryz.results42, resL, ldA, oneOf, go_sem])
    · have k1 : (decide ((i : Int) < (L.length : Int))) = false := decide_eq_false (by omega)
      have hf : rr = true := by rw [← hrr]; exact decide_eq_true (by rwa [List.take_of_length_le hge, List.take_of_length_le (by omega)] at hok)
      (repeat (any_goals (first | ((with_reducible refine evL_one ?_ ?_); rfl; intro K hK; simp only [go_sem, k1]; ((repeat (refine ndI (by first | assumption | omega | rfl) ?_)); refine hK _ ?_; clear hK K)) | (with_reducible first | (refine evL_nil ?_; refine hR _ ?_; clear hR R) | ((first | refine evC_seq ?_ | refine evC_block ?_); intro Ψ hΨ hΨ') | (refine evC_region ?_; intro R hR) | (refine hΨ _ ?_; clear hΨ hΨ' Ψ) | refine evC_skip ?_ | refine evC_ret ?_ | refine evC_exit ?_) | ((with_reducible refine hΨ' _ _ ?_ ?_); (focus (simp; done)); clear hΨ hΨ' Ψ) | ((with_reducible apply evC_cond); rfl; rfl; all_goals (intro hc; first | (cases hc; done) | (try simp only at hc))) | ((with_reducible refine evD_nil ?_ ?_); kernel_rfl; (with_reducible refine hR _ ?_); clear hR R) | (((with_reducible apply evD_any); rfl; rfl; (simp only [rdE, rdOf, go_sem, k1]; rfl); (intro τ hA hQ hN; ((try simp only [agree, Op.operands, Call.operands, go_sem, k1, go_sem, List.mem_cons, List.not_mem_nil, forall_eq_or_imp, forall_eq, List.append_toArray, Option.toArray] at hA); (try simp only [go_sem, k1, List.mem_cons, List.not_mem_nil, forall_eq_or_imp, forall_eq] at hQ hN); (first | (revert hA; intro hA) | have hA := trivial); (first | (revert hQ; intro hQ) | have hQ := trivial); (first | (revert hN; intro hN) | have hN := trivial); simp only [go_sem, k1, go_sem, hA, hQ, hN]; (repeat (refine ndI (by first | assumption | omega | rfl) ?_)); (first | apply eff_rd | apply eff_st | apply eff_nw)))); (simp only [St.eff, setO, hputs, go_sem, k1])) | ((with_reducible refine evC_draw ?_ ?_ ?_ ?_); kernel_rfl; kernel_rfl; (first | kernel_rfl | simp [newNames, isNew, St.free, freeH, AV.refsL, AV.refs]); intro R hR))))
      all_goals rw [hf]
      all_goals (refine ⟨by simp, ⟨_, ?_, AV.le_refl _⟩, leH_get (by simp [leH, hget])⟩; simp only [Tryz.results42, resL, ldA, oneOf, go_sem])
  · have f1 : ((L.length : Int) != (M.length : Int)) = true := by simp; omega
    have hf : rr = false := by rw [← hrr]; exact decide_eq_false fun h => hlen (by rw [h])
    rw [hf]
    (refine fn_of Tryz.func42 rfl (by rfl) ?_; simp only [Tryz.ntmps42, List.length_cons, List.length_nil, Nat.reduceAdd, Nat.reduceSub, List.replicate, List.cons_append, List.nil_append])
    (repeat (any_goals (first | ((with_reducible refine evL_one ?_ ?_); rfl; intro K hK; simp only [go_sem, f1]; ((repeat (refine ndI (by first | assumption | omega | rfl) ?_)); refine hK _ ?_; clear hK K)) | (with_reducible first | (refine evL_nil ?_; refine hR _ ?_; clear hR R) | ((first | refine evC_seq ?_ | refine evC_block ?_); intro Ψ hΨ hΨ') | (refine evC_region ?_; intro R hR) | (refine hΨ _ ?_; clear hΨ hΨ' Ψ) | refine evC_skip ?_ | refine evC_ret ?_ | refine evC_exit ?_) | ((with_reducible refine hΨ' _ _ ?_ ?_); (focus (simp; done)); clear hΨ hΨ' Ψ) | ((with_reducible apply evC_cond); rfl; rfl; all_goals (intro hc; first | (cases hc; done) | (try simp only at hc))) | ((with_reducible refine evD_nil ?_ ?_); kernel_rfl; (with_reducible refine hR _ ?_); clear hR R) | (((with_reducible apply evD_any); rfl; rfl; (simp only [rdE, rdOf, go_sem, f1]; rfl); (intro τ hA hQ hN; ((try simp only [agree, Op.operands, Call.operands, go_sem, f1, go_sem, List.mem_cons, List.not_mem_nil, forall_eq_or_imp, forall_eq, List.append_toArray, Option.toArray] at hA); (try simp only [go_sem, f1, List.mem_cons, List.not_mem_nil, forall_eq_or_imp, forall_eq] at hQ hN); (first | (revert hA; intro hA) | have hA := trivial); (first | (revert hQ; intro hQ) | have hQ := trivial); (first | (revert hN; intro hN) | have hN := trivial); simp only [go_sem, f1, go_sem, hA, hQ, hN]; (repeat (refine ndI (by first | assumption | omega | rfl) ?_)); (first | apply eff_rd | apply eff_st | apply eff_nw)))); (simp only [St.eff, setO, hputs, go_sem, f1])) | ((with_reducible refine evC_draw ?_ ?_ ?_ ?_); kernel_rfl; kernel_rfl; (first | kernel_rfl | simp [newNames, isNew, St.free, freeH, AV.refsL, AV.refs]); intro R hR))))
    all_goals (refine ⟨by simp, ⟨_, ?_, AV.le_refl _⟩, leH_get (by simp [leH, hget])⟩; simp only [Tryz.results42, resL, ldA, oneOf, go_sem])
end Go.Proofs.YtgdnmdnhkhpieaaGreat
namespace Go.Proofs.YtgdnmdnhkhpieaaGreat
open Go.RowKit Go.ChangeShapes Go.WideShapes Go.ChangeAt Go.Deep

section
variable {H : Type} {enc : TypeId × Value → H} {P : Program}

def Dec {α : Type} (P : Program) (t : TypeId) (sz : Nat) (f : α → List Value) (Good : α → Prop) : Prop :=
  P.cellsOf t = sz ∧ ∀ (H : Type) (enc : TypeId × Value → H) (w : World) (base : Nat) (spare : Nat → Bool) (held : Bool) (fuel : Nat) (cs : List Value) (x : DataW H × List MemPlace),
    DataW.trod enc P w base spare held fuel t cs = some x → ∃ a, cs = f a ∧ Good a

theorem dec_int {t : TypeId} {k : IntKind} (ht : P.underlying t = some (.int k)) (hc : P.cellsOf t = 1) : Dec P t 1 (fun n : Int => [.int k n]) (fun n => (Lit.int k n).wf = true) :=
  ⟨hc, fun H enc w base spare held fuel cs x h => by
    obtain ⟨n, rfl, _, hw⟩ := DataW.trod_int ht h
    exact ⟨n, rfl, hw⟩⟩
theorem dec_map {α β : Type} {t : TypeId} {sz : Nat} {f : α → List Value} {G : α → Prop} (h : Dec P t sz f G) {f' : β → List Value} {G' : β → Prop} (hg : ∀ a, G a → ∃ b, f a = f' b ∧ G' b) : Dec P t sz f' G' :=
  ⟨h.1, fun H enc w base spare held fuel cs x hx => by
    obtain ⟨a, e, g⟩ := h.2 H enc w base spare held fuel cs x hx
    obtain ⟨b, e', g'⟩ := hg a g
    exact ⟨b, e.trans e', g'⟩⟩
theorem wf_u64 {n : Int} (h : (Lit.int .u64 n).wf = true) : 0 ≤ n ∧ n < 18446744073709551616 := by
  simp [Lit.wf, IntKind.min, IntKind.max, IntKind.signed, IntKind.bits] at h; omega
theorem wf_u8 {n : Int} (h : (Lit.int .u8 n).wf = true) : 0 ≤ n ∧ n < 256 := by
  simp [Lit.wf, IntKind.min, IntKind.max, IntKind.signed, IntKind.bits] at h; omega
theorem dec_u64 {t : TypeId} (ht : P.underlying t = some (.int .u64)) (hc : P.cellsOf t = 1) : Dec P t 1 (fun n : Nat => [.int .u64 (n : Int)]) (fun n => n < 18446744073709551616) :=
  dec_map (dec_int ht hc) fun n h => ⟨n.toNat, by have := wf_u64 h; rw [Int.toNat_of_nonneg (by omega)], by have := wf_u64 h; omega⟩
theorem choose_list {α : Type} {p : Nat → α → Prop} (n : Nat) (h : ∀ i, i < n → ∃ b, p i b) : ∃ l : List α, l.length = n ∧ ∀ i b, l[i]? = some b → p i b := by
  induction n with
  | zero => exact ⟨[], rfl, by simp⟩
  | succ k ih =>
    obtain ⟨l, hl, hp⟩ := ih fun i hi => h i (by omega)
    obtain ⟨b, hb⟩ := h k (by omega)
    refine ⟨l ++ [b], by simp [hl], fun i b' hib => ?_⟩
    rw [List.getElem?_append] at hib
    split at hib
    · exact hp i b' hib
    · have hi0 : i = k := by
        have := (List.getElem?_eq_some_iff.1 hib).1
        simp at this; omega
      subst hi0
      rw [hl, Nat.sub_self] at hib
      simp at hib
      subst hib
      exact hb
theorem dec_arr {α : Type} {t e : TypeId} {n sz : Nat} {f : α → List Value} {G : α → Prop} (ht : P.underlying t = some (.array n e)) (hc : P.cellsOf t = n * sz) (hs : 0 < sz)
    (he : Dec P e sz f G) (hf : ∀ a, (f a).length = sz) : Dec P t (n * sz) (sts f) (fun l => l.length = n ∧ ∀ a ∈ l, G a) :=
  ⟨hc, fun H enc w base spare held fuel cs x hx => by
    obtain ⟨xs, m, _, _, hlen, hxl, hi⟩ := DataW.trod_array ht hx
    rw [hc] at hlen
    obtain ⟨l, hl, hp⟩ := choose_list (p := fun i b => G b ∧ (cs.drop (i * sz)).take sz = f b) n fun i hin => by
      have h1 := hi i hin
      rw [he.1, List.getElem?_eq_getElem (by omega)] at h1
      obtain ⟨b, hb, hg⟩ := he.2 H enc w base spare held m _ _ h1
      exact ⟨b, hg, hb⟩
    refine ⟨l, ?_, hl, fun a ha => ?_⟩
    · apply List.ext_getElem?
      intro j
      by_cases hj : j < n * sz
      · have hq : j / sz < n := Nat.div_lt_of_lt_mul (by rw [Nat.mul_comm]; exact hj)
        have hr : j % sz < sz := Nat.mod_lt _ hs
        have hje : j = j / sz * sz + j % sz := by rw [Nat.mul_comm]; exact (Nat.div_add_mod j sz).symm
        have hk : l[j / sz]? = some (l[j / sz]'(by omega)) := List.getElem?_eq_getElem (by omega)
        have h1 := sts_get hf hk hr
        rw [← hje] at h1
        rw [h1, ← (hp _ _ hk).2, List.getElem?_take, if_pos hr, List.getElem?_drop, ← hje]
      · rw [List.getElem?_eq_none (by omega), List.getElem?_eq_none (by rw [sts_length f sz hf, hl]; omega)]
    · obtain ⟨i, hi'⟩ := List.mem_iff_getElem?.1 ha
      exact (hp i a hi').1⟩
theorem trodAll_stays (hl : laidOutB P = true) {W W' : World} (hb : Below W.heap.size W W') : ∀ {ts : List TypeId} {vs : List Value} {ds : List (DataW H)} {ps : List MemPlace},
    (∀ t ∈ ts, P.readableRec t = true ∧ t < P.types.size) → DataW.TrodAll enc P W 0 (fun _ => true) true ts vs ds ps → DataW.TrodAll enc P W' 0 (fun b => decide (b < W.heap.size)) true ts vs ds ps
  | [], [], [], _, _, h => h
  | t :: ts, v :: vs, d :: ds, ps, hr, h => by
    obtain ⟨p, q, ⟨m, hm⟩, hq, rfl⟩ := h
    have h1 := hr t (List.mem_cons_self ..)
    exact ⟨p, q, Below.trod hl h1.1 h1.2 ⟨m, hm⟩ hb (fun x hx => DataW.trod_lt m _ _ _ hm x hx), trodAll_stays hl hb (fun t ht => hr t (List.mem_cons_of_mem _ ht)) hq, rfl⟩
  | [], _ :: _, _, _, _, h => h.elim
  | [], [], _ :: _, _, _, h => h.elim
  | _ :: _, [], _, _, _, h => h.elim
  | _ :: _, _ :: _, [], _, _, h => h.elim

theorem trodAll_size : ∀ {w : World} {base : Nat} {spare : Nat → Bool} {held : Bool} {ts : List TypeId} {vs : List Value} {ds : List (DataW H)} {ps : List MemPlace}, DataW.TrodAll enc P w base spare held ts vs ds ps → ds.length = ts.length
  | _, _, _, _, [], [], [], _, _ => rfl
  | _, _, _, _, t :: ts, v :: vs, d :: ds, _, h => by
    obtain ⟨p, q, _, hq, _⟩ := h
    simp [trodAll_size hq]
  | _, _, _, _, [], _ :: _, _, _, h => h.elim
  | _, _, _, _, [], [], _ :: _, _, h => h.elim
  | _, _, _, _, _ :: _, [], _, _, h => h.elim
  | _, _, _, _, _ :: _, _ :: _, [], _, h => h.elim

theorem law_post {W : World} {args : Array Value} {ds gs : List (DataW H)} {before : List MemPlace} {fn : Func} {s : ChangeSpec} {f : Nat} {tb : TypeId} (hl : laidOutB P = true) (hvars : s.vars = []) (htb : P.underlying tb = some .bool) (hrt : fn.resultTypes = #[tb])
    (hr : ∀ t ∈ fn.params.toList, P.readableRec t = true ∧ t < P.types.size) (hfn : ∀ ds : List (DataW H), ds.length = fn.params.toList.length → s.fn H ds = { results := [.lit (.bool true)], args := ds })
    (hW : DataW.Whole enc P fn.params.toList s.vars false W args.toList ds gs before) (hc : Calls P f args W (RetT W true)) :
    Calls P f args W fun e W' => ∃ v, e = .returned v ∧ s.post enc P fn false true false false W args v W' := by
  refine hc.mono fun e W' h => ?_
  obtain ⟨he, bel⟩ := h
  subst he
  have hW' := hW
  obtain ⟨p, q, hA, hV, rfl, hfz, hnd⟩ := hW
  rw [hvars] at hV
  obtain ⟨rfl, rfl⟩ := trodVars_none hV
  have hfd := hfn ds (trodAll_size hA)
  refine ⟨_, rfl, ds, [], p ++ [], [], p, [], hW', ?_, ?_, ?_, bel.frame _, fun h => by cases h⟩
  · rw [hrt, List.append_nil, hfd]
    exact trodAll_mk1 (shut_bool htb _)
  · rw [List.append_nil, hfd]
    exact trodAll_stays hl bel hr hA
  · rw [hvars, List.append_nil, hfd]
    rfl
end
end Go.Proofs.YtgdnmdnhkhpieaaGreat
namespace Go.Proofs.YtgdnmdnhkhpieaaGreat
open Go.RowKit Go.ChangeShapes Go.WideShapes Go.ChangeAt Go.Deep
def DecV {α : Type} (P : Program) (t : TypeId) (sz : Nat) (g : α → List PV) (Good : α → Prop) : Prop :=
  P.cellsOf t = sz ∧ ∀ (H : Type) (enc : TypeId × Value → H) (w : World) (base : Nat) (spare : Nat → Bool) (held : Bool) (fuel : Nat) (cs : List Value) (x : DataW H × List MemPlace),
    DataW.trod enc P w base spare held fuel t cs = some x → ∃ a, cs.length = sz ∧ (g a).length = sz ∧ (∀ (j : Nat) (u : Value) (y : PV), cs[j]? = some u → (g a)[j]? = some y → RVp (fun _ => True) w u y) ∧ Good a
theorem Dec.toV {α : Type} {P : Program} {t : TypeId} {sz : Nat} {f : α → List Value} {G : α → Prop} (h : Dec P t sz f G) (hf : ∀ a, (f a).length = sz) (ho : ∀ a, ∀ u ∈ f a, u.oneCell' = true) : DecV P t sz (fun a => (f a).map .v) G :=
  ⟨h.1, fun H enc w base spare held fuel cs x hx => by
    obtain ⟨a, rfl, ga⟩ := h.2 H enc w base spare held fuel cs x hx
    refine ⟨a, hf a, by simp [hf], fun j u y hu hy => ?_, ga⟩
    rw [List.getElem?_map, hu] at hy
    cases hy
    exact .v u (ho a u (List.mem_of_getElem? hu))⟩
theorem DecV.map {α β : Type} {P : Program} {t : TypeId} {sz : Nat} {g : α → List PV} {G : α → Prop} (h : DecV P t sz g G) {g' : β → List PV} {G' : β → Prop} (hg : ∀ a, G a → ∃ b, g a = g' b ∧ G' b) : DecV P t sz g' G' :=
  ⟨h.1, fun H enc w base spare held fuel cs x hx => by
    obtain ⟨a, h1, h2, h3, ga⟩ := h.2 H enc w base spare held fuel cs x hx
    obtain ⟨b, e, gb⟩ := hg a ga
    exact ⟨b, h1, by rw [← e]; exact h2, by rw [← e]; exact h3, gb⟩⟩
theorem decV_slice {α : Type} {P : Program} {t e : TypeId} {sz : Nat} {g : α → List PV} {G : α → Prop} (ht : P.underlying t = some (.slice e)) (hc : P.cellsOf t = 1) (he : DecV P e sz g G) (hs : 0 < sz) (hgl : ∀ a, (g a).length = sz) :
    DecV P t 1 (fun l : List α => [PV.sl false sz l.length (l.flatMap g)]) (fun l => l.length ≤ maxLen ∧ ∀ a ∈ l, G a) :=
  ⟨hc, fun H enc w base spare held fuel cs x hx => by
    rcases DataW.trod_slice ht hx with ⟨rfl, _⟩ | ⟨a, n, c, elems, rest, m, _, rfl, _, _, hl, hm, hel, hi, _, _⟩
    · refine ⟨[], rfl, rfl, fun j u y hu hy => ?_, Nat.zero_le _, by simp⟩
      cases j with
      | zero =>
        simp only [List.getElem?_cons_zero, Option.some.injEq] at hu hy
        subst hu hy
        exact .sl false sz none 0 0 [] [] (Nat.le_refl _) (Nat.zero_le _) (fun _ => rfl) (fun h => by cases h) rfl (by simp) (fun h => absurd rfl h) fun j u x hu => by cases hu
      | succ j => simp at hu
    · have key : ∀ i, i < n → ∃ b : α, G b ∧ ∃ us : List Value, us.length = sz ∧ (∀ j, j < sz → w.cell? (a.add (i * sz + j)) = us[j]?) ∧ ∀ (j : Nat) (u : Value) (y : PV), us[j]? = some u → (g b)[j]? = some y → RVp (fun _ => True) w u y := by
        intro i hin
        have h1 := hi i hin
        rw [List.getElem?_eq_getElem (by omega)] at h1
        obtain ⟨us, hcs, htr⟩ := Option.bind_eq_some_iff.1 h1
        rw [he.1] at hcs
        obtain ⟨b, hb1, hb2, hb3, hG⟩ := he.2 H enc w base spare held m us _ htr
        obtain ⟨_, hcl, hat⟩ := World.cells?_some hcs
        refine ⟨b, hG, us, hb1, fun j hj => ?_, hb3⟩
        rw [← Go.Deep.add_add, hat j hj]
      have key2 : ∃ l : List α, l.length = n ∧ ∀ i b, l[i]? = some b → G b ∧ ∃ us : List Value, us.length = sz ∧ (∀ j, j < sz → w.cell? (a.add (i * sz + j)) = us[j]?) ∧ ∀ (j : Nat) (u : Value) (y : PV), us[j]? = some u → (g b)[j]? = some y → RVp (fun _ => True) w u y :=
        choose_list (p := fun i b => G b ∧ ∃ us : List Value, us.length = sz ∧ (∀ j, j < sz → w.cell? (a.add (i * sz + j)) = us[j]?) ∧ ∀ (j : Nat) (u : Value) (y : PV), us[j]? = some u → (g b)[j]? = some y → RVp (fun _ => True) w u y) n key
      obtain ⟨l, hll, hp⟩ := key2
      have hcell : ∀ j, j < n * sz → ∃ u, w.cell? (a.add j) = some u ∧ ∀ y, (l.flatMap g)[j]? = some y → RVp (fun _ => True) w u y := fun j hjl => by
        have hq : j / sz < n := Nat.div_lt_of_lt_mul (by rw [Nat.mul_comm]; exact hjl)
        have hr : j % sz < sz := Nat.mod_lt _ hs
        have hj : j = j / sz * sz + j % sz := by rw [Nat.mul_comm]; exact (Nat.div_add_mod j sz).symm
        have hk : l[j / sz]? = some (l[j / sz]'(by omega)) := List.getElem?_eq_getElem (by omega)
        obtain ⟨_, us, hul, hc1, hrv⟩ := hp _ _ hk
        have h1 := hc1 _ hr
        rw [← hj, List.getElem?_eq_getElem (by omega)] at h1
        refine ⟨_, h1, fun y hy => hrv (j % sz) _ y (List.getElem?_eq_getElem (by omega)) ?_⟩
        have h2 := flat_at hgl hk
        have h3 : ((l.flatMap g).drop (j / sz * sz)).take sz = g (l[j / sz]'(by omega)) := h2
        rw [← h3, List.getElem?_take, if_pos hr, List.getElem?_drop, ← hj]
        exact hy
      have hus : ∃ us : List Value, us.length = n * sz ∧ ∀ j u, us[j]? = some u → w.cell? (a.add j) = some u ∧ ∀ y, (l.flatMap g)[j]? = some y → RVp (fun _ => True) w u y :=
        choose_list (p := fun j u => w.cell? (a.add j) = some u ∧ ∀ y, (l.flatMap g)[j]? = some y → RVp (fun _ => True) w u y) (n * sz) hcell
      obtain ⟨us, husl, hu⟩ := hus
      have hfl : (l.flatMap g).length = n * sz := by rw [flat_length hgl, hll]
      refine ⟨l, rfl, rfl, fun j u y hu0 hy => ?_, by omega, fun b hb => ?_⟩
      · cases j with
        | zero =>
          simp only [List.getElem?_cons_zero, Option.some.injEq] at hu0 hy
          subst hu0 hy
          rw [hll]
          refine .sl false sz (some a) n c us _ hl hm (fun h => by cases h) (fun h => by cases h) (by rw [husl, hfl]) hfl (fun hne => ?_) fun j u x hj hx => (hu j u hj).2 x hx
          obtain ⟨u0, rest0, hu0⟩ := List.exists_cons_of_ne_nil hne
          have hc0 := (hu 0 u0 (by rw [hu0]; rfl)).1
          rw [add_zero'] at hc0
          have hspot := World.cell?_spot hc0
          obtain ⟨ab, ao, asp⟩ := a
          simp only at hspot
          subst hspot
          exact ⟨ab, ao, rfl, trivial, fun j u hj => by have := (hu j u hj).1; rwa [add_none] at this⟩
        | succ j => simp at hu0
      · obtain ⟨i, hi'⟩ := List.mem_iff_getElem?.1 hb
        exact (hp i b hi').1⟩
theorem open_V {H : Type} {enc : TypeId × Value → H} {α : Type} {P : Program} {t : TypeId} {g : α → PV} {G : α → Prop} {w : World} {base : Nat} {spare : Nat → Bool} {held : Bool} {v : Value} {d : DataW H} {ps : List MemPlace} (h : DecV P t 1 (fun a => [g a]) G) (hv : v.cells.toList = [v]) (ht : DataW.Trod enc P w base spare held t v d ps) (ι : Nat → Nat × Nat × Nat) :
    ∃ a, RV (fun _ => True) ι w v (.c (g a)) ∧ G a := by
  obtain ⟨fuel, ht⟩ := ht
  obtain ⟨a, _, _, h3, ga⟩ := h.2 H enc w base spare held fuel _ _ ht
  exact ⟨a, .c _ _ (h3 0 v (g a) (by rw [hv]; rfl) rfl), ga⟩
theorem decV_triple {α β γ : Type} {P : Program} {t : TypeId} {f0 f1 f2 : Field} {s0 s1 s2 : Nat} {f : α → List PV} {g : β → List PV} {h : γ → List PV} {G : α → Prop} {G' : β → Prop} {G2 : γ → Prop} (ht : P.underlying t = some (.struct #[f0, f1, f2])) (hc : P.cellsOf t = s0 + (s1 + s2))
    (h0 : DecV P f0.type s0 f G) (h1 : DecV P f1.type s1 g G') (h2 : DecV P f2.type s2 h G2) (o0 : f0.offset = 0) (o1 : f1.offset = s0) (o2 : f2.offset = s0 + s1) : DecV P t (s0 + (s1 + s2)) (fun x : α × β × γ => f x.1 ++ (g x.2.1 ++ h x.2.2)) (fun x => G x.1 ∧ G' x.2.1 ∧ G2 x.2.2) :=
  ⟨hc, fun H enc w base spare held fuel cs x hx => by
    obtain ⟨xs, n, _, _, hlen, hxl, hf⟩ := DataW.trod_struct ht hx
    have e0 := hf 0 f0 rfl
    have e1 := hf 1 f1 rfl
    have e2 := hf 2 f2 rfl
    have hxl' : xs.length = 3 := hxl
    rw [o0, h0.1, List.drop_zero, List.getElem?_eq_getElem (by omega)] at e0
    rw [o1, h1.1, List.getElem?_eq_getElem (by omega)] at e1
    rw [o2, h2.1, List.getElem?_eq_getElem (by omega)] at e2
    obtain ⟨a, a1, a2, a3, ga⟩ := h0.2 H enc w base spare held n _ _ e0
    obtain ⟨b, b1, b2, b3, gb⟩ := h1.2 H enc w base spare held n _ _ e1
    obtain ⟨c, c1, c2, c3, gc⟩ := h2.2 H enc w base spare held n _ _ e2
    rw [hc] at hlen
    refine ⟨(a, b, c), hlen, by simp [a2, b2, c2], fun j u y hu hy => ?_, ga, gb, gc⟩
    dsimp only at hy
    rw [List.getElem?_append] at hy
    split at hy
    · exact a3 j u y (by rw [List.getElem?_take, if_pos (by omega)]; exact hu) hy
    · rw [List.getElem?_append] at hy
      split at hy
      · refine b3 (j - (f a).length) u y ?_ hy
        rw [List.getElem?_take, if_pos (by omega), List.getElem?_drop, a2, show s0 + (j - s0) = j by omega]; exact hu
      · have hjl := (List.getElem?_eq_some_iff.1 hy).1
        refine c3 (j - (f a).length - (g b).length) u y ?_ hy
        rw [List.getElem?_take, if_pos (by omega), List.getElem?_drop, a2, b2, show s0 + s1 + (j - s0 - s1) = j by omega]; exact hu⟩
theorem decV_int {P : Program} {t : TypeId} {k : IntKind} (ht : P.underlying t = some (.int k)) (hc : P.cellsOf t = 1) : DecV P t 1 (fun n : Int => [PV.v (.int k n)]) (fun n => (Lit.int k n).wf = true) :=
  ((dec_int ht hc).toV (fun _ => rfl) (fun a u hu => by simp at hu; subst hu; rfl)).map fun a ga => ⟨a, rfl, ga⟩
theorem decV_u64 {P : Program} {t : TypeId} (ht : P.underlying t = some (.int .u64)) (hc : P.cellsOf t = 1) : DecV P t 1 (fun n : Int => [PV.v (.int .u64 n)]) (fun n => 0 ≤ n ∧ n ≤ 18446744073709551615) :=
  (decV_int ht hc).map fun a ga => ⟨a, rfl, by have := wf_u64 ga; omega⟩
theorem decV_w4 {P : Program} {t e : TypeId} (ht : P.underlying t = some (.array 4 e)) (hc : P.cellsOf t = 4 * 1) (he : P.underlying e = some (.int .u64)) (hce : P.cellsOf e = 1) :
    DecV P t 4 (fun x : Int × Int × Int × Int => [PV.v (.int .u64 x.1), .v (.int .u64 x.2.1), .v (.int .u64 x.2.2.1), .v (.int .u64 x.2.2.2)]) (fun x => (0 ≤ x.1 ∧ x.1 ≤ 18446744073709551615) ∧ (0 ≤ x.2.1 ∧ x.2.1 ≤ 18446744073709551615) ∧ (0 ≤ x.2.2.1 ∧ x.2.2.1 ≤ 18446744073709551615) ∧ (0 ≤ x.2.2.2 ∧ x.2.2.2 ≤ 18446744073709551615)) :=
  ((dec_map (f' := fun x : Int × Int × Int × Int => [.int .u64 x.1, .int .u64 x.2.1, .int .u64 x.2.2.1, .int .u64 x.2.2.2]) (G' := fun x => (0 ≤ x.1 ∧ x.1 ≤ 18446744073709551615) ∧ (0 ≤ x.2.1 ∧ x.2.1 ≤ 18446744073709551615) ∧ (0 ≤ x.2.2.1 ∧ x.2.2.1 ≤ 18446744073709551615) ∧ (0 ≤ x.2.2.2 ∧ x.2.2.2 ≤ 18446744073709551615)) (dec_arr (n := 4) ht hc (by omega) (dec_u64 he hce) (fun _ => rfl)) fun l ⟨hl, hg⟩ => by
    match l, hl with
    | [x, y, z, u], _ =>
      have h1 := hg x (by simp)
      have h2 := hg y (by simp)
      have h3 := hg z (by simp)
      have h4 := hg u (by simp)
      exact ⟨(x, y, z, u), by simp [sts], ⟨by simp only; omega, by simp only; omega⟩, ⟨by simp only; omega, by simp only; omega⟩, ⟨by simp only; omega, by simp only; omega⟩, ⟨by simp only; omega, by simp only; omega⟩⟩).toV (fun _ => rfl) (fun a u hu => by simp at hu; rcases hu with rfl | rfl | rfl | rfl <;> rfl)).map fun a ga => ⟨a, rfl, ga⟩
open Go.RowKit Go.ChangeShapes Go.WideShapes Go.ChangeAt Go.Deep
def DecF {α : Type} (P : Program) (fs : List Field) (o sz : Nat) (g : α → List PV) (Good : α → Prop) : Prop :=
  ∀ (H : Type) (enc : TypeId × Value → H) (w : World) (base : Nat) (spare : Nat → Bool) (held : Bool) (fuel : Nat) (cs : List Value), o + sz ≤ cs.length →
    (∀ f ∈ fs, ∃ x : DataW H × List MemPlace, DataW.trod enc P w base spare held fuel f.type ((cs.drop f.offset).take (P.cellsOf f.type)) = some x) →
    ∃ a, (g a).length = sz ∧ (∀ (j : Nat) (u : Value) (y : PV), cs[o + j]? = some u → (g a)[j]? = some y → RVp (fun _ => True) w u y) ∧ Good a
theorem decF_one {α : Type} {P : Program} {f : Field} {o sz : Nat} {g : α → List PV} {G : α → Prop} (h : DecV P f.type sz g G) (ho : f.offset = o) : DecF P [f] o sz g G := by
  intro H enc w base spare held fuel cs hlen hf
  obtain ⟨x, hx⟩ := hf f (by simp)
  rw [ho, h.1] at hx
  obtain ⟨a, a1, a2, a3, ga⟩ := h.2 H enc w base spare held fuel _ _ hx
  refine ⟨a, a2, fun j u y hu hy => a3 j u y ?_ hy, ga⟩
  have hj := (List.getElem?_eq_some_iff.1 hy).1
  rw [List.getElem?_take, if_pos (by omega), List.getElem?_drop]
  exact hu
theorem decF_cons {α β : Type} {P : Program} {f : Field} {fs : List Field} {o s0 s1 : Nat} {g : α → List PV} {g' : β → List PV} {G : α → Prop} {G' : β → Prop} (h : DecV P f.type s0 g G) (ho : f.offset = o) (hr : DecF P fs (o + s0) s1 g' G') :
    DecF P (f :: fs) o (s0 + s1) (fun x : α × β => g x.1 ++ g' x.2) (fun x => G x.1 ∧ G' x.2) := by
  intro H enc w base spare held fuel cs hlen hf
  obtain ⟨a, a2, a3, ga⟩ := decF_one h ho H enc w base spare held fuel cs (by omega) (fun f' hf' => hf f' (by simp at hf'; simp [hf']))
  obtain ⟨b, b2, b3, gb⟩ := hr H enc w base spare held fuel cs (by omega) (fun f' hf' => hf f' (by simp [hf']))
  refine ⟨(a, b), by simp [a2, b2], fun j u y hu hy => ?_, ga, gb⟩
  dsimp only at hy
  rw [List.getElem?_append] at hy
  split at hy
  · exact a3 j u y hu hy
  · exact b3 (j - (g a).length) u y (by rw [a2, show o + s0 + (j - s0) = o + j by omega]; exact hu) hy
theorem decV_struct {α : Type} {P : Program} {t : TypeId} {fs : Array Field} {sz : Nat} {g : α → List PV} {G : α → Prop} (ht : P.underlying t = some (.struct fs)) (hc : P.cellsOf t = sz) (h : DecF P fs.toList 0 sz g G) : DecV P t sz g G :=
  ⟨hc, fun H enc w base spare held fuel cs x hx => by
    obtain ⟨xs, n, _, _, hlen, hxl, hf⟩ := DataW.trod_struct ht hx
    rw [hc] at hlen
    obtain ⟨a, a2, a3, ga⟩ := h H enc w base spare held n cs (by omega) (fun f hf' => by
      obtain ⟨k, hk⟩ := List.mem_iff_getElem?.1 hf'
      have hk' : fs[k]? = some f := by rw [← Array.getElem?_toList]; exact hk
      have h1 := hf k f hk'
      have hlt := (Array.getElem?_eq_some_iff.1 hk').1
      rw [List.getElem?_eq_getElem (by omega)] at h1
      exact ⟨_, h1⟩)
    exact ⟨a, hlen, a2, fun j u y hu hy => a3 j u y (by rw [Nat.zero_add]; exact hu) hy, ga⟩⟩
theorem open_VA {H : Type} {enc : TypeId × Value → H} {α : Type} {P : Program} {t : TypeId} {sz : Nat} {g : α → List PV} {G : α → Prop} {w : World} {base : Nat} {spare : Nat → Bool} {held : Bool} {cs : Array Value} {d : DataW H} {ps : List MemPlace} (h : DecV P t sz g G) (ht : DataW.Trod enc P w base spare held t (.agg cs) d ps) (ι : Nat → Nat × Nat × Nat) :
    ∃ a, RV (fun _ => True) ι w (.agg cs) (.agg ((g a).map .c)) ∧ G a := by
  obtain ⟨fuel, ht⟩ := ht
  obtain ⟨a, a1, a2, a3, ga⟩ := h.2 H enc w base spare held fuel _ _ ht
  have e : (Value.agg cs).cells.toList = cs.toList := rfl
  rw [e] at a1 a3
  refine ⟨a, ?_, ga⟩
  have hc : cs = cs.toList.toArray := by simp
  rw [hc]
  have key : ∀ (j : Nat) (u : Value) (y : PV), cs.toList[j]? = some u → (g a)[j]? = some y → RVp (fun _ => True) w u y := a3
  refine .agg cs.toList _ (by rw [List.length_map, a1, a2]) (fun u hu => ?_) fun j u x hu hx => ?_
  · obtain ⟨j, hj⟩ := List.mem_iff_getElem?.1 hu
    have hlt := (List.getElem?_eq_some_iff.1 hj).1
    exact (key j u _ hj (List.getElem?_eq_getElem (by omega))).one
  · rw [List.getElem?_map, Option.map_eq_some_iff] at hx
    obtain ⟨y, hy, rfl⟩ := hx
    exact .c _ _ (key j u y hu hy)
theorem okWide_struct {P : Program} {w : World} {r : Reach} {base : Nat} {t : TypeId} {fs : Array Field} {v : Value} (ht : P.underlying t = some (.struct fs)) (h : Value.okWide P w r base t v) : ∃ cs, v = .agg cs := by
  simp only [Value.okWide, ht] at h
  obtain ⟨cs, h1, _⟩ := h
  exact ⟨cs, h1⟩
end Go.Proofs.YtgdnmdnhkhpieaaGreat
namespace Go.Proofs.YtgdnmdnhkhpieaaGreat
open Go.RowKit
set_option maxRecDepth 20000
set_option maxHeartbeats 2000000
def w1 : List Ac := [⟨20, 7, 0, [], []⟩]
def w2 : List Ac := [⟨20, 4, 0, [], []⟩, ⟨21, 3, 0, [], []⟩]
def w3 : List Ac := [⟨20, 4, 0, [], []⟩, ⟨21, 3, 0, [], [⟨5, 9⟩]⟩]
theorem v1 : mintS [] 20 7 = (w1, 0) := by kernel_rfl
theorem v2 : moveS w1 20 21 3 = (w2, 0) := by kernel_rfl
theorem v3 : saveS w2 21 5 9 = (w3, 0) := by kernel_rfl
theorem v4 : totalS w3 = 7 := by kernel_rfl
theorem v5 : loadX (OfS w3 21) 5 = 9 := by kernel_rfl
theorem k0 : Okl [] := ⟨Nat.zero_le _, fun x h => by cases h⟩
theorem word_of {a b c d : Int} (ha : 0 ≤ a ∧ a ≤ 18446744073709551615) (hb : 0 ≤ b ∧ b ≤ 18446744073709551615) (hc : 0 ≤ c ∧ c ≤ 18446744073709551615) (hd : 0 ≤ d ∧ d ≤ 18446744073709551615) : ∃ n : Nat, n < WW ∧ l0 n = a ∧ l1 n = b ∧ l2 n = c ∧ l3 n = d := by
  refine ⟨a.toNat + 18446744073709551616 * (b.toNat + 18446744073709551616 * (c.toNat + 18446744073709551616 * d.toNat)), ?_, ?_⟩
  · show _ < 115792089237316195423570985008687907853269984665640564039457584007913129639936
    omega
  · obtain ⟨h0, h1, h2, h3⟩ := limbs_of (s0 := a.toNat) (s1 := b.toNat) (s2 := c.toNat) (s3 := d.toNat) rfl (by omega) (by omega) (by omega) (by omega)
    rw [h0, h1, h2, h3]
    exact ⟨Int.toNat_of_nonneg ha.1, Int.toNat_of_nonneg hb.1, Int.toNat_of_nonneg hc.1, Int.toNat_of_nonneg hd.1⟩
theorem decV_word : DecV Tryz.prog 37 4 wpv (fun n => n < WW) :=
  (decV_w4 Tryz.underlying37 (by kernel_rfl) Tryz.underlying35 (by kernel_rfl)).map fun x hx => by
    obtain ⟨n, hn, h0, h1, h2, h3⟩ := word_of hx.1 hx.2.1 hx.2.2.1 hx.2.2.2
    exact ⟨n, by unfold wpv; rw [h0, h1, h2, h3], hn⟩
theorem decV_addr : DecV Tryz.prog 42 1 (fun n : Int => [PV.v (.int .u64 n)]) U := (decV_u64 Tryz.underlying42 (by kernel_rfl)).map fun a ga => ⟨a, rfl, ga⟩
theorem decV_num : DecV Tryz.prog 35 1 (fun n : Int => [PV.v (.int .u64 n)]) U := (decV_u64 Tryz.underlying35 (by kernel_rfl)).map fun a ga => ⟨a, rfl, ga⟩
theorem decV_byte : DecV Tryz.prog 5 1 bpv (fun n => n < 256) := (decV_int Tryz.underlying5 (by kernel_rfl)).map fun a ga => ⟨a.toNat, by unfold bpv; rw [Int.toNat_of_nonneg (wf_u8 ga).1], by have := wf_u8 ga; omega⟩
theorem decV_bytes : DecV Tryz.prog 54 1 (fun l : List Nat => [PV.sl false 1 l.length (l.flatMap bpv)]) (fun l => l.length ≤ maxLen ∧ ∀ a ∈ l, a < 256) :=
  decV_slice Tryz.underlying54 (by kernel_rfl) decV_byte (by omega) bpv_len
theorem decV_pairP : DecV Tryz.prog 62 8 Pr.pv Pr.ok :=
  (decV_struct (sz := 4 + 4) Tryz.underlying62 (by kernel_rfl) (decF_cons decV_word rfl (decF_one decV_word rfl))).map fun x hx => ⟨⟨x.1, x.2⟩, rfl, hx⟩
theorem decV_pairs : DecV Tryz.prog 55 1 (fun l : List Pr => [PV.sl false 8 l.length (l.flatMap Pr.pv)]) (fun l => l.length ≤ maxLen ∧ ∀ a ∈ l, a.ok) :=
  decV_slice Tryz.underlying55 (by kernel_rfl) decV_pairP (by omega) pr_len
theorem decV_account : DecV Tryz.prog 57 8 Ac.pv Ac.ok :=
  (decV_struct (sz := 1 + (4 + (1 + (1 + 1)))) Tryz.underlying57 (by kernel_rfl) (decF_cons decV_addr rfl (decF_cons decV_word rfl (decF_cons decV_num rfl (decF_cons decV_bytes rfl (decF_one decV_pairs rfl)))))).map fun x hx => ⟨⟨x.1, x.2.1, x.2.2.1, x.2.2.2.1, x.2.2.2.2⟩, rfl, hx⟩
theorem decV_accounts : DecV Tryz.prog 22 1 (fun l : List Ac => [PV.sl false 8 l.length (l.flatMap Ac.pv)]) (fun l => l.length ≤ maxLen ∧ ∀ a ∈ l, a.ok) :=
  decV_slice Tryz.underlying22 (by kernel_rfl) decV_account (by omega) ac_len
end Go.Proofs.YtgdnmdnhkhpieaaGreat
namespace Go.Proofs.YtgdnmdnhkhpieaaGreat
open Go.RowKit
set_option maxRecDepth 20000
set_option maxHeartbeats 2000000
structure Do where
  kind : Int
  a : Int
  b : Int
  n : Nat
  p : Pr
  x : Ac
def Do.ok (o : Do) : Prop := (-9223372036854775808 ≤ o.kind ∧ o.kind ≤ 9223372036854775807) ∧ U o.a ∧ U o.b ∧ o.n < WW ∧ o.p.ok ∧ o.x.ok
def Do.pv (o : Do) : List PV := .v (.int .i64 o.kind) :: .v (.int .u64 o.a) :: .v (.int .u64 o.b) :: (wpv o.n ++ (o.p.pv ++ o.x.pv))
end Go.Proofs.YtgdnmdnhkhpieaaGreat
namespace Go.Proofs.YtgdnmdnhkhpieaaGreat
open Go.RowKit
set_option maxRecDepth 20000
set_option maxHeartbeats 2000000
theorem findS_of {L : List Ac} (h : okSt L = true) (a : Int) : findS L a = ofS L a := (ofS_fnd (okSt_iff.1 h).1 a).symm
end Go.Proofs.YtgdnmdnhkhpieaaGreat
namespace Go.Proofs.YtgdnmdnhkhpieaaGreat.lg
open Go.RowKit
set_option maxRecDepth 20000
set_option maxHeartbeats 2000000
theorem Fn.res {P : Program} {f : FuncId} {args : List AV} {H0 H1 : List (Nat × List AV)} {res res' : AV} (h : Fn P f args H0 res H1) (hr : ∀ S ι w v, RV S ι w v res → RV S ι w v res') : Fn P f args H0 res' H1 := by
  intro E vs hD hS hH hlen hargs
  refine (h E vs hD hS hH hlen hargs).mono fun e w' => ?_
  rintro ⟨v, ι', rfl, hres, hc, hk⟩
  exact ⟨v, ι', rfl, hr _ _ _ _ hres, hc, hk⟩
structure Dd where
  k : Int
  a : Int
  n : Nat
  y : Int
  t : Int
def Dd.ok (D : Dd) : Prop := U D.a ∧ D.n < WW ∧ U D.y ∧ U D.t
def Dd.q (D : Dd) : Int := (IntKind.u64.wrap D.k).tmod 5
def Dd.er (D : Dd) (l : List Hd) (h : Hd) : Int := if D.q = 0 then fitsE l D.a D.n else if D.q = 1 then wdrE h D.n else if D.q = 2 then bondE l D.a h D.n D.y else if D.q = 3 then unlE h D.t else relE h D.t
def Dd.row (D : Dd) (h : Hd) : Hd := if D.q = 0 then depH h D.n else if D.q = 1 then wdrH h D.n else if D.q = 2 then bondH h D.n D.y else if D.q = 3 then unlH h D.t else relH h
def Dd.E (D : Dd) (l : List Hd) : Int := gate l D.a (D.er l (findH l D.a))
def Dd.M (D : Dd) (l : List Hd) : List Hd := if D.E l = 0 then putL l (D.row (findH l D.a)) else []
def Dd.W (D : Dd) (l : List Hd) : Nat := if D.q = 0 ∨ D.q = 1 ∨ D.q = 2 ∨ D.q = 3 then 0 else if D.E l = 0 then (findH l D.a).s else 0
end Go.Proofs.YtgdnmdnhkhpieaaGreat.lg
namespace Go.Proofs.YtgdnmdnhkhpieaaGreat.lg
open Go.RowKit
set_option maxRecDepth 20000
set_option maxHeartbeats 2000000
def srt (l : List Hd) : Prop := l.Pairwise fun x y => x.a < y.a
theorem lastA_succ {l : List Hd} {i : Nat} {y : Hd} (h : l[i]? = some y) : lastA l (i + 1) = y.a := by
  show (match l[i]? with | some y => y.a | none => 0) = y.a
  rw [h]
theorem okL_srt {l : List Hd} (h : okL l = true) : srt l := by
  unfold okL at h
  rw [Bool.and_eq_true, Bool.and_eq_true] at h
  have hR := okU_all h.2.1
  have key : ∀ j, ∀ i, i < j → ∀ (hj : j < l.length) (hi : i < l.length), l[i].a < l[j].a := by
    intro j
    induction j with
    | zero => intro i hi; omega
    | succ j ih =>
      intro i hi hj hi'
      have h1 := hR (j + 1) hj
      unfold okR at h1
      rw [List.getElem?_eq_getElem hj] at h1
      dsimp only at h1
      rw [Bool.and_eq_true, decide_eq_true_eq, lastA_succ (List.getElem?_eq_getElem (by omega : j < l.length))] at h1
      rcases Nat.lt_or_ge i j with h2 | h2
      · exact Int.lt_trans (ih i h2 (by omega) hi') h1.2
      · obtain rfl : i = j := by omega
        exact h1.2
  unfold srt
  rw [List.pairwise_iff_getElem]
  intro i j hi hj hij
  exact key j i hij hj hi
def emptyH (h : Hd) : Bool := decide (h.p = 0) && decide (h.s = 0)
def zH (a : Int) : Hd := ⟨a, 0, 0, 0, 0⟩
theorem cutA {l : List Hd} (hs : srt l) (a : Int) : ∃ (A : List Hd) (o : Option Hd) (B : List Hd), l = A ++ (o.toList ++ B) ∧ (∀ x ∈ A, x.a < a) ∧ (∀ x ∈ o, x.a = a) ∧ (∀ x ∈ B, a < x.a) ∧ isA l a = o.isSome ∧ findH l a = o.getD (zH a) ∧ ∀ h : Hd, h.a = a → putL l h = A ++ ((if emptyH h = true then [] else [h]) ++ B) := by
  have hle := posA_le l a
  have hA : ∀ x ∈ l.take (posA l a), x.a < a := by
    intro x hx
    obtain ⟨i, hi, rfl⟩ := List.getElem_of_mem hx
    rw [List.length_take] at hi
    rw [List.getElem_take]
    have hlt : i < l.findIdx fun h => decide (a ≤ h.a) := by
      have : posA l a = l.findIdx fun h => decide (a ≤ h.a) := rfl
      omega
    have := List.not_of_lt_findIdx hlt
    simpa using this
  rcases Nat.lt_or_ge (posA l a) l.length with hlt | hge
  · have hat : a ≤ (l[posA l a]).a := by
      have h2 : l.findIdx (fun h => decide (a ≤ h.a)) < l.length := hlt
      have := List.findIdx_getElem (w := h2)
      exact of_decide_eq_true this
    have hl : l = l.take (posA l a) ++ l[posA l a] :: l.drop (posA l a + 1) := by
      conv => lhs; rw [← List.take_append_drop (posA l a) l, List.drop_eq_getElem_cons hlt]
    have hB : ∀ x ∈ l.drop (posA l a + 1), (l[posA l a]).a < x.a := by
      intro x hx
      unfold srt at hs
      rw [hl, List.pairwise_append] at hs
      exact (List.pairwise_cons.1 hs.2.1).1 x hx
    have hg := List.getElem?_eq_getElem hlt
    by_cases he : (l[posA l a]).a = a
    · have hi : isA l a = true := by unfold isA; rw [hg]; simp [he]
      refine ⟨l.take (posA l a), some l[posA l a], l.drop (posA l a + 1), hl, hA, fun x hx => by cases hx; exact he, fun x hx => by have := hB x hx; omega, hi, by unfold findH; rw [hg]; simp [he], ?_⟩
      intro h hh
      have hrem : remL l a = l.take (posA l a) ++ l.drop (posA l a + 1) := by unfold remL; rw [if_pos hi]
      unfold putL
      rw [hh, hrem, List.take_append_of_le_length (by simp; omega), List.take_take, Nat.min_self, List.drop_append_of_le_length (by simp; omega)]
      have : (l.take (posA l a)).drop (posA l a) = [] := List.drop_eq_nil_of_le (by simp; omega)
      rw [this, List.nil_append]
      unfold emptyH
      split <;> rfl
    · have hi : isA l a = false := by unfold isA; rw [hg]; simp [he]
      refine ⟨l.take (posA l a), none, l.drop (posA l a), (List.take_append_drop _ _).symm, hA, fun x hx => (by cases hx), fun x hx => ?_, hi, by unfold findH; rw [hg]; simp [he, zH], ?_⟩
      · rw [List.drop_eq_getElem_cons hlt] at hx
        rcases List.mem_cons.1 hx with rfl | hx
        · omega
        · have := hB x hx; omega
      · intro h hh
        have hrem : remL l a = l := by unfold remL; rw [if_neg (by rw [hi]; decide)]
        unfold putL
        rw [hh, hrem]
        unfold emptyH
        split
        · exact (List.take_append_drop _ _).symm
        · rfl
  · have hp : posA l a = l.length := by omega
    have hg : l[posA l a]? = none := List.getElem?_eq_none (by omega)
    have hi : isA l a = false := by unfold isA; rw [hg]
    refine ⟨l, none, [], by simp, by rwa [hp, List.take_length] at hA, fun x hx => (by cases hx), fun x hx => (by cases hx), hi, by unfold findH; rw [hg]; rfl, ?_⟩
    intro h hh
    have hrem : remL l a = l := by unfold remL; rw [if_neg (by rw [hi]; decide)]
    unfold putL
    rw [hh, hrem, hp, List.take_length, List.drop_length]
    unfold emptyH
    split <;> simp
theorem tot_cons (h : Hd) (l : List Hd) : tot (h :: l) = h.p + h.s + tot l := by simp [tot]
end Go.Proofs.YtgdnmdnhkhpieaaGreat.lg
namespace Go.Proofs.YtgdnmdnhkhpieaaGreat.lg
open Go.RowKit
def lp (h : Hd) : Bool → List Hd → List Hd
  | laid, [] => if laid = true then [] else [h]
  | laid, y :: l => if laid = false ∧ h.a ≤ y.a then h :: ((if y.a = h.a then [] else [y]) ++ lp h true l) else (if y.a = h.a then [] else [y]) ++ lp h laid l
end Go.Proofs.YtgdnmdnhkhpieaaGreat.lg
namespace Go.Proofs.YtgdnmdnhkhpieaaGreat.lg
open Go.RowKit
open Nat (reduceBEq)
set_option maxRecDepth 20000
set_option maxHeartbeats 2000000
theorem rnone_fn (x : Nat) (hx : x < WW) : Fn Tryz.prog 59 [wN x] [] (vb (decide (x = 0))) [] := by
  have f := wN_zero hx
  obtain ⟨q, hq⟩ : ∃ q, decide (x = 0) = q := ⟨_, rfl⟩
  rw [hq] at f ⊢
  clear hq hx
  (refine fn_of Tryz.func59 rfl (by rfl) ?_; simp only [Tryz.ntmps59, List.length_cons, List.length_nil, Nat.reduceAdd, Nat.reduceSub, List.replicate, List.cons_append, List.nil_append])
  (repeat (any_goals (first | ((with_reducible refine evL_one ?_ ?_); rfl; intro K hK; simp only [go_sem]; ((repeat (refine ndI (by first | assumption | omega | rfl) ?_)); refine hK _ ?_; clear hK K)) | (with_reducible first | (refine evL_nil ?_; refine hR _ ?_; clear hR R) | ((first | refine evC_seq ?_ | refine evC_block ?_); intro Ψ hΨ hΨ') | (refine evC_region ?_; intro R hR) | (refine hΨ _ ?_; clear hΨ hΨ' Ψ) | refine evC_skip ?_ | refine evC_ret ?_ | refine evC_exit ?_) | ((with_reducible refine hΨ' _ _ ?_ ?_); (focus (simp; done)); clear hΨ hΨ' Ψ) | ((with_reducible apply evL_unmet); rfl; rfl; rfl; (try simp only [go_sem])) | ((with_reducible apply evL_grd); rfl; rfl; rfl; all_goals (intro hb; first | (cases hb; done) | ((try simp only [Bool.not_true, Bool.not_false] at hb); (first | ((with_reducible intro K hK); simp only [go_sem]; ((repeat (refine ndI (by first | assumption | omega | rfl) ?_)); refine hK _ ?_; clear hK K)) | ((fail_if_success (with_reducible intro _)); simp only [go_sem]))))) | ((with_reducible apply evC_cond); rfl; rfl; all_goals (intro hc; first | (cases hc; done) | (try simp only at hc))))))
  all_goals (refine ⟨by simp, ⟨_, ?_, AV.le_refl _⟩, leH_get (by simp [leH, hget])⟩; simp only [Tryz.results59, resL, ldA, oneOf, go_sem])
  all_goals simp_all
def rsm (n : Nat) : List Hd → Nat × Bool
  | [] => (n, true)
  | h :: l => if WW ≤ n + h.p then ((n + h.p) % WW, false) else if WW ≤ n + h.p + h.s then ((n + h.p + h.s) % WW, false) else rsm (n + h.p + h.s) l
theorem rsm_drop {n : Nat} {L : List Hd} {i : Nat} {y : Hd} (hx : L[i]? = some y) : rsm n (L.drop i) = if WW ≤ n + y.p then ((n + y.p) % WW, false) else if WW ≤ n + y.p + y.s then ((n + y.p + y.s) % WW, false) else rsm (n + y.p + y.s) (L.drop (i + 1)) := by
  obtain ⟨hl, rfl⟩ := List.getElem?_eq_some_iff.1 hx
  rw [List.drop_eq_getElem_cons hl]; rfl
theorem rsm_flag : ∀ {l : List Hd} {n : Nat}, n < WW → (rsm n l).2 = decide (n + tot l < WW)
  | [], n, hn => by
    have : n + tot [] < WW := by simpa [tot] using hn
    rw [decide_eq_true this]; rfl
  | h :: l, n, hn => by
    unfold rsm
    rw [tot_cons]
    by_cases h1 : WW ≤ n + h.p
    · rw [if_pos h1, decide_eq_false (by omega)]
    · rw [if_neg h1]
      by_cases h2 : WW ≤ n + h.p + h.s
      · rw [if_pos h2, decide_eq_false (by omega)]
      · rw [if_neg h2, rsm_flag (Nat.lt_of_not_le h2)]
        exact decide_eq_decide.2 (by omega)
theorem rsum_fn (ex : Bool) (l : List Hd) (hl : l.length ≤ 1000) (ok : ∀ h ∈ l, h.ok) : Fn Tryz.prog 60 [lg ex l] [] (.tup [wN (rsm 0 l).1, vb (rsm 0 l).2]) [] := by
  obtain ⟨R, hR⟩ : ∃ R, rsm 0 l = R := ⟨_, rfl⟩
  rw [hR]
  (refine fn_of Tryz.func60 rfl (by rfl) ?_; simp only [Tryz.ntmps60, List.length_cons, List.length_nil, Nat.reduceAdd, Nat.reduceSub, List.replicate, List.cons_append, List.nil_append])
  (repeat (any_goals (first | ((with_reducible refine evL_one ?_ ?_); rfl; intro K hK; simp only [go_sem]; ((repeat (refine ndI (by first | assumption | omega | rfl) ?_)); refine hK _ ?_; clear hK K)) | (with_reducible first | (refine evL_nil ?_; refine hR _ ?_; clear hR R) | ((first | refine evC_seq ?_ | refine evC_block ?_); intro Ψ hΨ hΨ') | (refine evC_region ?_; intro R hR) | (refine hΨ _ ?_; clear hΨ hΨ' Ψ) | refine evC_skip ?_ | refine evC_ret ?_ | refine evC_exit ?_) | ((with_reducible refine hΨ' _ _ ?_ ?_); (focus (simp; done)); clear hΨ hΨ' Ψ) | ((with_reducible apply evC_cond); rfl; rfl; all_goals (intro hc; first | (cases hc; done) | (try simp only at hc))) | ((with_reducible refine evD_nil ?_ ?_); kernel_rfl; (with_reducible refine hR _ ?_); clear hR R) | (((with_reducible apply evD_any); rfl; rfl; (simp only [rdE, rdOf, go_sem]; rfl); (intro τ hA hQ hN; ((try simp only [agree, Op.operands, Call.operands, go_sem, List.mem_cons, List.not_mem_nil, forall_eq_or_imp, forall_eq, List.append_toArray, Option.toArray] at hA); (try simp only [go_sem, List.mem_cons, List.not_mem_nil, forall_eq_or_imp, forall_eq] at hQ hN); (first | (revert hA; intro hA) | have hA := trivial); (first | (revert hQ; intro hQ) | have hQ := trivial); (first | (revert hN; intro hN) | have hN := trivial); simp only [go_sem, hA, hQ, hN]; (repeat (refine ndI (by first | assumption | omega | rfl) ?_)); (first | apply eff_rd | apply eff_st | apply eff_nw)))); (simp only [St.eff, setO, hputs, go_sem])) | ((with_reducible refine evC_draw ?_ ?_ ?_ ?_); kernel_rfl; kernel_rfl; (first | kernel_rfl | simp [newNames, isNew, St.free, freeH, AV.refsL, AV.refs]); intro R hR))))
  refine evC_loop (α := { s : Nat × Nat // s.1 ≤ l.length ∧ s.2 < WW ∧ rsm s.2 (l.drop s.1) = R }) (fun s => ⟨[.any, .ptr 1 0, .ptr 2 0, vb false, .ptr 4 0, vb false, vi .i64 (s.1.1 : Int), .any, .any, .any, .any, .any, .any, .any, .any, .any, .any, .any, .any, .any, .any, .any, .any, .any, .any, .any, .any, .any, .any, .any, .any, .any, .any, .any, .any, .any, .any, .any, .any, .any, .any], [(1, [hsl ex l]), (2, [vi .u64 0, vi .u64 0, vi .u64 0, vi .u64 0]), (4, cW s.1.2)]⟩) (fun s => l.length - s.1.1) ⟨(0, 0), Nat.zero_le _, by decide, by simpa using hR⟩ (St.le_of (by simp [leT]) (by simp [leH, hget, l0_zero, l1_zero, l2_zero, l3_zero])) ?_
  rintro ⟨⟨i, n⟩, hi, hn, hok⟩ Ψ hΨ hΨ'
  (try dsimp only at hi hn hok hΨ ⊢)
  rcases Nat.lt_or_ge i l.length with hlt | hge
  · obtain ⟨y, hy⟩ : ∃ x, l[i]? = some x := ⟨_, List.getElem?_eq_getElem hlt⟩
    have k1 : (decide ((i : Int) < (l.length : Int))) = true := decide_eq_true (by omega)
    have k2 := hsl_at hy
    have k7 : (i : Int) + 1 = ((i + 1 : Nat) : Int) := by omega
    obtain ⟨_, op, os, _, _⟩ := ok y (List.mem_of_getElem? hy)
    rw [rsm_drop hy] at hok
    have a1 := refadd_fn n y.p hn op
    by_cases h1 : WW ≤ n + y.p
    · rw [if_pos h1] at hok
      rw [decide_eq_true h1] at a1
      generalize (n + y.p) % WW = m at a1 hok
      (repeat (any_goals (first | ((with_reducible refine evL_one ?_ ?_); rfl; intro K hK; simp only [go_sem, k1, k2]; ((repeat (refine ndI (by first | assumption | omega | rfl) ?_)); refine hK _ ?_; clear hK K)) | (with_reducible first | (refine evL_nil ?_; refine hR _ ?_; clear hR R) | ((first | refine evC_seq ?_ | refine evC_block ?_); intro Ψ hΨ hΨ') | (refine evC_region ?_; intro R hR) | (refine hΨ _ ?_; clear hΨ hΨ' Ψ) | refine evC_skip ?_ | refine evC_ret ?_ | refine evC_exit ?_) | ((with_reducible refine hΨ' _ _ ?_ ?_); (focus (simp; done)); clear hΨ hΨ' Ψ) | ((with_reducible apply evC_cond); rfl; rfl; all_goals (intro hc; first | (cases hc; done) | (try simp only at hc))) | ((with_reducible refine evD_nil ?_ ?_); kernel_rfl; (with_reducible refine hR _ ?_); clear hR R) | ((first | ((with_reducible apply evD_fcall); rfl; rfl; ((apply opF_callB (a1); rfl; rfl; rfl; rfl; exact Tryz.func39); kernel_rfl; rfl; (simp only [go_sem, k1, k2]; rfl); (first | rfl | simp [AV.inNL, AV.inN]))) | ((with_reducible apply evD_any); rfl; rfl; (simp only [rdE, rdOf, go_sem, k1, k2]; rfl); (intro τ hA hQ hN; ((try simp only [agree, Op.operands, Call.operands, go_sem, k1, k2, go_sem, List.mem_cons, List.not_mem_nil, forall_eq_or_imp, forall_eq, List.append_toArray, Option.toArray] at hA); (try simp only [go_sem, k1, k2, List.mem_cons, List.not_mem_nil, forall_eq_or_imp, forall_eq] at hQ hN); (first | (revert hA; intro hA) | have hA := trivial); (first | (revert hQ; intro hQ) | have hQ := trivial); (first | (revert hN; intro hN) | have hN := trivial); simp only [go_sem, k1, k2, go_sem, hA, hQ, hN]; (repeat (refine ndI (by first | assumption | omega | rfl) ?_)); (first | apply eff_rd | apply eff_st | apply eff_nw))))); (simp only [St.eff, setO, hputs, go_sem, k1, k2])) | ((with_reducible refine evC_draw ?_ ?_ ?_ ?_); kernel_rfl; kernel_rfl; (first | kernel_rfl | simp [newNames, isNew, St.free, freeH, AV.refsL, AV.refs]); intro R hR))))
      all_goals rw [← hok]
      all_goals (refine ⟨by simp, ⟨_, ?_, AV.le_refl _⟩, leH_get (by simp [leH, hget])⟩; simp only [Tryz.results60, resL, ldA, oneOf, go_sem])
    · have h1' : n + y.p < WW := Nat.lt_of_not_le h1
      rw [if_neg h1] at hok
      rw [decide_eq_false h1, Nat.mod_eq_of_lt h1'] at a1
      have a2 := refadd_fn (n + y.p) y.s h1' os
      obtain ⟨n1, hn1⟩ : ∃ n1, n + y.p = n1 := ⟨_, rfl⟩
      rw [hn1] at a1 a2 hok
      by_cases h2 : WW ≤ n1 + y.s
      · rw [if_pos h2] at hok
        rw [decide_eq_true h2] at a2
        generalize (n1 + y.s) % WW = m at a2 hok
        (repeat (any_goals (first | ((with_reducible refine evL_one ?_ ?_); rfl; intro K hK; simp only [go_sem, k1, k2]; ((repeat (refine ndI (by first | assumption | omega | rfl) ?_)); refine hK _ ?_; clear hK K)) | (with_reducible first | (refine evL_nil ?_; refine hR _ ?_; clear hR R) | ((first | refine evC_seq ?_ | refine evC_block ?_); intro Ψ hΨ hΨ') | (refine evC_region ?_; intro R hR) | (refine hΨ _ ?_; clear hΨ hΨ' Ψ) | refine evC_skip ?_ | refine evC_ret ?_ | refine evC_exit ?_) | ((with_reducible refine hΨ' _ _ ?_ ?_); (focus (simp; done)); clear hΨ hΨ' Ψ) | ((with_reducible apply evC_cond); rfl; rfl; all_goals (intro hc; first | (cases hc; done) | (try simp only at hc))) | ((with_reducible refine evD_nil ?_ ?_); kernel_rfl; (with_reducible refine hR _ ?_); clear hR R) | ((first | ((with_reducible apply evD_fcall); rfl; rfl; (first | ((apply opF_callB (a1); rfl; rfl; rfl; rfl; exact Tryz.func39); kernel_rfl; rfl; (simp only [go_sem, k1, k2]; rfl); (first | rfl | simp [AV.inNL, AV.inN])) | ((apply opF_callB (a2); rfl; rfl; rfl; rfl; exact Tryz.func39); kernel_rfl; rfl; (simp only [go_sem, k1, k2]; rfl); (first | rfl | simp [AV.inNL, AV.inN])))) | ((with_reducible apply evD_any); rfl; rfl; (simp only [rdE, rdOf, go_sem, k1, k2]; rfl); (intro τ hA hQ hN; ((try simp only [agree, Op.operands, Call.operands, go_sem, k1, k2, go_sem, List.mem_cons, List.not_mem_nil, forall_eq_or_imp, forall_eq, List.append_toArray, Option.toArray] at hA); (try simp only [go_sem, k1, k2, List.mem_cons, List.not_mem_nil, forall_eq_or_imp, forall_eq] at hQ hN); (first | (revert hA; intro hA) | have hA := trivial); (first | (revert hQ; intro hQ) | have hQ := trivial); (first | (revert hN; intro hN) | have hN := trivial); simp only [go_sem, k1, k2, go_sem, hA, hQ, hN]; (repeat (refine ndI (by first | assumption | omega | rfl) ?_)); (first | apply eff_rd | apply eff_st | apply eff_nw))))); (simp only [St.eff, setO, hputs, go_sem, k1, k2])) | ((with_reducible refine evC_draw ?_ ?_ ?_ ?_); kernel_rfl; kernel_rfl; (first | kernel_rfl | simp [newNames, isNew, St.free, freeH, AV.refsL, AV.refs]); intro R hR))))
        all_goals rw [← hok]
        all_goals (refine ⟨by simp, ⟨_, ?_, AV.le_refl _⟩, leH_get (by simp [leH, hget])⟩; simp only [Tryz.results60, resL, ldA, oneOf, go_sem])
      · have h2' : n1 + y.s < WW := Nat.lt_of_not_le h2
        rw [if_neg h2] at hok
        rw [decide_eq_false h2, Nat.mod_eq_of_lt h2'] at a2
        obtain ⟨n2, hn2⟩ : ∃ n2, n1 + y.s = n2 := ⟨_, rfl⟩
        rw [hn2] at a2 hok h2'
        clear hn1 hn2 h1 h1' h2
        (have W := ndI k1 (ndI k2 (ndI k7 @wrI)); (repeat (any_goals (first | ((with_reducible refine evL_one ?_ ?_); rfl; intro K hK; simp (disch := omega) only [go_sem, W]; ((repeat (refine ndI (by first | assumption | omega | rfl) ?_)); refine hK _ ?_; clear hK K)) | (with_reducible first | (refine evL_nil ?_; refine hR _ ?_; clear hR R) | ((first | refine evC_seq ?_ | refine evC_block ?_); intro Ψ hΨ hΨ') | (refine evC_region ?_; intro R hR) | (refine hΨ _ ?_; clear hΨ hΨ' Ψ) | refine evC_skip ?_ | refine evC_ret ?_ | refine evC_exit ?_) | ((with_reducible refine hΨ' _ _ ?_ ?_); (focus (simp; done)); clear hΨ hΨ' Ψ) | ((with_reducible apply evC_cond); rfl; rfl; all_goals (intro hc; first | (cases hc; done) | (try simp only at hc))) | ((with_reducible refine evD_nil ?_ ?_); kernel_rfl; (with_reducible refine hR _ ?_); clear hR R) | ((first | ((with_reducible apply evD_fcall); rfl; rfl; (first | ((apply opF_callB (a1); rfl; rfl; rfl; rfl; exact Tryz.func39); kernel_rfl; rfl; (simp (disch := omega) only [go_sem, W]; rfl); (first | rfl | simp [AV.inNL, AV.inN])) | ((apply opF_callB (a2); rfl; rfl; rfl; rfl; exact Tryz.func39); kernel_rfl; rfl; (simp (disch := omega) only [go_sem, W]; rfl); (first | rfl | simp [AV.inNL, AV.inN])))) | ((with_reducible apply evD_any); rfl; rfl; (simp (disch := omega) only [rdE, rdOf, go_sem, W]; rfl); (intro τ hA hQ hN; ((try simp only [agree, Op.operands, Call.operands, go_sem, W, go_sem, List.mem_cons, List.not_mem_nil, forall_eq_or_imp, forall_eq, List.append_toArray, Option.toArray] at hA); (try simp only [go_sem, W, List.mem_cons, List.not_mem_nil, forall_eq_or_imp, forall_eq] at hQ hN); (first | (revert hA; intro hA) | have hA := trivial); (first | (revert hQ; intro hQ) | have hQ := trivial); (first | (revert hN; intro hN) | have hN := trivial); simp (disch := omega) only [go_sem, W, go_sem, hA, hQ, hN]; (repeat (refine ndI (by first | assumption | omega | rfl) ?_)); (first | apply eff_rd | apply eff_st | apply eff_nw))))); (simp (disch := omega) only [St.eff, setO, hputs, go_sem, W])) | ((with_reducible refine evC_draw ?_ ?_ ?_ ?_); kernel_rfl; kernel_rfl; (first | kernel_rfl | simp [newNames, isNew, St.free, freeH, AV.refsL, AV.refs]); intro R hR)))))
        exact hΨ _ ⟨(i + 1, n2), hlt, h2', hok⟩ (by dsimp only; omega) (St.le_of (by simp [leT]) (by simp [leH, hget]))
  · have k1 : (decide ((i : Int) < (l.length : Int))) = false := decide_eq_false (by omega)
    rw [List.drop_eq_nil_of_le hge] at hok
    have e : R = (n, true) := hok.symm
    (repeat (any_goals (first | ((with_reducible refine evL_one ?_ ?_); rfl; intro K hK; simp only [go_sem, k1]; ((repeat (refine ndI (by first | assumption | omega | rfl) ?_)); refine hK _ ?_; clear hK K)) | (with_reducible first | (refine evL_nil ?_; refine hR _ ?_; clear hR R) | ((first | refine evC_seq ?_ | refine evC_block ?_); intro Ψ hΨ hΨ') | (refine evC_region ?_; intro R hR) | (refine hΨ _ ?_; clear hΨ hΨ' Ψ) | refine evC_skip ?_ | refine evC_ret ?_ | refine evC_exit ?_) | ((with_reducible refine hΨ' _ _ ?_ ?_); (focus (simp; done)); clear hΨ hΨ' Ψ) | ((with_reducible apply evC_cond); rfl; rfl; all_goals (intro hc; first | (cases hc; done) | (try simp only at hc))) | ((with_reducible refine evD_nil ?_ ?_); kernel_rfl; (with_reducible refine hR _ ?_); clear hR R) | (((with_reducible apply evD_any); rfl; rfl; (simp only [rdE, rdOf, go_sem, k1]; rfl); (intro τ hA hQ hN; ((try simp only [agree, Op.operands, Call.operands, go_sem, k1, go_sem, List.mem_cons, List.not_mem_nil, forall_eq_or_imp, forall_eq, List.append_toArray, Option.toArray] at hA); (try simp only [go_sem, k1, List.mem_cons, List.not_mem_nil, forall_eq_or_imp, forall_eq] at hQ hN); (first | (revert hA; intro hA) | have hA := trivial); (first | (revert hQ; intro hQ) | have hQ := trivial); (first | (revert hN; intro hN) | have hN := trivial); simp only [go_sem, k1, go_sem, hA, hQ, hN]; (repeat (refine ndI (by first | assumption | omega | rfl) ?_)); (first | apply eff_rd | apply eff_st | apply eff_nw)))); (simp only [St.eff, setO, hputs, go_sem, k1])) | ((with_reducible refine evC_draw ?_ ?_ ?_ ?_); kernel_rfl; kernel_rfl; (first | kernel_rfl | simp [newNames, isNew, St.free, freeH, AV.refsL, AV.refs]); intro R hR))))
    all_goals rw [e]
    all_goals (refine ⟨by simp, ⟨_, ?_, AV.le_refl _⟩, leH_get (by simp [leH, hget])⟩; simp only [Tryz.results60, resL, ldA, oneOf, go_sem])
end Go.Proofs.YtgdnmdnhkhpieaaGreat.lg
namespace Go.Proofs.YtgdnmdnhkhpieaaGreat.lg
open Go.RowKit
open Nat (reduceBEq)
set_option maxRecDepth 20000
set_option maxHeartbeats 2000000
theorem okU_step {l : List Hd} {i : Nat} (hu : okU l i = true) : okU l (i + 1) = okR l i := by
  show (okU l i && okR l i) = _
  rw [hu, Bool.true_and]
theorem tree7 : ∀ q1 q2 q3 q4 q5 q6 q7 : Bool, ((!q1 && (!q2 && (!q3 && (!(q4 && q5) && ((q6 == q5) && (!q7 || !q5)))))) = false ∧ ((q1 = true) ∨ (q1 = false ∧ q2 = true) ∨ (q1 = false ∧ q2 = false ∧ q3 = true) ∨ (q1 = false ∧ q2 = false ∧ q3 = false ∧ q4 = true ∧ q5 = true) ∨ (q1 = false ∧ q2 = false ∧ q3 = false ∧ q4 = false ∧ q5 = true ∧ q6 = false) ∨ (q1 = false ∧ q2 = false ∧ q3 = false ∧ q4 = false ∧ q5 = true ∧ q6 = true ∧ q7 = true) ∨ (q1 = false ∧ q2 = false ∧ q3 = false ∧ q4 = true ∧ q5 = false ∧ q6 = true) ∨ (q1 = false ∧ q2 = false ∧ q3 = false ∧ q4 = false ∧ q5 = false ∧ q6 = true)))
    ∨ ((!q1 && (!q2 && (!q3 && (!(q4 && q5) && ((q6 == q5) && (!q7 || !q5)))))) = true ∧ ((q1 = false ∧ q2 = false ∧ q3 = false ∧ q4 = false ∧ q5 = true ∧ q6 = true ∧ q7 = false) ∨ (q1 = false ∧ q2 = false ∧ q3 = false ∧ q4 = true ∧ q5 = false ∧ q6 = false) ∨ (q1 = false ∧ q2 = false ∧ q3 = false ∧ q4 = false ∧ q5 = false ∧ q6 = false))) := by
  intro q1 q2 q3 q4 q5 q6 q7
  cases q1 <;> cases q2 <;> cases q3 <;> cases q4 <;> cases q5 <;> cases q6 <;> cases q7 <;> simp
theorem refright_fn (ex : Bool) (l : List Hd) (hl : l.length ≤ 1000) (ok : ∀ h ∈ l, h.ok) : Fn Tryz.prog 26 [lg ex l] [] (vb (okL l)) [] := by
  have sm := rsum_fn ex l hl ok
  have fl := rsm_flag (l := l) (n := 0) (by decide)
  rw [Nat.zero_add] at fl
  unfold okL
  rw [← fl]
  generalize (rsm 0 l).1 = m1 at sm
  generalize (rsm 0 l).2 = m2 at sm ⊢
  clear fl
  obtain ⟨q24, e24⟩ : ∃ q, decide (l.length ≤ 24) = q := ⟨_, rfl⟩
  have e24' : decide ((l.length : Int) ≤ 24) = q24 := by rw [← e24]; exact decide_eq_decide.2 (by omega)
  rw [e24]
  clear e24
  obtain ⟨tu, htu⟩ : ∃ q, okU l l.length = q := ⟨_, rfl⟩
  rw [htu]
  (refine fn_of Tryz.func26 rfl (by rfl) ?_; simp only [Tryz.ntmps26, List.length_cons, List.length_nil, Nat.reduceAdd, Nat.reduceSub, List.replicate, List.cons_append, List.nil_append])
  (repeat (any_goals (first | ((with_reducible refine evL_one ?_ ?_); rfl; intro K hK; simp only [go_sem]; ((repeat (refine ndI (by first | assumption | omega | rfl) ?_)); refine hK _ ?_; clear hK K)) | (with_reducible first | (refine evL_nil ?_; refine hR _ ?_; clear hR R) | ((first | refine evC_seq ?_ | refine evC_block ?_); intro Ψ hΨ hΨ') | (refine evC_region ?_; intro R hR) | (refine hΨ _ ?_; clear hΨ hΨ' Ψ) | refine evC_skip ?_ | refine evC_ret ?_ | refine evC_exit ?_) | ((with_reducible refine hΨ' _ _ ?_ ?_); (focus (simp; done)); clear hΨ hΨ' Ψ) | ((with_reducible apply evL_unmet); rfl; rfl; rfl; (try simp only [go_sem])) | ((with_reducible apply evL_grd); rfl; rfl; rfl; all_goals (intro hb; first | (cases hb; done) | ((try simp only [Bool.not_true, Bool.not_false] at hb); (first | ((with_reducible intro K hK); simp only [go_sem]; ((repeat (refine ndI (by first | assumption | omega | rfl) ?_)); refine hK _ ?_; clear hK K)) | ((fail_if_success (with_reducible intro _)); simp only [go_sem]))))) | ((with_reducible apply evC_cond); rfl; rfl; all_goals (intro hc; first | (cases hc; done) | (try simp only at hc))) | ((with_reducible refine evD_nil ?_ ?_); kernel_rfl; (with_reducible refine hR _ ?_); clear hR R) | ((first | ((with_reducible apply evD_skip); rfl; rfl; rfl; rfl) | ((with_reducible apply evD_unmet); rfl; rfl; rfl) | ((first | ((with_reducible apply evD_any); rfl; rfl) | ((with_reducible apply evD_gany); rfl; rfl; rfl; rfl; rfl)); (simp only [rdE, rdOf, go_sem]; rfl); (intro τ hA hQ hN; ((try simp only [agree, Op.operands, Call.operands, go_sem, List.mem_cons, List.not_mem_nil, forall_eq_or_imp, forall_eq, List.append_toArray, Option.toArray] at hA); (try simp only [go_sem, List.mem_cons, List.not_mem_nil, forall_eq_or_imp, forall_eq] at hQ hN); (first | (revert hA; intro hA) | have hA := trivial); (first | (revert hQ; intro hQ) | have hQ := trivial); (first | (revert hN; intro hN) | have hN := trivial); simp only [go_sem, hA, hQ, hN]; (repeat (refine ndI (by first | assumption | omega | rfl) ?_)); (first | apply eff_rd | apply eff_st | apply eff_nw))))); (simp only [St.eff, setO, hputs, go_sem])) | ((with_reducible apply evD_split); rfl; rfl; rfl; all_goals intro hb; all_goals (simp only [St.eff, setO, hputs, go_sem])) | ((with_reducible refine evC_draw ?_ ?_ ?_ ?_); kernel_rfl; kernel_rfl; (first | kernel_rfl | simp [newNames, isNew, St.free, freeH, AV.refsL, AV.refs]); intro R hR))))
  refine evC_loop (α := { i : Nat // i ≤ l.length ∧ okU l i = true }) (fun x => ⟨[.any, .ptr 1 0, vb false, vi .i64 (x.1 : Int), .any, .any, .any, .any, .any, .any, .any, .any, .any, .any, .any, .any, .any, .any, .any, .any, .any, .any, .any, .any, .any, .any, .any, .any, .any, .any, .any, .any, .any, .any, .any, .any, .any, .any, .any, .any, .any, .any, .any, .any, .any, .any, .any, .any, .any, .any, .any, .any, .any, .any, .any, .any, .any, .any, .any, .any, .any, .any, .any, .any, .any, .any, .any, .any, .any, .any, .any, .any, .any, .any, .any, .any, .any, .any, .any, .any, .any, .any, .any, .any, .any, .any, .any, .any, .any, .any, .any, .any], [(1, [hsl ex l])]⟩) (fun x => l.length - x.1) ⟨0, Nat.zero_le _, rfl⟩ (St.le_of (by simp [leT]) (by simp [leH, hget])) ?_
  rintro ⟨i, hi, hu⟩ Ψ hΨ hΨ'
  (try dsimp only at hi hu hΨ ⊢)
  rcases Nat.lt_or_ge i l.length with hlt | hge
  · obtain ⟨y, hy⟩ : ∃ x, l[i]? = some x := ⟨_, List.getElem?_eq_getElem hlt⟩
    have k1 : (decide ((i : Int) < (l.length : Int))) = true := decide_eq_true (by omega)
    have k2 := hsl_at hy
    have k7 : (i : Int) + 1 = ((i + 1 : Nat) : Int) := by omega
    obtain ⟨oa, op, os, _, _⟩ := ok y (List.mem_of_getElem? hy)
    have n1 := rnone_fn y.p op
    have n2 := rnone_fn y.s os
    have hR : okR l i = (rightH y && decide (lastA l i < y.a)) := by unfold okR; rw [hy]
    have hno : okR l i = false → tu = false := fun h => by rw [← htu]; exact okU_false h hlt
    have hnx := okU_step hu
    rw [hR] at hno hnx
    have hr : rightH y = (!(y.a == 0) && (!decide (y.d > 1073741824) && (!decide (y.f > 1100585369600) && (!(decide (y.p = 0) && decide (y.s = 0)) && (((y.d == 0) == decide (y.s = 0)) && (!(y.f != 0) || !decide (y.s = 0))))))) := by
      unfold rightH
      have c1 : decide (y.d ≤ 1073741824) = !decide (y.d > 1073741824) := by rw [← decide_not]; exact decide_eq_decide.2 (by omega)
      have c2 : decide (y.f ≤ 1100585369600) = !decide (y.f > 1100585369600) := by rw [← decide_not]; exact decide_eq_decide.2 (by omega)
      rw [c1, c2]
      simp only [bne, Bool.not_not]
    rw [hr] at hno hnx
    obtain ⟨q1, g1⟩ : ∃ q, (y.a == 0) = q := ⟨_, rfl⟩
    obtain ⟨q2, g2⟩ : ∃ q, decide (y.d > 1073741824) = q := ⟨_, rfl⟩
    obtain ⟨q3, g3⟩ : ∃ q, decide (y.f > 1100585369600) = q := ⟨_, rfl⟩
    obtain ⟨q6, g6⟩ : ∃ q, (y.d == 0) = q := ⟨_, rfl⟩
    obtain ⟨q7, g7⟩ : ∃ q, (y.f != 0) = q := ⟨_, rfl⟩
    have g8 : (y.d != 0) = !q6 := by rw [← g6]; rfl
    rw [g1, g2, g3, g6, g7] at hno hnx
    generalize decide (y.p = 0) = q4 at n1 hno hnx
    generalize decide (y.s = 0) = q5 at n2 hno hnx
    clear hr hR
    rcases tree7 q1 q2 q3 q4 q5 q6 q7 with ⟨ht, hq⟩ | ⟨ht, hq⟩
    · rw [ht, Bool.false_and] at hno
      have hrf := hno rfl
      clear hno hnx ht
      rcases hq with rfl | ⟨rfl, rfl⟩ | ⟨rfl, rfl, rfl⟩ | ⟨rfl, rfl, rfl, rfl, rfl⟩ | ⟨rfl, rfl, rfl, rfl, rfl, rfl⟩ | ⟨rfl, rfl, rfl, rfl, rfl, rfl, rfl⟩ | ⟨rfl, rfl, rfl, rfl, rfl, rfl⟩ | ⟨rfl, rfl, rfl, rfl, rfl, rfl⟩
      all_goals (have W := ndI k1 (ndI k2 (ndI g1 (ndI g2 (ndI g3 (ndI g6 (ndI g7 g8)))))); (repeat (any_goals (first | ((with_reducible refine evL_call ?_ ?_ ?_); rfl; rfl; intro K hK; (first | ((apply opA_callB (n1); rfl; rfl; rfl; rfl; exact Tryz.func59); kernel_rfl; rfl; (simp only [go_sem, W, Bool.not_true, Bool.not_false]; rfl); (first | rfl | simp [AV.inNL, AV.inN])) | ((apply opA_callB (n2); rfl; rfl; rfl; rfl; exact Tryz.func59); kernel_rfl; rfl; (simp only [go_sem, W, Bool.not_true, Bool.not_false]; rfl); (first | rfl | simp [AV.inNL, AV.inN])) | ((apply opA_callB (n1); rfl; rfl; rfl; rfl; exact Tryz.func59); kernel_rfl; rfl; (simp only [go_sem, W, Bool.not_true, Bool.not_false]; rfl); (first | rfl | simp [AV.inNL, AV.inN])) | ((apply opA_callB (n2); rfl; rfl; rfl; rfl; exact Tryz.func59); kernel_rfl; rfl; (simp only [go_sem, W, Bool.not_true, Bool.not_false]; rfl); (first | rfl | simp [AV.inNL, AV.inN]))); (simp only [go_sem, W, Bool.not_true, Bool.not_false]; refine hK _ ?_; clear hK K)) | ((with_reducible refine evL_one ?_ ?_); rfl; intro K hK; simp only [go_sem, W, Bool.not_true, Bool.not_false]; ((repeat (refine ndI (by first | assumption | omega | rfl) ?_)); refine hK _ ?_; clear hK K)) | (with_reducible first | (refine evL_nil ?_; refine hR _ ?_; clear hR R) | ((first | refine evC_seq ?_ | refine evC_block ?_); intro Ψ hΨ hΨ') | (refine evC_region ?_; intro R hR) | (refine hΨ _ ?_; clear hΨ hΨ' Ψ) | refine evC_skip ?_ | refine evC_ret ?_ | refine evC_exit ?_) | ((with_reducible refine hΨ' _ _ ?_ ?_); (focus (simp; done)); clear hΨ hΨ' Ψ) | ((with_reducible apply evL_unmet); rfl; rfl; rfl; (try simp only [go_sem, W, Bool.not_true, Bool.not_false])) | ((with_reducible apply evL_grd); rfl; rfl; rfl; all_goals (intro hb; first | (cases hb; done) | ((try simp only [Bool.not_true, Bool.not_false] at hb); (first | ((with_reducible intro K hK); (first | ((apply opA_callB (n1); rfl; rfl; rfl; rfl; exact Tryz.func59); kernel_rfl; rfl; (simp only [go_sem, W, Bool.not_true, Bool.not_false]; rfl); (first | rfl | simp [AV.inNL, AV.inN])) | ((apply opA_callB (n2); rfl; rfl; rfl; rfl; exact Tryz.func59); kernel_rfl; rfl; (simp only [go_sem, W, Bool.not_true, Bool.not_false]; rfl); (first | rfl | simp [AV.inNL, AV.inN])) | skip); simp only [go_sem, W, Bool.not_true, Bool.not_false]; ((repeat (refine ndI (by first | assumption | omega | rfl) ?_)); refine hK _ ?_; clear hK K)) | ((fail_if_success (with_reducible intro _)); simp only [go_sem, W, Bool.not_true, Bool.not_false]))))) | ((with_reducible apply evC_cond); rfl; rfl; all_goals (intro hc; first | (cases hc; done) | (try simp only at hc))) | ((with_reducible refine evD_nil ?_ ?_); kernel_rfl; (with_reducible refine hR _ ?_); clear hR R) | ((first | ((with_reducible apply evD_skip); rfl; rfl; rfl; rfl) | ((with_reducible apply evD_unmet); rfl; rfl; rfl) | ((first | ((with_reducible apply evD_any); rfl; rfl) | ((with_reducible apply evD_gany); rfl; rfl; rfl; rfl; rfl)); (simp only [rdE, rdOf, go_sem, W, Bool.not_true, Bool.not_false]; rfl); (intro τ hA hQ hN; ((try simp only [agree, Op.operands, Call.operands, go_sem, W, Bool.not_true, Bool.not_false, go_sem, List.mem_cons, List.not_mem_nil, forall_eq_or_imp, forall_eq, List.append_toArray, Option.toArray] at hA); (try simp only [go_sem, W, Bool.not_true, Bool.not_false, List.mem_cons, List.not_mem_nil, forall_eq_or_imp, forall_eq] at hQ hN); (first | (revert hA; intro hA) | have hA := trivial); (first | (revert hQ; intro hQ) | have hQ := trivial); (first | (revert hN; intro hN) | have hN := trivial); simp only [go_sem, W, Bool.not_true, Bool.not_false, go_sem, hA, hQ, hN]; (repeat (refine ndI (by first | assumption | omega | rfl) ?_)); (first | apply eff_rd | apply eff_st | apply eff_nw))))); (simp only [St.eff, setO, hputs, go_sem, W, Bool.not_true, Bool.not_false])) | ((with_reducible apply evD_split); rfl; rfl; rfl; all_goals intro hb; all_goals (simp only [St.eff, setO, hputs, go_sem, W, Bool.not_true, Bool.not_false])) | ((with_reducible refine evC_draw ?_ ?_ ?_ ?_); kernel_rfl; kernel_rfl; (first | kernel_rfl | simp [newNames, isNew, St.free, freeH, AV.refsL, AV.refs]); intro R hR)))))
      all_goals rw [hrf]
      all_goals (refine ⟨by simp, ⟨_, ?_, AV.le_refl _⟩, leH_get (by simp [leH, hget])⟩; simp only [Tryz.results26, resL, ldA, oneOf, go_sem])
      all_goals simp
    · rw [ht, Bool.true_and] at hno hnx
      have hΨ1 := fun (h : decide (lastA l i < y.a) = true) σ' => hΨ σ' ⟨i + 1, hlt, by rw [hnx]; exact h⟩ (by dsimp only; omega)
      dsimp only at hΨ1
      rcases Nat.eq_zero_or_pos i with h0 | h0
      · have n3 : (decide ((i : Int) > 0)) = false := by simp; omega
        have ho : decide (lastA l i < y.a) = true := by
          rw [h0, decide_eq_true_eq]
          show (0 : Int) < y.a
          have : y.a ≠ 0 := by
            intro e
            rw [e] at g1
            rcases hq with ⟨h, _⟩ | ⟨h, _⟩ | ⟨h, _⟩ <;> · rw [h] at g1; cases g1
          unfold U at oa
          omega
        have hΨ2 := hΨ1 ho
        clear hΨ1 ho hno hnx ht
        rcases hq with ⟨rfl, rfl, rfl, rfl, rfl, rfl, rfl⟩ | ⟨rfl, rfl, rfl, rfl, rfl, rfl⟩ | ⟨rfl, rfl, rfl, rfl, rfl, rfl⟩
        all_goals (have W := ndI k1 (ndI k2 (ndI k7 (ndI g1 (ndI g2 (ndI g3 (ndI g6 (ndI g7 (ndI g8 (ndI n3 @wrI))))))))); (repeat (any_goals (first | ((with_reducible refine evL_call ?_ ?_ ?_); rfl; rfl; intro K hK; (first | ((apply opA_callB (n1); rfl; rfl; rfl; rfl; exact Tryz.func59); kernel_rfl; rfl; (simp (disch := omega) only [go_sem, W, Bool.not_true, Bool.not_false]; rfl); (first | rfl | simp [AV.inNL, AV.inN])) | ((apply opA_callB (n2); rfl; rfl; rfl; rfl; exact Tryz.func59); kernel_rfl; rfl; (simp (disch := omega) only [go_sem, W, Bool.not_true, Bool.not_false]; rfl); (first | rfl | simp [AV.inNL, AV.inN])) | ((apply opA_callB (n1); rfl; rfl; rfl; rfl; exact Tryz.func59); kernel_rfl; rfl; (simp (disch := omega) only [go_sem, W, Bool.not_true, Bool.not_false]; rfl); (first | rfl | simp [AV.inNL, AV.inN])) | ((apply opA_callB (n2); rfl; rfl; rfl; rfl; exact Tryz.func59); kernel_rfl; rfl; (simp (disch := omega) only [go_sem, W, Bool.not_true, Bool.not_false]; rfl); (first | rfl | simp [AV.inNL, AV.inN]))); (simp (disch := omega) only [go_sem, W, Bool.not_true, Bool.not_false]; refine hK _ ?_; clear hK K)) | ((with_reducible refine evL_one ?_ ?_); rfl; intro K hK; simp (disch := omega) only [go_sem, W, Bool.not_true, Bool.not_false]; ((repeat (refine ndI (by first | assumption | omega | rfl) ?_)); refine hK _ ?_; clear hK K)) | (with_reducible first | (refine evL_nil ?_; refine hR _ ?_; clear hR R) | ((first | refine evC_seq ?_ | refine evC_block ?_); intro Ψ hΨ hΨ') | (refine evC_region ?_; intro R hR) | (refine hΨ _ ?_; clear hΨ hΨ' Ψ) | refine evC_skip ?_ | refine evC_ret ?_ | refine evC_exit ?_) | ((with_reducible refine hΨ' _ _ ?_ ?_); (focus (simp; done)); clear hΨ hΨ' Ψ) | ((with_reducible apply evL_unmet); rfl; rfl; rfl; (try simp (disch := omega) only [go_sem, W, Bool.not_true, Bool.not_false])) | ((with_reducible apply evL_grd); rfl; rfl; rfl; all_goals (intro hb; first | (cases hb; done) | ((try simp only [Bool.not_true, Bool.not_false] at hb); (first | ((with_reducible intro K hK); (first | ((apply opA_callB (n1); rfl; rfl; rfl; rfl; exact Tryz.func59); kernel_rfl; rfl; (simp (disch := omega) only [go_sem, W, Bool.not_true, Bool.not_false]; rfl); (first | rfl | simp [AV.inNL, AV.inN])) | ((apply opA_callB (n2); rfl; rfl; rfl; rfl; exact Tryz.func59); kernel_rfl; rfl; (simp (disch := omega) only [go_sem, W, Bool.not_true, Bool.not_false]; rfl); (first | rfl | simp [AV.inNL, AV.inN])) | skip); simp (disch := omega) only [go_sem, W, Bool.not_true, Bool.not_false]; ((repeat (refine ndI (by first | assumption | omega | rfl) ?_)); refine hK _ ?_; clear hK K)) | ((fail_if_success (with_reducible intro _)); simp (disch := omega) only [go_sem, W, Bool.not_true, Bool.not_false]))))) | ((with_reducible apply evC_cond); rfl; rfl; all_goals (intro hc; first | (cases hc; done) | (try simp only at hc))) | ((with_reducible refine evD_nil ?_ ?_); kernel_rfl; (with_reducible refine hR _ ?_); clear hR R) | ((first | ((with_reducible apply evD_skip); rfl; rfl; rfl; rfl) | ((with_reducible apply evD_unmet); rfl; rfl; rfl) | ((first | ((with_reducible apply evD_any); rfl; rfl) | ((with_reducible apply evD_gany); rfl; rfl; rfl; rfl; rfl)); (simp (disch := omega) only [rdE, rdOf, go_sem, W, Bool.not_true, Bool.not_false]; rfl); (intro τ hA hQ hN; ((try simp only [agree, Op.operands, Call.operands, go_sem, W, Bool.not_true, Bool.not_false, go_sem, List.mem_cons, List.not_mem_nil, forall_eq_or_imp, forall_eq, List.append_toArray, Option.toArray] at hA); (try simp only [go_sem, W, Bool.not_true, Bool.not_false, List.mem_cons, List.not_mem_nil, forall_eq_or_imp, forall_eq] at hQ hN); (first | (revert hA; intro hA) | have hA := trivial); (first | (revert hQ; intro hQ) | have hQ := trivial); (first | (revert hN; intro hN) | have hN := trivial); simp (disch := omega) only [go_sem, W, Bool.not_true, Bool.not_false, go_sem, hA, hQ, hN]; (repeat (refine ndI (by first | assumption | omega | rfl) ?_)); (first | apply eff_rd | apply eff_st | apply eff_nw))))); (simp (disch := omega) only [St.eff, setO, hputs, go_sem, W, Bool.not_true, Bool.not_false])) | ((with_reducible apply evD_split); rfl; rfl; rfl; all_goals intro hb; all_goals (simp (disch := omega) only [St.eff, setO, hputs, go_sem, W, Bool.not_true, Bool.not_false])) | ((with_reducible refine evC_draw ?_ ?_ ?_ ?_); kernel_rfl; kernel_rfl; (first | kernel_rfl | simp [newNames, isNew, St.free, freeH, AV.refsL, AV.refs]); intro R hR)))))
        all_goals exact hΨ2 _ (St.le_of (by simp [leT]) (by simp [leH, hget]))
      · obtain ⟨j, hj⟩ : ∃ j, i = j + 1 := ⟨i - 1, by omega⟩
        obtain ⟨q, hq'⟩ : ∃ q, l[j]? = some q := ⟨_, List.getElem?_eq_getElem (by omega)⟩
        have n3 : (decide ((i : Int) > 0)) = true := by simp; omega
        have n4 := hsl_at hq'
        have n5 : (i : Int) - 1 = (j : Int) := by omega
        have hjl : j < l.length := by omega
        have hla : lastA l i = q.a := by rw [hj]; exact lastA_succ hq'
        rw [hla] at hno hΨ1
        obtain ⟨q8, hq8⟩ : ∃ c, decide (q.a < y.a) = c := ⟨_, rfl⟩
        have hge : decide (q.a ≥ y.a) = !q8 := by
          rw [← hq8, ← decide_not]; exact decide_eq_decide.2 (by omega)
        rw [hq8] at hno hΨ1
        clear hnx ht hla
        cases q8 with
        | false =>
          have hrf := hno rfl
          clear hno hΨ1
          rcases hq with ⟨rfl, rfl, rfl, rfl, rfl, rfl, rfl⟩ | ⟨rfl, rfl, rfl, rfl, rfl, rfl⟩ | ⟨rfl, rfl, rfl, rfl, rfl, rfl⟩
          all_goals (have W := ndI k1 (ndI k2 (ndI k7 (ndI g1 (ndI g2 (ndI g3 (ndI g6 (ndI g7 (ndI g8 (ndI n3 (ndI n4 (ndI n5 @wrI))))))))))); (repeat (any_goals (first | ((with_reducible refine evL_call ?_ ?_ ?_); rfl; rfl; intro K hK; (first | ((apply opA_callB (n1); rfl; rfl; rfl; rfl; exact Tryz.func59); kernel_rfl; rfl; (simp (disch := omega) only [go_sem, W, hge, Bool.not_true, Bool.not_false]; rfl); (first | rfl | simp [AV.inNL, AV.inN])) | ((apply opA_callB (n2); rfl; rfl; rfl; rfl; exact Tryz.func59); kernel_rfl; rfl; (simp (disch := omega) only [go_sem, W, hge, Bool.not_true, Bool.not_false]; rfl); (first | rfl | simp [AV.inNL, AV.inN])) | ((apply opA_callB (n1); rfl; rfl; rfl; rfl; exact Tryz.func59); kernel_rfl; rfl; (simp (disch := omega) only [go_sem, W, hge, Bool.not_true, Bool.not_false]; rfl); (first | rfl | simp [AV.inNL, AV.inN])) | ((apply opA_callB (n2); rfl; rfl; rfl; rfl; exact Tryz.func59); kernel_rfl; rfl; (simp (disch := omega) only [go_sem, W, hge, Bool.not_true, Bool.not_false]; rfl); (first | rfl | simp [AV.inNL, AV.inN]))); (simp (disch := omega) only [go_sem, W, hge, Bool.not_true, Bool.not_false]; refine hK _ ?_; clear hK K)) | ((with_reducible refine evL_one ?_ ?_); rfl; intro K hK; simp (disch := omega) only [go_sem, W, hge, Bool.not_true, Bool.not_false]; ((repeat (refine ndI (by first | assumption | omega | rfl) ?_)); refine hK _ ?_; clear hK K)) | (with_reducible first | (refine evL_nil ?_; refine hR _ ?_; clear hR R) | ((first | refine evC_seq ?_ | refine evC_block ?_); intro Ψ hΨ hΨ') | (refine evC_region ?_; intro R hR) | (refine hΨ _ ?_; clear hΨ hΨ' Ψ) | refine evC_skip ?_ | refine evC_ret ?_ | refine evC_exit ?_) | ((with_reducible refine hΨ' _ _ ?_ ?_); (focus (simp; done)); clear hΨ hΨ' Ψ) | ((with_reducible apply evL_unmet); rfl; rfl; rfl; (try simp (disch := omega) only [go_sem, W, hge, Bool.not_true, Bool.not_false])) | ((with_reducible apply evL_grd); rfl; rfl; rfl; all_goals (intro hb; first | (cases hb; done) | ((try simp only [Bool.not_true, Bool.not_false] at hb); (first | ((with_reducible intro K hK); (first | ((apply opA_callB (n1); rfl; rfl; rfl; rfl; exact Tryz.func59); kernel_rfl; rfl; (simp (disch := omega) only [go_sem, W, hge, Bool.not_true, Bool.not_false]; rfl); (first | rfl | simp [AV.inNL, AV.inN])) | ((apply opA_callB (n2); rfl; rfl; rfl; rfl; exact Tryz.func59); kernel_rfl; rfl; (simp (disch := omega) only [go_sem, W, hge, Bool.not_true, Bool.not_false]; rfl); (first | rfl | simp [AV.inNL, AV.inN])) | skip); simp (disch := omega) only [go_sem, W, hge, Bool.not_true, Bool.not_false]; ((repeat (refine ndI (by first | assumption | omega | rfl) ?_)); refine hK _ ?_; clear hK K)) | ((fail_if_success (with_reducible intro _)); simp (disch := omega) only [go_sem, W, hge, Bool.not_true, Bool.not_false]))))) | ((with_reducible apply evC_cond); rfl; rfl; all_goals (intro hc; first | (cases hc; done) | (try simp only at hc))) | ((with_reducible refine evD_nil ?_ ?_); kernel_rfl; (with_reducible refine hR _ ?_); clear hR R) | ((first | ((with_reducible apply evD_skip); rfl; rfl; rfl; rfl) | ((with_reducible apply evD_unmet); rfl; rfl; rfl) | ((first | ((with_reducible apply evD_any); rfl; rfl) | ((with_reducible apply evD_gany); rfl; rfl; rfl; rfl; rfl)); (simp (disch := omega) only [rdE, rdOf, go_sem, W, hge, Bool.not_true, Bool.not_false]; rfl); (intro τ hA hQ hN; ((try simp only [agree, Op.operands, Call.operands, go_sem, W, hge, Bool.not_true, Bool.not_false, go_sem, List.mem_cons, List.not_mem_nil, forall_eq_or_imp, forall_eq, List.append_toArray, Option.toArray] at hA); (try simp only [go_sem, W, hge, Bool.not_true, Bool.not_false, List.mem_cons, List.not_mem_nil, forall_eq_or_imp, forall_eq] at hQ hN); (first | (revert hA; intro hA) | have hA := trivial); (first | (revert hQ; intro hQ) | have hQ := trivial); (first | (revert hN; intro hN) | have hN := trivial); simp (disch := omega) only [go_sem, W, hge, Bool.not_true, Bool.not_false, go_sem, hA, hQ, hN]; (repeat (refine ndI (by first | assumption | omega | rfl) ?_)); (first | apply eff_rd | apply eff_st | apply eff_nw))))); (simp (disch := omega) only [St.eff, setO, hputs, go_sem, W, hge, Bool.not_true, Bool.not_false])) | ((with_reducible apply evD_split); rfl; rfl; rfl; all_goals intro hb; all_goals (simp (disch := omega) only [St.eff, setO, hputs, go_sem, W, hge, Bool.not_true, Bool.not_false])) | ((with_reducible refine evC_draw ?_ ?_ ?_ ?_); kernel_rfl; kernel_rfl; (first | kernel_rfl | simp [newNames, isNew, St.free, freeH, AV.refsL, AV.refs]); intro R hR)))))
          all_goals rw [hrf]
          all_goals (refine ⟨by simp, ⟨_, ?_, AV.le_refl _⟩, leH_get (by simp [leH, hget])⟩; simp only [Tryz.results26, resL, ldA, oneOf, go_sem])
          all_goals simp
        | true =>
          have hΨ2 := hΨ1 rfl
          clear hno hΨ1
          rcases hq with ⟨rfl, rfl, rfl, rfl, rfl, rfl, rfl⟩ | ⟨rfl, rfl, rfl, rfl, rfl, rfl⟩ | ⟨rfl, rfl, rfl, rfl, rfl, rfl⟩
          all_goals (have W := ndI k1 (ndI k2 (ndI k7 (ndI g1 (ndI g2 (ndI g3 (ndI g6 (ndI g7 (ndI g8 (ndI n3 (ndI n4 (ndI n5 @wrI))))))))))); (repeat (any_goals (first | ((with_reducible refine evL_call ?_ ?_ ?_); rfl; rfl; intro K hK; (first | ((apply opA_callB (n1); rfl; rfl; rfl; rfl; exact Tryz.func59); kernel_rfl; rfl; (simp (disch := omega) only [go_sem, W, hge, Bool.not_true, Bool.not_false]; rfl); (first | rfl | simp [AV.inNL, AV.inN])) | ((apply opA_callB (n2); rfl; rfl; rfl; rfl; exact Tryz.func59); kernel_rfl; rfl; (simp (disch := omega) only [go_sem, W, hge, Bool.not_true, Bool.not_false]; rfl); (first | rfl | simp [AV.inNL, AV.inN])) | ((apply opA_callB (n1); rfl; rfl; rfl; rfl; exact Tryz.func59); kernel_rfl; rfl; (simp (disch := omega) only [go_sem, W, hge, Bool.not_true, Bool.not_false]; rfl); (first | rfl | simp [AV.inNL, AV.inN])) | ((apply opA_callB (n2); rfl; rfl; rfl; rfl; exact Tryz.func59); kernel_rfl; rfl; (simp (disch := omega) only [go_sem, W, hge, Bool.not_true, Bool.not_false]; rfl); (first | rfl | simp [AV.inNL, AV.inN]))); (simp (disch := omega) only [go_sem, W, hge, Bool.not_true, Bool.not_false]; refine hK _ ?_; clear hK K)) | ((with_reducible refine evL_one ?_ ?_); rfl; intro K hK; simp (disch := omega) only [go_sem, W, hge, Bool.not_true, Bool.not_false]; ((repeat (refine ndI (by first | assumption | omega | rfl) ?_)); refine hK _ ?_; clear hK K)) | (with_reducible first | (refine evL_nil ?_; refine hR _ ?_; clear hR R) | ((first | refine evC_seq ?_ | refine evC_block ?_); intro Ψ hΨ hΨ') | (refine evC_region ?_; intro R hR) | (refine hΨ _ ?_; clear hΨ hΨ' Ψ) | refine evC_skip ?_ | refine evC_ret ?_ | refine evC_exit ?_) | ((with_reducible refine hΨ' _ _ ?_ ?_); (focus (simp; done)); clear hΨ hΨ' Ψ) | ((with_reducible apply evL_unmet); rfl; rfl; rfl; (try simp (disch := omega) only [go_sem, W, hge, Bool.not_true, Bool.not_false])) | ((with_reducible apply evL_grd); rfl; rfl; rfl; all_goals (intro hb; first | (cases hb; done) | ((try simp only [Bool.not_true, Bool.not_false] at hb); (first | ((with_reducible intro K hK); (first | ((apply opA_callB (n1); rfl; rfl; rfl; rfl; exact Tryz.func59); kernel_rfl; rfl; (simp (disch := omega) only [go_sem, W, hge, Bool.not_true, Bool.not_false]; rfl); (first | rfl | simp [AV.inNL, AV.inN])) | ((apply opA_callB (n2); rfl; rfl; rfl; rfl; exact Tryz.func59); kernel_rfl; rfl; (simp (disch := omega) only [go_sem, W, hge, Bool.not_true, Bool.not_false]; rfl); (first | rfl | simp [AV.inNL, AV.inN])) | skip); simp (disch := omega) only [go_sem, W, hge, Bool.not_true, Bool.not_false]; ((repeat (refine ndI (by first | assumption | omega | rfl) ?_)); refine hK _ ?_; clear hK K)) | ((fail_if_success (with_reducible intro _)); simp (disch := omega) only [go_sem, W, hge, Bool.not_true, Bool.not_false]))))) | ((with_reducible apply evC_cond); rfl; rfl; all_goals (intro hc; first | (cases hc; done) | (try simp only at hc))) | ((with_reducible refine evD_nil ?_ ?_); kernel_rfl; (with_reducible refine hR _ ?_); clear hR R) | ((first | ((with_reducible apply evD_skip); rfl; rfl; rfl; rfl) | ((with_reducible apply evD_unmet); rfl; rfl; rfl) | ((first | ((with_reducible apply evD_any); rfl; rfl) | ((with_reducible apply evD_gany); rfl; rfl; rfl; rfl; rfl)); (simp (disch := omega) only [rdE, rdOf, go_sem, W, hge, Bool.not_true, Bool.not_false]; rfl); (intro τ hA hQ hN; ((try simp only [agree, Op.operands, Call.operands, go_sem, W, hge, Bool.not_true, Bool.not_false, go_sem, List.mem_cons, List.not_mem_nil, forall_eq_or_imp, forall_eq, List.append_toArray, Option.toArray] at hA); (try simp only [go_sem, W, hge, Bool.not_true, Bool.not_false, List.mem_cons, List.not_mem_nil, forall_eq_or_imp, forall_eq] at hQ hN); (first | (revert hA; intro hA) | have hA := trivial); (first | (revert hQ; intro hQ) | have hQ := trivial); (first | (revert hN; intro hN) | have hN := trivial); simp (disch := omega) only [go_sem, W, hge, Bool.not_true, Bool.not_false, go_sem, hA, hQ, hN]; (repeat (refine ndI (by first | assumption | omega | rfl) ?_)); (first | apply eff_rd | apply eff_st | apply eff_nw))))); (simp (disch := omega) only [St.eff, setO, hputs, go_sem, W, hge, Bool.not_true, Bool.not_false])) | ((with_reducible apply evD_split); rfl; rfl; rfl; all_goals intro hb; all_goals (simp (disch := omega) only [St.eff, setO, hputs, go_sem, W, hge, Bool.not_true, Bool.not_false])) | ((with_reducible refine evC_draw ?_ ?_ ?_ ?_); kernel_rfl; kernel_rfl; (first | kernel_rfl | simp [newNames, isNew, St.free, freeH, AV.refsL, AV.refs]); intro R hR)))))
          all_goals exact hΨ2 _ (St.le_of (by simp [leT]) (by simp [leH, hget]))
  · have k1 : (decide ((i : Int) < (l.length : Int))) = false := decide_eq_false (by omega)
    have e : i = l.length := by omega
    have hrt : tu = true := by rw [← htu, ← e]; exact hu
    have c24 : q24 = true ∨ q24 = false := by cases q24 <;> simp
    rcases c24 with c24 | c24
    all_goals rw [c24] at e24'
    all_goals (repeat (any_goals (first | ((with_reducible refine evL_call ?_ ?_ ?_); rfl; rfl; intro K hK; ((apply opA_callB (sm); rfl; rfl; rfl; rfl; exact Tryz.func60); kernel_rfl; rfl; (simp only [go_sem, k1, e24']; rfl); (first | rfl | simp [AV.inNL, AV.inN])); (simp only [go_sem, k1, e24']; refine hK _ ?_; clear hK K)) | ((with_reducible refine evL_one ?_ ?_); rfl; intro K hK; simp only [go_sem, k1, e24']; ((repeat (refine ndI (by first | assumption | omega | rfl) ?_)); refine hK _ ?_; clear hK K)) | (with_reducible first | (refine evL_nil ?_; refine hR _ ?_; clear hR R) | ((first | refine evC_seq ?_ | refine evC_block ?_); intro Ψ hΨ hΨ') | (refine evC_region ?_; intro R hR) | (refine hΨ _ ?_; clear hΨ hΨ' Ψ) | refine evC_skip ?_ | refine evC_ret ?_ | refine evC_exit ?_) | ((with_reducible refine hΨ' _ _ ?_ ?_); (focus (simp; done)); clear hΨ hΨ' Ψ) | ((with_reducible apply evL_unmet); rfl; rfl; rfl; (try simp only [go_sem, k1, e24'])) | ((with_reducible apply evL_grd); rfl; rfl; rfl; all_goals (intro hb; first | (cases hb; done) | ((try simp only [Bool.not_true, Bool.not_false] at hb); (first | ((with_reducible intro K hK); simp only [go_sem, k1, e24']; ((repeat (refine ndI (by first | assumption | omega | rfl) ?_)); refine hK _ ?_; clear hK K)) | ((fail_if_success (with_reducible intro _)); simp only [go_sem, k1, e24']))))) | ((with_reducible apply evC_cond); rfl; rfl; all_goals (intro hc; first | (cases hc; done) | (try simp only at hc))) | ((with_reducible refine evD_nil ?_ ?_); kernel_rfl; (with_reducible refine hR _ ?_); clear hR R) | ((first | ((with_reducible apply evD_skip); rfl; rfl; rfl; rfl) | ((with_reducible apply evD_unmet); rfl; rfl; rfl) | ((first | ((with_reducible apply evD_any); rfl; rfl) | ((with_reducible apply evD_gany); rfl; rfl; rfl; rfl; rfl)); (simp only [rdE, rdOf, go_sem, k1, e24']; rfl); (intro τ hA hQ hN; ((try simp only [agree, Op.operands, Call.operands, go_sem, k1, e24', go_sem, List.mem_cons, List.not_mem_nil, forall_eq_or_imp, forall_eq, List.append_toArray, Option.toArray] at hA); (try simp only [go_sem, k1, e24', List.mem_cons, List.not_mem_nil, forall_eq_or_imp, forall_eq] at hQ hN); (first | (revert hA; intro hA) | have hA := trivial); (first | (revert hQ; intro hQ) | have hQ := trivial); (first | (revert hN; intro hN) | have hN := trivial); simp only [go_sem, k1, e24', go_sem, hA, hQ, hN]; (repeat (refine ndI (by first | assumption | omega | rfl) ?_)); (first | apply eff_rd | apply eff_st | apply eff_nw))))); (simp only [St.eff, setO, hputs, go_sem, k1, e24'])) | ((with_reducible apply evD_split); rfl; rfl; rfl; all_goals intro hb; all_goals (simp only [St.eff, setO, hputs, go_sem, k1, e24'])) | ((with_reducible refine evC_draw ?_ ?_ ?_ ?_); kernel_rfl; kernel_rfl; (first | kernel_rfl | simp [newNames, isNew, St.free, freeH, AV.refsL, AV.refs]); intro R hR))))
    all_goals rw [hrt, c24]
    all_goals (refine ⟨by simp, ⟨_, ?_, AV.le_refl _⟩, leH_get (by simp [leH, hget])⟩; simp only [Tryz.results26, resL, ldA, oneOf, go_sem])
    all_goals simp
end Go.Proofs.YtgdnmdnhkhpieaaGreat.lg
namespace Go.Proofs.YtgdnmdnhkhpieaaGreat.nz
open Go.RowKit
open Nat (reduceBEq)
set_option maxRecDepth 20000
set_option maxHeartbeats 1000000
theorem okTo_iff (l : List N6) : ∀ n, okTo l n = true ↔ (l.length : Int) ≤ 48 ∧ ∀ j, j < n → okS l j = true
  | 0 => by simp [okTo]
  | n + 1 => by
    simp only [okTo, Bool.and_eq_true, okTo_iff l n]
    constructor
    · rintro ⟨⟨h1, h2⟩, h3⟩
      refine ⟨h1, fun j hj => ?_⟩
      rcases Nat.lt_or_ge j n with h | h
      · exact h2 j h
      · obtain rfl : j = n := by omega
        exact h3
    · rintro ⟨h1, h2⟩
      exact ⟨⟨h1, fun j hj => h2 j (by omega)⟩, h2 n (by omega)⟩
theorem okS_no {l : List N6} {i : Nat} (hi : i < l.length) (h : okS l i = false) : okTo l l.length = false := by
  cases hh : okTo l l.length with
  | false => rfl
  | true => have := ((okTo_iff l _).1 hh).2 i hi; rw [h] at this; cases this
theorem refright_fn (ex : Bool) (l : List N6) (hl : l.length ≤ 4611686018427387904) (ok : ∀ n ∈ l, n.ok) : Fn Tryz.prog 27 [nsl ex l] [] (vb (okTo l l.length)) [] := by
  (refine fn_of Tryz.func27 rfl (by rfl) ?_; simp only [Tryz.ntmps27, List.length_cons, List.length_nil, Nat.reduceAdd, Nat.reduceSub, List.replicate, List.cons_append, List.nil_append])
  (repeat (any_goals (first | ((with_reducible refine evL_one ?_ ?_); rfl; intro K hK; simp only [go_sem]; ((repeat (refine ndI (by first | assumption | omega | rfl) ?_)); refine hK _ ?_; clear hK K)) | (with_reducible first | (refine evL_nil ?_; refine hR _ ?_; clear hR R) | ((first | refine evC_seq ?_ | refine evC_block ?_); intro Ψ hΨ hΨ') | (refine evC_region ?_; intro R hR) | (refine hΨ _ ?_; clear hΨ hΨ' Ψ) | refine evC_skip ?_ | refine evC_ret ?_ | refine evC_exit ?_) | ((with_reducible refine hΨ' _ _ ?_ ?_); (focus (simp; done)); clear hΨ hΨ' Ψ) | ((with_reducible apply evC_cond); rfl; rfl; all_goals (intro hc; first | (cases hc; done) | (try simp only at hc))) | ((with_reducible refine evD_nil ?_ ?_); kernel_rfl; (with_reducible refine hR _ ?_); clear hR R) | ((first | ((with_reducible apply evD_skip); rfl; rfl; rfl; rfl) | ((with_reducible apply evD_unmet); rfl; rfl; rfl) | ((first | ((with_reducible apply evD_any); rfl; rfl) | ((with_reducible apply evD_gany); rfl; rfl; rfl; rfl; rfl)); (simp only [rdE, rdOf, go_sem]; rfl); (intro τ hA hQ hN; ((try simp only [agree, Op.operands, Call.operands, go_sem, List.mem_cons, List.not_mem_nil, forall_eq_or_imp, forall_eq, List.append_toArray, Option.toArray] at hA); (try simp only [go_sem, List.mem_cons, List.not_mem_nil, forall_eq_or_imp, forall_eq] at hQ hN); (first | (revert hA; intro hA) | have hA := trivial); (first | (revert hQ; intro hQ) | have hQ := trivial); (first | (revert hN; intro hN) | have hN := trivial); simp only [go_sem, hA, hQ, hN]; (repeat (refine ndI (by first | assumption | omega | rfl) ?_)); (first | apply eff_rd | apply eff_st | apply eff_nw))))); (simp only [St.eff, setO, hputs, go_sem])) | ((with_reducible apply evD_split); rfl; rfl; rfl; all_goals intro hb; all_goals (simp only [St.eff, setO, hputs, go_sem])) | ((with_reducible refine evC_draw ?_ ?_ ?_ ?_); kernel_rfl; kernel_rfl; (first | kernel_rfl | simp [newNames, isNew, St.free, freeH, AV.refsL, AV.refs]); intro R hR))))
  refine evC_loop (α := { i : Nat // i ≤ l.length ∧ ∀ j, j < i → okS l j = true }) (fun p => ⟨[nsl ex l, .any, .any, .any, .any, nsl ex l, vi .i64 l.length, vi .i64 p.1, .any, .any, .any, .any, .any, .any, .any, .any, .any, .any, .any, .any, .any, .any, .any, .any, .any, .any, .any, .any, .any, .any, .any, .any, .any, .any, .any, .any, .any, .any, .any, .any, .any, .any, .any, .any], []⟩) (fun p => l.length - p.1) ⟨0, Nat.zero_le _, fun j hj => by omega⟩ (St.le_of (by simp [leT]) (by simp [leH])) ?_
  rintro ⟨i, hi, hok⟩ Ψ hΨ hΨ'
  dsimp only at hΨ ⊢
  rcases Nat.lt_or_ge i l.length with hlt | hge
  · obtain ⟨y, hy⟩ : ∃ y, l[i]? = some y := ⟨l[i], List.getElem?_eq_getElem hlt⟩
    have e1 : (decide ((i : Int) < (l.length : Int))) = true := by simpa using hlt
    have e2 := nsl_at hy
    have oy := ok y (List.mem_of_getElem? hy)
    have hnx : okS l i = true → ∀ j, j < i + 1 → okS l j = true := fun h j hj => by
      rcases Nat.lt_or_ge j i with h' | h'
      · exact hok j h'
      · obtain rfl : j = i := by omega
        exact h
    have hx : U y.x := oy.2.2.2.2.2
    have hx2 : decide (y.x > 0) = !(y.x == 0) := by
      have := hx.1
      by_cases h0 : y.x = 0
      · simp [h0]
      · have : y.x > 0 := by omega
        simp [h0, this]
    rcases i with _ | j
    · simp only [Nat.zero_mul, List.drop_zero] at e2
      have hk : okS l 0 = ((y.a != 0) && (y.e == 0) && !(y.x == 0)) := by simp [okS, hy, hx2]
      have e4 : (decide (((0 : Nat) : Int) > 0)) = false := by decide
      have e7 : ((0 : Nat) : Int) + 1 = ((0 + 1 : Nat) : Int) := by omega
      (have W := ndI e1 (ndI e2 (ndI e4 (ndI e7 @wrI))); (repeat (any_goals (first | ((with_reducible refine evL_one ?_ ?_); rfl; intro K hK; simp (disch := omega) only [go_sem, W]; ((repeat (refine ndI (by first | assumption | omega | rfl) ?_)); refine hK _ ?_; clear hK K)) | (with_reducible first | (refine evL_nil ?_; refine hR _ ?_; clear hR R) | ((first | refine evC_seq ?_ | refine evC_block ?_); intro Ψ hΨ hΨ') | (refine evC_region ?_; intro R hR) | (refine hΨ _ ?_; clear hΨ hΨ' Ψ) | refine evC_skip ?_ | refine evC_ret ?_ | refine evC_exit ?_) | ((with_reducible refine hΨ' _ _ ?_ ?_); (focus (simp; done)); clear hΨ hΨ' Ψ) | ((with_reducible apply evC_cond); rfl; rfl; all_goals (intro hc; first | (cases hc; done) | (try simp only at hc))) | ((with_reducible refine evD_nil ?_ ?_); kernel_rfl; (with_reducible refine hR _ ?_); clear hR R) | ((first | ((with_reducible apply evD_skip); rfl; rfl; rfl; rfl) | ((with_reducible apply evD_unmet); rfl; rfl; rfl) | ((first | ((with_reducible apply evD_fcall); rfl; rfl) | ((with_reducible apply evD_gcall); rfl; rfl; rfl; rfl; rfl)); ((apply opF_callB (refkey_fn _ _ _ _); rfl; rfl; rfl; rfl; exact Tryz.func61); kernel_rfl; rfl; (simp (disch := omega) only [go_sem, W]; rfl); (first | rfl | simp [AV.inNL, AV.inN]))) | ((first | ((with_reducible apply evD_any); rfl; rfl) | ((with_reducible apply evD_gany); rfl; rfl; rfl; rfl; rfl)); (simp (disch := omega) only [rdE, rdOf, go_sem, W]; rfl); (intro τ hA hQ hN; ((try simp only [agree, Op.operands, Call.operands, go_sem, W, go_sem, List.mem_cons, List.not_mem_nil, forall_eq_or_imp, forall_eq, List.append_toArray, Option.toArray] at hA); (try simp only [go_sem, W, List.mem_cons, List.not_mem_nil, forall_eq_or_imp, forall_eq] at hQ hN); (first | (revert hA; intro hA) | have hA := trivial); (first | (revert hQ; intro hQ) | have hQ := trivial); (first | (revert hN; intro hN) | have hN := trivial); simp (disch := omega) only [go_sem, W, go_sem, hA, hQ, hN]; (repeat (refine ndI (by first | assumption | omega | rfl) ?_)); (first | apply eff_rd | apply eff_st | apply eff_nw))))); (simp (disch := omega) only [St.eff, setO, hputs, go_sem, W])) | ((with_reducible apply evD_split); rfl; rfl; rfl; all_goals intro hb; all_goals (simp (disch := omega) only [St.eff, setO, hputs, go_sem, W])) | ((with_reducible refine evC_draw ?_ ?_ ?_ ?_); kernel_rfl; kernel_rfl; (first | kernel_rfl | simp [newNames, isNew, St.free, freeH, AV.refsL, AV.refs]); intro R hR)))))
      rotate_left 3
      · refine hΨ _ ⟨_, hlt, hnx ?_⟩ (by simp only; omega) (St.le_of ?_ ?_)
        · rw [hk]; clear hΨ hk hx2 e2 hy ok oy hx hnx hok; simp_all
        · simp [leT]
        · simp [leH]
      all_goals have hno : okTo l l.length = false := (by
        refine okS_no hlt ?_
        rw [hk]
        clear hk hx2 e2 hy ok oy hx hnx hok
        simp_all)
      all_goals (refine ⟨by simp, ⟨_, ?_, AV.le_refl _⟩, leH_get (by simp [leH, hget])⟩; simp only [Tryz.results27, resL, ldA, oneOf, go_sem])
      all_goals rw [hno]
    · obtain ⟨z, hz⟩ : ∃ z, l[j]? = some z := ⟨l[j], List.getElem?_eq_getElem (by omega)⟩
      have oz := ok z (List.mem_of_getElem? hz)
      have e3 := nsl_at hz
      have e4 : (decide (((j + 1 : Nat) : Int) > 0)) = true := by simp
      have e5 : ((j + 1 : Nat) : Int) - 1 = (j : Int) := by omega
      have e7 : ((j + 1 : Nat) : Int) + 1 = ((j + 1 + 1 : Nat) : Int) := by omega
      have hbf := before_fn z.a z.b z.c z.d z.e z.x y.a y.b y.c y.d y.e y.x oz oy
      obtain ⟨q, hq⟩ : ∃ q, decide (rk z.a z.b z.c z.d z.e < rk y.a y.b y.c y.d y.e) = q := ⟨_, rfl⟩
      rw [hq] at hbf
      have hk : okS l (j + 1) = ((y.a != 0) && (y.e == 0) && !(y.x == 0) && decide (z.rk < y.rk)) := by
        simp only [okS, hy, Nat.add_sub_cancel, hz, hx2, cN_rk oz oy, cmpN_neg]; simp
      rw [show decide (z.rk < y.rk) = q from hq] at hk
      clear hq
      (have W := ndI e1 (ndI e2 (ndI e3 (ndI e4 (ndI e5 (ndI e7 @wrI))))); (repeat (any_goals (first | ((with_reducible refine evL_one ?_ ?_); rfl; intro K hK; simp (disch := omega) only [go_sem, W]; ((repeat (refine ndI (by first | assumption | omega | rfl) ?_)); refine hK _ ?_; clear hK K)) | (with_reducible first | (refine evL_nil ?_; refine hR _ ?_; clear hR R) | ((first | refine evC_seq ?_ | refine evC_block ?_); intro Ψ hΨ hΨ') | (refine evC_region ?_; intro R hR) | (refine hΨ _ ?_; clear hΨ hΨ' Ψ) | refine evC_skip ?_ | refine evC_ret ?_ | refine evC_exit ?_) | ((with_reducible refine hΨ' _ _ ?_ ?_); (focus (simp; done)); clear hΨ hΨ' Ψ) | ((with_reducible apply evC_cond); rfl; rfl; all_goals (intro hc; first | (cases hc; done) | (try simp only at hc))) | ((with_reducible refine evD_nil ?_ ?_); kernel_rfl; (with_reducible refine hR _ ?_); clear hR R) | ((first | ((with_reducible apply evD_skip); rfl; rfl; rfl; rfl) | ((with_reducible apply evD_unmet); rfl; rfl; rfl) | ((first | ((with_reducible apply evD_fcall); rfl; rfl) | ((with_reducible apply evD_gcall); rfl; rfl; rfl; rfl; rfl)); ((first | (apply opF_callB (refkey_fn _ _ _ _); rfl; rfl; rfl; rfl; exact Tryz.func61) | (apply opF_callB (hbf); rfl; rfl; rfl; rfl; exact Tryz.func62)); kernel_rfl; rfl; (simp (disch := omega) only [go_sem, W]; rfl); (first | rfl | simp [AV.inNL, AV.inN]))) | ((first | ((with_reducible apply evD_any); rfl; rfl) | ((with_reducible apply evD_gany); rfl; rfl; rfl; rfl; rfl)); (simp (disch := omega) only [rdE, rdOf, go_sem, W]; rfl); (intro τ hA hQ hN; ((try simp only [agree, Op.operands, Call.operands, go_sem, W, go_sem, List.mem_cons, List.not_mem_nil, forall_eq_or_imp, forall_eq, List.append_toArray, Option.toArray] at hA); (try simp only [go_sem, W, List.mem_cons, List.not_mem_nil, forall_eq_or_imp, forall_eq] at hQ hN); (first | (revert hA; intro hA) | have hA := trivial); (first | (revert hQ; intro hQ) | have hQ := trivial); (first | (revert hN; intro hN) | have hN := trivial); simp (disch := omega) only [go_sem, W, go_sem, hA, hQ, hN]; (repeat (refine ndI (by first | assumption | omega | rfl) ?_)); (first | apply eff_rd | apply eff_st | apply eff_nw))))); (simp (disch := omega) only [St.eff, setO, hputs, go_sem, W])) | ((with_reducible apply evD_split); rfl; rfl; rfl; all_goals intro hb; all_goals (simp (disch := omega) only [St.eff, setO, hputs, go_sem, W])) | ((with_reducible refine evC_draw ?_ ?_ ?_ ?_); kernel_rfl; kernel_rfl; (first | kernel_rfl | simp [newNames, isNew, St.free, freeH, AV.refsL, AV.refs]); intro R hR)))))
      rotate_left 4
      · refine hΨ _ ⟨_, hlt, hnx ?_⟩ (by simp only; omega) (St.le_of ?_ ?_)
        · rw [hk]; clear hΨ hk hx2 e2 hy ok oy hx hnx hok; simp_all
        · simp [leT]
        · simp [leH]
      all_goals have hno : okTo l l.length = false := (by
        refine okS_no hlt ?_
        rw [hk]
        clear hk hx2 e2 hy ok oy hx hnx hok
        simp_all)
      all_goals (refine ⟨by simp, ⟨_, ?_, AV.le_refl _⟩, leH_get (by simp [leH, hget])⟩; simp only [Tryz.results27, resL, ldA, oneOf, go_sem])
      all_goals rw [hno]
  · have e1 : (decide ((i : Int) < (l.length : Int))) = false := by simpa using hge
    obtain rfl : i = l.length := by omega
    have e8 : decide ((l.length : Int) ≤ 48) = okTo l l.length := by
      rw [Bool.eq_iff_iff, okTo_iff]; simp; exact fun _ => hok
    (repeat (any_goals (first | ((with_reducible refine evL_one ?_ ?_); rfl; intro K hK; simp only [go_sem, e1, e8]; ((repeat (refine ndI (by first | assumption | omega | rfl) ?_)); refine hK _ ?_; clear hK K)) | (with_reducible first | (refine evL_nil ?_; refine hR _ ?_; clear hR R) | ((first | refine evC_seq ?_ | refine evC_block ?_); intro Ψ hΨ hΨ') | (refine evC_region ?_; intro R hR) | (refine hΨ _ ?_; clear hΨ hΨ' Ψ) | refine evC_skip ?_ | refine evC_ret ?_ | refine evC_exit ?_) | ((with_reducible refine hΨ' _ _ ?_ ?_); (focus (simp; done)); clear hΨ hΨ' Ψ) | ((with_reducible apply evC_cond); rfl; rfl; all_goals (intro hc; first | (cases hc; done) | (try simp only at hc))) | ((with_reducible refine evD_nil ?_ ?_); kernel_rfl; (with_reducible refine hR _ ?_); clear hR R) | ((first | ((with_reducible apply evD_skip); rfl; rfl; rfl; rfl) | ((with_reducible apply evD_unmet); rfl; rfl; rfl) | ((first | ((with_reducible apply evD_any); rfl; rfl) | ((with_reducible apply evD_gany); rfl; rfl; rfl; rfl; rfl)); (simp only [rdE, rdOf, go_sem, e1, e8]; rfl); (intro τ hA hQ hN; ((try simp only [agree, Op.operands, Call.operands, go_sem, e1, e8, go_sem, List.mem_cons, List.not_mem_nil, forall_eq_or_imp, forall_eq, List.append_toArray, Option.toArray] at hA); (try simp only [go_sem, e1, e8, List.mem_cons, List.not_mem_nil, forall_eq_or_imp, forall_eq] at hQ hN); (first | (revert hA; intro hA) | have hA := trivial); (first | (revert hQ; intro hQ) | have hQ := trivial); (first | (revert hN; intro hN) | have hN := trivial); simp only [go_sem, e1, e8, go_sem, hA, hQ, hN]; (repeat (refine ndI (by first | assumption | omega | rfl) ?_)); (first | apply eff_rd | apply eff_st | apply eff_nw))))); (simp only [St.eff, setO, hputs, go_sem, e1, e8])) | ((with_reducible apply evD_split); rfl; rfl; rfl; all_goals intro hb; all_goals (simp only [St.eff, setO, hputs, go_sem, e1, e8])) | ((with_reducible refine evC_draw ?_ ?_ ?_ ?_); kernel_rfl; kernel_rfl; (first | kernel_rfl | simp [newNames, isNew, St.free, freeH, AV.refsL, AV.refs]); intro R hR))))
    all_goals (refine ⟨by simp, ⟨_, ?_, AV.le_refl _⟩, leH_get (by simp [leH, hget])⟩; simp only [Tryz.results27, resL, ldA, oneOf, go_sem])
end Go.Proofs.YtgdnmdnhkhpieaaGreat.nz
namespace Go.Proofs.YtgdnmdnhkhpieaaGreat
open Go.RowKit
open Nat (reduceBEq)
set_option maxRecDepth 20000
set_option maxHeartbeats 4000000
theorem rightw_fn (w : Wl) (hw : w.ok) : Fn Tryz.prog 6 [wlA w] [] (vb (rightW w)) [] := by
  have f1 := rright_fn false w.S hw.kl
  have f2 := lg.refright_fn false w.L (Nat.le_trans hw.l.1 (by decide)) hw.l.2
  have f3 := nz.refright_fn false w.N (Nat.le_trans hw.n.1 (by decide)) hw.n.2
  unfold rightW
  generalize okSt w.S = q1 at f1 ⊢
  generalize lg.okL w.L = q2 at f2 ⊢
  generalize nz.okTo w.N w.N.length = q3 at f3 ⊢
  cases q1 <;> cases q2 <;> cases q3
  all_goals (refine fn_of Tryz.func6 rfl (by rfl) ?_; simp only [Tryz.ntmps6, List.length_cons, List.length_nil, Nat.reduceAdd, Nat.reduceSub, List.replicate, List.cons_append, List.nil_append])
  all_goals (repeat (any_goals (first | ((with_reducible refine evL_call ?_ ?_ ?_); rfl; rfl; intro K hK; ((apply opA_callB (f1); rfl; rfl; rfl; rfl; exact Tryz.func25); kernel_rfl; rfl; (simp only [go_sem]; rfl); (first | rfl | simp [AV.inNL, AV.inN])); (simp only [go_sem]; refine hK _ ?_; clear hK K)) | ((with_reducible refine evL_one ?_ ?_); rfl; intro K hK; simp only [go_sem]; ((repeat (refine ndI (by first | assumption | omega | rfl) ?_)); refine hK _ ?_; clear hK K)) | (with_reducible first | (refine evL_nil ?_; refine hR _ ?_; clear hR R) | ((first | refine evC_seq ?_ | refine evC_block ?_); intro Ψ hΨ hΨ') | (refine evC_region ?_; intro R hR) | (refine hΨ _ ?_; clear hΨ hΨ' Ψ) | refine evC_skip ?_ | refine evC_ret ?_ | refine evC_exit ?_) | ((with_reducible refine hΨ' _ _ ?_ ?_); (focus (simp; done)); clear hΨ hΨ' Ψ) | ((with_reducible apply evL_unmet); rfl; rfl; rfl; (try simp only [go_sem])) | ((with_reducible apply evL_grd); rfl; rfl; rfl; all_goals (intro hb; first | (cases hb; done) | ((try simp only [Bool.not_true, Bool.not_false] at hb); (first | ((with_reducible intro K hK); (first | ((first | (apply opA_callB (f2); rfl; rfl; rfl; rfl; exact Tryz.func26) | (apply opA_callB (f3); rfl; rfl; rfl; rfl; exact Tryz.func27)); kernel_rfl; rfl; (simp only [go_sem]; rfl); (first | rfl | simp [AV.inNL, AV.inN])) | skip); simp only [go_sem]; ((repeat (refine ndI (by first | assumption | omega | rfl) ?_)); refine hK _ ?_; clear hK K)) | ((fail_if_success (with_reducible intro _)); simp only [go_sem]))))) | ((with_reducible apply evC_cond); rfl; rfl; all_goals (intro hc; first | (cases hc; done) | (try simp only at hc))))))
  all_goals (refine ⟨by simp, ⟨_, ?_, AV.le_refl _⟩, leH_get (by simp [leH, hget])⟩; simp only [Tryz.results6, resL, ldA, oneOf, go_sem])
  all_goals rfl
theorem right_st {w : Wl} (h : rightW w = true) : okSt w.S = true ∧ lg.okL w.L = true := by
  unfold rightW at h
  simp only [Bool.and_eq_true] at h
  exact ⟨h.1.1, h.1.2⟩
theorem find_right {w : Wl} (h : rightW w = true) (a : Int) : (findS w.S a).b = (OfS w.S a).b := by
  have h1 := (right_st h).1
  rw [findS_of h1]
  unfold OfS
  rw [h1, if_pos rfl]
theorem rhas_fn (w : Wl) (hw : w.ok) (h : rightW w = true) : Fn Tryz.prog 7 [wlA w] [] (wN (hasN w)) [] := by
  have f := rof_fn false w.S hw.kl 1
  unfold hasN
  rw [h, if_pos rfl, ← find_right h]
  generalize findS w.S 1 = x at f ⊢
  obtain ⟨a, b, n, c, s⟩ := x
  dsimp only at f ⊢
  (refine fn_of Tryz.func7 rfl (by rfl) ?_; simp only [Tryz.ntmps7, List.length_cons, List.length_nil, Nat.reduceAdd, Nat.reduceSub, List.replicate, List.cons_append, List.nil_append])
  (repeat (any_goals (first | ((with_reducible refine evL_call ?_ ?_ ?_); rfl; rfl; intro K hK; ((apply opA_callB (f); rfl; rfl; rfl; rfl; exact Tryz.func28); kernel_rfl; rfl; (simp only [go_sem]; rfl); (first | rfl | simp [AV.inNL, AV.inN])); (simp only [go_sem]; refine hK _ ?_; clear hK K)) | ((with_reducible refine evL_one ?_ ?_); rfl; intro K hK; simp only [go_sem]; ((repeat (refine ndI (by first | assumption | omega | rfl) ?_)); refine hK _ ?_; clear hK K)) | (with_reducible first | (refine evL_nil ?_; refine hR _ ?_; clear hR R) | ((first | refine evC_seq ?_ | refine evC_block ?_); intro Ψ hΨ hΨ') | (refine evC_region ?_; intro R hR) | (refine hΨ _ ?_; clear hΨ hΨ' Ψ) | refine evC_skip ?_ | refine evC_ret ?_ | refine evC_exit ?_) | ((with_reducible refine hΨ' _ _ ?_ ?_); (focus (simp; done)); clear hΨ hΨ' Ψ) | ((with_reducible apply evC_cond); rfl; rfl; all_goals (intro hc; first | (cases hc; done) | (try simp only at hc))))))
  all_goals (refine ⟨by simp, ⟨_, ?_, AV.le_refl _⟩, leH_get (by simp [leH, hget])⟩; simp only [Tryz.results7, resL, ldA, oneOf, go_sem])
theorem rsumF_fn (l : List lg.Hd) (hl : l.length ≤ 1000) (ok : ∀ h ∈ l, h.ok) (h : lg.okL l = true) : Fn Tryz.prog 29 [lg.lg false l] [] (wN (lg.sumP l)) [] := by
  have f := lg.rsum_fn false l hl ok
  have e : (lg.rsm 0 l).1 = lg.sumP l := by
    unfold lg.sumP
    rw [if_pos h]
    have key : ∀ (l : List lg.Hd) (n : Nat), n + lg.tot l < WW → (lg.rsm n l).1 = n + lg.tot l := by
      intro l
      induction l with
      | nil => intro n _; rfl
      | cons x l ih =>
        intro n hn
        have e1 : lg.tot (x :: l) = x.p + x.s + lg.tot l := by simp [lg.tot]
        rw [e1] at hn
        unfold lg.rsm
        rw [if_neg (by omega), if_neg (by omega), ih _ (by omega), e1]
        omega
    have := key l 0 (by have := lg.okL_tot h; omega)
    rw [this, Nat.zero_add]
  rw [e] at f
  generalize lg.sumP l = n at f ⊢
  generalize (lg.rsm 0 l).2 = q at f
  (refine fn_of Tryz.func29 rfl (by rfl) ?_; simp only [Tryz.ntmps29, List.length_cons, List.length_nil, Nat.reduceAdd, Nat.reduceSub, List.replicate, List.cons_append, List.nil_append])
  (repeat (any_goals (first | ((with_reducible refine evL_call ?_ ?_ ?_); rfl; rfl; intro K hK; ((apply opA_callB (f); rfl; rfl; rfl; rfl; exact Tryz.func60); kernel_rfl; rfl; (simp only [go_sem]; rfl); (first | rfl | simp [AV.inNL, AV.inN])); (simp only [go_sem]; refine hK _ ?_; clear hK K)) | ((with_reducible refine evL_one ?_ ?_); rfl; intro K hK; simp only [go_sem]; ((repeat (refine ndI (by first | assumption | omega | rfl) ?_)); refine hK _ ?_; clear hK K)) | (with_reducible first | (refine evL_nil ?_; refine hR _ ?_; clear hR R) | ((first | refine evC_seq ?_ | refine evC_block ?_); intro Ψ hΨ hΨ') | (refine evC_region ?_; intro R hR) | (refine hΨ _ ?_; clear hΨ hΨ' Ψ) | refine evC_skip ?_ | refine evC_ret ?_ | refine evC_exit ?_) | ((with_reducible refine hΨ' _ _ ?_ ?_); (focus (simp; done)); clear hΨ hΨ' Ψ) | ((with_reducible apply evC_cond); rfl; rfl; all_goals (intro hc; first | (cases hc; done) | (try simp only at hc))))))
  all_goals (refine ⟨by simp, ⟨_, ?_, AV.le_refl _⟩, leH_get (by simp [leH, hget])⟩; simp only [Tryz.results29, resL, ldA, oneOf, go_sem])
theorem rowes_fn (w : Wl) (hw : w.ok) (h : rightW w = true) : Fn Tryz.prog 8 [wlA w] [] (wN (owesN w)) [] := by
  have f := rsumF_fn w.L (Nat.le_trans hw.l.1 (by decide)) hw.l.2 (right_st h).2
  unfold owesN
  rw [h, if_pos rfl]
  generalize lg.sumP w.L = n at f ⊢
  (refine fn_of Tryz.func8 rfl (by rfl) ?_; simp only [Tryz.ntmps8, List.length_cons, List.length_nil, Nat.reduceAdd, Nat.reduceSub, List.replicate, List.cons_append, List.nil_append])
  (repeat (any_goals (first | ((with_reducible refine evL_call ?_ ?_ ?_); rfl; rfl; intro K hK; ((apply opA_callB (f); rfl; rfl; rfl; rfl; exact Tryz.func29); kernel_rfl; rfl; (simp only [go_sem]; rfl); (first | rfl | simp [AV.inNL, AV.inN])); (simp only [go_sem]; refine hK _ ?_; clear hK K)) | ((with_reducible refine evL_one ?_ ?_); rfl; intro K hK; simp only [go_sem]; ((repeat (refine ndI (by first | assumption | omega | rfl) ?_)); refine hK _ ?_; clear hK K)) | (with_reducible first | (refine evL_nil ?_; refine hR _ ?_; clear hR R) | ((first | refine evC_seq ?_ | refine evC_block ?_); intro Ψ hΨ hΨ') | (refine evC_region ?_; intro R hR) | (refine hΨ _ ?_; clear hΨ hΨ' Ψ) | refine evC_skip ?_ | refine evC_ret ?_ | refine evC_exit ?_) | ((with_reducible refine hΨ' _ _ ?_ ?_); (focus (simp; done)); clear hΨ hΨ' Ψ) | ((with_reducible apply evC_cond); rfl; rfl; all_goals (intro hc; first | (cases hc; done) | (try simp only at hc))))))
  all_goals (refine ⟨by simp, ⟨_, ?_, AV.le_refl _⟩, leH_get (by simp [leH, hget])⟩; simp only [Tryz.results8, resL, ldA, oneOf, go_sem])
theorem rsupply_fn (w : Wl) (hw : w.ok) (h : rightW w = true) : Fn Tryz.prog 9 [wlA w] [] (wN (supplyN w)) [] := by
  have f := rtotal_fn false w.S (by have := hw.kl.1; omega) fun x hx => (hw.kl.2 x hx).1.2.1
  unfold supplyN totalS
  rw [h, if_pos rfl, (right_st h).1, if_pos rfl]
  generalize (w.S.map Ac.b).sum % WW = n at f ⊢
  generalize decide (WW ≤ (w.S.map Ac.b).sum) = q at f
  (refine fn_of Tryz.func9 rfl (by rfl) ?_; simp only [Tryz.ntmps9, List.length_cons, List.length_nil, Nat.reduceAdd, Nat.reduceSub, List.replicate, List.cons_append, List.nil_append])
  (repeat (any_goals (first | ((with_reducible refine evL_call ?_ ?_ ?_); rfl; rfl; intro K hK; ((apply opA_callB (f); rfl; rfl; rfl; rfl; exact Tryz.func30); kernel_rfl; rfl; (simp only [go_sem]; rfl); (first | rfl | simp [AV.inNL, AV.inN])); (simp only [go_sem]; refine hK _ ?_; clear hK K)) | ((with_reducible refine evL_one ?_ ?_); rfl; intro K hK; simp only [go_sem]; ((repeat (refine ndI (by first | assumption | omega | rfl) ?_)); refine hK _ ?_; clear hK K)) | (with_reducible first | (refine evL_nil ?_; refine hR _ ?_; clear hR R) | ((first | refine evC_seq ?_ | refine evC_block ?_); intro Ψ hΨ hΨ') | (refine evC_region ?_; intro R hR) | (refine hΨ _ ?_; clear hΨ hΨ' Ψ) | refine evC_skip ?_ | refine evC_ret ?_ | refine evC_exit ?_) | ((with_reducible refine hΨ' _ _ ?_ ?_); (focus (simp; done)); clear hΨ hΨ' Ψ) | ((with_reducible apply evC_cond); rfl; rfl; all_goals (intro hc; first | (cases hc; done) | (try simp only at hc))))))
  all_goals (refine ⟨by simp, ⟨_, ?_, AV.le_refl _⟩, leH_get (by simp [leH, hget])⟩; simp only [Tryz.results9, resL, ldA, oneOf, go_sem])
end Go.Proofs.YtgdnmdnhkhpieaaGreat
namespace Go.Proofs.YtgdnmdnhkhpieaaGreat.nz
open Go.RowKit
set_option maxRecDepth 20000
set_option maxHeartbeats 1000000
abbrev rcN (l : List N6) : List AV := (l.flatMap N6.pv).map .c
theorem rcN_len (l : List N6) : (rcN l).length = l.length * 6 := by rw [List.length_map, flat_length pv_len]
end Go.Proofs.YtgdnmdnhkhpieaaGreat.nz
namespace Go.Proofs.YtgdnmdnhkhpieaaGreat.nz
open Go.RowKit
open Nat (reduceBEq)
set_option maxRecDepth 20000
set_option maxHeartbeats 1000000
theorem cloneN_fn (ex : Bool) (l : List N6) (hl : l.length ≤ 1000000) : Fn Tryz.prog 24 [nsl ex l] [] (.row 7 68 6 l.length) [(7, rcN l)] := by
  have e1 := rcN_len l
  (refine fn_of Tryz.func24 rfl (by rfl) ?_; simp only [Tryz.ntmps24, List.length_cons, List.length_nil, Nat.reduceAdd, Nat.reduceSub, List.replicate, List.cons_append, List.nil_append])
  (repeat (any_goals (first | ((have hz0 := hb0 hc); (with_reducible refine evL_op ?_ ?_); rfl; intro K hK; refine OpA.nilrow_after 2 7 68 6 (evO_sound ?_); (simp (disch := omega) only [go_sem, e1, refsL_map]); (repeat (refine And.intro (by first | assumption | omega | rfl | decide) ?_)); refine hK _ ?_; clear hK K; clear hb0) | ((with_reducible refine evL_one ?_ ?_); rfl; intro K hK; simp (disch := omega) only [go_sem, e1, refsL_map]; ((repeat (refine ndI (by first | assumption | omega | rfl) ?_)); refine hK _ ?_; clear hK K)) | ((with_reducible refine evL_one ?_ ?_); rfl; intro K hK; refine evO_isnil rfl rfl (by first | exact .inl rfl | exact .inr rfl) ?_ rfl ?_; (focus (simp (disch := omega) only [go_sem]; try rfl)); (intro b hb0; simp (disch := omega) only [eq_self, go_sem, e1, refsL_map]; (with_reducible refine hK _ ?_); clear hK K)) | ((with_reducible refine evL_one ?_ ?_); rfl; intro K hK; simp (disch := omega) only [go_sem, e1, refsL_map]; (repeat (refine And.intro rfl ?_)); (refine evO_nilnil rfl rfl (by first | exact .inl rfl | exact .inr rfl) ?_ rfl ?_); (focus (simp (disch := omega) only [go_sem]; try rfl)); (simp (disch := omega) only [eq_self, go_sem, e1, refsL_map]; (with_reducible refine hK _ ?_); clear hK K)) | (with_reducible first | (refine evL_nil ?_; refine hR _ ?_; clear hR R) | ((first | refine evC_seq ?_ | refine evC_block ?_); intro Ψ hΨ hΨ') | (refine evC_region ?_; intro R hR) | (refine hΨ _ ?_; clear hΨ hΨ' Ψ) | refine evC_skip ?_ | refine evC_ret ?_ | refine evC_exit ?_) | ((with_reducible refine hΨ' _ _ ?_ ?_); (focus (simp; done)); clear hΨ hΨ' Ψ) | ((with_reducible apply evC_cond); rfl; rfl; all_goals (intro hc; first | (cases hc; done) | (try simp only at hc))))))
  all_goals (try (obtain rfl := List.eq_nil_of_length_eq_zero hz0))
  all_goals exact ⟨by simp, ⟨_, rfl, AV.le_refl _⟩, leH_get (by simp [leH, hget])⟩
end Go.Proofs.YtgdnmdnhkhpieaaGreat.nz
namespace Go.Proofs.YtgdnmdnhkhpieaaGreat
open Go.RowKit
set_option maxRecDepth 20000
set_option maxHeartbeats 4000000
theorem take_min {α : Type} (l : List α) (k : Nat) : l.take (min l.length k) = l.take k := by
  rw [List.take_eq_take_iff, Nat.min_comm l.length k, Nat.min_assoc, Nat.min_self]
theorem cloneBv (ex : Bool) (l : List Nat) (hl : l.length ≤ 1000000) : Fn Tryz.prog 21 [.c (.sl ex 1 l.length (l.flatMap bpv))] [] (.c (bsV l)) [] := by
  have k := (cloneB_fn ex l hl).frzN (d := 7) (pcs := l.flatMap bpv) rfl
  have e1 : (l.flatMap bpv).length = l.length * 1 := flat_length bpv_len _
  simpa [-List.length_flatMap, e1, AV.frz, AV.frzL, frzH] using k
theorem clonePv (ex : Bool) (l : List Pr) (hl : l.length ≤ 1000000) : Fn Tryz.prog 22 [.c (.sl ex 8 l.length (l.flatMap Pr.pv))] [] (.c (psV l)) [] := by
  have k := (cloneP_fn ex l hl).frzN (d := 7) (pcs := l.flatMap Pr.pv) rfl
  have e1 : (l.flatMap Pr.pv).length = l.length * 8 := flat_length pr_len _
  simpa [-List.length_flatMap, e1, AV.frz, AV.frzL, frzH] using k
theorem cloneHv (ex : Bool) (l : List lg.Hd) (hl : l.length ≤ 100) : Fn Tryz.prog 23 [.c (.sl ex 11 l.length (l.flatMap lg.Hd.pv))] [] (.c (hdV l)) [] := by
  have k := (lg.cloneH_fn ex l (by omega)).frzN (d := 7) (pcs := l.flatMap lg.Hd.pv) rfl
  have e1 : (l.flatMap lg.Hd.pv).length = l.length * 11 := flat_length lg.hd_len _
  simpa [-List.length_flatMap, e1, AV.frz, AV.frzL, frzH] using k
theorem cloneNv (ex : Bool) (l : List nz.N6) (hl : l.length ≤ 100) : Fn Tryz.prog 24 [.c (.sl ex 6 l.length (l.flatMap nz.N6.pv))] [] (.c (noV l)) [] := by
  have k := (nz.cloneN_fn ex l (by omega)).frzN (d := 7) (pcs := l.flatMap nz.N6.pv) rfl
  have e1 : (l.flatMap nz.N6.pv).length = l.length * 6 := flat_length nz.pv_len _
  simpa [-List.length_flatMap, e1, AV.frz, AV.frzL, frzH] using k
def cutA (x : Ac) : Ac := ⟨x.a, x.b, x.n, x.code.take 300, x.store.take 40⟩
def cutW (w : Wl) : Wl := ⟨(w.S.take 45).map cutA, w.L.take 40, w.N.take 70⟩
structure Wl.raw (w : Wl) : Prop where
  s : w.S.length ≤ maxLen ∧ ∀ x ∈ w.S, x.ok
  l : w.L.length ≤ maxLen ∧ ∀ h ∈ w.L, h.ok
  n : w.N.length ≤ maxLen ∧ ∀ x ∈ w.N, x.ok
theorem cutW_ok {w : Wl} (h : w.raw) : (cutW w).ok := by
  refine ⟨⟨?_, fun y hy => ?_⟩, ⟨?_, fun y hy => h.l.2 y (List.mem_of_mem_take hy)⟩, ⟨?_, fun y hy => h.n.2 y (List.mem_of_mem_take hy)⟩⟩
  · show ((w.S.take 45).map cutA).length ≤ 45
    rw [List.length_map, List.length_take]; omega
  · obtain ⟨x, hx, rfl⟩ := List.mem_map.1 hy
    obtain ⟨u1, u2, u3, ⟨u4, u5⟩, u6, u7⟩ := h.s.2 x (List.mem_of_mem_take hx)
    refine ⟨⟨u1, u2, u3, ⟨?_, fun c hc => u5 c (List.mem_of_mem_take hc)⟩, ?_, fun p hp => u7 p (List.mem_of_mem_take hp)⟩, ?_, ?_⟩
    · show (x.code.take 300).length ≤ maxLen; rw [List.length_take]; omega
    · show (x.store.take 40).length ≤ maxLen; rw [List.length_take]; omega
    · show (x.code.take 300).length ≤ 300; rw [List.length_take]; omega
    · show (x.store.take 40).length ≤ 40; rw [List.length_take]; omega
  · show (w.L.take 40).length ≤ 40; rw [List.length_take]; omega
  · show (w.N.take 70).length ≤ 70; rw [List.length_take]; omega
theorem min_if (n k : Nat) : (if (k : Int) < (n : Int) then (k : Int) else (n : Int)) = ((min n k : Nat) : Int) := by split <;> omega
theorem rcS_mid (A B : List Ac) (y : Ac) : rcS (A ++ y :: B) = rcS A ++ ([vi .u64 y.a, vi .u64 (l0 y.b), vi .u64 (l1 y.b), vi .u64 (l2 y.b), vi .u64 (l3 y.b), vi .u64 y.n, .c (bsV y.code), .c (psV y.store)] ++ rcS B) := by simp [rcS, Ac.pv]
theorem acell {A B : List Ac} {y : Ac} {k : Nat} (hA : A.length = k) : (rcS (A ++ y :: B))[k * 8 + 6]? = some (.c (bsV y.code)) ∧ (rcS (A ++ y :: B))[k * 8 + 7]? = some (.c (psV y.store)) := by
  have hl := rcS_len A
  rw [hA] at hl
  rw [rcS_mid]
  constructor
  · rw [List.getElem?_append_right (by omega), hl, show k * 8 + 6 - k * 8 = 6 by omega]; rfl
  · rw [List.getElem?_append_right (by omega), hl, show k * 8 + 7 - k * 8 = 7 by omega]; rfl
theorem spl_code {A B : List Ac} {y : Ac} {k : Nat} (hA : A.length = k) (c : List Nat) : spl (rcS (A ++ y :: B)) (k * 8 + 6) [.c (bsV c)] = rcS (A ++ ⟨y.a, y.b, y.n, c, y.store⟩ :: B) := by
  have hl := rcS_len A
  rw [hA] at hl
  rw [rcS_mid, rcS_mid]
  generalize rcS A = X at hl
  unfold spl
  rw [List.take_append, List.drop_append]
  simp [hl, List.take_of_length_le, show k * 8 + 6 - k * 8 = 6 by omega, show k * 8 + 6 + 1 - k * 8 = 7 by omega, show X.length ≤ k * 8 + 6 by omega, List.drop_eq_nil_of_le, show k * 8 ≤ k * 8 + 6 + 1 by omega]
theorem spl_store {A B : List Ac} {y : Ac} {k : Nat} (hA : A.length = k) (s : List Pr) : spl (rcS (A ++ y :: B)) (k * 8 + 7) [.c (psV s)] = rcS (A ++ ⟨y.a, y.b, y.n, y.code, s⟩ :: B) := by
  have hl := rcS_len A
  rw [hA] at hl
  rw [rcS_mid, rcS_mid]
  generalize rcS A = X at hl
  unfold spl
  rw [List.take_append, List.drop_append]
  simp [hl, List.take_of_length_le, show k * 8 + 7 - k * 8 = 7 by omega, show k * 8 + 7 + 1 - k * 8 = 8 by omega, show X.length ≤ k * 8 + 7 by omega, List.drop_eq_nil_of_le, show k * 8 ≤ k * 8 + 7 + 1 by omega]
end Go.Proofs.YtgdnmdnhkhpieaaGreat
namespace Go.Proofs.YtgdnmdnhkhpieaaGreat
open Go.RowKit
open Nat (reduceBEq)
set_option maxRecDepth 20000
set_option maxHeartbeats 4000000
theorem world_row (w : Wl) (hw : w.raw) : Fn Tryz.prog 5 [wlA w] [] (.agg [.row 9 57 8 (cutW w).S.length, .c (hdV (cutW w).L), .c (noV (cutW w).N)]) [(9, rcS (cutW w).S)] := by
  obtain ⟨S, L, N⟩ := w
  obtain ⟨⟨hs, os⟩, ⟨hl, ol⟩, ⟨hn, on'⟩⟩ := hw
  dsimp only at hs os hl ol hn on'
  have s8 : S.length < 9223372036854775808 := Nat.lt_succ_of_le hs
  have l8 : L.length < 9223372036854775808 := Nat.lt_succ_of_le hl
  have n8 : N.length < 9223372036854775808 := Nat.lt_succ_of_le hn
  have c1 := cloneA_fn false (S.take 45) (by rw [List.length_take]; omega)
  have c4 := cloneHv false (L.take 40) (by rw [List.length_take]; omega)
  have c5 := cloneNv false (N.take 70) (by rw [List.length_take]; omega)
  have e1 : (if (45 : Int) < (S.length : Int) then (45 : Int) else (S.length : Int)) = ((min S.length 45 : Nat) : Int) := min_if S.length 45
  have e2 : (S.flatMap Ac.pv).take (min S.length 45 * 8) = (S.take 45).flatMap Ac.pv := by rw [flat_take ac_len, take_min]
  have e3 : (S.take 45).length = min S.length 45 := by rw [List.length_take, Nat.min_comm]
  have e4 : (if (40 : Int) < (L.length : Int) then (40 : Int) else (L.length : Int)) = ((min L.length 40 : Nat) : Int) := min_if L.length 40
  have e5 : (L.flatMap lg.Hd.pv).take (min L.length 40 * 11) = (L.take 40).flatMap lg.Hd.pv := by rw [flat_take lg.hd_len, take_min]
  have e6 : (L.take 40).length = min L.length 40 := by rw [List.length_take, Nat.min_comm]
  have e7 : (if (70 : Int) < (N.length : Int) then (70 : Int) else (N.length : Int)) = ((min N.length 70 : Nat) : Int) := min_if N.length 70
  have e8 : (N.flatMap nz.N6.pv).take (min N.length 70 * 6) = (N.take 70).flatMap nz.N6.pv := by rw [flat_take nz.pv_len, take_min]
  have e9 : (N.take 70).length = min N.length 70 := by rw [List.length_take, Nat.min_comm]
  have os' : ∀ x ∈ S.take 45, x.ok := fun x hx => os x (List.mem_of_mem_take hx)
  show Fn Tryz.prog 5 [wlA ⟨S, L, N⟩] [] (.agg [.row 9 57 8 ((S.take 45).map cutA).length, .c (hdV (L.take 40)), .c (noV (N.take 70))]) [(9, rcS ((S.take 45).map cutA))]
  have h45 : (S.take 45).length ≤ 45 := by rw [List.length_take]; omega
  unfold acS at c1
  rw [e3] at c1
  unfold hdV at c4
  rw [e6] at c4
  unfold noV at c5
  rw [e9] at c5
  have m1 : ((S.take 45).map cutA).length = min S.length 45 := by rw [List.length_map, e3]
  unfold hdV noV
  rw [m1, e6, e9]
  rw [← e3] at e1 e2 c1 m1 ⊢
  generalize S.take 45 = M at *
  have f1 : ∀ d, AV.refsL d (rcS M) = false := fun d => refsL_map d _
  have f2 : ∀ r, AV.renL r (rcS M) = rcS M := fun r => renL_map r _
  have f3 : ∀ r, AV.inNL r (rcS M) = true := fun r => inNL_map r _
  have f4 := rcS_len M
  (refine fn_of Tryz.func5 rfl (by rfl) ?_; simp only [Tryz.ntmps5, List.length_cons, List.length_nil, Nat.reduceAdd, Nat.reduceSub, List.replicate, List.cons_append, List.nil_append])
  (have W := ndI e1 (ndI e2 (ndI f1 (ndI f2 (ndI f3 f4)))); (repeat (any_goals (first | ((with_reducible refine evL_call ?_ ?_ ?_); rfl; rfl; intro K hK; (apply opA_callR (c1) (fun r => 9); rfl; rfl; rfl; rfl; exact Tryz.func20; kernel_rfl; rfl; rfl; (intro r hr q hq h; simp (disch := omega) only [List.map_cons, List.map_nil, List.cons_append, List.nil_append, List.mem_cons, List.not_mem_nil, or_false] at hr hq; (try dsimp only at h); first | omega | (rcases hr with rfl | rfl | rfl <;> rcases hq with rfl | rfl | rfl <;> simp at h ⊢) | (rcases hr with rfl | rfl <;> rcases hq with rfl | rfl <;> simp at h ⊢) | ((repeat' split at h) <;> omega)); (simp (disch := omega) only [argsOk, argOk, AV.ren, AV.renL, renL_map, List.mem_cons, List.not_mem_nil, forall_eq_or_imp, forall_eq, newOk, List.contains_cons, List.contains_nil, AV.refsL, AV.refs, refsL_map, AV.inN, AV.inNL, inH, inNL_map, go_sem, W, Bool.false_and])); (simp (disch := omega) only [hputs, hdels, renH, AV.ren, AV.renL, renL_map, go_sem, W, Bool.false_and]; refine hK _ ?_; clear hK K)) | ((with_reducible refine evL_one ?_ ?_); rfl; intro K hK; simp (disch := omega) only [go_sem, W, Bool.false_and]; ((repeat (refine ndI (by first | assumption | omega | rfl) ?_)); refine hK _ ?_; clear hK K)) | ((with_reducible refine evL_one ?_ ?_); rfl; intro K hK; simp (disch := omega) only [go_sem, W, Bool.false_and]; apply opA_cut_nil; rfl; rfl; rfl; rfl; (focus (simp (disch := omega) only [go_sem]; try rfl)); rfl; (simp (disch := omega) only [go_sem, W, Bool.false_and]; (with_reducible refine hK _ ?_); clear hK K)) | ((with_reducible refine evL_one ?_ ?_); rfl; intro K hK; (try simp (disch := omega) only [go_sem, W, Bool.false_and]); (repeat (refine ndI (by first | assumption | omega | rfl) ?_)); refine opA_slice_row rfl rfl rfl rfl rfl ?_ rfl rfl rfl rfl ?_ ?_ ?_; (focus (simp only [go_sem]; try rfl)); (intro h; first | rfl | cases h); (first | omega | (dsimp only; omega) | (simp (disch := omega) only [Option.isSome_some, Option.isSome_none]; omega) | (simp; omega) | (focus (simp; done))); (intro q hq1 hq2; (simp (disch := omega) only [go_sem, W, Bool.false_and]; refine hK _ ?_; clear hK K))) | ((with_reducible refine evL_one ?_ ?_); rfl; intro K hK; (try simp (disch := omega) only [go_sem, W, Bool.false_and]); (repeat (refine ndI (by first | assumption | omega | rfl) ?_)); refine opA_slice_cut rfl rfl rfl rfl rfl ?_ rfl rfl rfl rfl ?_ ?_ ?_; (focus (simp only [go_sem]; try rfl)); (intro h; first | rfl | cases h); (first | omega | (dsimp only; omega) | (simp (disch := omega) only [Option.isSome_some, Option.isSome_none]; omega) | (simp; omega) | (focus (simp; done))); (simp (disch := omega) only [go_sem, W, Bool.false_and]; refine hK _ ?_; clear hK K)) | ((with_reducible refine evL_one ?_ ?_); rfl; intro K hK; (try simp (disch := omega) only [go_sem, W, Bool.false_and]); (repeat (refine ndI (by first | assumption | omega | rfl) ?_)); refine opA_index_cut rfl rfl rfl rfl rfl ?_ ?_ ?_; (focus (simp only [go_sem]; try rfl)); (first | omega | (dsimp only; omega) | (simp (disch := omega) only [Option.isSome_some, Option.isSome_none]; omega) | (simp; omega) | (focus (simp; done))); (simp (disch := omega) only [go_sem, W, Bool.false_and]; refine hK _ ?_; clear hK K)) | (with_reducible first | (refine evL_nil ?_; refine hR _ ?_; clear hR R) | ((first | refine evC_seq ?_ | refine evC_block ?_); intro Ψ hΨ hΨ') | (refine evC_region ?_; intro R hR) | (refine hΨ _ ?_; clear hΨ hΨ' Ψ) | refine evC_skip ?_ | refine evC_ret ?_ | refine evC_exit ?_) | ((with_reducible refine hΨ' _ _ ?_ ?_); (focus (simp; done)); clear hΨ hΨ' Ψ) | ((with_reducible apply evC_cond); rfl; rfl; all_goals (intro hc; first | (cases hc; done) | (try simp only at hc))) | ((with_reducible refine evD_nil ?_ ?_); kernel_rfl; (with_reducible refine hR _ ?_); clear hR R) | ((first | ((with_reducible apply evD_any); rfl; rfl; (simp (disch := omega) only [rdE, rdOf, go_sem, W, Bool.false_and]; rfl); (intro τ hA hQ hN; ((try simp only [agree, Op.operands, Call.operands, go_sem, W, Bool.false_and, go_sem, List.mem_cons, List.not_mem_nil, forall_eq_or_imp, forall_eq, List.append_toArray, Option.toArray] at hA); (try simp only [go_sem, W, Bool.false_and, List.mem_cons, List.not_mem_nil, forall_eq_or_imp, forall_eq] at hQ hN); (first | (revert hA; intro hA) | have hA := trivial); (first | (revert hQ; intro hQ) | have hQ := trivial); (first | (revert hN; intro hN) | have hN := trivial); simp (disch := omega) only [go_sem, W, Bool.false_and, go_sem, hA, hQ, hN]; (repeat (refine ndI (by first | assumption | omega | rfl) ?_)); (first | apply eff_rd | apply eff_st | apply eff_nw)))) | ((first | ((with_reducible apply evD_one); rfl) | ((with_reducible apply evD_grd); rfl; rfl; rfl; rfl)); apply opF_slice_cut; rfl; rfl; rfl; rfl; rfl; (focus (simp only [go_sem]; try rfl)); rfl; rfl; rfl; rfl; (intro h; first | rfl | cases h); (first | omega | (dsimp only; omega) | (simp (disch := omega) only [Option.isSome_some, Option.isSome_none]; omega) | (simp; omega) | (focus (simp; done))))); (simp (disch := omega) only [St.eff, setO, hputs, go_sem, W, Bool.false_and])) | ((with_reducible refine evC_draw ?_ ?_ ?_ ?_); kernel_rfl; kernel_rfl; (first | kernel_rfl | simp [newNames, isNew, St.free, freeH, AV.refsL, AV.refs]); intro R hR)))))
  have rr : ∀ (A B : List Ac) (d : Nat), AV.refsL d (rcS (A ++ B)) = false := fun A B d => refsL_map d _
  refine evC_upto M.length (fun i => ⟨[wlA ⟨S, L, N⟩, .ptr 1 0, .ptr 2 0, .any, .any, .any, .any, .any, .any, .any, .any, .any, .any, .any, .any, .any, .any, .any, .any, .any, vi .i64 M.length, vi .i64 (i : Int), .any, .any, .any, .any, .any, .any, .any, .any, .any, .any, .any, .any, .any, .any, .any, .any, .any, .any, .any, .any, .any, .any, .any, .any, .any, .any, .any, .any, .any, .any, .any, .any, .any, .any, .any, .any, .any, .any, .any, .any, .any, .any, .any, .any, .any, .any, .any, .any, .any, .any, .any, .any, .any, .any, .any, .any, .any, .any, .any, .any], [(1, [.row 9 57 8 M.length, .c (hdV L), .c (noV N)]), (2, [.c (.v (.slice none 0 0)), .c (.v (.slice none 0 0)), .c (.v (.slice none 0 0))]), (9, rcS ((M.take i).map cutA ++ M.drop i))]⟩) (St.le_of (by simp [leT]) (by simp [leH, hget])) ?_
  intro i hi Ψ hΨ hΨ'
  (try dsimp only at hΨ ⊢)
  have k8 : M.length < 9223372036854775808 := by omega
  rcases Nat.lt_or_ge i M.length with hlt | hge
  · obtain ⟨y, hy⟩ : ∃ x, M[i]? = some x := ⟨_, List.getElem?_eq_getElem hlt⟩
    have k1 : (decide ((i : Int) < (M.length : Int))) = true := decide_eq_true (by omega)
    have k7 : (i : Int) + 1 = ((i + 1 : Nat) : Int) := by omega
    have hA : ((M.take i).map cutA).length = i := by rw [List.length_map, List.length_take]; omega
    have d1 : M.drop i = y :: M.drop (i + 1) := by
      rw [List.drop_eq_getElem_cons hlt]
      congr 1
      exact (List.getElem?_eq_some_iff.1 hy).2
    have d2 : (M.take (i + 1)).map cutA ++ M.drop (i + 1) = (M.take i).map cutA ++ cutA y :: M.drop (i + 1) := by
      rw [List.take_add_one, hy, List.map_append]; simp
    rw [d2] at hΨ
    rw [d1]
    have yo := os' y (List.mem_of_getElem? hy)
    have y8 : y.code.length < 9223372036854775808 := Nat.lt_succ_of_le yo.2.2.2.1.1
    have z8 : y.store.length < 9223372036854775808 := Nat.lt_succ_of_le yo.2.2.2.2.1
    have b1 := cloneBv false (y.code.take 300) (by rw [List.length_take]; omega)
    have b2 := clonePv false (y.store.take 40) (by rw [List.length_take]; omega)
    have g1 : (if (300 : Int) < (y.code.length : Int) then (300 : Int) else (y.code.length : Int)) = ((min y.code.length 300 : Nat) : Int) := min_if y.code.length 300
    have g2 : (y.code.flatMap bpv).take (min y.code.length 300) = (y.code.take 300).flatMap bpv := by
      have := flat_take (f := bpv) bpv_len y.code (min y.code.length 300)
      rw [Nat.mul_one] at this
      rw [this, take_min]
    have g3 : (y.code.take 300).length = min y.code.length 300 := by rw [List.length_take, Nat.min_comm]
    have g4 : (if (40 : Int) < (y.store.length : Int) then (40 : Int) else (y.store.length : Int)) = ((min y.store.length 40 : Nat) : Int) := min_if y.store.length 40
    have g5 : (y.store.flatMap Pr.pv).take (min y.store.length 40 * 8) = (y.store.take 40).flatMap Pr.pv := by rw [flat_take pr_len, take_min]
    have g6 : (y.store.take 40).length = min y.store.length 40 := by rw [List.length_take, Nat.min_comm]
    generalize (M.take i).map cutA = A at hA hΨ ⊢
    generalize M.drop (i + 1) = B at hΨ ⊢
    obtain ⟨u1, u2⟩ := acell (B := B) (y := y) hA
    have u3 := spl_code (B := B) (y := y) hA (y.code.take 300)
    have u4 := spl_store (B := B) (y := ⟨y.a, y.b, y.n, y.code.take 300, y.store⟩) hA (y.store.take 40)
    have u5 := rcS_len (A ++ y :: B)
    have u6 := rcS_len (A ++ ⟨y.a, y.b, y.n, y.code.take 300, y.store⟩ :: B)
    have v1 : i * 8 + 8 ≤ (rcS (A ++ y :: B)).length := by rw [u5, List.length_append, List.length_cons]; omega
    have v2 : i * 8 + 8 ≤ (rcS (A ++ ⟨y.a, y.b, y.n, y.code.take 300, y.store⟩ :: B)).length := by rw [u6, List.length_append, List.length_cons]; omega
    unfold bsV at b1 u3
    unfold psV at b2 u4
    rw [g3] at b1 u3
    rw [g6] at b2 u4
    have q1 := rr A (y :: B)
    have q2 := rr A (⟨y.a, y.b, y.n, y.code.take 300, y.store⟩ :: B)
    have q3 := rr A (⟨y.a, y.b, y.n, y.code.take 300, y.store.take 40⟩ :: B)
    (have W := ndI k1 (ndI k7 (ndI g1 (ndI g2 (ndI g4 (ndI g5 (ndI u1 (ndI u2 (ndI u3 (ndI u4 (ndI q1 (ndI q2 (ndI q3 @wrI)))))))))))); (repeat (any_goals (first | ((with_reducible refine evL_one ?_ ?_); rfl; intro K hK; simp (disch := omega) only [go_sem, W, Bool.false_and, Nat.mul_one]; ((repeat (refine ndI (by first | assumption | omega | rfl) ?_)); refine hK _ ?_; clear hK K)) | ((with_reducible refine evL_one ?_ ?_); rfl; intro K hK; simp (disch := omega) only [go_sem, W, Bool.false_and, Nat.mul_one]; apply opA_cut_nil; rfl; rfl; rfl; rfl; (focus (simp (disch := omega) only [go_sem]; try rfl)); rfl; (simp (disch := omega) only [go_sem, W, Bool.false_and, Nat.mul_one]; (with_reducible refine hK _ ?_); clear hK K)) | ((with_reducible refine evL_one ?_ ?_); rfl; intro K hK; (try simp (disch := omega) only [go_sem, W, Bool.false_and, Nat.mul_one]); (repeat (refine ndI (by first | assumption | omega | rfl) ?_)); refine opA_slice_row rfl rfl rfl rfl rfl ?_ rfl rfl rfl rfl ?_ ?_ ?_; (focus (simp only [go_sem]; try rfl)); (intro h; first | rfl | cases h); (first | omega | (dsimp only; omega) | (simp (disch := omega) only [Option.isSome_some, Option.isSome_none]; omega) | (simp; omega) | (focus (simp; done))); (intro q hq1 hq2; (simp (disch := omega) only [go_sem, W, Bool.false_and, Nat.mul_one]; refine hK _ ?_; clear hK K))) | ((with_reducible refine evL_one ?_ ?_); rfl; intro K hK; (try simp (disch := omega) only [go_sem, W, Bool.false_and, Nat.mul_one]); (repeat (refine ndI (by first | assumption | omega | rfl) ?_)); refine opA_slice_cut rfl rfl rfl rfl rfl ?_ rfl rfl rfl rfl ?_ ?_ ?_; (focus (simp only [go_sem]; try rfl)); (intro h; first | rfl | cases h); (first | omega | (dsimp only; omega) | (simp (disch := omega) only [Option.isSome_some, Option.isSome_none]; omega) | (simp; omega) | (focus (simp; done))); (simp (disch := omega) only [go_sem, W, Bool.false_and, Nat.mul_one]; refine hK _ ?_; clear hK K)) | ((with_reducible refine evL_one ?_ ?_); rfl; intro K hK; (try simp (disch := omega) only [go_sem, W, Bool.false_and, Nat.mul_one]); (repeat (refine ndI (by first | assumption | omega | rfl) ?_)); refine opA_index_cut rfl rfl rfl rfl rfl ?_ ?_ ?_; (focus (simp only [go_sem]; try rfl)); (first | omega | (dsimp only; omega) | (simp (disch := omega) only [Option.isSome_some, Option.isSome_none]; omega) | (simp; omega) | (focus (simp; done))); (simp (disch := omega) only [go_sem, W, Bool.false_and, Nat.mul_one]; refine hK _ ?_; clear hK K)) | (with_reducible first | (refine evL_nil ?_; refine hR _ ?_; clear hR R) | ((first | refine evC_seq ?_ | refine evC_block ?_); intro Ψ hΨ hΨ') | (refine evC_region ?_; intro R hR) | (refine hΨ _ ?_; clear hΨ hΨ' Ψ) | refine evC_skip ?_ | refine evC_ret ?_ | refine evC_exit ?_) | ((with_reducible refine hΨ' _ _ ?_ ?_); (focus (simp; done)); clear hΨ hΨ' Ψ) | ((with_reducible apply evC_cond); rfl; rfl; all_goals (intro hc; first | (cases hc; done) | (try simp only at hc))) | ((with_reducible refine evD_nil ?_ ?_); (apply drawOK_sim); (focus (repeat (first | exact Sims.nil | ((apply Sims.cons); (focus (first | ((apply Ef.sim_row); assumption) | exact Ef.sim_refl _)))))); kernel_rfl; (with_reducible refine hR _ ?_); clear hR R) | ((first | ((with_reducible apply evD_fcall); rfl; rfl; ((first | (apply opF_callB (b1); rfl; rfl; rfl; rfl; exact Tryz.func21) | (apply opF_callB (b2); rfl; rfl; rfl; rfl; exact Tryz.func22)); kernel_rfl; rfl; (simp (disch := omega) only [go_sem, W, Bool.false_and, Nat.mul_one]; rfl); (first | rfl | simp [AV.inNL, AV.inN]))) | ((with_reducible apply evD_any); rfl; rfl; (simp (disch := omega) only [rdE, rdOf, go_sem, W, Bool.false_and, Nat.mul_one]; rfl); (intro τ hA hQ hN; ((try simp only [agree, Op.operands, Call.operands, go_sem, W, Bool.false_and, Nat.mul_one, go_sem, List.mem_cons, List.not_mem_nil, forall_eq_or_imp, forall_eq, List.append_toArray, Option.toArray] at hA); (try simp only [go_sem, W, Bool.false_and, Nat.mul_one, List.mem_cons, List.not_mem_nil, forall_eq_or_imp, forall_eq] at hQ hN); (first | (revert hA; intro hA) | have hA := trivial); (first | (revert hQ; intro hQ) | have hQ := trivial); (first | (revert hN; intro hN) | have hN := trivial); simp (disch := omega) only [go_sem, W, Bool.false_and, Nat.mul_one, go_sem, hA, hQ, hN]; (repeat (refine ndI (by first | assumption | omega | rfl) ?_)); (first | apply eff_rd | apply eff_st | apply eff_nw)))) | ((first | ((with_reducible apply evD_one); rfl) | ((with_reducible apply evD_grd); rfl; rfl; rfl; rfl)); apply opF_slice_cut; rfl; rfl; rfl; rfl; rfl; (focus (simp only [go_sem]; try rfl)); rfl; rfl; rfl; rfl; (intro h; first | rfl | cases h); (first | omega | (dsimp only; omega) | (simp (disch := omega) only [Option.isSome_some, Option.isSome_none]; omega) | (simp; omega) | (focus (simp; done))))); (simp (disch := omega) only [St.eff, setO, hputs, go_sem, W, Bool.false_and, Nat.mul_one])) | ((with_reducible refine evC_draw ?_ ?_ ?_ ?_); kernel_rfl; kernel_rfl; (simp [newNames, isNew, St.free, freeH, AV.refsL, AV.refs, q1]); intro R hR)))))
    all_goals exact hΨ _ hlt (St.le_of (by simp [leT]) (by simp [leH, hget, cutA]))
  · have k1 : (decide ((i : Int) < (M.length : Int))) = false := decide_eq_false (by omega)
    rw [List.take_of_length_le hge, List.drop_eq_nil_of_le hge, List.append_nil]
    have f5 : ∀ d, AV.refsL d (rcS (M.map cutA)) = false := fun d => refsL_map d _
    (have W := ndI k1 (ndI e4 (ndI e5 (ndI e7 (ndI e8 f5)))); (repeat (any_goals (first | ((with_reducible refine evL_call ?_ ?_ ?_); rfl; rfl; intro K hK; ((first | (apply opA_callB (c4); rfl; rfl; rfl; rfl; exact Tryz.func23) | (apply opA_callB (c5); rfl; rfl; rfl; rfl; exact Tryz.func24)); kernel_rfl; rfl; (simp (disch := omega) only [go_sem, W, Bool.false_and]; rfl); (first | rfl | simp [AV.inNL, AV.inN])); (simp (disch := omega) only [go_sem, W, Bool.false_and]; refine hK _ ?_; clear hK K)) | ((with_reducible refine evL_one ?_ ?_); rfl; intro K hK; simp (disch := omega) only [go_sem, W, Bool.false_and]; ((repeat (refine ndI (by first | assumption | omega | rfl) ?_)); refine hK _ ?_; clear hK K)) | ((with_reducible refine evL_one ?_ ?_); rfl; intro K hK; simp (disch := omega) only [go_sem, W, Bool.false_and]; apply opA_cut_nil; rfl; rfl; rfl; rfl; (focus (simp (disch := omega) only [go_sem]; try rfl)); rfl; (simp (disch := omega) only [go_sem, W, Bool.false_and]; (with_reducible refine hK _ ?_); clear hK K)) | ((with_reducible refine evL_one ?_ ?_); rfl; intro K hK; (try simp (disch := omega) only [go_sem, W, Bool.false_and]); (repeat (refine ndI (by first | assumption | omega | rfl) ?_)); refine opA_slice_row rfl rfl rfl rfl rfl ?_ rfl rfl rfl rfl ?_ ?_ ?_; (focus (simp only [go_sem]; try rfl)); (intro h; first | rfl | cases h); (first | omega | (dsimp only; omega) | (simp (disch := omega) only [Option.isSome_some, Option.isSome_none]; omega) | (simp; omega) | (focus (simp; done))); (intro q hq1 hq2; (simp (disch := omega) only [go_sem, W, Bool.false_and]; refine hK _ ?_; clear hK K))) | ((with_reducible refine evL_one ?_ ?_); rfl; intro K hK; (try simp (disch := omega) only [go_sem, W, Bool.false_and]); (repeat (refine ndI (by first | assumption | omega | rfl) ?_)); refine opA_slice_cut rfl rfl rfl rfl rfl ?_ rfl rfl rfl rfl ?_ ?_ ?_; (focus (simp only [go_sem]; try rfl)); (intro h; first | rfl | cases h); (first | omega | (dsimp only; omega) | (simp (disch := omega) only [Option.isSome_some, Option.isSome_none]; omega) | (simp; omega) | (focus (simp; done))); (simp (disch := omega) only [go_sem, W, Bool.false_and]; refine hK _ ?_; clear hK K)) | ((with_reducible refine evL_one ?_ ?_); rfl; intro K hK; (try simp (disch := omega) only [go_sem, W, Bool.false_and]); (repeat (refine ndI (by first | assumption | omega | rfl) ?_)); refine opA_index_cut rfl rfl rfl rfl rfl ?_ ?_ ?_; (focus (simp only [go_sem]; try rfl)); (first | omega | (dsimp only; omega) | (simp (disch := omega) only [Option.isSome_some, Option.isSome_none]; omega) | (simp; omega) | (focus (simp; done))); (simp (disch := omega) only [go_sem, W, Bool.false_and]; refine hK _ ?_; clear hK K)) | (with_reducible first | (refine evL_nil ?_; refine hR _ ?_; clear hR R) | ((first | refine evC_seq ?_ | refine evC_block ?_); intro Ψ hΨ hΨ') | (refine evC_region ?_; intro R hR) | (refine hΨ _ ?_; clear hΨ hΨ' Ψ) | refine evC_skip ?_ | refine evC_ret ?_ | refine evC_exit ?_) | ((with_reducible refine hΨ' _ _ ?_ ?_); (focus (simp; done)); clear hΨ hΨ' Ψ) | ((with_reducible apply evC_cond); rfl; rfl; all_goals (intro hc; first | (cases hc; done) | (try simp only at hc))) | ((with_reducible refine evD_nil ?_ ?_); kernel_rfl; (with_reducible refine hR _ ?_); clear hR R) | ((first | ((with_reducible apply evD_any); rfl; rfl; (simp (disch := omega) only [rdE, rdOf, go_sem, W, Bool.false_and]; rfl); (intro τ hA hQ hN; ((try simp only [agree, Op.operands, Call.operands, go_sem, W, Bool.false_and, go_sem, List.mem_cons, List.not_mem_nil, forall_eq_or_imp, forall_eq, List.append_toArray, Option.toArray] at hA); (try simp only [go_sem, W, Bool.false_and, List.mem_cons, List.not_mem_nil, forall_eq_or_imp, forall_eq] at hQ hN); (first | (revert hA; intro hA) | have hA := trivial); (first | (revert hQ; intro hQ) | have hQ := trivial); (first | (revert hN; intro hN) | have hN := trivial); simp (disch := omega) only [go_sem, W, Bool.false_and, go_sem, hA, hQ, hN]; (repeat (refine ndI (by first | assumption | omega | rfl) ?_)); (first | apply eff_rd | apply eff_st | apply eff_nw)))) | ((first | ((with_reducible apply evD_one); rfl) | ((with_reducible apply evD_grd); rfl; rfl; rfl; rfl)); apply opF_slice_cut; rfl; rfl; rfl; rfl; rfl; (focus (simp only [go_sem]; try rfl)); rfl; rfl; rfl; rfl; (intro h; first | rfl | cases h); (first | omega | (dsimp only; omega) | (simp (disch := omega) only [Option.isSome_some, Option.isSome_none]; omega) | (simp; omega) | (focus (simp; done))))); (simp (disch := omega) only [St.eff, setO, hputs, go_sem, W, Bool.false_and])) | ((with_reducible refine evC_draw ?_ ?_ ?_ ?_); kernel_rfl; kernel_rfl; (first | kernel_rfl | simp [newNames, isNew, St.free, freeH, AV.refsL, AV.refs]); intro R hR)))))
    all_goals (refine ⟨by simp, ⟨_, ?_, AV.le_refl _⟩, leH_get (by simp [leH, hget])⟩; simp only [Tryz.results5, resL, ldA, oneOf, go_sem])
theorem world_fn (w : Wl) (hw : w.raw) : Fn Tryz.prog 5 [wlA w] [] (wlA (cutW w)) [] := by
  have k := (world_row w hw).frzN (d := 9) (pcs := (cutW w).S.flatMap Ac.pv) rfl
  have e1 : ((cutW w).S.flatMap Ac.pv).length = (cutW w).S.length * 8 := flat_length ac_len _
  simpa [-List.length_flatMap, e1, AV.frz, AV.frzL, frzH, acV, vi] using k
end Go.Proofs.YtgdnmdnhkhpieaaGreat
