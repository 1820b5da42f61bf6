/-
  Accounts, states: are two one; reckoned.
-/
import Derived.Test.YtcbaaibkkfnfmaaTc
import Derived.Test.YtcbaaibkkfnfmaaAvBs
namespace Go.Proofs.Ytcbaaibkkfnfmaa
open Go.RowKit
open Nat (reduceBEq)
set_option linter.unusedVariables false
set_option linter.unusedSimpArgs false
set_option maxRecDepth 20000
set_option maxHeartbeats 2000000
theorem ac_ext {x y : Ac} (h : x.a = y.a ∧ x.b = y.b ∧ x.n = y.n ∧ x.code = y.code ∧ x.store = y.store) : x = y := by
  obtain ⟨a, b, n, c, s⟩ := x
  obtain ⟨a', b', n', c', s'⟩ := y
  obtain ⟨h1, h2, h3, h4, h5⟩ := h
  dsimp only at h1 h2 h3 h4 h5
  subst h1 h2 h3 h4 h5
  rfl
instance decAc : DecidableEq Ac := fun x y => decidable_of_iff (x.a = y.a ∧ x.b = y.b ∧ x.n = y.n ∧ x.code = y.code ∧ x.store = y.store) ⟨ac_ext, fun h => by rw [h]; exact ⟨rfl, rfl, rfl, rfl, rfl⟩⟩
theorem same1_fn (x y : Ac) (hx : x.ok) (hy : y.ok) : Fn Try.prog 32 [acA x, acA y] [] (vb (decide (x = y))) [] := by
  have f2 := wN_eq hx.2.1 hy.2.1
  have f4 := bequal_fn false false x.code y.code hx.2.2.2.1.2 hy.2.2.2.1.2
  have f5 := eqP_fn false false x.store y.store hx.2.2.2.2.1 hy.2.2.2.2.1 hx.2.2.2.2.2 hy.2.2.2.2.2
  have e : decide (x = y) = ((x.a == y.a) && (decide (x.b = y.b) && ((x.n == y.n) && (decide (x.code = y.code) && decide (x.store = y.store))))) := by
    rw [Bool.eq_iff_iff]
    simp only [decide_eq_true_eq, Bool.and_eq_true, beq_iff_eq]
    exact ⟨fun h => by rw [h]; exact ⟨rfl, rfl, rfl, rfl, rfl⟩, ac_ext⟩
  rw [e]
  clear e
  generalize decide (x.b = y.b) = q2 at f2 ⊢
  generalize decide (x.code = y.code) = q4 at f4 ⊢
  generalize decide (x.store = y.store) = q5 at f5 ⊢
  obtain ⟨q1, f1⟩ : ∃ q, (x.a == y.a) = q := ⟨_, rfl⟩
  obtain ⟨q3, f3⟩ : ∃ q, (x.n == y.n) = q := ⟨_, rfl⟩
  rw [f1, f3]
  cases q1 <;> cases q2 <;> cases q3 <;> cases q4 <;> cases q5
  all_goals (refine fn_of Try.func32 rfl (by rfl) ?_; simp only [Try.ntmps32, List.length_cons, List.length_nil, Nat.reduceAdd, Nat.reduceSub, List.replicate, List.cons_append, List.nil_append])
  all_goals (repeat (any_goals (first | ((with_reducible refine evL_call ?_ ?_ ?_); rfl; rfl; intro K hK; ((first | (apply opA_callB (f4); rfl; rfl; rfl; rfl; exact Try.func33) | (apply opA_callB (f5); rfl; rfl; rfl; rfl; exact Try.func34)); kernel_rfl; rfl; (simp only [go_sem, f1, f2, f3]; rfl); (simp only [AV.inNL, AV.inN, inNL_map, Bool.and_true])); (simp only [go_sem, f1, f2, f3, go_sem]; (with_reducible refine hK _ ?_); clear hK K)) | ((with_reducible refine evL_one ?_ ?_); rfl; intro K hK; simp only [go_sem, f1, f2, f3, go_sem]; ((repeat (refine And.intro (by first | assumption | omega | rfl) ?_)); (with_reducible refine hK _ ?_); clear hK K)) | ((with_reducible refine evL_nil ?_); (with_reducible refine hR _ ?_); clear hR R) | ((with_reducible first | refine evC_seq ?_ | refine evC_block ?_); intro Ψ hΨ hΨ') | ((with_reducible refine evC_region ?_); intro R hR) | ((with_reducible refine hΨ _ ?_); clear hΨ hΨ' Ψ) | ((with_reducible refine hΨ' _ _ ?_ ?_); (focus (first | ((intro hx; cases hx); done) | ((intro j hj; cases hj); done) | (intro j hj; cases hj; (decide); done))); clear hΨ hΨ' Ψ) | (with_reducible first | refine evC_skip ?_ | refine evC_ret ?_ | refine evC_exit ?_) | ((with_reducible apply evL_unmet); rfl; rfl; rfl; (try simp only [go_sem, f1, f2, f3, go_sem])) | ((with_reducible apply evL_grd); rfl; rfl; rfl; all_goals (intro hb; first | (exact absurd hb (by decide)) | ((try simp only [Bool.not_true, Bool.not_false] at hb); (first | ((with_reducible intro K hK); (first | ((first | (apply opA_callB (f4); rfl; rfl; rfl; rfl; exact Try.func33) | (apply opA_callB (f5); rfl; rfl; rfl; rfl; exact Try.func34)); kernel_rfl; rfl; (simp only [go_sem, f1, f2, f3]; rfl); (simp only [AV.inNL, AV.inN, inNL_map, Bool.and_true])) | skip); simp only [go_sem, f1, f2, f3, go_sem]; ((repeat (refine And.intro (by first | assumption | omega | rfl) ?_)); (with_reducible refine hK _ ?_); clear hK K)) | ((fail_if_success (with_reducible intro _)); simp only [go_sem, f1, f2, f3, go_sem]))))) | ((with_reducible apply evC_cond); rfl; rfl; all_goals (intro hc; first | (exact absurd hc (by decide)) | (try simp only at hc))))))
  all_goals (refine ⟨by simp, ⟨_, ?_, AV.le_refl _⟩, leH_get (by simp [leH, hget])⟩; simp only [Try.results32, resL, ldA, oneOf, go_sem])
  all_goals rfl
theorem eqF_fn (e1 e2 : Bool) (l m : List Ac) (hl : l.length ≤ maxLen) (hm : m.length ≤ maxLen) (ol : ∀ p ∈ l, p.ok) (om : ∀ p ∈ m, p.ok) : Fn Try.prog 31 [.c (.sl e1 8 l.length (l.flatMap Ac.pv)), .c (.sl e2 8 m.length (m.flatMap Ac.pv)), .fn 32 []] [] (vb (decide (l = m))) [] := by
  by_cases hlen : l.length = m.length
  · have k0 : ((l.length : Int) != (m.length : Int)) = false := by rw [hlen]; simp
    have k8 : l.length < 9223372036854775808 := Nat.lt_succ_of_le hl
    obtain ⟨r, hr⟩ : ∃ r, decide (l = m) = r := ⟨_, rfl⟩
    rw [hr]
    (refine fn_of Try.func31 rfl (by rfl) ?_; simp only [Try.ntmps31, List.length_cons, List.length_nil, Nat.reduceAdd, Nat.reduceSub, List.replicate, List.cons_append, List.nil_append])
    (repeat (any_goals (first | ((with_reducible refine evL_one ?_ ?_); rfl; intro K hK; simp only [go_sem, k0, go_sem]; ((repeat (refine And.intro (by first | assumption | omega | rfl) ?_)); (with_reducible refine hK _ ?_); clear hK K)) | ((with_reducible refine evL_nil ?_); (with_reducible refine hR _ ?_); clear hR R) | ((with_reducible first | refine evC_seq ?_ | refine evC_block ?_); intro Ψ hΨ hΨ') | ((with_reducible refine evC_region ?_); intro R hR) | ((with_reducible refine hΨ _ ?_); clear hΨ hΨ' Ψ) | ((with_reducible refine hΨ' _ _ ?_ ?_); (focus (first | ((intro hx; cases hx); done) | ((intro j hj; cases hj); done) | (intro j hj; cases hj; (decide); done))); clear hΨ hΨ' Ψ) | (with_reducible first | refine evC_skip ?_ | refine evC_ret ?_ | refine evC_exit ?_) | ((with_reducible apply evC_cond); rfl; rfl; all_goals (intro hc; first | (exact absurd hc (by decide)) | (try simp only at hc))))))
    refine evC_loop (α := { i : Nat // i ≤ l.length ∧ ∀ j, j < i → l[j]? = m[j]? }) (fun p => ⟨[.c (.sl e1 8 l.length (l.flatMap Ac.pv)), .c (.sl e2 8 m.length (m.flatMap Ac.pv)), .fn 32 [], .any, .any, .any, .any, .any, .any, .any, .any, .any, .any, .any, .any, .c (.sl e1 8 l.length (l.flatMap Ac.pv)), vi .i64 l.length, vi .i64 p.1, .any, .any, .any, .any, .any, .any, .any, .any, .any, .any, .any, .any, .any, .any], []⟩) (fun p => l.length - p.1) ⟨0, Nat.zero_le _, fun j hj => by omega⟩ (St.le_of (by simp [leT]) (by simp [leH])) ?_
    rintro ⟨i, hi, hno⟩ Ψ hΨ hΨ'
    dsimp only at hi hΨ ⊢
    rcases Nat.lt_or_ge i l.length with hlt | hge
    · have k1 : (decide ((i : Int) < (l.length : Int))) = true := decide_eq_true (by omega)
      have k7 : (i : Int) + 1 = ((i + 1 : Nat) : Int) := by omega
      obtain ⟨x, hx⟩ : ∃ x, l[i]? = some x := ⟨_, List.getElem?_eq_getElem hlt⟩
      obtain ⟨y, hy⟩ : ∃ y, m[i]? = some y := ⟨_, List.getElem?_eq_getElem (by omega)⟩
      have hlm : i < m.length := by omega
      have k2 := ac_at hx
      have k3 := ac_at hy
      have k4 := same1_fn x y (ol x (List.mem_of_getElem? hx)) (om y (List.mem_of_getElem? hy))
      by_cases hxy : x = y
      · rw [decide_eq_true hxy] at k4
        (repeat (any_goals (first | ((with_reducible refine evL_call ?_ ?_ ?_); rfl; rfl; intro K hK; ((apply opA_callB (k4); rfl; rfl; rfl; rfl; exact Try.func32); kernel_rfl; rfl; (simp (disch := omega) only [go_sem, k1, k2, k3, k7, wrI]; rfl); (simp (disch := omega) only [AV.inNL, AV.inN, inNL_map, Bool.and_true])); (simp (disch := omega) only [go_sem, k1, k2, k3, k7, wrI, go_sem]; (with_reducible refine hK _ ?_); clear hK K)) | ((with_reducible refine evL_one ?_ ?_); rfl; intro K hK; simp (disch := omega) only [go_sem, k1, k2, k3, k7, wrI, go_sem]; ((repeat (refine And.intro (by first | assumption | omega | rfl) ?_)); (with_reducible refine hK _ ?_); clear hK K)) | ((with_reducible refine evL_nil ?_); (with_reducible refine hR _ ?_); clear hR R) | ((with_reducible first | refine evC_seq ?_ | refine evC_block ?_); intro Ψ hΨ hΨ') | ((with_reducible refine evC_region ?_); intro R hR) | ((with_reducible refine hΨ _ ?_); clear hΨ hΨ' Ψ) | ((with_reducible refine hΨ' _ _ ?_ ?_); (focus (first | ((intro hx; cases hx); done) | ((intro j hj; cases hj); done) | (intro j hj; cases hj; (decide); done))); clear hΨ hΨ' Ψ) | (with_reducible first | refine evC_skip ?_ | refine evC_ret ?_ | refine evC_exit ?_) | ((with_reducible apply evC_cond); rfl; rfl; all_goals (intro hc; first | (exact absurd hc (by decide)) | (try simp only at hc))))))
        all_goals exact hΨ _ ⟨i + 1, hlt, fun j hj => by
          rcases Nat.lt_or_ge j i with h' | h'
          · exact hno j h'
          · obtain rfl : j = i := by omega
            rw [hx, hy, hxy]⟩ (by simp only; omega) (St.le_of (by simp [leT]) (by simp [leH]))
      · rw [decide_eq_false hxy] at k4
        have hrf : r = false := by
          rw [← hr, decide_eq_false_iff_not]
          intro e; rw [e, hy] at hx; cases hx; exact hxy rfl
        (repeat (any_goals (first | ((with_reducible refine evL_call ?_ ?_ ?_); rfl; rfl; intro K hK; ((apply opA_callB (k4); rfl; rfl; rfl; rfl; exact Try.func32); kernel_rfl; rfl; (simp (disch := omega) only [go_sem, k1, k2, k3, k7, wrI]; rfl); (simp (disch := omega) only [AV.inNL, AV.inN, inNL_map, Bool.and_true])); (simp (disch := omega) only [go_sem, k1, k2, k3, k7, wrI, go_sem]; (with_reducible refine hK _ ?_); clear hK K)) | ((with_reducible refine evL_one ?_ ?_); rfl; intro K hK; simp (disch := omega) only [go_sem, k1, k2, k3, k7, wrI, go_sem]; ((repeat (refine And.intro (by first | assumption | omega | rfl) ?_)); (with_reducible refine hK _ ?_); clear hK K)) | ((with_reducible refine evL_nil ?_); (with_reducible refine hR _ ?_); clear hR R) | ((with_reducible first | refine evC_seq ?_ | refine evC_block ?_); intro Ψ hΨ hΨ') | ((with_reducible refine evC_region ?_); intro R hR) | ((with_reducible refine hΨ _ ?_); clear hΨ hΨ' Ψ) | ((with_reducible refine hΨ' _ _ ?_ ?_); (focus (first | ((intro hx; cases hx); done) | ((intro j hj; cases hj); done) | (intro j hj; cases hj; (decide); done))); clear hΨ hΨ' Ψ) | (with_reducible first | refine evC_skip ?_ | refine evC_ret ?_ | refine evC_exit ?_) | ((with_reducible apply evC_cond); rfl; rfl; all_goals (intro hc; first | (exact absurd hc (by decide)) | (try simp only at hc))))))
        all_goals rw [hrf]
        all_goals (refine ⟨by simp, ⟨_, ?_, AV.le_refl _⟩, leH_get (by simp [leH, hget])⟩; simp only [Try.results31, resL, ldA, oneOf, go_sem])
    · have k1 : (decide ((i : Int) < (l.length : Int))) = false := decide_eq_false (by omega)
      have hrt : r = true := by
        rw [← hr, decide_eq_true_iff]
        refine List.ext_getElem? fun j => ?_
        rcases Nat.lt_or_ge j l.length with h | h
        · exact hno j (by omega)
        · rw [List.getElem?_eq_none h, List.getElem?_eq_none (by omega)]
      (repeat (any_goals (first | ((with_reducible refine evL_one ?_ ?_); rfl; intro K hK; simp only [go_sem, k1, go_sem]; ((repeat (refine And.intro (by first | assumption | omega | rfl) ?_)); (with_reducible refine hK _ ?_); clear hK K)) | ((with_reducible refine evL_nil ?_); (with_reducible refine hR _ ?_); clear hR R) | ((with_reducible first | refine evC_seq ?_ | refine evC_block ?_); intro Ψ hΨ hΨ') | ((with_reducible refine evC_region ?_); intro R hR) | ((with_reducible refine hΨ _ ?_); clear hΨ hΨ' Ψ) | ((with_reducible refine hΨ' _ _ ?_ ?_); (focus (first | ((intro hx; cases hx); done) | ((intro j hj; cases hj); done) | (intro j hj; cases hj; (decide); done))); clear hΨ hΨ' Ψ) | (with_reducible first | refine evC_skip ?_ | refine evC_ret ?_ | refine evC_exit ?_) | ((with_reducible apply evC_cond); rfl; rfl; all_goals (intro hc; first | (exact absurd hc (by decide)) | (try simp only at hc))))))
      all_goals rw [hrt]
      all_goals (refine ⟨by simp, ⟨_, ?_, AV.le_refl _⟩, leH_get (by simp [leH, hget])⟩; simp only [Try.results31, resL, ldA, oneOf, go_sem])
  · have k0 : ((l.length : Int) != (m.length : Int)) = true := by simp; omega
    have he : decide (l = m) = false := by rw [decide_eq_false_iff_not]; intro e; exact hlen (by rw [e])
    rw [he]
    (refine fn_of Try.func31 rfl (by rfl) ?_; simp only [Try.ntmps31, List.length_cons, List.length_nil, Nat.reduceAdd, Nat.reduceSub, List.replicate, List.cons_append, List.nil_append])
    (repeat (any_goals (first | ((with_reducible refine evL_one ?_ ?_); rfl; intro K hK; simp only [go_sem, k0, go_sem]; ((repeat (refine And.intro (by first | assumption | omega | rfl) ?_)); (with_reducible refine hK _ ?_); clear hK K)) | ((with_reducible refine evL_nil ?_); (with_reducible refine hR _ ?_); clear hR R) | ((with_reducible first | refine evC_seq ?_ | refine evC_block ?_); intro Ψ hΨ hΨ') | ((with_reducible refine evC_region ?_); intro R hR) | ((with_reducible refine hΨ _ ?_); clear hΨ hΨ' Ψ) | ((with_reducible refine hΨ' _ _ ?_ ?_); (focus (first | ((intro hx; cases hx); done) | ((intro j hj; cases hj); done) | (intro j hj; cases hj; (decide); done))); clear hΨ hΨ' Ψ) | (with_reducible first | refine evC_skip ?_ | refine evC_ret ?_ | refine evC_exit ?_) | ((with_reducible apply evC_cond); rfl; rfl; all_goals (intro hc; first | (exact absurd hc (by decide)) | (try simp only at hc))))))
    all_goals (refine ⟨by simp, ⟨_, ?_, AV.le_refl _⟩, leH_get (by simp [leH, hget])⟩; simp only [Try.results31, resL, ldA, oneOf, go_sem])
theorem sameS_fn (e1 e2 : Bool) (L M : List Ac) (hl : L.length ≤ maxLen) (hm : M.length ≤ maxLen) (ol : ∀ x ∈ L, x.ok) (om : ∀ x ∈ M, x.ok) : Fn Try.prog 8 [stA e1 L, stA e2 M] [] (vb (decide (L = M))) [] := by
  have eq := eqF_fn e1 e2 L M hl hm ol om
  generalize decide (L = M) = q at eq ⊢
  (refine fn_of Try.func8 rfl (by rfl) ?_; simp only [Try.ntmps8, List.length_cons, List.length_nil, Nat.reduceAdd, Nat.reduceSub, List.replicate, List.cons_append, List.nil_append])
  (repeat (any_goals (first | ((with_reducible refine evL_call ?_ ?_ ?_); rfl; rfl; intro K hK; ((apply opA_callB (eq); rfl; rfl; rfl; rfl; exact Try.func31); kernel_rfl; rfl; (simp only [go_sem]; rfl); (simp only [AV.inNL, AV.inN, inNL_map, Bool.and_true])); (simp only [go_sem]; (with_reducible refine hK _ ?_); clear hK K)) | ((with_reducible refine evL_one ?_ ?_); rfl; intro K hK; simp only [go_sem]; ((repeat (refine And.intro (by first | assumption | omega | rfl) ?_)); (with_reducible refine hK _ ?_); clear hK K)) | ((with_reducible refine evL_nil ?_); (with_reducible refine hR _ ?_); clear hR R) | ((with_reducible first | refine evC_seq ?_ | refine evC_block ?_); intro Ψ hΨ hΨ') | ((with_reducible refine evC_region ?_); intro R hR) | ((with_reducible refine hΨ _ ?_); clear hΨ hΨ' Ψ) | ((with_reducible refine hΨ' _ _ ?_ ?_); (focus (first | ((intro hx; cases hx); done) | ((intro j hj; cases hj); done) | (intro j hj; cases hj; (decide); done))); clear hΨ hΨ' Ψ) | (with_reducible first | refine evC_skip ?_ | refine evC_ret ?_ | refine evC_exit ?_) | ((with_reducible apply evC_cond); rfl; rfl; all_goals (intro hc; first | (exact absurd hc (by decide)) | (try simp only at hc))))))
  all_goals (refine ⟨by simp, ⟨_, ?_, AV.le_refl _⟩, leH_get (by simp [leH, hget])⟩; simp only [Try.results8, resL, ldA, oneOf, go_sem])
def RisesS (L : List Ac) : Prop := L.Pairwise fun x y => x.a < y.a
theorem okS_every {q : Bool} {L : List Ac} : ∀ {i : Nat}, okS q L i = true → ∀ j, j < i → okS1 L j = true
  | 0, _, j, hj => by omega
  | i + 1, h, j, hj => by
    unfold okS at h
    rw [Bool.and_eq_true] at h
    by_cases e : j = i
    · rw [e]; exact h.2
    · exact okS_every h.1 j (by omega)
theorem okSt_full {L : List Ac} (h : okSt L = true) {y : Ac} (hy : y ∈ L) : emptyA y = false := by
  obtain ⟨j, hj⟩ := List.mem_iff_getElem?.1 hy
  have := okS_every h j (List.getElem?_eq_some_iff.1 hj).1
  unfold okS1 at this
  rw [hj] at this
  simp only [Bool.and_eq_true, Bool.not_eq_true'] at this
  exact this.1.2
theorem okSt_rises {L : List Ac} (h : okSt L = true) : RisesS L := by
  have step : ∀ j (hj : j + 1 < L.length), L[j].a < L[j + 1].a := fun j hj => by
    have := okS_every h (j + 1) hj
    rw [okS1_succ (List.getElem?_eq_getElem (by omega)) (List.getElem?_eq_getElem hj)] at this
    simp only [Bool.and_eq_true, decide_eq_true_eq] at this
    exact this.2
  have key : ∀ d i (hi : i + d + 1 < L.length), L[i].a < L[i + d + 1].a := fun d => by
    induction d with
    | zero => exact fun i hi => step i hi
    | succ d ih => exact fun i hi => Int.lt_trans (ih i (by omega)) (step (i + d + 1) hi)
  unfold RisesS
  rw [List.pairwise_iff_getElem]
  intro i j hi hj hij
  have := key (j - i - 1) i (by omega)
  simpa [show i + (j - i - 1) + 1 = j by omega] using this
theorem ltA_eq {L : List Ac} {a : Int} {i : Nat} (hi : i < L.length) : ltA L a i = decide (L[i].a < a) := by
  unfold ltA
  rw [List.getElem?_eq_getElem hi]
  refine decide_eq_decide.2 ?_
  unfold cmpI
  by_cases h : L[i].a < a
  · rw [if_pos h]; exact ⟨fun _ => h, fun _ => by decide⟩
  · rw [if_neg h]
    constructor
    · intro h2; split at h2 <;> omega
    · exact fun h2 => absurd h2 h
end Go.Proofs.Ytcbaaibkkfnfmaa

