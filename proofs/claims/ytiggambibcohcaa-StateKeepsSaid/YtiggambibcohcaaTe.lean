/-
  Accounts, states: are two one; reckoned.
-/
import Derived.Test.YtiggambibcohcaaTc
import Derived.Test.YtiggambibcohcaaAvBs
namespace Go.Proofs.Ytiggambibcohcaa
open Go.RowKit
open Nat (reduceBEq)
set_option linter.unusedVariables false
set_option linter.unusedSimpArgs false
set_option maxRecDepth 20000
set_option maxHeartbeats 2000000
theorem ac_ext {x y : Ac} (h : x.a = y.a ∧ x.b = y.b ∧ x.n = y.n ∧ x.code = y.code ∧ x.store = y.store) : x = y := by
  obtain ⟨a, b, n, c, s⟩ := x
  obtain ⟨a', b', n', c', s'⟩ := y
  obtain ⟨h1, h2, h3, h4, h5⟩ := h
  dsimp only at h1 h2 h3 h4 h5
  subst h1 h2 h3 h4 h5
  rfl
instance decAc : DecidableEq Ac := fun x y => decidable_of_iff (x.a = y.a ∧ x.b = y.b ∧ x.n = y.n ∧ x.code = y.code ∧ x.store = y.store) ⟨ac_ext, fun h => by rw [h]; exact ⟨rfl, rfl, rfl, rfl, rfl⟩⟩
theorem sameL_fn (x y : Ac) (hx : x.ok) (hy : y.ok) : Fn Try.prog 18 [acA x, acA y] [] (vb (decide (x = y))) [] := by
  have f2 := wN_eq hx.2.1 hy.2.1
  have f4 := bequal_fn false false x.code y.code hx.2.2.2.1.2 hy.2.2.2.1.2
  have f5 := eqP_fn false false x.store y.store hx.2.2.2.2.1 hy.2.2.2.2.1 hx.2.2.2.2.2 hy.2.2.2.2.2
  have e : decide (x = y) = ((x.a == y.a) && (decide (x.b = y.b) && ((x.n == y.n) && (decide (x.code = y.code) && decide (x.store = y.store))))) := by
    rw [Bool.eq_iff_iff]
    simp only [decide_eq_true_eq, Bool.and_eq_true, beq_iff_eq]
    exact ⟨fun h => by rw [h]; exact ⟨rfl, rfl, rfl, rfl, rfl⟩, ac_ext⟩
  rw [e]
  clear e
  generalize decide (x.b = y.b) = q2 at f2 ⊢
  generalize decide (x.code = y.code) = q4 at f4 ⊢
  generalize decide (x.store = y.store) = q5 at f5 ⊢
  obtain ⟨q1, f1⟩ : ∃ q, (x.a == y.a) = q := ⟨_, rfl⟩
  obtain ⟨q3, f3⟩ : ∃ q, (x.n == y.n) = q := ⟨_, rfl⟩
  rw [f1, f3]
  cases q1 <;> cases q2 <;> cases q3 <;> cases q4 <;> cases q5
  all_goals (refine fn_of Try.func18 rfl (by rfl) ?_; simp only [Try.ntmps18, List.length_cons, List.length_nil, Nat.reduceAdd, Nat.reduceSub, List.replicate, List.cons_append, List.nil_append])
  all_goals (have W := ndI f1 (ndI f2 f3); (repeat (any_goals (first | ((with_reducible refine evL_one ?_ ?_); rfl; intro K hK; simp only [go_sem, W]; ((repeat (refine ndI (by first | assumption | omega | rfl) ?_)); refine hK _ ?_; clear hK K)) | (with_reducible first | (refine evL_nil ?_; refine hR _ ?_; clear hR R) | ((first | refine evC_seq ?_ | refine evC_block ?_); intro Ψ hΨ hΨ') | (refine evC_region ?_; intro R hR) | (refine hΨ _ ?_; clear hΨ hΨ' Ψ) | refine evC_skip ?_ | refine evC_ret ?_ | refine evC_exit ?_) | ((with_reducible refine hΨ' _ _ ?_ ?_); (focus (simp; done)); clear hΨ hΨ' Ψ) | ((with_reducible apply evL_unmet); rfl; rfl; rfl; (try simp only [go_sem, W])) | ((with_reducible apply evL_grd); rfl; rfl; rfl; all_goals (intro hb; first | (cases hb; done) | ((try simp only [Bool.not_true, Bool.not_false] at hb); (first | ((with_reducible intro K hK); (first | ((first | (apply opA_callB (f4); rfl; rfl; rfl; rfl; exact Try.func34) | (apply opA_callB (f5); rfl; rfl; rfl; rfl; exact Try.func35)); kernel_rfl; rfl; (simp only [go_sem, W]; rfl); (first | rfl | simp [AV.inNL, AV.inN])) | skip); simp only [go_sem, W]; ((repeat (refine ndI (by first | assumption | omega | rfl) ?_)); refine hK _ ?_; clear hK K)) | ((fail_if_success (with_reducible intro _)); simp only [go_sem, W]))))) | ((with_reducible apply evC_cond); rfl; rfl; all_goals (intro hc; first | (cases hc; done) | (try simp only at hc)))))))
  all_goals (refine ⟨by simp, ⟨_, ?_, AV.le_refl _⟩, leH_get (by simp [leH, hget])⟩; simp only [Try.results18, resL, ldA, oneOf, go_sem])
  all_goals rfl
def RisesS (L : List Ac) : Prop := L.Pairwise fun x y => x.a < y.a
theorem okS_every {q : Bool} {L : List Ac} : ∀ {i : Nat}, okS q L i = true → ∀ j, j < i → okS1 L j = true
  | 0, _, j, hj => by omega
  | i + 1, h, j, hj => by
    unfold okS at h
    rw [Bool.and_eq_true] at h
    by_cases e : j = i
    · rw [e]; exact h.2
    · exact okS_every h.1 j (by omega)
theorem okSt_full {L : List Ac} (h : okSt L = true) {y : Ac} (hy : y ∈ L) : emptyA y = false := by
  obtain ⟨j, hj⟩ := List.mem_iff_getElem?.1 hy
  have := okS_every h j (List.getElem?_eq_some_iff.1 hj).1
  unfold okS1 at this
  rw [hj] at this
  simp only [Bool.and_eq_true, Bool.not_eq_true'] at this
  exact this.1.2
theorem okSt_rises {L : List Ac} (h : okSt L = true) : RisesS L := by
  have step : ∀ j (hj : j + 1 < L.length), L[j].a < L[j + 1].a := fun j hj => by
    have := okS_every h (j + 1) hj
    rw [okS1_succ (List.getElem?_eq_getElem (by omega)) (List.getElem?_eq_getElem hj)] at this
    simp only [Bool.and_eq_true, decide_eq_true_eq] at this
    exact this.2
  have key : ∀ d i (hi : i + d + 1 < L.length), L[i].a < L[i + d + 1].a := fun d => by
    induction d with
    | zero => exact fun i hi => step i hi
    | succ d ih => exact fun i hi => Int.lt_trans (ih i (by omega)) (step (i + d + 1) hi)
  unfold RisesS
  rw [List.pairwise_iff_getElem]
  intro i j hi hj hij
  have := key (j - i - 1) i (by omega)
  simpa [show i + (j - i - 1) + 1 = j by omega] using this
theorem ltA_eq {L : List Ac} {a : Int} {i : Nat} (hi : i < L.length) : ltA L a i = decide (L[i].a < a) := by
  unfold ltA
  rw [List.getElem?_eq_getElem hi]
  refine decide_eq_decide.2 ?_
  unfold cmpI
  by_cases h : L[i].a < a
  · rw [if_pos h]; exact ⟨fun _ => h, fun _ => by decide⟩
  · rw [if_neg h]
    constructor
    · intro h2; split at h2 <;> omega
    · exact fun h2 => absurd h2 h
end Go.Proofs.Ytiggambibcohcaa

