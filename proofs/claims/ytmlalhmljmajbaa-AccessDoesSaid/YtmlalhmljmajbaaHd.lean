/-
  What a slot holds, and what is warm, as the document has it; reckoned.
-/
import Derived.Test.YtmlalhmljmajbaaHc
namespace Go.Proofs.Ytmlalhmljmajbaa
open Go.RowKit
open Nat (reduceBEq)
set_option linter.unusedVariables false
set_option linter.unusedSimpArgs false
set_option maxRecDepth 20000
set_option maxHeartbeats 2000000
/-- an address made warm as the document has it: the access, whether it was cold, whether there is room -/
def rtouchL (x : Xs) (a : Int) : Xs × Bool × Bool := if (lay aKey a (some a) x.ad).length ≤ 400 then (⟨lay aKey a (some a) x.ad, x.sp, x.pg⟩, !decide (a ∈ x.ad), true) else (⟨[], [], []⟩, false, false)
theorem touch_same {x : Xs} (v : Vx x) (a : Int) : touchL x a = ((rtouchL x a).1, (rtouchL x a).2.1, if (rtouchL x a).2.2 then 0 else 6) := by
  have e3 : (fnd aKey a x.ad).isSome = decide (a ∈ x.ad) := by
    by_cases hm : a ∈ x.ad
    · have := fnd_mem (key := aKey) v.ra hm
      rw [show aKey a = a from rfl] at this
      rw [this, decide_eq_true hm]; rfl
    · rw [decide_eq_false hm, fnd_none (key := aKey) (k := a) fun x hx e => hm (by rw [← show x = a from e]; exact hx)]; rfl
  have hg : isG aKey x.ad a = decide (a ∈ x.ad) := by rw [isG_fnd (key := aKey) v.ra, e3]
  unfold touchL rtouchL
  rw [okXs_iff.2 v]
  simp only [if_true]
  cases hm : decide (a ∈ x.ad) with
  | true =>
    have h1 : putL aKey x.ad a = (x.ad, false, 0) := putL_is (key := aKey) (by rw [show aKey a = a from rfl, hg, hm])
    have h2 : lay aKey a (some a) x.ad = x.ad := lay_is (key := aKey) v.ra (injA a) (by rw [show aKey a = a from rfl, hg, hm])
    rw [h1, h2, if_pos rfl, if_pos v.la]; rfl
  | false =>
    have h2 : lay aKey a (some a) x.ad = x.ad.take (posG aKey x.ad a) ++ a :: x.ad.drop (posG aKey x.ad a) := lay_new (key := aKey) v.ra (by rw [show aKey a = a from rfl, hg, hm])
    have hp := posG_le (key := aKey) x.ad a
    have hl : (lay aKey a (some a) x.ad).length = x.ad.length + 1 := by rw [h2, List.length_append, List.length_cons, List.length_take, List.length_drop]; omega
    unfold putL
    rw [show aKey a = a from rfl, hg, hm]
    simp only [Bool.false_eq_true, if_false]
    by_cases h4 : 400 ≤ x.ad.length
    · rw [if_pos h4, if_neg (show ¬ (lay aKey a (some a) x.ad).length ≤ 400 by omega), if_neg (by decide)]; rfl
    · rw [if_neg h4, if_pos (show (lay aKey a (some a) x.ad).length ≤ 400 by omega), if_pos rfl, h2]; rfl
theorem rtouch_fn (x : Xs) (hx : x.ok) (v : Vx x) (a : Int) (ua : U a) : Fn Try.prog 23 [xsA x, vi .u64 a] [] (.tup [xsA (rtouchL x a).1, vb (rtouchL x a).2.1, vb (rtouchL x a).2.2]) [] := by
  have so0 := sortedR_fn false (x.ad ++ [a]) (by rw [List.length_append, List.length_singleton]; have := v.la; omega)
  have hr : Rises aKey (lay aKey a (some a) x.ad) := rises_lay (some_key (key := aKey) a) v.ra
  have hmem : ∀ y, y ∈ lay aKey a (some a) x.ad ↔ y ∈ x.ad ++ [a] := fun y => by
    rw [lay_mem_iff v.ra, List.mem_append, List.mem_singleton]; exact or_comm
  rw [res_uniq hr hmem] at so0
  have so : Fn Try.prog 30 [.c (.sl false 1 (x.ad.length + 1) ((x.ad ++ [a]).flatMap apv))] [] (asl false (lay aKey a (some a) x.ad)) [] := by
    have e : (x.ad ++ [a]).length = x.ad.length + 1 := by simp
    dsimp only [asl] at so0 ⊢
    rwa [e] at so0
  have hlen : (lay aKey a (some a) x.ad).length = if a ∈ x.ad then x.ad.length else x.ad.length + 1 := by
    have hp := posG_le (key := aKey) x.ad a
    have e3 : (fnd aKey a x.ad).isSome = decide (a ∈ x.ad) := by
      by_cases hm : a ∈ x.ad
      · have := fnd_mem (key := aKey) v.ra hm
        rw [show aKey a = a from rfl] at this
        rw [this, decide_eq_true hm]; rfl
      · rw [decide_eq_false hm, fnd_none (key := aKey) (k := a) fun x hx e => hm (by rw [← show x = a from e]; exact hx)]; rfl
    by_cases hm : a ∈ x.ad
    · rw [if_pos hm, lay_is (key := aKey) v.ra (injA a) (by rw [show aKey a = a from rfl, isG_fnd (key := aKey) v.ra, e3, decide_eq_true hm])]
    · rw [if_neg hm, lay_new (key := aKey) v.ra (by rw [show aKey a = a from rfl, isG_fnd (key := aKey) v.ra, e3, decide_eq_false hm]), List.length_append, List.length_cons, List.length_take, List.length_drop]
      have hp2 : posG aKey x.ad (aKey a) ≤ x.ad.length := hp
      omega
  unfold rtouchL
  have la := v.la
  generalize lay aKey a (some a) x.ad = L at so hlen ⊢
  have k2 : decide ((L.length : Int) > (x.ad.length : Int)) = !decide (a ∈ x.ad) := by
    by_cases hm : a ∈ x.ad
    · rw [if_pos hm] at hlen
      rw [decide_eq_true hm]; simp; omega
    · rw [if_neg hm] at hlen
      rw [decide_eq_false hm]; simp; omega
  generalize decide (a ∈ x.ad) = q at k2 ⊢
  obtain ⟨A, S, P⟩ := x
  dsimp only at *
  have e1 : ((A.flatMap apv).map AV.c).length = A.length := by rw [List.length_map, flat_length apv_len, Nat.mul_one]
  have e2 : (A.flatMap apv).length = A.length := by rw [flat_length apv_len, Nat.mul_one]
  have e3 : ((A ++ [a]).flatMap apv).length = A.length + 1 := by rw [flat_length apv_len, Nat.mul_one]; simp
  by_cases h4 : L.length ≤ 400
  · have k1 : decide ((L.length : Int) > 400) = false := decide_eq_false (by omega)
    rw [if_pos h4]
    (refine fn_of Try.func23 rfl (by rfl) ?_; simp only [Try.ntmps23, List.length_cons, List.length_nil, Nat.reduceAdd, Nat.reduceSub, List.replicate, List.cons_append, List.nil_append])
    (repeat (any_goals (first | ((with_reducible refine evL_one ?_ ?_); rfl; intro K hK; simp (disch := omega) only [go_sem, e1, e2, refsL_map, Nat.mul_one, go_sem]; ((repeat (refine And.intro (by first | assumption | omega | rfl) ?_)); (with_reducible refine hK _ ?_); clear hK K)) | ((with_reducible refine evL_nil ?_); (with_reducible refine hR _ ?_); clear hR R) | ((with_reducible first | refine evC_seq ?_ | refine evC_block ?_); intro Ψ hΨ hΨ') | ((with_reducible refine evC_region ?_); intro R hR) | ((with_reducible refine hΨ _ ?_); clear hΨ hΨ' Ψ) | ((with_reducible refine hΨ' _ _ ?_ ?_); (focus (first | ((intro hx; cases hx); done) | ((intro j hj; cases hj); done) | (intro j hj; cases hj; (decide); done))); clear hΨ hΨ' Ψ) | (with_reducible first | refine evC_skip ?_ | refine evC_ret ?_ | refine evC_exit ?_) | ((with_reducible apply evC_cond); rfl; rfl; all_goals (intro hc; first | (exact absurd hc (by decide)) | (try simp only at hc))))))
    refine evL_to rfl (St.to.frz 15 (pcs := (A ++ [a]).flatMap apv) (by simp [hget, apv])) ?_
    simp only [St.frz, AV.frzL, AV.frz, frzH, e3, Nat.mul_one, if_true, eq_self, ↓reduceIte, Nat.reduceEqDiff]
    (repeat (any_goals (first | ((with_reducible refine evL_call ?_ ?_ ?_); rfl; rfl; intro K hK; ((apply opA_callB (so); rfl; rfl; rfl; rfl; exact Try.func30); kernel_rfl; rfl; (simp only [go_sem, k1, k2]; rfl); (simp only [AV.inNL, AV.inN, inNL_map, Bool.and_true])); (simp only [go_sem, k1, k2, go_sem]; (with_reducible refine hK _ ?_); clear hK K)) | ((with_reducible refine evL_one ?_ ?_); rfl; intro K hK; simp only [go_sem, k1, k2, go_sem]; ((repeat (refine And.intro (by first | assumption | omega | rfl) ?_)); (with_reducible refine hK _ ?_); clear hK K)) | ((with_reducible refine evL_nil ?_); (with_reducible refine hR _ ?_); clear hR R) | ((with_reducible first | refine evC_seq ?_ | refine evC_block ?_); intro Ψ hΨ hΨ') | ((with_reducible refine evC_region ?_); intro R hR) | ((with_reducible refine hΨ _ ?_); clear hΨ hΨ' Ψ) | ((with_reducible refine hΨ' _ _ ?_ ?_); (focus (first | ((intro hx; cases hx); done) | ((intro j hj; cases hj); done) | (intro j hj; cases hj; (decide); done))); clear hΨ hΨ' Ψ) | (with_reducible first | refine evC_skip ?_ | refine evC_ret ?_ | refine evC_exit ?_) | ((with_reducible apply evC_cond); rfl; rfl; all_goals (intro hc; first | (exact absurd hc (by decide)) | (try simp only at hc))))))
    all_goals (refine ⟨by simp, ⟨_, ?_, AV.le_refl _⟩, leH_get (by simp [leH, hget])⟩; simp only [Try.results23, resL, ldA, oneOf, go_sem])
  · have k1 : decide ((L.length : Int) > 400) = true := decide_eq_true (by omega)
    rw [if_neg h4]
    (refine fn_of Try.func23 rfl (by rfl) ?_; simp only [Try.ntmps23, List.length_cons, List.length_nil, Nat.reduceAdd, Nat.reduceSub, List.replicate, List.cons_append, List.nil_append])
    (repeat (any_goals (first | ((with_reducible refine evL_one ?_ ?_); rfl; intro K hK; simp (disch := omega) only [go_sem, e1, e2, refsL_map, Nat.mul_one, go_sem]; ((repeat (refine And.intro (by first | assumption | omega | rfl) ?_)); (with_reducible refine hK _ ?_); clear hK K)) | ((with_reducible refine evL_nil ?_); (with_reducible refine hR _ ?_); clear hR R) | ((with_reducible first | refine evC_seq ?_ | refine evC_block ?_); intro Ψ hΨ hΨ') | ((with_reducible refine evC_region ?_); intro R hR) | ((with_reducible refine hΨ _ ?_); clear hΨ hΨ' Ψ) | ((with_reducible refine hΨ' _ _ ?_ ?_); (focus (first | ((intro hx; cases hx); done) | ((intro j hj; cases hj); done) | (intro j hj; cases hj; (decide); done))); clear hΨ hΨ' Ψ) | (with_reducible first | refine evC_skip ?_ | refine evC_ret ?_ | refine evC_exit ?_) | ((with_reducible apply evC_cond); rfl; rfl; all_goals (intro hc; first | (exact absurd hc (by decide)) | (try simp only at hc))))))
    refine evL_to rfl (St.to.frz 15 (pcs := (A ++ [a]).flatMap apv) (by simp [hget, apv])) ?_
    simp only [St.frz, AV.frzL, AV.frz, frzH, e3, Nat.mul_one, if_true, eq_self, ↓reduceIte, Nat.reduceEqDiff]
    (repeat (any_goals (first | ((with_reducible refine evL_call ?_ ?_ ?_); rfl; rfl; intro K hK; ((apply opA_callB (so); rfl; rfl; rfl; rfl; exact Try.func30); kernel_rfl; rfl; (simp only [go_sem, k1, k2]; rfl); (simp only [AV.inNL, AV.inN, inNL_map, Bool.and_true])); (simp only [go_sem, k1, k2, go_sem]; (with_reducible refine hK _ ?_); clear hK K)) | ((with_reducible refine evL_one ?_ ?_); rfl; intro K hK; simp only [go_sem, k1, k2, go_sem]; ((repeat (refine And.intro (by first | assumption | omega | rfl) ?_)); (with_reducible refine hK _ ?_); clear hK K)) | ((with_reducible refine evL_nil ?_); (with_reducible refine hR _ ?_); clear hR R) | ((with_reducible first | refine evC_seq ?_ | refine evC_block ?_); intro Ψ hΨ hΨ') | ((with_reducible refine evC_region ?_); intro R hR) | ((with_reducible refine hΨ _ ?_); clear hΨ hΨ' Ψ) | ((with_reducible refine hΨ' _ _ ?_ ?_); (focus (first | ((intro hx; cases hx); done) | ((intro j hj; cases hj); done) | (intro j hj; cases hj; (decide); done))); clear hΨ hΨ' Ψ) | (with_reducible first | refine evC_skip ?_ | refine evC_ret ?_ | refine evC_exit ?_) | ((with_reducible apply evC_cond); rfl; rfl; all_goals (intro hc; first | (exact absurd hc (by decide)) | (try simp only at hc))))))
    all_goals exact ⟨by simp, ⟨_, rfl, AV.le_tupL ⟨nilX_le, AV.le_refl _, AV.le_refl _, trivial⟩⟩, leH_get (by simp [leH, hget])⟩
end Go.Proofs.Ytmlalhmljmajbaa

