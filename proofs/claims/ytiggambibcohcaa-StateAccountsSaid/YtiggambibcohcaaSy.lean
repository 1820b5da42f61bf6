/-
  The layer does something.
-/
import Derived.Test.YtiggambibcohcaaSv
namespace Go.Proofs.Ytiggambibcohcaa
open Go.RowKit
open Nat (reduceBEq)
set_option linter.unusedVariables false
set_option linter.unusedSimpArgs false
set_option maxRecDepth 20000
set_option maxHeartbeats 2000000
def w1 : List Ac := [⟨20, 7, 0, [], []⟩]
def w2 : List Ac := [⟨20, 4, 0, [], []⟩, ⟨21, 3, 0, [], []⟩]
def w3 : List Ac := [⟨20, 4, 0, [], []⟩, ⟨21, 3, 0, [], [⟨5, 9⟩]⟩]
theorem v1 : mintS [] 20 7 = (w1, 0) := by kernel_rfl
theorem v2 : moveS w1 20 21 3 = (w2, 0) := by kernel_rfl
theorem v3 : saveS w2 21 5 9 = (w3, 0) := by kernel_rfl
theorem v4 : totalS w3 = 7 := by kernel_rfl
theorem v5 : loadX (OfS w3 21) 5 = 9 := by kernel_rfl
theorem ok_small (a : Int) (b : Nat) (st : List Pr) (h1 : U a) (h2 : b < WW) (h3 : st.length ≤ 1000000) (h4 : ∀ p ∈ st, p.ok) : Okx ⟨a, b, 0, [], st⟩ :=
  ⟨⟨h1, h2, ⟨Int.le_refl 0, by show (0 : Int) ≤ _; decide⟩, ⟨Nat.zero_le _, fun c h => by cases h⟩, Nat.le_trans h3 (by decide), h4⟩, Nat.zero_le _, h3⟩
theorem u20 : U 20 := by unfold U; decide
theorem u21 : U 21 := by unfold U; decide
theorem k0 : Okl [] := ⟨Nat.zero_le _, fun x h => by cases h⟩
theorem k1w : Okl w1 := ⟨by decide, fun x h => by
  simp only [w1, List.mem_cons, List.not_mem_nil, or_false] at h
  subst h
  exact ok_small 20 7 [] u20 (by decide) (Nat.zero_le _) (fun p h => by cases h)⟩
theorem k2w : Okl w2 := ⟨by decide, fun x h => by
  simp only [w2, List.mem_cons, List.not_mem_nil, or_false] at h
  rcases h with rfl | rfl
  · exact ok_small 20 4 [] u20 (by decide) (Nat.zero_le _) (fun p h => by cases h)
  · exact ok_small 21 3 [] u21 (by decide) (Nat.zero_le _) (fun p h => by cases h)⟩
theorem k3w : Okl w3 := ⟨by decide, fun x h => by
  simp only [w3, List.mem_cons, List.not_mem_nil, or_false] at h
  rcases h with rfl | rfl
  · exact ok_small 20 4 [] u20 (by decide) (Nat.zero_le _) (fun p h => by cases h)
  · exact ok_small 21 3 [⟨5, 9⟩] u21 (by decide) (by decide) (fun p h => by
      simp only [List.mem_cons, List.not_mem_nil, or_false] at h
      subst h
      exact ⟨(by decide : 5 < WW), (by decide : 9 < WW)⟩)⟩
abbrev c40 (x : Int) : AV := .agg [vi .u64 x, vi .u64 0, vi .u64 0, vi .u64 0]
theorem wakes_fn : Fn Try.prog 9 [] [] (vb true) [] := by
  have g1 : Fn Try.prog 36 [.agg [.c (.v (.slice none 0 0))], vi .u64 20, c40 7] [] (resS (w1, 0)) [] := by
    have h := mint_fn false [] k0 20 u20 7 (by decide)
    rw [v1] at h
    exact h.args ⟨AV.le_agg ⟨AV.le_nil _ _, trivial⟩, AV.le_refl _, AV.le_of rfl, trivial⟩
  have g2 : Fn Try.prog 32 [stA false w1, vi .u64 20, vi .u64 21, c40 3] [] (resS (w2, 0)) [] := by
    have h := move_fn false w1 k1w 20 21 u20 u21 3 (by decide)
    rw [v2] at h
    exact h
  have g3 : Fn Try.prog 37 [stA false w2, vi .u64 21, .agg [vi .u64 5, vi .u64 0, vi .u64 0, vi .u64 0, vi .u64 9, vi .u64 0, vi .u64 0, vi .u64 0]] [] (resS (w3, 0)) [] := by
    have h := save_fn false w2 k2w 21 u21 5 9 (by decide) (by decide)
    rw [v3] at h
    exact h
  have g4 : Fn Try.prog 20 [stA false w3] [] (c40 7) [] := by
    have h := totalS_fn false w3 k3w
    rw [v4] at h
    exact h
  have g5 : Fn Try.prog 21 [stA false w3, vi .u64 21, c40 5] [] (c40 9) [] := by
    have h := load_fn false w3 k3w 21 u21 5 (by decide)
    rw [v5] at h
    exact h
  have e : ((w3.length : Int) == 2) = true := rfl
  generalize w1 = a1 at g1 g2
  generalize w2 = a2 at g2 g3
  generalize w3 = a3 at g3 g4 g5 e
  (refine fn_of Try.func9 rfl (by rfl) ?_; simp only [Try.ntmps9, List.length_cons, List.length_nil, Nat.reduceAdd, Nat.reduceSub, List.replicate, List.cons_append, List.nil_append])
  (repeat (any_goals (first | ((with_reducible refine evL_call ?_ ?_ ?_); rfl; rfl; intro K hK; ((first | (apply opA_callB (g1); rfl; rfl; rfl; rfl; exact Try.func36) | (apply opA_callB (g2); rfl; rfl; rfl; rfl; exact Try.func32) | (apply opA_callB (g3); rfl; rfl; rfl; rfl; exact Try.func37) | (apply opA_callB (g4); rfl; rfl; rfl; rfl; exact Try.func20) | (apply opA_callB (g5); rfl; rfl; rfl; rfl; exact Try.func21)); kernel_rfl; rfl; (simp only [St.free, freeH, evO, ofV, AV.cells, pickAV, evz, forall_const, Nat.reduceBEq, Nat.reduceBNe, Nat.reduceAdd, Nat.reduceLT, Nat.reduceLeDiff, ↓reduceIte, Nat.reduceEqDiff, Int.reduceLE, Int.reduceLT, Int.reduceToNat, Nat.reduceMul, Nat.reduceSub, Nat.reduceDiv, Nat.reduceMod, reduceCtorEq, e]; rfl); (simp only [AV.inNL, AV.inN, inNL_map, Bool.and_true])); (simp only [St.free, freeH, evO, ofV, AV.cells, pickAV, evz, forall_const, Nat.reduceBEq, Nat.reduceBNe, Nat.reduceAdd, Nat.reduceLT, Nat.reduceLeDiff, ↓reduceIte, Nat.reduceEqDiff, Int.reduceLE, Int.reduceLT, Int.reduceToNat, Nat.reduceMul, Nat.reduceSub, Nat.reduceDiv, Nat.reduceMod, reduceCtorEq, e, ty3, ty22, ty27, ty31, ty34, ty38, ty42]; (with_reducible refine hK _ ?_); clear hK K)) | ((with_reducible refine evL_one ?_ ?_); rfl; intro K hK; simp only [St.free, freeH, evO, ofV, AV.cells, pickAV, evz, forall_const, Nat.reduceBEq, Nat.reduceBNe, Nat.reduceAdd, Nat.reduceLT, Nat.reduceLeDiff, ↓reduceIte, Nat.reduceEqDiff, Int.reduceLE, Int.reduceLT, Int.reduceToNat, Nat.reduceMul, Nat.reduceSub, Nat.reduceDiv, Nat.reduceMod, reduceCtorEq, e, ty3, ty22, ty27, ty31, ty34, ty38, ty42]; ((repeat (refine And.intro (by first | assumption | omega | rfl) ?_)); (with_reducible refine hK _ ?_); clear hK K)) | ((with_reducible refine evL_nil ?_); (with_reducible refine hR _ ?_); clear hR R) | ((with_reducible first | refine evC_seq ?_ | refine evC_block ?_); intro Ψ hΨ hΨ') | ((with_reducible refine evC_region ?_); intro R hR) | ((with_reducible refine hΨ _ ?_); clear hΨ hΨ' Ψ) | ((with_reducible refine hΨ' _ _ ?_ ?_); (focus (first | ((intro hx; cases hx); done) | ((intro j hj; cases hj); done) | (intro j hj; cases hj; (decide); done))); clear hΨ hΨ' Ψ) | (with_reducible first | refine evC_skip ?_ | refine evC_ret ?_ | refine evC_exit ?_) | ((with_reducible apply evL_unmet); rfl; rfl; rfl; (try simp only [St.free, freeH, evO, ofV, AV.cells, pickAV, evz, forall_const, Nat.reduceBEq, Nat.reduceBNe, Nat.reduceAdd, Nat.reduceLT, Nat.reduceLeDiff, ↓reduceIte, Nat.reduceEqDiff, Int.reduceLE, Int.reduceLT, Int.reduceToNat, Nat.reduceMul, Nat.reduceSub, Nat.reduceDiv, Nat.reduceMod, reduceCtorEq, e, ty3, ty22, ty27, ty31, ty34, ty38, ty42])) | ((with_reducible apply evL_grd); rfl; rfl; rfl; all_goals (intro hb; first | (exact absurd hb (by decide)) | ((try simp only [Bool.not_true, Bool.not_false] at hb); (first | ((with_reducible intro K hK); (first | ((first | (apply opA_callB (g4); rfl; rfl; rfl; rfl; exact Try.func20) | (apply opA_callB (g5); rfl; rfl; rfl; rfl; exact Try.func21)); kernel_rfl; rfl; (simp only [St.free, freeH, evO, ofV, AV.cells, pickAV, evz, forall_const, Nat.reduceBEq, Nat.reduceBNe, Nat.reduceAdd, Nat.reduceLT, Nat.reduceLeDiff, ↓reduceIte, Nat.reduceEqDiff, Int.reduceLE, Int.reduceLT, Int.reduceToNat, Nat.reduceMul, Nat.reduceSub, Nat.reduceDiv, Nat.reduceMod, reduceCtorEq, e]; rfl); (simp only [AV.inNL, AV.inN, inNL_map, Bool.and_true])) | skip); simp only [St.free, freeH, evO, ofV, AV.cells, pickAV, evz, forall_const, Nat.reduceBEq, Nat.reduceBNe, Nat.reduceAdd, Nat.reduceLT, Nat.reduceLeDiff, ↓reduceIte, Nat.reduceEqDiff, Int.reduceLE, Int.reduceLT, Int.reduceToNat, Nat.reduceMul, Nat.reduceSub, Nat.reduceDiv, Nat.reduceMod, reduceCtorEq, e, ty3, ty22, ty27, ty31, ty34, ty38, ty42]; ((repeat (refine And.intro (by first | assumption | omega | rfl) ?_)); (with_reducible refine hK _ ?_); clear hK K)) | ((fail_if_success (with_reducible intro _)); simp only [St.free, freeH, evO, ofV, AV.cells, pickAV, evz, forall_const, Nat.reduceBEq, Nat.reduceBNe, Nat.reduceAdd, Nat.reduceLT, Nat.reduceLeDiff, ↓reduceIte, Nat.reduceEqDiff, Int.reduceLE, Int.reduceLT, Int.reduceToNat, Nat.reduceMul, Nat.reduceSub, Nat.reduceDiv, Nat.reduceMod, reduceCtorEq, e, ty3, ty22, ty27, ty31, ty34, ty38, ty42]))))) | ((with_reducible apply evC_cond); rfl; rfl; all_goals (intro hc; first | (exact absurd hc (by decide)) | (try simp only at hc))))))
  all_goals (refine ⟨by simp, ⟨_, ?_, AV.le_refl _⟩, leH_get (by simp [leH, hget])⟩; simp only [Try.results9, resL, ldA, oneOf, St.free, freeH, evO, ofV, AV.cells, pickAV, evz, forall_const, Nat.reduceBEq, Nat.reduceBNe, Nat.reduceAdd, Nat.reduceLT, Nat.reduceLeDiff, ↓reduceIte, Nat.reduceEqDiff, Int.reduceLE, Int.reduceLT, Int.reduceToNat, Nat.reduceMul, Nat.reduceSub, Nat.reduceDiv, Nat.reduceMod, reduceCtorEq, ty3, ty22, ty27, ty31, ty34, ty38, ty42])
end Go.Proofs.Ytiggambibcohcaa
