/-
  Small functions of addresses; the layer wakes (Sorted by what it answers for any row).
-/
import Derived.Test.YtgdjkkapgghdbaaDoorDq
import Derived.Test.YtgdjkkapgghdbaaDoorDh
namespace Go.Proofs.YtgdjkkapgghdbaaDoor
open Go.RowKit
open Nat (reduceBEq)
attribute [-go_sem] IntKind.bits
set_option linter.unusedVariables false
set_option linter.unusedSimpArgs false
set_option maxRecDepth 20000
set_option maxHeartbeats 2000000
theorem aword_fn (a : Int) : Fn Tryd.prog 24 [vi .u64 a] [] (w4 a 0 0 0) [] := by
  have h := of_fn a
  (refine fn_of Tryd.func24 rfl (by rfl) ?_; simp only [Tryd.ntmps24, List.length_cons, List.length_nil, Nat.reduceAdd, Nat.reduceSub, List.replicate, List.cons_append, List.nil_append])
  (repeat (any_goals (first | ((with_reducible refine evL_call ?_ ?_ ?_); rfl; rfl; intro K hK; ((apply opA_callB (h); rfl; rfl; rfl; rfl; exact Tryd.func40); kernel_rfl; rfl; (focus ((simp only [go_sem]); (try rfl); done)); (first | rfl | simp [AV.inNL, AV.inN])); (simp only [go_sem]; refine hK _ ?_; clear hK K)) | ((with_reducible refine evL_one ?_ ?_); rfl; intro K hK; simp only [go_sem]; ((repeat (refine ndI (by first | assumption | omega | rfl) ?_)); refine hK _ ?_; clear hK K)) | (with_reducible first | (refine evL_nil ?_; refine hR _ ?_; clear hR R) | ((first | refine evC_seq ?_ | refine evC_block ?_); intro Ψ hΨ hΨ') | (refine evC_region ?_; intro R hR) | (refine hΨ _ ?_; clear hΨ hΨ' Ψ) | refine evC_skip ?_ | refine evC_ret ?_ | refine evC_exit ?_) | ((with_reducible refine hΨ' _ _ ?_ ?_); (focus (simp; done)); clear hΨ hΨ' Ψ) | ((with_reducible apply evC_cond); rfl; rfl; all_goals (intro hc; first | (cases hc; done) | (try simp only at hc))))))
  all_goals (refine ⟨by simp, ⟨_, ?_, AV.le_refl _⟩, leH_get (by simp [leH, hget])⟩; simp only [Tryd.results24, resL, ldA, oneOf, go_sem])
theorem rword_fn (a : Int) : Fn Tryd.prog 25 [vi .u64 a] [] (w4 a 0 0 0) [] := by
  (refine fn_of Tryd.func25 rfl (by rfl) ?_; simp only [Tryd.ntmps25, List.length_cons, List.length_nil, Nat.reduceAdd, Nat.reduceSub, List.replicate, List.cons_append, List.nil_append])
  (repeat (any_goals (first | ((with_reducible refine evL_one ?_ ?_); rfl; intro K hK; simp only [go_sem]; ((repeat (refine ndI (by first | assumption | omega | rfl) ?_)); refine hK _ ?_; clear hK K)) | (with_reducible first | (refine evL_nil ?_; refine hR _ ?_; clear hR R) | ((first | refine evC_seq ?_ | refine evC_block ?_); intro Ψ hΨ hΨ') | (refine evC_region ?_; intro R hR) | (refine hΨ _ ?_; clear hΨ hΨ' Ψ) | refine evC_skip ?_ | refine evC_ret ?_ | refine evC_exit ?_) | ((with_reducible refine hΨ' _ _ ?_ ?_); (focus (simp; done)); clear hΨ hΨ' Ψ) | ((with_reducible apply evC_cond); rfl; rfl; all_goals (intro hc; first | (cases hc; done) | (try simp only at hc))))))
  all_goals (refine ⟨by simp, ⟨_, ?_, AV.le_refl _⟩, leH_get (by simp [leH, hget])⟩; simp only [Tryd.results25, resL, ldA, oneOf, go_sem])
theorem rread_fn (ex : Bool) (l : List Nat) (hl : 8 ≤ l.length) (hb : ∀ b ∈ l, b < 256) : Fn Tryd.prog 23 [bsl ex l] [] (vi .u64 (rdN l 8 : Int)) [] := by
  (refine fn_of Tryd.func23 rfl (by rfl) ?_; simp only [Tryd.ntmps23, List.length_cons, List.length_nil, Nat.reduceAdd, Nat.reduceSub, List.replicate, List.cons_append, List.nil_append])
  (repeat (any_goals (first | ((with_reducible refine evL_one ?_ ?_); rfl; intro K hK; simp only [go_sem]; ((repeat (refine ndI (by first | assumption | omega | rfl) ?_)); refine hK _ ?_; clear hK K)) | (with_reducible first | (refine evL_nil ?_; refine hR _ ?_; clear hR R) | ((first | refine evC_seq ?_ | refine evC_block ?_); intro Ψ hΨ hΨ') | (refine evC_region ?_; intro R hR) | (refine hΨ _ ?_; clear hΨ hΨ' Ψ) | refine evC_skip ?_ | refine evC_ret ?_ | refine evC_exit ?_) | ((with_reducible refine hΨ' _ _ ?_ ?_); (focus (simp; done)); clear hΨ hΨ' Ψ) | ((with_reducible apply evC_cond); rfl; rfl; all_goals (intro hc; first | (cases hc; done) | (try simp only at hc))))))
  refine evC_upto 8 (fun i => ⟨[bsl ex l, .any, .any, vi .u64 (rdN l i : Int), vi .i64 i, .any, .any, .any, .any, .any, .any, .any, .any, .any, .any, .any, .any, .any], []⟩) (St.le_of (by simp [leT, rdN]) (by simp [leH])) ?_
  intro i hi Ψ hΨ hΨ'
  (try dsimp only at hΨ ⊢)
  rcases Nat.lt_or_ge i 8 with hlt | hge
  · obtain ⟨y, hy⟩ : ∃ y, l[i]? = some y := ⟨l[i]'(by omega), List.getElem?_eq_getElem (by omega)⟩
    have k1 : (decide ((i : Int) < 8)) = true := by simp; omega
    have k2 := bsl_at hy
    have k7 : (i : Int) + 1 = ((i + 1 : Nat) : Int) := by omega
    have hil : i < l.length := by omega
    have hx : rdN l i < 72057594037927936 := Nat.lt_of_lt_of_le (rdN_lt hb i) (Nat.pow_le_pow_right (n := 256) (by omega) (show i ≤ 7 by omega))
    obtain ⟨g1, g2, g3⟩ := or_step hx (hb y (List.mem_of_getElem? hy))
    have g4 : rdN l (i + 1) = rdN l i * 256 + y := by
      show rdN l i * 256 + (match l[i]? with | some b => b | none => 0) = _
      rw [hy]
    rw [← g4] at g3
    generalize rdN l (i + 1) = r1 at g3 hΨ
    generalize rdN l i = r0 at g1 g3 ⊢
    generalize ((r0 * 256 : Nat) : Int) = r2 at g1 g3
    (have W := ndI k1 (ndI k2 (ndI k7 (ndI g1 (ndI g2 (ndI g3 @wrI))))); (repeat (any_goals (first | ((with_reducible refine evL_one ?_ ?_); rfl; intro K hK; simp (disch := omega) only [go_sem, W]; ((repeat (refine ndI (by first | assumption | omega | rfl) ?_)); refine hK _ ?_; clear hK K)) | (with_reducible first | (refine evL_nil ?_; refine hR _ ?_; clear hR R) | ((first | refine evC_seq ?_ | refine evC_block ?_); intro Ψ hΨ hΨ') | (refine evC_region ?_; intro R hR) | (refine hΨ _ ?_; clear hΨ hΨ' Ψ) | refine evC_skip ?_ | refine evC_ret ?_ | refine evC_exit ?_) | ((with_reducible refine hΨ' _ _ ?_ ?_); (focus (simp; done)); clear hΨ hΨ' Ψ) | ((with_reducible apply evC_cond); rfl; rfl; all_goals (intro hc; first | (cases hc; done) | (try simp only at hc)))))))
    all_goals exact hΨ _ hlt (St.le_of (by simp [leT]) (by simp [leH]))
  · have k1 : (decide ((i : Int) < 8)) = false := by simp; omega
    obtain rfl : i = 8 := by omega
    (repeat (any_goals (first | ((with_reducible refine evL_one ?_ ?_); rfl; intro K hK; simp only [go_sem, k1]; ((repeat (refine ndI (by first | assumption | omega | rfl) ?_)); refine hK _ ?_; clear hK K)) | (with_reducible first | (refine evL_nil ?_; refine hR _ ?_; clear hR R) | ((first | refine evC_seq ?_ | refine evC_block ?_); intro Ψ hΨ hΨ') | (refine evC_region ?_; intro R hR) | (refine hΨ _ ?_; clear hΨ hΨ' Ψ) | refine evC_skip ?_ | refine evC_ret ?_ | refine evC_exit ?_) | ((with_reducible refine hΨ' _ _ ?_ ?_); (focus (simp; done)); clear hΨ hΨ' Ψ) | ((with_reducible apply evC_cond); rfl; rfl; all_goals (intro hc; first | (cases hc; done) | (try simp only at hc))))))
    all_goals (refine ⟨by simp, ⟨_, ?_, AV.le_refl _⟩, leH_get (by simp [leH, hget])⟩; simp only [Tryd.results23, resL, ldA, oneOf, go_sem])
theorem be8_lt (x : Nat) : ∀ b ∈ be8 x, b < 256 := by
  intro b hb
  simp only [be8, List.mem_cons, List.not_mem_nil, or_false] at hb
  rcases hb with rfl | rfl | rfl | rfl | rfl | rfl | rfl | rfl <;> omega
abbrev p8 (b : Int) : PV := .v (.int .u8 b)
abbrev p64 (b : Int) : PV := .v (.int .u64 b)
theorem wk_read : Fn Tryd.prog 13 [.c (.sl true 1 9 [p8 0, p8 0, p8 0, p8 0, p8 0, p8 0, p8 1, p8 2, p8 9])] [] (.tup [vi .u64 258, vi .i64 0]) [] :=
  read_fn true [0, 0, 0, 0, 0, 0, 1, 2, 9] (by decide) (by decide)
theorem wk_sorted : Fn Tryd.prog 14 [.c (.sl true 1 3 [p64 9, p64 3, p64 9])] [] (.c (.sl false 1 2 [p64 3, p64 9])) [] := by
  obtain ⟨r, h1, h2, _, h3⟩ := sorted_any true [9, 3, 9] (by decide) (by intro a ha; simp at ha; unfold U; omega)
  have e : r = [3, 9] := rise_eq h1 (by decide) fun x => by rw [h2]; simp; omega
  rw [e] at h3
  exact h3
theorem wk_near : Fn Tryd.prog 15 [w4 134 0 0 0, w4 7 0 0 0] [] (vb true) [] := by
  have h := near_fn 134 7 (by decide) (by decide)
  rw [show nearB 134 7 = true by decide] at h
  exact h
theorem wk_far : Fn Tryd.prog 15 [w4 135 0 0 0, w4 7 0 0 0] [] (vb false) [] := by
  have h := near_fn 135 7 (by decide) (by decide)
  rw [show nearB 135 7 = false by decide] at h
  exact h
theorem wakes_fn : Fn Tryd.prog 4 [] [] (vb true) [] := by
  have h1 := wk_read
  have h2 := wk_sorted
  have h3 := wk_near
  have h4 := wk_far
  have e0 : ((2 : Nat) : Int) = 2 := rfl
  (refine fn_of Tryd.func4 rfl (by rfl) ?_; simp only [Tryd.ntmps4, List.length_cons, List.length_nil, Nat.reduceAdd, Nat.reduceSub, List.replicate, List.cons_append, List.nil_append])
  (repeat (any_goals (first | ((with_reducible refine evL_op ?_ ?_); rfl; intro K hK; apply opA_buildSlice_flat; rfl; rfl; (focus (simp only [go_sem]; try rfl)); (focus (simp only [go_sem]; try rfl)); rfl; (first | omega | (dsimp only; omega) | (simp only [Option.isSome_some, Option.isSome_none]; omega) | (simp; omega) | (focus (simp; done))); (first | omega | (dsimp only; omega) | (simp only [Option.isSome_some, Option.isSome_none]; omega) | (simp; omega) | (focus (simp; done))); (first | omega | (dsimp only; omega) | (simp only [Option.isSome_some, Option.isSome_none]; omega) | (simp; omega) | (focus (simp; done))); (simp only [go_sem, e0, Int.reduceBEq]; rfl); rfl; (focus ((simp only [unC, Option.map_some]); (try rfl))); (simp only [go_sem, e0, Int.reduceBEq]; refine hK _ ?_; clear hK K)) | ((with_reducible refine evL_call ?_ ?_ ?_); rfl; rfl; intro K hK; (first | ((first | (apply opA_callB (h1); rfl; rfl; rfl; rfl; exact Tryd.func13) | (apply opA_callB (h2); rfl; rfl; rfl; rfl; exact Tryd.func14)); kernel_rfl; rfl; (focus ((simp only [go_sem, e0, Int.reduceBEq]); (try rfl); done)); (first | rfl | simp [AV.inNL, AV.inN])) | ((apply opA_callB (h3); rfl; rfl; rfl; rfl; exact Tryd.func15); kernel_rfl; rfl; (focus ((simp only [go_sem, e0, Int.reduceBEq]); (try rfl); done)); (first | rfl | simp [AV.inNL, AV.inN])) | ((apply opA_callB (h4); rfl; rfl; rfl; rfl; exact Tryd.func15); kernel_rfl; rfl; (focus ((simp only [go_sem, e0, Int.reduceBEq]); (try rfl); done)); (first | rfl | simp [AV.inNL, AV.inN]))); (simp only [go_sem, e0, Int.reduceBEq]; refine hK _ ?_; clear hK K)) | ((with_reducible refine evL_one ?_ ?_); rfl; intro K hK; simp only [go_sem, e0, Int.reduceBEq]; ((repeat (refine ndI (by first | assumption | omega | rfl) ?_)); refine hK _ ?_; clear hK K)) | (with_reducible first | (refine evL_nil ?_; refine hR _ ?_; clear hR R) | ((first | refine evC_seq ?_ | refine evC_block ?_); intro Ψ hΨ hΨ') | (refine evC_region ?_; intro R hR) | (refine hΨ _ ?_; clear hΨ hΨ' Ψ) | refine evC_skip ?_ | refine evC_ret ?_ | refine evC_exit ?_) | ((with_reducible refine hΨ' _ _ ?_ ?_); (focus (simp; done)); clear hΨ hΨ' Ψ) | ((with_reducible apply evL_unmet); rfl; rfl; rfl; (try simp only [go_sem, e0, Int.reduceBEq])) | ((with_reducible apply evL_grd); rfl; rfl; rfl; all_goals (intro hb; first | (cases hb; done) | ((try simp only [Bool.not_true, Bool.not_false] at hb); (first | ((with_reducible intro K hK); (first | ((apply opA_callB (h3); rfl; rfl; rfl; rfl; exact Tryd.func15); kernel_rfl; rfl; (focus ((simp only [go_sem, e0, Int.reduceBEq]); (try rfl); done)); (first | rfl | simp [AV.inNL, AV.inN])) | ((apply opA_callB (h4); rfl; rfl; rfl; rfl; exact Tryd.func15); kernel_rfl; rfl; (focus ((simp only [go_sem, e0, Int.reduceBEq]); (try rfl); done)); (first | rfl | simp [AV.inNL, AV.inN])) | skip); simp only [go_sem, e0, Int.reduceBEq]; ((repeat (refine ndI (by first | assumption | omega | rfl) ?_)); refine hK _ ?_; clear hK K)) | ((fail_if_success (with_reducible intro _)); simp only [go_sem, e0, Int.reduceBEq]))))) | ((with_reducible apply evC_cond); rfl; rfl; all_goals (intro hc; first | (cases hc; done) | (try simp only at hc))))))
  all_goals (refine ⟨by simp, ⟨_, ?_, AV.le_refl _⟩, leH_get (by simp [leH, hget])⟩; simp only [Tryd.results4, resL, ldA, oneOf, go_sem])
end Go.Proofs.YtgdjkkapgghdbaaDoor

