/-
  The layer wakes.
-/
import Derived.Test.YtmlalhmljmajbaaGm
namespace Go.Proofs.Ytmlalhmljmajbaa
open Go.RowKit
open Nat (reduceBEq)
set_option linter.unusedVariables false
set_option linter.unusedSimpArgs false
set_option maxRecDepth 20000
set_option maxHeartbeats 4000000
abbrev w13 : Xs := ⟨[1, 3], [], []⟩
abbrev w123 : Xs := ⟨[1, 2, 3], [], []⟩
theorem ok_ad {l : List Int} (h : ∀ a ∈ l, U a) : Xs.ok ⟨l, [], []⟩ := ⟨h, (fun s hs => by cases hs), fun p hp => by cases hp⟩
theorem wakes_fn : Fn Try.prog 9 [] [] (vb true) [] := by
  have g1 : Fn Try.prog 10 [.c (.sl true 1 3 [.v (.int .u64 3), .v (.int .u64 1), .v (.int .u64 3)])] [] (res2 (w13, 0)) [] := by
    obtain ⟨r, h1, h2, h3, so⟩ := new_fn true [3, 1, 3] (by decide) (by intro a ha; simp at ha; unfold U; omega)
    have e : r = [1, 3] := rise_eq h1 (by decide) fun x => by rw [h2]; simp; omega
    rw [e] at so
    exact so
  have o1 : w13.ok := ok_ad (by intro a ha; simp at ha; unfold U; omega)
  have o2 : w123.ok := ok_ad (by intro a ha; simp at ha; unfold U; omega)
  have f1 : w13.few := by unfold Xs.few; decide
  have f2 : w123.few := by unfold Xs.few; decide
  have g2 := touch_fn w13 o1 f1 2
  rw [show touchL w13 2 = (w123, true, 0) by decide] at g2
  have g3 := touch_fn w123 o2 f2 2
  rw [show touchL w123 2 = (w123, false, 0) by decide] at g3
  have g4 := warm_fn w123 o2 f2 2
  rw [show (okXs w123 && decide (2 ∈ w123.ad)) = true by decide] at g4
  have g5 := warm_fn w13 o1 f1 2
  rw [show (okXs w13 && decide (2 ∈ w13.ad)) = false by decide] at g5
  have e1 : ((w123.ad.length : Int) == 3) = true := rfl
  have e2 : ((w13.ad.length : Int) == 2) = true := rfl
  generalize w13 = a1 at g1 g2 g5 e2
  generalize w123 = a2 at g2 g3 g4 e1
  obtain ⟨A1, S1, P1⟩ := a1
  obtain ⟨A2, S2, P2⟩ := a2
  dsimp only at *
  (refine fn_of Try.func9 rfl (by rfl) ?_; simp only [Try.ntmps9, List.length_cons, List.length_nil, Nat.reduceAdd, Nat.reduceSub, List.replicate, List.cons_append, List.nil_append])
  (repeat (any_goals (first | ((with_reducible refine evL_op ?_ ?_); rfl; intro K hK; apply opA_buildSlice_flat; rfl; rfl; (focus (simp only [go_sem]; try rfl)); (focus (simp only [go_sem]; try rfl)); rfl; (first | omega | (dsimp only; omega) | (simp only [Option.isSome_some, Option.isSome_none]; omega) | (simp; omega) | (focus (simp; done))); (first | omega | (dsimp only; omega) | (simp only [Option.isSome_some, Option.isSome_none]; omega) | (simp; omega) | (focus (simp; done))); (first | omega | (dsimp only; omega) | (simp only [Option.isSome_some, Option.isSome_none]; omega) | (simp; omega) | (focus (simp; done))); (simp only [go_sem, e1, e2]; rfl); rfl; (focus ((simp only [unC, Option.map_some]); (try rfl))); (simp only [go_sem, e1, e2]; (with_reducible refine hK _ ?_); clear hK K)) | ((with_reducible refine evL_call ?_ ?_ ?_); rfl; rfl; intro K hK; (first | ((apply opA_callB (g1); rfl; rfl; rfl; rfl; exact Try.func10); kernel_rfl; rfl; (simp only [go_sem, e1, e2]; rfl); (simp only [AV.inNL, AV.inN, inNL_map, Bool.and_true])) | ((apply opA_callB (g2); rfl; rfl; rfl; rfl; exact Try.func15); kernel_rfl; rfl; (simp only [go_sem, e1, e2]; rfl); (simp only [AV.inNL, AV.inN, inNL_map, Bool.and_true])) | ((apply opA_callB (g3); rfl; rfl; rfl; rfl; exact Try.func15); kernel_rfl; rfl; (simp only [go_sem, e1, e2]; rfl); (simp only [AV.inNL, AV.inN, inNL_map, Bool.and_true])) | ((apply opA_callB (g4); rfl; rfl; rfl; rfl; exact Try.func17); kernel_rfl; rfl; (simp only [go_sem, e1, e2]; rfl); (simp only [AV.inNL, AV.inN, inNL_map, Bool.and_true])) | ((apply opA_callB (g5); rfl; rfl; rfl; rfl; exact Try.func17); kernel_rfl; rfl; (simp only [go_sem, e1, e2]; rfl); (simp only [AV.inNL, AV.inN, inNL_map, Bool.and_true]))); (simp only [go_sem, e1, e2, go_sem]; (with_reducible refine hK _ ?_); clear hK K)) | ((with_reducible refine evL_one ?_ ?_); rfl; intro K hK; simp only [go_sem, e1, e2, go_sem]; ((repeat (refine And.intro (by first | assumption | omega | rfl) ?_)); (with_reducible refine hK _ ?_); clear hK K)) | ((with_reducible refine evL_nil ?_); (with_reducible refine hR _ ?_); clear hR R) | ((with_reducible first | refine evC_seq ?_ | refine evC_block ?_); intro Ψ hΨ hΨ') | ((with_reducible refine evC_region ?_); intro R hR) | ((with_reducible refine hΨ _ ?_); clear hΨ hΨ' Ψ) | ((with_reducible refine hΨ' _ _ ?_ ?_); (focus (first | ((intro hx; cases hx); done) | ((intro j hj; cases hj); done) | (intro j hj; cases hj; (decide); done))); clear hΨ hΨ' Ψ) | (with_reducible first | refine evC_skip ?_ | refine evC_ret ?_ | refine evC_exit ?_) | ((with_reducible apply evL_unmet); rfl; rfl; rfl; (try simp only [go_sem, e1, e2, go_sem])) | ((with_reducible apply evL_grd); rfl; rfl; rfl; all_goals (intro hb; first | (exact absurd hb (by decide)) | ((try simp only [Bool.not_true, Bool.not_false] at hb); (first | ((with_reducible intro K hK); (first | ((apply opA_callB (g4); rfl; rfl; rfl; rfl; exact Try.func17); kernel_rfl; rfl; (simp only [go_sem, e1, e2]; rfl); (simp only [AV.inNL, AV.inN, inNL_map, Bool.and_true])) | ((apply opA_callB (g5); rfl; rfl; rfl; rfl; exact Try.func17); kernel_rfl; rfl; (simp only [go_sem, e1, e2]; rfl); (simp only [AV.inNL, AV.inN, inNL_map, Bool.and_true])) | skip); simp only [go_sem, e1, e2, go_sem]; ((repeat (refine And.intro (by first | assumption | omega | rfl) ?_)); (with_reducible refine hK _ ?_); clear hK K)) | ((fail_if_success (with_reducible intro _)); simp only [go_sem, e1, e2, go_sem]))))) | ((with_reducible apply evC_cond); rfl; rfl; all_goals (intro hc; first | (exact absurd hc (by decide)) | (try simp only at hc))))))
  all_goals (refine ⟨by simp, ⟨_, ?_, AV.le_refl _⟩, leH_get (by simp [leH, hget])⟩; simp only [Try.results9, resL, ldA, oneOf, go_sem])
theorem few_over {x : Xs} (h : overX x = false) : x.few := by
  unfold overX at h
  rw [Bool.or_eq_false_iff, Bool.or_eq_false_iff] at h
  obtain ⟨h1, h2, h3⟩ := h
  have h1 := of_decide_eq_false h1
  have h2 := of_decide_eq_false h2
  have h3 := of_decide_eq_false h3
  exact ⟨by omega, by omega, by omega⟩
def Dd.pv (d : Dd) : List PV := [.v (.int .i64 d.kind), .v (.int .u64 d.s.a), .v (.int .u64 (l0 d.s.k)), .v (.int .u64 (l1 d.s.k)), .v (.int .u64 (l2 d.s.k)), .v (.int .u64 (l3 d.s.k)), .v (.int .u64 (l0 d.v)), .v (.int .u64 (l1 d.v)), .v (.int .u64 (l2 d.v)), .v (.int .u64 (l3 d.v))]
theorem dd_len (d : Dd) : d.pv.length = 10 := rfl
abbrev ddl (ex : Bool) (l : List Dd) : AV := .c (.sl ex 10 l.length (l.flatMap Dd.pv))
theorem ddl_at {l : List Dd} {i : Nat} {y : Dd} (h : l[i]? = some y) : ((l.flatMap Dd.pv).drop (i * 10)).take 10 = [.v (.int .i64 y.kind), .v (.int .u64 y.s.a), .v (.int .u64 (l0 y.s.k)), .v (.int .u64 (l1 y.s.k)), .v (.int .u64 (l2 y.s.k)), .v (.int .u64 (l3 y.s.k)), .v (.int .u64 (l0 y.v)), .v (.int .u64 (l1 y.v)), .v (.int .u64 (l2 y.v)), .v (.int .u64 (l3 y.v))] := flat_at (f := Dd.pv) dd_len h
abbrev spL (s : Sp) : List AV := [vi .u64 s.a, vi .u64 (l0 s.k), vi .u64 (l1 s.k), vi .u64 (l2 s.k), vi .u64 (l3 s.k)]
end Go.Proofs.Ytmlalhmljmajbaa

