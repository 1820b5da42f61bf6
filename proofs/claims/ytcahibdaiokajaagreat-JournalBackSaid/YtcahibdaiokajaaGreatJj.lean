/-
  Steps; taken back to a mark it is as it was: the plain law.
-/
import Derived.Test.YtcahibdaiokajaaGreatJf
import Derived.Test.YtcahibdaiokajaaGreatGe
import Derived.Test.YtcahibdaiokajaaGreatAvI
import Derived.Shelf.SlSortCmp.NoneTotal
import Derived.Test.YtcahibdaiokajaaGreatJa
import Derived.Test.YtcahibdaiokajaaGreatSe
import Derived.MapKept
import Derived.WideKeyMaps
import Derived.Test.YtcahibdaiokajaaGreatAvW
set_option linter.unusedSimpArgs false
set_option linter.unusedVariables false
namespace Go.Proofs.YtcahibdaiokajaaGreat
open Go.RowKit
open Nat (reduceBEq)
set_option maxRecDepth 20000
set_option maxHeartbeats 4000000
theorem world_row (w : Wl) (hw : w.raw) : Fn Tryz.prog 7 [wlA w] [] (.agg [.row 9 69 8 (cutW w).S.length, .c (hdV (cutW w).L), .c (noV (cutW w).N)]) [(9, rcS (cutW w).S)] := by
  obtain ⟨S, L, N⟩ := w
  obtain ⟨⟨hs, os⟩, ⟨hl, ol⟩, ⟨hn, on'⟩⟩ := hw
  dsimp only at hs os hl ol hn on'
  have s8 : S.length < 9223372036854775808 := Nat.lt_succ_of_le hs
  have l8 : L.length < 9223372036854775808 := Nat.lt_succ_of_le hl
  have n8 : N.length < 9223372036854775808 := Nat.lt_succ_of_le hn
  have c1 := cloneA_fn false (S.take 45) (by rw [List.length_take]; omega)
  have c4 := cloneHv false (L.take 40) (by rw [List.length_take]; omega)
  have c5 := cloneNv false (N.take 70) (by rw [List.length_take]; omega)
  have e1 : (if (45 : Int) < (S.length : Int) then (45 : Int) else (S.length : Int)) = ((min S.length 45 : Nat) : Int) := min_if S.length 45
  have e2 : (S.flatMap Ac.pv).take (min S.length 45 * 8) = (S.take 45).flatMap Ac.pv := by rw [flat_take ac_len, take_min]
  have e3 : (S.take 45).length = min S.length 45 := by rw [List.length_take, Nat.min_comm]
  have e4 : (if (40 : Int) < (L.length : Int) then (40 : Int) else (L.length : Int)) = ((min L.length 40 : Nat) : Int) := min_if L.length 40
  have e5 : (L.flatMap lg.Hd.pv).take (min L.length 40 * 11) = (L.take 40).flatMap lg.Hd.pv := by rw [flat_take lg.hd_len, take_min]
  have e6 : (L.take 40).length = min L.length 40 := by rw [List.length_take, Nat.min_comm]
  have e7 : (if (70 : Int) < (N.length : Int) then (70 : Int) else (N.length : Int)) = ((min N.length 70 : Nat) : Int) := min_if N.length 70
  have e8 : (N.flatMap nz.N6.pv).take (min N.length 70 * 6) = (N.take 70).flatMap nz.N6.pv := by rw [flat_take nz.pv_len, take_min]
  have e9 : (N.take 70).length = min N.length 70 := by rw [List.length_take, Nat.min_comm]
  have os' : ∀ x ∈ S.take 45, x.ok := fun x hx => os x (List.mem_of_mem_take hx)
  show Fn Tryz.prog 7 [wlA ⟨S, L, N⟩] [] (.agg [.row 9 69 8 ((S.take 45).map cutA).length, .c (hdV (L.take 40)), .c (noV (N.take 70))]) [(9, rcS ((S.take 45).map cutA))]
  have h45 : (S.take 45).length ≤ 45 := by rw [List.length_take]; omega
  unfold acS at c1
  rw [e3] at c1
  unfold hdV at c4
  rw [e6] at c4
  unfold noV at c5
  rw [e9] at c5
  have m1 : ((S.take 45).map cutA).length = min S.length 45 := by rw [List.length_map, e3]
  unfold hdV noV
  rw [m1, e6, e9]
  rw [← e3] at e1 e2 c1 m1 ⊢
  generalize S.take 45 = M at *
  have f1 : ∀ d, AV.refsL d (rcS M) = false := fun d => refsL_map d _
  have f2 : ∀ r, AV.renL r (rcS M) = rcS M := fun r => renL_map r _
  have f3 : ∀ r, AV.inNL r (rcS M) = true := fun r => inNL_map r _
  have f4 := rcS_len M
  (refine fn_of Tryz.func7 rfl (by rfl) ?_; simp only [Tryz.ntmps7, List.length_cons, List.length_nil, Nat.reduceAdd, Nat.reduceSub, List.replicate, List.cons_append, List.nil_append])
  (have W := ndI e1 (ndI e2 (ndI f1 (ndI f2 (ndI f3 f4)))); (repeat (any_goals (first | ((with_reducible refine evL_call ?_ ?_ ?_); rfl; rfl; intro K hK; (apply opA_callR (c1) (fun r => 9); rfl; rfl; rfl; rfl; exact Tryz.func22; kernel_rfl; rfl; rfl; (intro r hr q hq h; simp (disch := omega) only [List.map_cons, List.map_nil, List.cons_append, List.nil_append, List.mem_cons, List.not_mem_nil, or_false] at hr hq; (try dsimp only at h); first | omega | (rcases hr with rfl | rfl | rfl <;> rcases hq with rfl | rfl | rfl <;> simp at h ⊢) | (rcases hr with rfl | rfl <;> rcases hq with rfl | rfl <;> simp at h ⊢) | ((repeat' split at h) <;> omega)); (simp (disch := omega) only [argsOk, argOk, AV.ren, AV.renL, renL_map, List.mem_cons, List.not_mem_nil, forall_eq_or_imp, forall_eq, newOk, List.contains_cons, List.contains_nil, AV.refsL, AV.refs, refsL_map, AV.inN, AV.inNL, inH, inNL_map, go_sem, W, Bool.false_and])); (simp (disch := omega) only [hputs, hdels, renH, AV.ren, AV.renL, renL_map, go_sem, W, Bool.false_and]; refine hK _ ?_; clear hK K)) | ((with_reducible refine evL_one ?_ ?_); rfl; intro K hK; simp (disch := omega) only [go_sem, W, Bool.false_and]; ((repeat (refine ndI (by first | assumption | omega | rfl) ?_)); refine hK _ ?_; clear hK K)) | ((with_reducible refine evL_one ?_ ?_); rfl; intro K hK; simp (disch := omega) only [go_sem, W, Bool.false_and]; apply opA_cut_nil; rfl; rfl; rfl; rfl; (focus (simp (disch := omega) only [go_sem]; try rfl)); rfl; (simp (disch := omega) only [go_sem, W, Bool.false_and]; (with_reducible refine hK _ ?_); clear hK K)) | ((with_reducible refine evL_one ?_ ?_); rfl; intro K hK; (try simp (disch := omega) only [go_sem, W, Bool.false_and]); (repeat (refine ndI (by first | assumption | omega | rfl) ?_)); refine opA_slice_row rfl rfl rfl rfl rfl ?_ rfl rfl rfl rfl ?_ ?_ ?_; (focus (simp only [go_sem]; try rfl)); (intro h; first | rfl | cases h); (first | omega | (dsimp only; omega) | (simp (disch := omega) only [Option.isSome_some, Option.isSome_none]; omega) | (simp; omega) | (focus (simp; done))); (intro q hq1 hq2; (simp (disch := omega) only [go_sem, W, Bool.false_and]; refine hK _ ?_; clear hK K))) | ((with_reducible refine evL_one ?_ ?_); rfl; intro K hK; (try simp (disch := omega) only [go_sem, W, Bool.false_and]); (repeat (refine ndI (by first | assumption | omega | rfl) ?_)); refine opA_slice_cut rfl rfl rfl rfl rfl ?_ rfl rfl rfl rfl ?_ ?_ ?_; (focus (simp only [go_sem]; try rfl)); (intro h; first | rfl | cases h); (first | omega | (dsimp only; omega) | (simp (disch := omega) only [Option.isSome_some, Option.isSome_none]; omega) | (simp; omega) | (focus (simp; done))); (simp (disch := omega) only [go_sem, W, Bool.false_and]; refine hK _ ?_; clear hK K)) | ((with_reducible refine evL_one ?_ ?_); rfl; intro K hK; (try simp (disch := omega) only [go_sem, W, Bool.false_and]); (repeat (refine ndI (by first | assumption | omega | rfl) ?_)); refine opA_index_cut rfl rfl rfl rfl rfl ?_ ?_ ?_; (focus (simp only [go_sem]; try rfl)); (first | omega | (dsimp only; omega) | (simp (disch := omega) only [Option.isSome_some, Option.isSome_none]; omega) | (simp; omega) | (focus (simp; done))); (simp (disch := omega) only [go_sem, W, Bool.false_and]; refine hK _ ?_; clear hK K)) | (with_reducible first | (refine evL_nil ?_; refine hR _ ?_; clear hR R) | ((first | refine evC_seq ?_ | refine evC_block ?_); intro Ψ hΨ hΨ') | (refine evC_region ?_; intro R hR) | (refine hΨ _ ?_; clear hΨ hΨ' Ψ) | refine evC_skip ?_ | refine evC_ret ?_ | refine evC_exit ?_) | ((with_reducible refine hΨ' _ _ ?_ ?_); (focus (simp; done)); clear hΨ hΨ' Ψ) | ((with_reducible apply evC_cond); rfl; rfl; all_goals (intro hc; first | (cases hc; done) | (try simp only at hc))) | ((with_reducible refine evD_nil ?_ ?_); kernel_rfl; (with_reducible refine hR _ ?_); clear hR R) | ((first | ((with_reducible apply evD_any); rfl; rfl; (simp (disch := omega) only [rdE, rdOf, go_sem, W, Bool.false_and]; rfl); (intro τ hA hQ hN; ((try simp only [agree, Op.operands, Call.operands, go_sem, W, Bool.false_and, go_sem, List.mem_cons, List.not_mem_nil, forall_eq_or_imp, forall_eq, List.append_toArray, Option.toArray] at hA); (try simp only [go_sem, W, Bool.false_and, List.mem_cons, List.not_mem_nil, forall_eq_or_imp, forall_eq] at hQ hN); (first | (revert hA; intro hA) | have hA := trivial); (first | (revert hQ; intro hQ) | have hQ := trivial); (first | (revert hN; intro hN) | have hN := trivial); simp (disch := omega) only [go_sem, W, Bool.false_and, go_sem, hA, hQ, hN]; (repeat (refine ndI (by first | assumption | omega | rfl) ?_)); (first | apply eff_rd | apply eff_st | apply eff_nw)))) | ((first | ((with_reducible apply evD_one); rfl) | ((with_reducible apply evD_grd); rfl; rfl; rfl; rfl)); apply opF_slice_cut; rfl; rfl; rfl; rfl; rfl; (focus (simp only [go_sem]; try rfl)); rfl; rfl; rfl; rfl; (intro h; first | rfl | cases h); (first | omega | (dsimp only; omega) | (simp (disch := omega) only [Option.isSome_some, Option.isSome_none]; omega) | (simp; omega) | (focus (simp; done))))); (simp (disch := omega) only [St.eff, setO, hputs, go_sem, W, Bool.false_and])) | ((with_reducible refine evC_draw ?_ ?_ ?_ ?_); kernel_rfl; kernel_rfl; (first | kernel_rfl | simp [newNames, isNew, St.free, freeH, AV.refsL, AV.refs]); intro R hR)))))
  have rr : ∀ (A B : List Ac) (d : Nat), AV.refsL d (rcS (A ++ B)) = false := fun A B d => refsL_map d _
  refine evC_upto M.length (fun i => ⟨[wlA ⟨S, L, N⟩, .ptr 1 0, .ptr 2 0, .any, .any, .any, .any, .any, .any, .any, .any, .any, .any, .any, .any, .any, .any, .any, .any, .any, vi .i64 M.length, vi .i64 (i : Int), .any, .any, .any, .any, .any, .any, .any, .any, .any, .any, .any, .any, .any, .any, .any, .any, .any, .any, .any, .any, .any, .any, .any, .any, .any, .any, .any, .any, .any, .any, .any, .any, .any, .any, .any, .any, .any, .any, .any, .any, .any, .any, .any, .any, .any, .any, .any, .any, .any, .any, .any, .any, .any, .any, .any, .any, .any, .any, .any, .any], [(1, [.row 9 69 8 M.length, .c (hdV L), .c (noV N)]), (2, [.c (.v (.slice none 0 0)), .c (.v (.slice none 0 0)), .c (.v (.slice none 0 0))]), (9, rcS ((M.take i).map cutA ++ M.drop i))]⟩) (St.le_of (by simp [leT]) (by simp [leH, hget])) ?_
  intro i hi Ψ hΨ hΨ'
  (try dsimp only at hΨ ⊢)
  have k8 : M.length < 9223372036854775808 := by omega
  rcases Nat.lt_or_ge i M.length with hlt | hge
  · obtain ⟨y, hy⟩ : ∃ x, M[i]? = some x := ⟨_, List.getElem?_eq_getElem hlt⟩
    have k1 : (decide ((i : Int) < (M.length : Int))) = true := decide_eq_true (by omega)
    have k7 : (i : Int) + 1 = ((i + 1 : Nat) : Int) := by omega
    have hA : ((M.take i).map cutA).length = i := by rw [List.length_map, List.length_take]; omega
    have d1 : M.drop i = y :: M.drop (i + 1) := by
      rw [List.drop_eq_getElem_cons hlt]
      congr 1
      exact (List.getElem?_eq_some_iff.1 hy).2
    have d2 : (M.take (i + 1)).map cutA ++ M.drop (i + 1) = (M.take i).map cutA ++ cutA y :: M.drop (i + 1) := by
      rw [List.take_add_one, hy, List.map_append]; simp
    rw [d2] at hΨ
    rw [d1]
    have yo := os' y (List.mem_of_getElem? hy)
    have y8 : y.code.length < 9223372036854775808 := Nat.lt_succ_of_le yo.2.2.2.1.1
    have z8 : y.store.length < 9223372036854775808 := Nat.lt_succ_of_le yo.2.2.2.2.1
    have b1 := cloneBv false (y.code.take 300) (by rw [List.length_take]; omega)
    have b2 := clonePv false (y.store.take 40) (by rw [List.length_take]; omega)
    have g1 : (if (300 : Int) < (y.code.length : Int) then (300 : Int) else (y.code.length : Int)) = ((min y.code.length 300 : Nat) : Int) := min_if y.code.length 300
    have g2 : (y.code.flatMap bpv).take (min y.code.length 300) = (y.code.take 300).flatMap bpv := by
      have := flat_take (f := bpv) bpv_len y.code (min y.code.length 300)
      rw [Nat.mul_one] at this
      rw [this, take_min]
    have g3 : (y.code.take 300).length = min y.code.length 300 := by rw [List.length_take, Nat.min_comm]
    have g4 : (if (40 : Int) < (y.store.length : Int) then (40 : Int) else (y.store.length : Int)) = ((min y.store.length 40 : Nat) : Int) := min_if y.store.length 40
    have g5 : (y.store.flatMap Pr.pv).take (min y.store.length 40 * 8) = (y.store.take 40).flatMap Pr.pv := by rw [flat_take pr_len, take_min]
    have g6 : (y.store.take 40).length = min y.store.length 40 := by rw [List.length_take, Nat.min_comm]
    generalize (M.take i).map cutA = A at hA hΨ ⊢
    generalize M.drop (i + 1) = B at hΨ ⊢
    obtain ⟨u1, u2⟩ := acell (B := B) (y := y) hA
    have u3 := spl_code (B := B) (y := y) hA (y.code.take 300)
    have u4 := spl_store (B := B) (y := ⟨y.a, y.b, y.n, y.code.take 300, y.store⟩) hA (y.store.take 40)
    have u5 := rcS_len (A ++ y :: B)
    have u6 := rcS_len (A ++ ⟨y.a, y.b, y.n, y.code.take 300, y.store⟩ :: B)
    have v1 : i * 8 + 8 ≤ (rcS (A ++ y :: B)).length := by rw [u5, List.length_append, List.length_cons]; omega
    have v2 : i * 8 + 8 ≤ (rcS (A ++ ⟨y.a, y.b, y.n, y.code.take 300, y.store⟩ :: B)).length := by rw [u6, List.length_append, List.length_cons]; omega
    unfold bsV at b1 u3
    unfold psV at b2 u4
    rw [g3] at b1 u3
    rw [g6] at b2 u4
    have q1 := rr A (y :: B)
    have q2 := rr A (⟨y.a, y.b, y.n, y.code.take 300, y.store⟩ :: B)
    have q3 := rr A (⟨y.a, y.b, y.n, y.code.take 300, y.store.take 40⟩ :: B)
    (have W := ndI k1 (ndI k7 (ndI g1 (ndI g2 (ndI g4 (ndI g5 (ndI u1 (ndI u2 (ndI u3 (ndI u4 (ndI q1 (ndI q2 (ndI q3 @wrI)))))))))))); (repeat (any_goals (first | ((with_reducible refine evL_one ?_ ?_); rfl; intro K hK; simp (disch := omega) only [go_sem, W, Bool.false_and, Nat.mul_one]; ((repeat (refine ndI (by first | assumption | omega | rfl) ?_)); refine hK _ ?_; clear hK K)) | ((with_reducible refine evL_one ?_ ?_); rfl; intro K hK; simp (disch := omega) only [go_sem, W, Bool.false_and, Nat.mul_one]; apply opA_cut_nil; rfl; rfl; rfl; rfl; (focus (simp (disch := omega) only [go_sem]; try rfl)); rfl; (simp (disch := omega) only [go_sem, W, Bool.false_and, Nat.mul_one]; (with_reducible refine hK _ ?_); clear hK K)) | ((with_reducible refine evL_one ?_ ?_); rfl; intro K hK; (try simp (disch := omega) only [go_sem, W, Bool.false_and, Nat.mul_one]); (repeat (refine ndI (by first | assumption | omega | rfl) ?_)); refine opA_slice_row rfl rfl rfl rfl rfl ?_ rfl rfl rfl rfl ?_ ?_ ?_; (focus (simp only [go_sem]; try rfl)); (intro h; first | rfl | cases h); (first | omega | (dsimp only; omega) | (simp (disch := omega) only [Option.isSome_some, Option.isSome_none]; omega) | (simp; omega) | (focus (simp; done))); (intro q hq1 hq2; (simp (disch := omega) only [go_sem, W, Bool.false_and, Nat.mul_one]; refine hK _ ?_; clear hK K))) | ((with_reducible refine evL_one ?_ ?_); rfl; intro K hK; (try simp (disch := omega) only [go_sem, W, Bool.false_and, Nat.mul_one]); (repeat (refine ndI (by first | assumption | omega | rfl) ?_)); refine opA_slice_cut rfl rfl rfl rfl rfl ?_ rfl rfl rfl rfl ?_ ?_ ?_; (focus (simp only [go_sem]; try rfl)); (intro h; first | rfl | cases h); (first | omega | (dsimp only; omega) | (simp (disch := omega) only [Option.isSome_some, Option.isSome_none]; omega) | (simp; omega) | (focus (simp; done))); (simp (disch := omega) only [go_sem, W, Bool.false_and, Nat.mul_one]; refine hK _ ?_; clear hK K)) | ((with_reducible refine evL_one ?_ ?_); rfl; intro K hK; (try simp (disch := omega) only [go_sem, W, Bool.false_and, Nat.mul_one]); (repeat (refine ndI (by first | assumption | omega | rfl) ?_)); refine opA_index_cut rfl rfl rfl rfl rfl ?_ ?_ ?_; (focus (simp only [go_sem]; try rfl)); (first | omega | (dsimp only; omega) | (simp (disch := omega) only [Option.isSome_some, Option.isSome_none]; omega) | (simp; omega) | (focus (simp; done))); (simp (disch := omega) only [go_sem, W, Bool.false_and, Nat.mul_one]; refine hK _ ?_; clear hK K)) | (with_reducible first | (refine evL_nil ?_; refine hR _ ?_; clear hR R) | ((first | refine evC_seq ?_ | refine evC_block ?_); intro Ψ hΨ hΨ') | (refine evC_region ?_; intro R hR) | (refine hΨ _ ?_; clear hΨ hΨ' Ψ) | refine evC_skip ?_ | refine evC_ret ?_ | refine evC_exit ?_) | ((with_reducible refine hΨ' _ _ ?_ ?_); (focus (simp; done)); clear hΨ hΨ' Ψ) | ((with_reducible apply evC_cond); rfl; rfl; all_goals (intro hc; first | (cases hc; done) | (try simp only at hc))) | ((with_reducible refine evD_nil ?_ ?_); (apply drawOK_sim); (focus (repeat (first | exact Sims.nil | ((apply Sims.cons); (focus (first | ((apply Ef.sim_row); assumption) | exact Ef.sim_refl _)))))); kernel_rfl; (with_reducible refine hR _ ?_); clear hR R) | ((first | ((with_reducible apply evD_fcall); rfl; rfl; ((first | (apply opF_callB (b1); rfl; rfl; rfl; rfl; exact Tryz.func23) | (apply opF_callB (b2); rfl; rfl; rfl; rfl; exact Tryz.func24)); kernel_rfl; rfl; (simp (disch := omega) only [go_sem, W, Bool.false_and, Nat.mul_one]; rfl); (first | rfl | simp [AV.inNL, AV.inN]))) | ((with_reducible apply evD_any); rfl; rfl; (simp (disch := omega) only [rdE, rdOf, go_sem, W, Bool.false_and, Nat.mul_one]; rfl); (intro τ hA hQ hN; ((try simp only [agree, Op.operands, Call.operands, go_sem, W, Bool.false_and, Nat.mul_one, go_sem, List.mem_cons, List.not_mem_nil, forall_eq_or_imp, forall_eq, List.append_toArray, Option.toArray] at hA); (try simp only [go_sem, W, Bool.false_and, Nat.mul_one, List.mem_cons, List.not_mem_nil, forall_eq_or_imp, forall_eq] at hQ hN); (first | (revert hA; intro hA) | have hA := trivial); (first | (revert hQ; intro hQ) | have hQ := trivial); (first | (revert hN; intro hN) | have hN := trivial); simp (disch := omega) only [go_sem, W, Bool.false_and, Nat.mul_one, go_sem, hA, hQ, hN]; (repeat (refine ndI (by first | assumption | omega | rfl) ?_)); (first | apply eff_rd | apply eff_st | apply eff_nw)))) | ((first | ((with_reducible apply evD_one); rfl) | ((with_reducible apply evD_grd); rfl; rfl; rfl; rfl)); apply opF_slice_cut; rfl; rfl; rfl; rfl; rfl; (focus (simp only [go_sem]; try rfl)); rfl; rfl; rfl; rfl; (intro h; first | rfl | cases h); (first | omega | (dsimp only; omega) | (simp (disch := omega) only [Option.isSome_some, Option.isSome_none]; omega) | (simp; omega) | (focus (simp; done))))); (simp (disch := omega) only [St.eff, setO, hputs, go_sem, W, Bool.false_and, Nat.mul_one])) | ((with_reducible refine evC_draw ?_ ?_ ?_ ?_); kernel_rfl; kernel_rfl; (simp [newNames, isNew, St.free, freeH, AV.refsL, AV.refs, q1]); intro R hR)))))
    all_goals exact hΨ _ hlt (St.le_of (by simp [leT]) (by simp [leH, hget, cutA]))
  · have k1 : (decide ((i : Int) < (M.length : Int))) = false := decide_eq_false (by omega)
    rw [List.take_of_length_le hge, List.drop_eq_nil_of_le hge, List.append_nil]
    have f5 : ∀ d, AV.refsL d (rcS (M.map cutA)) = false := fun d => refsL_map d _
    (have W := ndI k1 (ndI e4 (ndI e5 (ndI e7 (ndI e8 f5)))); (repeat (any_goals (first | ((with_reducible refine evL_call ?_ ?_ ?_); rfl; rfl; intro K hK; ((first | (apply opA_callB (c4); rfl; rfl; rfl; rfl; exact Tryz.func25) | (apply opA_callB (c5); rfl; rfl; rfl; rfl; exact Tryz.func26)); kernel_rfl; rfl; (simp (disch := omega) only [go_sem, W, Bool.false_and]; rfl); (first | rfl | simp [AV.inNL, AV.inN])); (simp (disch := omega) only [go_sem, W, Bool.false_and]; refine hK _ ?_; clear hK K)) | ((with_reducible refine evL_one ?_ ?_); rfl; intro K hK; simp (disch := omega) only [go_sem, W, Bool.false_and]; ((repeat (refine ndI (by first | assumption | omega | rfl) ?_)); refine hK _ ?_; clear hK K)) | ((with_reducible refine evL_one ?_ ?_); rfl; intro K hK; simp (disch := omega) only [go_sem, W, Bool.false_and]; apply opA_cut_nil; rfl; rfl; rfl; rfl; (focus (simp (disch := omega) only [go_sem]; try rfl)); rfl; (simp (disch := omega) only [go_sem, W, Bool.false_and]; (with_reducible refine hK _ ?_); clear hK K)) | ((with_reducible refine evL_one ?_ ?_); rfl; intro K hK; (try simp (disch := omega) only [go_sem, W, Bool.false_and]); (repeat (refine ndI (by first | assumption | omega | rfl) ?_)); refine opA_slice_row rfl rfl rfl rfl rfl ?_ rfl rfl rfl rfl ?_ ?_ ?_; (focus (simp only [go_sem]; try rfl)); (intro h; first | rfl | cases h); (first | omega | (dsimp only; omega) | (simp (disch := omega) only [Option.isSome_some, Option.isSome_none]; omega) | (simp; omega) | (focus (simp; done))); (intro q hq1 hq2; (simp (disch := omega) only [go_sem, W, Bool.false_and]; refine hK _ ?_; clear hK K))) | ((with_reducible refine evL_one ?_ ?_); rfl; intro K hK; (try simp (disch := omega) only [go_sem, W, Bool.false_and]); (repeat (refine ndI (by first | assumption | omega | rfl) ?_)); refine opA_slice_cut rfl rfl rfl rfl rfl ?_ rfl rfl rfl rfl ?_ ?_ ?_; (focus (simp only [go_sem]; try rfl)); (intro h; first | rfl | cases h); (first | omega | (dsimp only; omega) | (simp (disch := omega) only [Option.isSome_some, Option.isSome_none]; omega) | (simp; omega) | (focus (simp; done))); (simp (disch := omega) only [go_sem, W, Bool.false_and]; refine hK _ ?_; clear hK K)) | ((with_reducible refine evL_one ?_ ?_); rfl; intro K hK; (try simp (disch := omega) only [go_sem, W, Bool.false_and]); (repeat (refine ndI (by first | assumption | omega | rfl) ?_)); refine opA_index_cut rfl rfl rfl rfl rfl ?_ ?_ ?_; (focus (simp only [go_sem]; try rfl)); (first | omega | (dsimp only; omega) | (simp (disch := omega) only [Option.isSome_some, Option.isSome_none]; omega) | (simp; omega) | (focus (simp; done))); (simp (disch := omega) only [go_sem, W, Bool.false_and]; refine hK _ ?_; clear hK K)) | (with_reducible first | (refine evL_nil ?_; refine hR _ ?_; clear hR R) | ((first | refine evC_seq ?_ | refine evC_block ?_); intro Ψ hΨ hΨ') | (refine evC_region ?_; intro R hR) | (refine hΨ _ ?_; clear hΨ hΨ' Ψ) | refine evC_skip ?_ | refine evC_ret ?_ | refine evC_exit ?_) | ((with_reducible refine hΨ' _ _ ?_ ?_); (focus (simp; done)); clear hΨ hΨ' Ψ) | ((with_reducible apply evC_cond); rfl; rfl; all_goals (intro hc; first | (cases hc; done) | (try simp only at hc))) | ((with_reducible refine evD_nil ?_ ?_); kernel_rfl; (with_reducible refine hR _ ?_); clear hR R) | ((first | ((with_reducible apply evD_any); rfl; rfl; (simp (disch := omega) only [rdE, rdOf, go_sem, W, Bool.false_and]; rfl); (intro τ hA hQ hN; ((try simp only [agree, Op.operands, Call.operands, go_sem, W, Bool.false_and, go_sem, List.mem_cons, List.not_mem_nil, forall_eq_or_imp, forall_eq, List.append_toArray, Option.toArray] at hA); (try simp only [go_sem, W, Bool.false_and, List.mem_cons, List.not_mem_nil, forall_eq_or_imp, forall_eq] at hQ hN); (first | (revert hA; intro hA) | have hA := trivial); (first | (revert hQ; intro hQ) | have hQ := trivial); (first | (revert hN; intro hN) | have hN := trivial); simp (disch := omega) only [go_sem, W, Bool.false_and, go_sem, hA, hQ, hN]; (repeat (refine ndI (by first | assumption | omega | rfl) ?_)); (first | apply eff_rd | apply eff_st | apply eff_nw)))) | ((first | ((with_reducible apply evD_one); rfl) | ((with_reducible apply evD_grd); rfl; rfl; rfl; rfl)); apply opF_slice_cut; rfl; rfl; rfl; rfl; rfl; (focus (simp only [go_sem]; try rfl)); rfl; rfl; rfl; rfl; (intro h; first | rfl | cases h); (first | omega | (dsimp only; omega) | (simp (disch := omega) only [Option.isSome_some, Option.isSome_none]; omega) | (simp; omega) | (focus (simp; done))))); (simp (disch := omega) only [St.eff, setO, hputs, go_sem, W, Bool.false_and])) | ((with_reducible refine evC_draw ?_ ?_ ?_ ?_); kernel_rfl; kernel_rfl; (first | kernel_rfl | simp [newNames, isNew, St.free, freeH, AV.refsL, AV.refs]); intro R hR)))))
    all_goals (refine ⟨by simp, ⟨_, ?_, AV.le_refl _⟩, leH_get (by simp [leH, hget])⟩; simp only [Tryz.results7, resL, ldA, oneOf, go_sem])
theorem world_fn (w : Wl) (hw : w.raw) : Fn Tryz.prog 7 [wlA w] [] (wlA (cutW w)) [] := by
  have k := (world_row w hw).frzN (d := 9) (pcs := (cutW w).S.flatMap Ac.pv) rfl
  have e1 : ((cutW w).S.flatMap Ac.pv).length = (cutW w).S.length * 8 := flat_length ac_len _
  simpa [-List.length_flatMap, e1, AV.frz, AV.frzL, frzH, acV, vi] using k
end Go.Proofs.YtcahibdaiokajaaGreat
namespace Go.Proofs.YtcahibdaiokajaaGreat
open Go.RowKit
open Nat (reduceBEq)
set_option maxRecDepth 20000
set_option maxHeartbeats 4000000
def cutX (x : ax.Xs) : ax.Xs := ⟨x.ad.take 402, x.sp.take 402, x.pg.take 402⟩
structure XRaw (x : ax.Xs) : Prop where
  ad : x.ad.length ≤ maxLen ∧ ∀ a ∈ x.ad, U a
  sp : x.sp.length ≤ maxLen ∧ ∀ s ∈ x.sp, s.ok
  pg : x.pg.length ≤ maxLen ∧ ∀ p ∈ x.pg, p.ok
theorem cutX_ok {x : ax.Xs} (h : XRaw x) : (cutX x).ok ∧ (cutX x).few := by
  refine ⟨⟨fun a ha => h.ad.2 a (List.mem_of_mem_take ha), fun a ha => h.sp.2 a (List.mem_of_mem_take ha), fun a ha => h.pg.2 a (List.mem_of_mem_take ha)⟩, ?_, ?_, ?_⟩
  · show (x.ad.take 402).length ≤ 700; rw [List.length_take]; omega
  · show (x.sp.take 402).length ≤ 700; rw [List.length_take]; omega
  · show (x.pg.take 402).length ≤ 700; rw [List.length_take]; omega
theorem touched_fn (x : ax.Xs) (hx : XRaw x) : Fn Tryz.prog 8 [xxA x] [] (xxA (cutX x)) [] := by
  obtain ⟨A, S, P⟩ := x
  obtain ⟨⟨ha, oa⟩, ⟨hs, os⟩, ⟨hp, op⟩⟩ := hx
  dsimp only at ha oa hs os hp op
  have a8 : A.length < 9223372036854775808 := Nat.lt_succ_of_le ha
  have s8 : S.length < 9223372036854775808 := Nat.lt_succ_of_le hs
  have p8 : P.length < 9223372036854775808 := Nat.lt_succ_of_le hp
  have c1 := ax.cloneA_val false (A.take 402) (by rw [List.length_take]; omega)
  have c2 := ax.cloneS_val false (S.take 402) (by rw [List.length_take]; omega)
  have c3 := ax.cloneP_val false (P.take 402) (by rw [List.length_take]; omega)
  have e1 : (if (402 : Int) < (A.length : Int) then (402 : Int) else (A.length : Int)) = ((min A.length 402 : Nat) : Int) := min_if A.length 402
  have e2 : (A.flatMap ax.apv).take (min A.length 402) = (A.take 402).flatMap ax.apv := by
    have := flat_take (f := ax.apv) ax.apv_len A (min A.length 402)
    rw [Nat.mul_one] at this
    rw [this, take_min]
  have e3 : (A.take 402).length = min A.length 402 := by rw [List.length_take, Nat.min_comm]
  have e4 : (if (402 : Int) < (S.length : Int) then (402 : Int) else (S.length : Int)) = ((min S.length 402 : Nat) : Int) := min_if S.length 402
  have e5 : (S.flatMap ax.Sp.pv).take (min S.length 402 * 5) = (S.take 402).flatMap ax.Sp.pv := by rw [flat_take (show ∀ s : ax.Sp, s.pv.length = 5 from fun _ => rfl), take_min]
  have e6 : (S.take 402).length = min S.length 402 := by rw [List.length_take, Nat.min_comm]
  have e7 : (if (402 : Int) < (P.length : Int) then (402 : Int) else (P.length : Int)) = ((min P.length 402 : Nat) : Int) := min_if P.length 402
  have e8 : (P.flatMap ax.Pg.pv).take (min P.length 402 * 9) = (P.take 402).flatMap ax.Pg.pv := by rw [flat_take (show ∀ s : ax.Pg, s.pv.length = 9 from fun _ => rfl), take_min]
  have e9 : (P.take 402).length = min P.length 402 := by rw [List.length_take, Nat.min_comm]
  unfold ax.asl at c1
  unfold ax.spl5 at c2
  unfold ax.pgl9 at c3
  rw [e3] at c1
  rw [e6] at c2
  rw [e9] at c3
  show Fn Tryz.prog 8 [xxA ⟨A, S, P⟩] [] (xxA ⟨A.take 402, S.take 402, P.take 402⟩) []
  unfold xxA adV spV pgV
  dsimp only
  rw [e3, e6, e9]
  (refine fn_of Tryz.func8 rfl (by rfl) ?_; simp only [Tryz.ntmps8, List.length_cons, List.length_nil, Nat.reduceAdd, Nat.reduceSub, List.replicate, List.cons_append, List.nil_append])
  (have W := ndI e1 (ndI e2 (ndI e4 (ndI e5 (ndI e7 e8)))); (repeat (any_goals (first | ((with_reducible refine evL_one ?_ ?_); rfl; intro K hK; simp (disch := omega) only [go_sem, W, Bool.false_and, Nat.mul_one]; ((repeat (refine ndI (by first | assumption | omega | rfl) ?_)); refine hK _ ?_; clear hK K)) | (with_reducible first | (refine evL_nil ?_; refine hR _ ?_; clear hR R) | ((first | refine evC_seq ?_ | refine evC_block ?_); intro Ψ hΨ hΨ') | (refine evC_region ?_; intro R hR) | (refine hΨ _ ?_; clear hΨ hΨ' Ψ) | refine evC_skip ?_ | refine evC_ret ?_ | refine evC_exit ?_) | ((with_reducible refine hΨ' _ _ ?_ ?_); (focus (simp; done)); clear hΨ hΨ' Ψ) | ((with_reducible apply evC_cond); rfl; rfl; all_goals (intro hc; first | (cases hc; done) | (try simp only at hc))) | ((with_reducible refine evD_nil ?_ ?_); kernel_rfl; (with_reducible refine hR _ ?_); clear hR R) | ((first | ((with_reducible apply evD_fcall); rfl; rfl; ((first | (apply opF_callB (c1); rfl; rfl; rfl; rfl; exact Tryz.func27) | (apply opF_callB (c2); rfl; rfl; rfl; rfl; exact Tryz.func28) | (apply opF_callB (c3); rfl; rfl; rfl; rfl; exact Tryz.func29)); kernel_rfl; rfl; (simp (disch := omega) only [go_sem, W, Bool.false_and, Nat.mul_one]; rfl); (first | rfl | simp [AV.inNL, AV.inN]))) | ((with_reducible apply evD_any); rfl; rfl; (simp (disch := omega) only [rdE, rdOf, go_sem, W, Bool.false_and, Nat.mul_one]; rfl); (intro τ hA hQ hN; ((try simp only [agree, Op.operands, Call.operands, go_sem, W, Bool.false_and, Nat.mul_one, go_sem, List.mem_cons, List.not_mem_nil, forall_eq_or_imp, forall_eq, List.append_toArray, Option.toArray] at hA); (try simp only [go_sem, W, Bool.false_and, Nat.mul_one, List.mem_cons, List.not_mem_nil, forall_eq_or_imp, forall_eq] at hQ hN); (first | (revert hA; intro hA) | have hA := trivial); (first | (revert hQ; intro hQ) | have hQ := trivial); (first | (revert hN; intro hN) | have hN := trivial); simp (disch := omega) only [go_sem, W, Bool.false_and, Nat.mul_one, go_sem, hA, hQ, hN]; (repeat (refine ndI (by first | assumption | omega | rfl) ?_)); (first | apply eff_rd | apply eff_st | apply eff_nw)))) | ((first | ((with_reducible apply evD_one); rfl) | ((with_reducible apply evD_grd); rfl; rfl; rfl; rfl)); apply opF_slice_cut; rfl; rfl; rfl; rfl; rfl; (focus (simp only [go_sem]; try rfl)); rfl; rfl; rfl; rfl; (intro h; first | rfl | cases h); (first | omega | (dsimp only; omega) | (simp (disch := omega) only [Option.isSome_some, Option.isSome_none]; omega) | (simp; omega) | (focus (simp; done))))); (simp (disch := omega) only [St.eff, setO, hputs, go_sem, W, Bool.false_and, Nat.mul_one])) | ((with_reducible refine evC_draw ?_ ?_ ?_ ?_); kernel_rfl; kernel_rfl; (first | kernel_rfl | simp [newNames, isNew, St.free, freeH, AV.refsL, AV.refs]); intro R hR)))))
  all_goals (refine ⟨by simp, ⟨_, ?_, AV.le_refl _⟩, leH_get (by simp [leH, hget])⟩; simp only [Tryz.results8, resL, ldA, oneOf, go_sem])
def cutP (p : Pt) : Pt := ⟨cutW p.w, cutX p.x⟩
structure Pt.raw (p : Pt) : Prop where
  w : p.w.raw
  x : XRaw p.x
theorem cutP_ok {p : Pt} (h : p.raw) : (cutP p).ok := ⟨cutW_ok h.w, (cutX_ok h.x).1, (cutX_ok h.x).2⟩
theorem point_fn (p : Pt) (hp : p.raw) : Fn Tryz.prog 21 [ptA p] [] (ptA (cutP p)) [] := by
  have w1 := world_fn p.w hp.w
  have t1 := touched_fn p.x hp.x
  show Fn Tryz.prog 21 [ptA p] [] (ptA ⟨cutW p.w, cutX p.x⟩) []
  generalize cutW p.w = v at *
  generalize cutX p.x = y at *
  (refine fn_of Tryz.func21 rfl (by rfl) ?_; simp only [Tryz.ntmps21, List.length_cons, List.length_nil, Nat.reduceAdd, Nat.reduceSub, List.replicate, List.cons_append, List.nil_append])
  (repeat (any_goals (first | ((with_reducible refine evL_one ?_ ?_); rfl; intro K hK; simp only [go_sem]; ((repeat (refine ndI (by first | assumption | omega | rfl) ?_)); refine hK _ ?_; clear hK K)) | (with_reducible first | (refine evL_nil ?_; refine hR _ ?_; clear hR R) | ((first | refine evC_seq ?_ | refine evC_block ?_); intro Ψ hΨ hΨ') | (refine evC_region ?_; intro R hR) | (refine hΨ _ ?_; clear hΨ hΨ' Ψ) | refine evC_skip ?_ | refine evC_ret ?_ | refine evC_exit ?_) | ((with_reducible refine hΨ' _ _ ?_ ?_); (focus (simp; done)); clear hΨ hΨ' Ψ) | ((with_reducible apply evC_cond); rfl; rfl; all_goals (intro hc; first | (cases hc; done) | (try simp only at hc))) | ((with_reducible refine evD_nil ?_ ?_); kernel_rfl; (with_reducible refine hR _ ?_); clear hR R) | ((first | ((with_reducible apply evD_fcall); rfl; rfl; ((first | (apply opF_callB (w1); rfl; rfl; rfl; rfl; exact Tryz.func7) | (apply opF_callB (t1); rfl; rfl; rfl; rfl; exact Tryz.func8)); kernel_rfl; rfl; (simp only [go_sem]; rfl); (first | rfl | simp [AV.inNL, AV.inN]))) | ((with_reducible apply evD_any); rfl; rfl; (simp only [rdE, rdOf, go_sem]; rfl); (intro τ hA hQ hN; ((try simp only [agree, Op.operands, Call.operands, go_sem, List.mem_cons, List.not_mem_nil, forall_eq_or_imp, forall_eq, List.append_toArray, Option.toArray] at hA); (try simp only [go_sem, List.mem_cons, List.not_mem_nil, forall_eq_or_imp, forall_eq] at hQ hN); (first | (revert hA; intro hA) | have hA := trivial); (first | (revert hQ; intro hQ) | have hQ := trivial); (first | (revert hN; intro hN) | have hN := trivial); simp only [go_sem, hA, hQ, hN]; (repeat (refine ndI (by first | assumption | omega | rfl) ?_)); (first | apply eff_rd | apply eff_st | apply eff_nw))))); (simp only [St.eff, setO, hputs, go_sem])) | ((with_reducible refine evC_draw ?_ ?_ ?_ ?_); kernel_rfl; kernel_rfl; (first | kernel_rfl | simp [newNames, isNew, St.free, freeH, AV.refsL, AV.refs]); intro R hR))))
  all_goals (refine ⟨by simp, ⟨_, ?_, AV.le_refl _⟩, leH_get (by simp [leH, hget])⟩; simp only [Tryz.results21, resL, ldA, oneOf, go_sem])
def fewJ (j : Jn) : Jn := ⟨cutP j.p, (j.m.take 18).map cutP⟩
structure Jn.raw (j : Jn) : Prop where
  p : j.p.raw
  m : j.m.length ≤ maxLen ∧ ∀ p ∈ j.m, p.raw
theorem fewJ_ok {j : Jn} (h : j.raw) : (fewJ j).ok := by
  refine ⟨cutP_ok h.p, ?_, fun x hx => ?_⟩
  · show ((j.m.take 18).map cutP).length ≤ 100; rw [List.length_map, List.length_take]; omega
  · obtain ⟨y, hy, rfl⟩ := List.mem_map.1 hx
    exact cutP_ok (h.m.2 y (List.mem_of_mem_take hy))
abbrev stFJ (j : Jn) (M : List Pt) (r : Nat) (out : List Pt) (i : Int) : St := ⟨[.any, .any, .ptr 2 0, .ptr 3 0, .any, .any, .any, .any, .any, .any, .any, .any, .any, .any, .any, .any, .c (.sl false 6 M.length (M.flatMap Pt.pv)), vi .i64 M.length, vi .i64 i, .any, .any, .any, .any, .any, .any, .any, .any, .any, .any, .any, .any], [(2, nil7), (3, [.c (acV (cutP j.p).w.S), .c (hdV (cutP j.p).w.L), .c (noV (cutP j.p).w.N), .c (adV (cutP j.p).x.ad), .c (spV (cutP j.p).x.sp), .c (pgV (cutP j.p).x.pg), .row r 37 6 out.length]), (r, rcT out)]⟩
theorem stFJ_rn (j : Jn) (M : List Pt) (out : List Pt) (i : Int) : (stFJ j M 27 out i).to (stFJ j M 500 out i) := by
  have h := St.to.rn (σ := stFJ j M 27 out i) (fun r => if r = 27 then 500 else r) (fun r => if r = 500 then 27 else r) [2, 3, 27] (by simp [AV.inNL, AV.inN]) (by simp) (by simp [inH, AV.inNL, AV.inN, rcT]) (by simp) (by simp)
  simpa [AV.renL, AV.ren, renH, rcT, stFJ] using h
theorem few_row (j : Jn) (hj : j.raw) : Fn Tryz.prog 6 [jnA j] [] (.agg [.c (acV (cutP j.p).w.S), .c (hdV (cutP j.p).w.L), .c (noV (cutP j.p).w.N), .c (adV (cutP j.p).x.ad), .c (spV (cutP j.p).x.sp), .c (pgV (cutP j.p).x.pg), .row 500 37 6 ((j.m.take 18).map cutP).length]) [(500, rcT ((j.m.take 18).map cutP))] := by
  have p1 := point_fn j.p hj.p
  have m8 : j.m.length < 9223372036854775808 := Nat.lt_succ_of_le hj.m.1
  have e1 : (if (18 : Int) < (j.m.length : Int) then (18 : Int) else (j.m.length : Int)) = ((min j.m.length 18 : Nat) : Int) := min_if j.m.length 18
  have e2 : (j.m.flatMap Pt.pv).take (min j.m.length 18 * 6) = (j.m.take 18).flatMap Pt.pv := by rw [flat_take pt_len, take_min]
  have e3 : (j.m.take 18).length = min j.m.length 18 := by rw [List.length_take, Nat.min_comm]
  rw [← e3] at e1 e2
  have hM : (j.m.take 18).length ≤ 18 := by rw [List.length_take]; omega
  have oM : ∀ p ∈ j.m.take 18, p.raw := fun p hp => hj.m.2 p (List.mem_of_mem_take hp)
  generalize j.m.take 18 = M at *
  (refine fn_of Tryz.func6 rfl (by rfl) ?_; simp only [Tryz.ntmps6, List.length_cons, List.length_nil, Nat.reduceAdd, Nat.reduceSub, List.replicate, List.cons_append, List.nil_append])
  (repeat (any_goals (first | ((with_reducible refine evL_call ?_ ?_ ?_); rfl; rfl; intro K hK; ((apply opA_callB (p1); rfl; rfl; rfl; rfl; exact Tryz.func21); kernel_rfl; rfl; (simp (disch := omega) only [go_sem, e1, e2, Bool.false_and]; rfl); (first | rfl | simp [AV.inNL, AV.inN])); (simp (disch := omega) only [go_sem, e1, e2, Bool.false_and]; refine hK _ ?_; clear hK K)) | ((with_reducible refine evL_one ?_ ?_); rfl; intro K hK; simp (disch := omega) only [go_sem, e1, e2, Bool.false_and]; ((repeat (refine ndI (by first | assumption | omega | rfl) ?_)); refine hK _ ?_; clear hK K)) | ((with_reducible refine evL_one ?_ ?_); rfl; intro K hK; simp (disch := omega) only [go_sem, e1, e2, Bool.false_and]; apply opA_cut_nil; rfl; rfl; rfl; rfl; (focus (simp (disch := omega) only [go_sem]; try rfl)); rfl; (simp (disch := omega) only [go_sem, e1, e2, Bool.false_and]; (with_reducible refine hK _ ?_); clear hK K)) | ((with_reducible refine evL_one ?_ ?_); rfl; intro K hK; (try simp (disch := omega) only [go_sem, e1, e2, Bool.false_and]); (repeat (refine ndI (by first | assumption | omega | rfl) ?_)); refine opA_slice_row rfl rfl rfl rfl rfl ?_ rfl rfl rfl rfl ?_ ?_ ?_; (focus (simp only [go_sem]; try rfl)); (intro h; first | rfl | cases h); (first | omega | (dsimp only; omega) | (simp (disch := omega) only [Option.isSome_some, Option.isSome_none]; omega) | (simp; omega) | (focus (simp; done))); (intro q hq1 hq2; (simp (disch := omega) only [go_sem, e1, e2, Bool.false_and]; refine hK _ ?_; clear hK K))) | ((with_reducible refine evL_one ?_ ?_); rfl; intro K hK; (try simp (disch := omega) only [go_sem, e1, e2, Bool.false_and]); (repeat (refine ndI (by first | assumption | omega | rfl) ?_)); refine opA_slice_cut rfl rfl rfl rfl rfl ?_ rfl rfl rfl rfl ?_ ?_ ?_; (focus (simp only [go_sem]; try rfl)); (intro h; first | rfl | cases h); (first | omega | (dsimp only; omega) | (simp (disch := omega) only [Option.isSome_some, Option.isSome_none]; omega) | (simp; omega) | (focus (simp; done))); (simp (disch := omega) only [go_sem, e1, e2, Bool.false_and]; refine hK _ ?_; clear hK K)) | ((with_reducible refine evL_one ?_ ?_); rfl; intro K hK; (try simp (disch := omega) only [go_sem, e1, e2, Bool.false_and]); (repeat (refine ndI (by first | assumption | omega | rfl) ?_)); refine opA_index_cut rfl rfl rfl rfl rfl ?_ ?_ ?_; (focus (simp only [go_sem]; try rfl)); (first | omega | (dsimp only; omega) | (simp (disch := omega) only [Option.isSome_some, Option.isSome_none]; omega) | (simp; omega) | (focus (simp; done))); (simp (disch := omega) only [go_sem, e1, e2, Bool.false_and]; refine hK _ ?_; clear hK K)) | (with_reducible first | (refine evL_nil ?_; refine hR _ ?_; clear hR R) | ((first | refine evC_seq ?_ | refine evC_block ?_); intro Ψ hΨ hΨ') | (refine evC_region ?_; intro R hR) | (refine hΨ _ ?_; clear hΨ hΨ' Ψ) | refine evC_skip ?_ | refine evC_ret ?_ | refine evC_exit ?_) | ((with_reducible refine hΨ' _ _ ?_ ?_); (focus (simp; done)); clear hΨ hΨ' Ψ) | ((with_reducible apply evC_cond); rfl; rfl; all_goals (intro hc; first | (cases hc; done) | (try simp only at hc))) | ((with_reducible refine evD_nil ?_ ?_); kernel_rfl; (with_reducible refine hR _ ?_); clear hR R) | ((first | ((with_reducible apply evD_fcall); rfl; rfl; ((apply opF_callB (p1); rfl; rfl; rfl; rfl; exact Tryz.func21); kernel_rfl; rfl; (simp (disch := omega) only [go_sem, e1, e2, Bool.false_and]; rfl); (first | rfl | simp [AV.inNL, AV.inN]))) | ((with_reducible apply evD_any); rfl; rfl; (simp (disch := omega) only [rdE, rdOf, go_sem, e1, e2, Bool.false_and]; rfl); (intro τ hA hQ hN; ((try simp only [agree, Op.operands, Call.operands, go_sem, e1, e2, Bool.false_and, go_sem, List.mem_cons, List.not_mem_nil, forall_eq_or_imp, forall_eq, List.append_toArray, Option.toArray] at hA); (try simp only [go_sem, e1, e2, Bool.false_and, List.mem_cons, List.not_mem_nil, forall_eq_or_imp, forall_eq] at hQ hN); (first | (revert hA; intro hA) | have hA := trivial); (first | (revert hQ; intro hQ) | have hQ := trivial); (first | (revert hN; intro hN) | have hN := trivial); simp (disch := omega) only [go_sem, e1, e2, Bool.false_and, go_sem, hA, hQ, hN]; (repeat (refine ndI (by first | assumption | omega | rfl) ?_)); (first | apply eff_rd | apply eff_st | apply eff_nw)))) | ((first | ((with_reducible apply evD_new); rfl; rfl; rfl) | ((with_reducible apply evD_grd_new); rfl; rfl; rfl; rfl; rfl; rfl)); (intro τ hA hQ hN; ((try simp (disch := omega) only [agree, Op.operands, Call.operands, go_sem, e1, e2, Bool.false_and, go_sem, List.mem_cons, List.not_mem_nil, forall_eq_or_imp, forall_eq, List.append_toArray, Option.toArray] at hA); (try simp (disch := omega) only [go_sem, e1, e2, Bool.false_and, List.mem_cons, List.not_mem_nil, forall_eq_or_imp, forall_eq] at hQ); (first | (revert hA; intro hA) | have hA := trivial); (first | (revert hQ; intro hQ) | have hQ := trivial); simp (disch := omega) only [go_sem, e1, e2, Bool.false_and, go_sem, hA, hQ, hN]; (repeat (refine ndI (by first | assumption | omega | rfl) ?_)); exact eff_nw _ _ _ _)))); (simp (disch := omega) only [St.eff, setO, hputs, go_sem, e1, e2, Bool.false_and])) | ((with_reducible refine evC_draw ?_ ?_ ?_ ?_); kernel_rfl; kernel_rfl; (first | kernel_rfl | simp [newNames, isNew, St.free, freeH, AV.refsL, AV.refs]); intro R hR))))
  refine evC_uptoT M.length (fun i => stFJ j M 500 ((M.take i).map cutP) (i : Int)) ?_ ?_
  · refine St.to.trans (St.to.nilcell 3 500 37 6 6 (by simp [hget]; rfl) rfl (by simp [St.free, freeH, AV.refsL, AV.refs]) (by decide) (by decide)) (St.to.of_le (St.le_of (by simp [leT]) (by simp [leH, hget, hput, rcT])))
  intro i hi Ψ hΨ hΨ'
  (try dsimp only at hΨ ⊢)
  rcases Nat.lt_or_ge i M.length with hlt | hge
  · obtain ⟨x, hx⟩ : ∃ x, M[i]? = some x := ⟨_, List.getElem?_eq_getElem hlt⟩
    have k1 : (decide ((i : Int) < (M.length : Int))) = true := decide_eq_true (by omega)
    have k2 := pt_at hx
    have k7 : (i : Int) + 1 = ((i + 1 : Nat) : Int) := by omega
    have ho := point_fn x (oM x (List.mem_of_getElem? hx))
    have hs : (M.take (i + 1)).map cutP = (M.take i).map cutP ++ [cutP x] := by rw [List.take_add_one, hx, List.map_append]; rfl
    rw [hs] at hΨ
    have hol : ((M.take i).map cutP).length ≤ 100 := by rw [List.length_map, List.length_take]; omega
    generalize (M.take i).map cutP = out at hΨ hol ⊢
    generalize cutP x = y at hΨ ho
    (have W := ndI k1 (ndI k2 k7); (repeat (any_goals (first | ((with_reducible refine evL_one ?_ ?_); rfl; intro K hK; simp only [go_sem, W, refsL_rcT]; ((repeat (refine ndI (by first | assumption | omega | rfl) ?_)); refine hK _ ?_; clear hK K)) | ((with_reducible refine evL_one ?_ ?_); rfl; intro K hK; simp only [go_sem, W, refsL_rcT]; apply opA_cut_nil; rfl; rfl; rfl; rfl; (focus (simp only [go_sem]; try rfl)); rfl; (simp only [go_sem, W, refsL_rcT]; (with_reducible refine hK _ ?_); clear hK K)) | ((with_reducible refine evL_one ?_ ?_); rfl; intro K hK; (try simp only [go_sem, W, refsL_rcT]); (repeat (refine ndI (by first | assumption | omega | rfl) ?_)); refine opA_slice_row rfl rfl rfl rfl rfl ?_ rfl rfl rfl rfl ?_ ?_ ?_; (focus (simp only [go_sem]; try rfl)); (intro h; first | rfl | cases h); (first | omega | (dsimp only; omega) | (simp only [Option.isSome_some, Option.isSome_none]; omega) | (simp; omega) | (focus (simp; done))); (intro q hq1 hq2; (simp only [go_sem, W, refsL_rcT]; refine hK _ ?_; clear hK K))) | ((with_reducible refine evL_one ?_ ?_); rfl; intro K hK; (try simp only [go_sem, W, refsL_rcT]); (repeat (refine ndI (by first | assumption | omega | rfl) ?_)); refine opA_slice_cut rfl rfl rfl rfl rfl ?_ rfl rfl rfl rfl ?_ ?_ ?_; (focus (simp only [go_sem]; try rfl)); (intro h; first | rfl | cases h); (first | omega | (dsimp only; omega) | (simp only [Option.isSome_some, Option.isSome_none]; omega) | (simp; omega) | (focus (simp; done))); (simp only [go_sem, W, refsL_rcT]; refine hK _ ?_; clear hK K)) | ((with_reducible refine evL_one ?_ ?_); rfl; intro K hK; (try simp only [go_sem, W, refsL_rcT]); (repeat (refine ndI (by first | assumption | omega | rfl) ?_)); refine opA_index_cut rfl rfl rfl rfl rfl ?_ ?_ ?_; (focus (simp only [go_sem]; try rfl)); (first | omega | (dsimp only; omega) | (simp only [Option.isSome_some, Option.isSome_none]; omega) | (simp; omega) | (focus (simp; done))); (simp only [go_sem, W, refsL_rcT]; refine hK _ ?_; clear hK K)) | (with_reducible first | (refine evL_nil ?_; refine hR _ ?_; clear hR R) | ((first | refine evC_seq ?_ | refine evC_block ?_); intro Ψ hΨ hΨ') | (refine evC_region ?_; intro R hR) | (refine hΨ _ ?_; clear hΨ hΨ' Ψ) | refine evC_skip ?_ | refine evC_ret ?_ | refine evC_exit ?_) | ((with_reducible refine hΨ' _ _ ?_ ?_); (focus (simp; done)); clear hΨ hΨ' Ψ) | ((with_reducible apply evC_cond); rfl; rfl; all_goals (intro hc; first | (cases hc; done) | (try simp only at hc))) | ((with_reducible refine evD_nil ?_ ?_); kernel_rfl; (with_reducible refine hR _ ?_); clear hR R) | ((first | ((with_reducible apply evD_any); rfl; rfl; (simp only [rdE, rdOf, go_sem, W, refsL_rcT]; rfl); (intro τ hA hQ hN; ((try simp only [agree, Op.operands, Call.operands, go_sem, W, refsL_rcT, go_sem, List.mem_cons, List.not_mem_nil, forall_eq_or_imp, forall_eq, List.append_toArray, Option.toArray] at hA); (try simp only [go_sem, W, refsL_rcT, List.mem_cons, List.not_mem_nil, forall_eq_or_imp, forall_eq] at hQ hN); (first | (revert hA; intro hA) | have hA := trivial); (first | (revert hQ; intro hQ) | have hQ := trivial); (first | (revert hN; intro hN) | have hN := trivial); simp only [go_sem, W, refsL_rcT, go_sem, hA, hQ, hN]; (repeat (refine ndI (by first | assumption | omega | rfl) ?_)); (first | apply eff_rd | apply eff_st | apply eff_nw)))) | ((first | ((with_reducible apply evD_new); rfl; rfl; rfl) | ((with_reducible apply evD_grd_new); rfl; rfl; rfl; rfl; rfl; rfl)); (intro τ hA hQ hN; ((try simp only [agree, Op.operands, Call.operands, go_sem, W, refsL_rcT, go_sem, List.mem_cons, List.not_mem_nil, forall_eq_or_imp, forall_eq, List.append_toArray, Option.toArray] at hA); (try simp only [go_sem, W, refsL_rcT, List.mem_cons, List.not_mem_nil, forall_eq_or_imp, forall_eq] at hQ); (first | (revert hA; intro hA) | have hA := trivial); (first | (revert hQ; intro hQ) | have hQ := trivial); simp only [go_sem, W, refsL_rcT, go_sem, hA, hQ, hN]; (repeat (refine ndI (by first | assumption | omega | rfl) ?_)); exact eff_nw _ _ _ _)))); (simp only [St.eff, setO, hputs, go_sem, W, refsL_rcT]))))))
    refine evC_draw_at 5 (by decide) (by kernel_rfl) (by kernel_rfl) (by kernel_rfl) (by kernel_rfl) (by simp [newNames, isNew, St.free, freeH, AV.refsL, AV.refs, refsL_rcT]) ?_
    intro R hR
    simp only [List.take_succ_cons, List.take_zero, List.drop_succ_cons, List.drop_zero] at hR ⊢
    (have W := ndI k1 (ndI k2 k7); (repeat (any_goals (first | ((with_reducible refine evL_call ?_ ?_ ?_); rfl; rfl; intro K hK; ((apply opA_callB (ho); rfl; rfl; rfl; rfl; exact Tryz.func21); kernel_rfl; rfl; (simp only [go_sem, W, refsL_rcT, eq_self, decide_true]; rfl); (first | rfl | simp [AV.inNL, AV.inN])); (simp only [go_sem, W, refsL_rcT, eq_self, decide_true]; refine hK _ ?_; clear hK K)) | ((with_reducible refine evL_one ?_ ?_); rfl; intro K hK; simp only [go_sem, W, refsL_rcT, eq_self, decide_true]; ((repeat (refine ndI (by first | assumption | omega | rfl) ?_)); refine hK _ ?_; clear hK K)) | ((with_reducible refine evL_one ?_ ?_); rfl; intro K hK; simp only [go_sem, W, refsL_rcT, eq_self, decide_true]; apply opA_cut_nil; rfl; rfl; rfl; rfl; (focus (simp only [go_sem]; try rfl)); rfl; (simp only [go_sem, W, refsL_rcT, eq_self, decide_true]; (with_reducible refine hK _ ?_); clear hK K)) | ((with_reducible refine evL_one ?_ ?_); rfl; intro K hK; (try simp only [go_sem, W, refsL_rcT, eq_self, decide_true]); (repeat (refine ndI (by first | assumption | omega | rfl) ?_)); refine opA_slice_row rfl rfl rfl rfl rfl ?_ rfl rfl rfl rfl ?_ ?_ ?_; (focus (simp only [go_sem]; try rfl)); (intro h; first | rfl | cases h); (first | omega | (dsimp only; omega) | (simp only [Option.isSome_some, Option.isSome_none]; omega) | (simp; omega) | (focus (simp; done))); (intro q hq1 hq2; (simp only [go_sem, W, refsL_rcT, eq_self, decide_true]; refine hK _ ?_; clear hK K))) | ((with_reducible refine evL_one ?_ ?_); rfl; intro K hK; (try simp only [go_sem, W, refsL_rcT, eq_self, decide_true]); (repeat (refine ndI (by first | assumption | omega | rfl) ?_)); refine opA_slice_cut rfl rfl rfl rfl rfl ?_ rfl rfl rfl rfl ?_ ?_ ?_; (focus (simp only [go_sem]; try rfl)); (intro h; first | rfl | cases h); (first | omega | (dsimp only; omega) | (simp only [Option.isSome_some, Option.isSome_none]; omega) | (simp; omega) | (focus (simp; done))); (simp only [go_sem, W, refsL_rcT, eq_self, decide_true]; refine hK _ ?_; clear hK K)) | ((with_reducible refine evL_one ?_ ?_); rfl; intro K hK; (try simp only [go_sem, W, refsL_rcT, eq_self, decide_true]); (repeat (refine ndI (by first | assumption | omega | rfl) ?_)); refine opA_index_cut rfl rfl rfl rfl rfl ?_ ?_ ?_; (focus (simp only [go_sem]; try rfl)); (first | omega | (dsimp only; omega) | (simp only [Option.isSome_some, Option.isSome_none]; omega) | (simp; omega) | (focus (simp; done))); (simp only [go_sem, W, refsL_rcT, eq_self, decide_true]; refine hK _ ?_; clear hK K)) | (with_reducible first | (refine evL_nil ?_; refine hR _ ?_; clear hR R) | ((first | refine evC_seq ?_ | refine evC_block ?_); intro Ψ hΨ hΨ') | (refine evC_region ?_; intro R hR) | (refine hΨ _ ?_; clear hΨ hΨ' Ψ) | refine evC_skip ?_ | refine evC_ret ?_ | refine evC_exit ?_) | ((with_reducible refine hΨ' _ _ ?_ ?_); (focus (simp; done)); clear hΨ hΨ' Ψ) | ((with_reducible apply evC_cond); rfl; rfl; all_goals (intro hc; first | (cases hc; done) | (try simp only at hc))) | ((with_reducible refine evD_nil ?_ ?_); kernel_rfl; (with_reducible refine hR _ ?_); clear hR R) | ((first | ((with_reducible apply evD_fcall); rfl; rfl; ((apply opF_callB (ho); rfl; rfl; rfl; rfl; exact Tryz.func21); kernel_rfl; rfl; (simp only [go_sem, W, refsL_rcT, eq_self, decide_true]; rfl); (first | rfl | simp [AV.inNL, AV.inN]))) | ((with_reducible apply evD_any); rfl; rfl; (simp only [rdE, rdOf, go_sem, W, refsL_rcT, eq_self, decide_true]; rfl); (intro τ hA hQ hN; ((try simp only [agree, Op.operands, Call.operands, go_sem, W, refsL_rcT, eq_self, decide_true, go_sem, List.mem_cons, List.not_mem_nil, forall_eq_or_imp, forall_eq, List.append_toArray, Option.toArray] at hA); (try simp only [go_sem, W, refsL_rcT, eq_self, decide_true, List.mem_cons, List.not_mem_nil, forall_eq_or_imp, forall_eq] at hQ hN); (first | (revert hA; intro hA) | have hA := trivial); (first | (revert hQ; intro hQ) | have hQ := trivial); (first | (revert hN; intro hN) | have hN := trivial); simp only [go_sem, W, refsL_rcT, eq_self, decide_true, go_sem, hA, hQ, hN]; (repeat (refine ndI (by first | assumption | omega | rfl) ?_)); (first | apply eff_rd | apply eff_st | apply eff_nw)))) | ((first | ((with_reducible apply evD_one); rfl) | ((with_reducible apply evD_grd); rfl; rfl; rfl; rfl)); apply opF_buildSlice_flat; rfl; rfl; (focus (simp only [go_sem]; try rfl)); (focus (simp only [go_sem]; try rfl)); rfl; (first | omega | (dsimp only; omega) | (simp only [Option.isSome_some, Option.isSome_none]; omega) | (simp; omega) | (focus (simp; done))); (first | omega | (dsimp only; omega) | (simp only [Option.isSome_some, Option.isSome_none]; omega) | (simp; omega) | (focus (simp; done))); (first | omega | (dsimp only; omega) | (simp only [Option.isSome_some, Option.isSome_none]; omega) | (simp; omega) | (focus (simp; done))); (simp only [go_sem, W, refsL_rcT, eq_self, decide_true]; rfl); rfl; (focus ((simp only [unC, Option.map_some]); (try rfl))))); (simp only [St.eff, setO, hputs, go_sem, W, refsL_rcT, eq_self, decide_true])) | ((with_reducible refine evC_draw ?_ ?_ ?_ ?_); kernel_rfl; kernel_rfl; (simp [newNames, isNew, St.free, freeH, AV.refsL, AV.refs, refsL_rcT]); intro R hR)))))
    have rl := rcT_len out
    (repeat (any_goals (first | ((with_reducible refine evL_one ?_ ?_); rfl; intro K hK; simp (disch := omega) only [go_sem, refsL_rcT, refsL_map, refsL_app, AV.refsL, AV.refs, List.length_append, List.length_cons, List.length_nil, Bool.or_false]; ((repeat (refine ndI (by first | assumption | omega | rfl) ?_)); refine hK _ ?_; clear hK K)) | ((with_reducible refine evL_one ?_ ?_); rfl; intro K hK; simp (disch := omega) only [go_sem, refsL_rcT, refsL_map, refsL_app, AV.refsL, AV.refs, List.length_append, List.length_cons, List.length_nil, Bool.or_false]; apply opA_cut_nil; rfl; rfl; rfl; rfl; (focus (simp (disch := omega) only [go_sem]; try rfl)); rfl; (simp (disch := omega) only [go_sem, refsL_rcT, refsL_map, refsL_app, AV.refsL, AV.refs, List.length_append, List.length_cons, List.length_nil, Bool.or_false]; (with_reducible refine hK _ ?_); clear hK K)) | ((with_reducible refine evL_one ?_ ?_); rfl; intro K hK; (try simp (disch := omega) only [go_sem, refsL_rcT, refsL_map, refsL_app, AV.refsL, AV.refs, List.length_append, List.length_cons, List.length_nil, Bool.or_false]); (repeat (refine ndI (by first | assumption | omega | rfl) ?_)); refine opA_slice_row rfl rfl rfl rfl rfl ?_ rfl rfl rfl rfl ?_ ?_ ?_; (focus (simp only [go_sem]; try rfl)); (intro h; first | rfl | cases h); (first | omega | (dsimp only; omega) | (simp (disch := omega) only [Option.isSome_some, Option.isSome_none]; omega) | (simp; omega) | (focus (simp; done))); (intro q hq1 hq2; (simp (disch := omega) only [go_sem, refsL_rcT, refsL_map, refsL_app, AV.refsL, AV.refs, List.length_append, List.length_cons, List.length_nil, Bool.or_false]; refine hK _ ?_; clear hK K))) | ((with_reducible refine evL_one ?_ ?_); rfl; intro K hK; (try simp (disch := omega) only [go_sem, refsL_rcT, refsL_map, refsL_app, AV.refsL, AV.refs, List.length_append, List.length_cons, List.length_nil, Bool.or_false]); (repeat (refine ndI (by first | assumption | omega | rfl) ?_)); refine opA_slice_cut rfl rfl rfl rfl rfl ?_ rfl rfl rfl rfl ?_ ?_ ?_; (focus (simp only [go_sem]; try rfl)); (intro h; first | rfl | cases h); (first | omega | (dsimp only; omega) | (simp (disch := omega) only [Option.isSome_some, Option.isSome_none]; omega) | (simp; omega) | (focus (simp; done))); (simp (disch := omega) only [go_sem, refsL_rcT, refsL_map, refsL_app, AV.refsL, AV.refs, List.length_append, List.length_cons, List.length_nil, Bool.or_false]; refine hK _ ?_; clear hK K)) | ((with_reducible refine evL_one ?_ ?_); rfl; intro K hK; (try simp (disch := omega) only [go_sem, refsL_rcT, refsL_map, refsL_app, AV.refsL, AV.refs, List.length_append, List.length_cons, List.length_nil, Bool.or_false]); (repeat (refine ndI (by first | assumption | omega | rfl) ?_)); refine opA_index_cut rfl rfl rfl rfl rfl ?_ ?_ ?_; (focus (simp only [go_sem]; try rfl)); (first | omega | (dsimp only; omega) | (simp (disch := omega) only [Option.isSome_some, Option.isSome_none]; omega) | (simp; omega) | (focus (simp; done))); (simp (disch := omega) only [go_sem, refsL_rcT, refsL_map, refsL_app, AV.refsL, AV.refs, List.length_append, List.length_cons, List.length_nil, Bool.or_false]; refine hK _ ?_; clear hK K)) | (with_reducible first | (refine evL_nil ?_; refine hR _ ?_; clear hR R) | ((first | refine evC_seq ?_ | refine evC_block ?_); intro Ψ hΨ hΨ') | (refine evC_region ?_; intro R hR) | (refine hΨ _ ?_; clear hΨ hΨ' Ψ) | refine evC_skip ?_ | refine evC_ret ?_ | refine evC_exit ?_) | ((with_reducible refine hΨ' _ _ ?_ ?_); (focus (simp; done)); clear hΨ hΨ' Ψ) | ((with_reducible apply evC_cond); rfl; rfl; all_goals (intro hc; first | (cases hc; done) | (try simp only at hc))) | ((with_reducible refine evD_nil ?_ ?_); kernel_rfl; (with_reducible refine hR _ ?_); clear hR R) | ((first | ((with_reducible apply evD_any); rfl; rfl; (simp (disch := omega) only [rdE, rdOf, go_sem, refsL_rcT, refsL_map, refsL_app, AV.refsL, AV.refs, List.length_append, List.length_cons, List.length_nil, Bool.or_false]; rfl); (intro τ hA hQ hN; ((try simp only [agree, Op.operands, Call.operands, go_sem, refsL_rcT, refsL_map, refsL_app, AV.refsL, AV.refs, List.length_append, List.length_cons, List.length_nil, Bool.or_false, go_sem, List.mem_cons, List.not_mem_nil, forall_eq_or_imp, forall_eq, List.append_toArray, Option.toArray] at hA); (try simp only [go_sem, refsL_rcT, refsL_map, refsL_app, AV.refsL, AV.refs, List.length_append, List.length_cons, List.length_nil, Bool.or_false, List.mem_cons, List.not_mem_nil, forall_eq_or_imp, forall_eq] at hQ hN); (first | (revert hA; intro hA) | have hA := trivial); (first | (revert hQ; intro hQ) | have hQ := trivial); (first | (revert hN; intro hN) | have hN := trivial); simp (disch := omega) only [go_sem, refsL_rcT, refsL_map, refsL_app, AV.refsL, AV.refs, List.length_append, List.length_cons, List.length_nil, Bool.or_false, go_sem, hA, hQ, hN]; (repeat (refine ndI (by first | assumption | omega | rfl) ?_)); (first | apply eff_rd | apply eff_st | apply eff_nw)))) | ((first | ((with_reducible apply evD_new); rfl; rfl; rfl) | ((with_reducible apply evD_grd_new); rfl; rfl; rfl; rfl; rfl; rfl)); (intro τ hA hQ hN; ((try simp (disch := omega) only [agree, Op.operands, Call.operands, go_sem, refsL_rcT, refsL_map, refsL_app, AV.refsL, AV.refs, List.length_append, List.length_cons, List.length_nil, Bool.or_false, go_sem, List.mem_cons, List.not_mem_nil, forall_eq_or_imp, forall_eq, List.append_toArray, Option.toArray] at hA); (try simp (disch := omega) only [go_sem, refsL_rcT, refsL_map, refsL_app, AV.refsL, AV.refs, List.length_append, List.length_cons, List.length_nil, Bool.or_false, List.mem_cons, List.not_mem_nil, forall_eq_or_imp, forall_eq] at hQ); (first | (revert hA; intro hA) | have hA := trivial); (first | (revert hQ; intro hQ) | have hQ := trivial); simp (disch := omega) only [go_sem, refsL_rcT, refsL_map, refsL_app, AV.refsL, AV.refs, List.length_append, List.length_cons, List.length_nil, Bool.or_false, go_sem, hA, hQ, hN]; (repeat (refine ndI (by first | assumption | omega | rfl) ?_)); exact eff_nw _ _ _ _)))); (simp (disch := omega) only [St.eff, setO, hputs, go_sem, refsL_rcT, refsL_map, refsL_app, AV.refsL, AV.refs, List.length_append, List.length_cons, List.length_nil, Bool.or_false])) | ((with_reducible refine evC_draw ?_ ?_ ?_ ?_); kernel_rfl; kernel_rfl; (first | kernel_rfl | simp [newNames, isNew, St.free, freeH, AV.refsL, AV.refs]); intro R hR))))
    refine evL_nil ?_
    (have W := ndI k1 (ndI k2 (ndI k7 @wrI)); (repeat (any_goals (first | ((with_reducible refine evL_one ?_ ?_); rfl; intro K hK; simp (disch := omega) only [go_sem, W, refsL_rcT]; ((repeat (refine ndI (by first | assumption | omega | rfl) ?_)); refine hK _ ?_; clear hK K)) | ((with_reducible refine evL_one ?_ ?_); rfl; intro K hK; simp (disch := omega) only [go_sem, W, refsL_rcT]; apply opA_cut_nil; rfl; rfl; rfl; rfl; (focus (simp (disch := omega) only [go_sem]; try rfl)); rfl; (simp (disch := omega) only [go_sem, W, refsL_rcT]; (with_reducible refine hK _ ?_); clear hK K)) | ((with_reducible refine evL_one ?_ ?_); rfl; intro K hK; (try simp (disch := omega) only [go_sem, W, refsL_rcT]); (repeat (refine ndI (by first | assumption | omega | rfl) ?_)); refine opA_slice_row rfl rfl rfl rfl rfl ?_ rfl rfl rfl rfl ?_ ?_ ?_; (focus (simp only [go_sem]; try rfl)); (intro h; first | rfl | cases h); (first | omega | (dsimp only; omega) | (simp (disch := omega) only [Option.isSome_some, Option.isSome_none]; omega) | (simp; omega) | (focus (simp; done))); (intro q hq1 hq2; (simp (disch := omega) only [go_sem, W, refsL_rcT]; refine hK _ ?_; clear hK K))) | ((with_reducible refine evL_one ?_ ?_); rfl; intro K hK; (try simp (disch := omega) only [go_sem, W, refsL_rcT]); (repeat (refine ndI (by first | assumption | omega | rfl) ?_)); refine opA_slice_cut rfl rfl rfl rfl rfl ?_ rfl rfl rfl rfl ?_ ?_ ?_; (focus (simp only [go_sem]; try rfl)); (intro h; first | rfl | cases h); (first | omega | (dsimp only; omega) | (simp (disch := omega) only [Option.isSome_some, Option.isSome_none]; omega) | (simp; omega) | (focus (simp; done))); (simp (disch := omega) only [go_sem, W, refsL_rcT]; refine hK _ ?_; clear hK K)) | ((with_reducible refine evL_one ?_ ?_); rfl; intro K hK; (try simp (disch := omega) only [go_sem, W, refsL_rcT]); (repeat (refine ndI (by first | assumption | omega | rfl) ?_)); refine opA_index_cut rfl rfl rfl rfl rfl ?_ ?_ ?_; (focus (simp only [go_sem]; try rfl)); (first | omega | (dsimp only; omega) | (simp (disch := omega) only [Option.isSome_some, Option.isSome_none]; omega) | (simp; omega) | (focus (simp; done))); (simp (disch := omega) only [go_sem, W, refsL_rcT]; refine hK _ ?_; clear hK K)) | (with_reducible first | (refine evL_nil ?_; refine hR _ ?_; clear hR R) | ((first | refine evC_seq ?_ | refine evC_block ?_); intro Ψ hΨ hΨ') | (refine evC_region ?_; intro R hR) | (refine hΨ _ ?_; clear hΨ hΨ' Ψ) | refine evC_skip ?_ | refine evC_ret ?_ | refine evC_exit ?_) | ((with_reducible refine hΨ' _ _ ?_ ?_); (focus (simp; done)); clear hΨ hΨ' Ψ) | ((with_reducible apply evC_cond); rfl; rfl; all_goals (intro hc; first | (cases hc; done) | (try simp only at hc))) | ((with_reducible refine evD_nil ?_ ?_); kernel_rfl; (with_reducible refine hR _ ?_); clear hR R) | ((first | ((with_reducible apply evD_any); rfl; rfl; (simp (disch := omega) only [rdE, rdOf, go_sem, W, refsL_rcT]; rfl); (intro τ hA hQ hN; ((try simp only [agree, Op.operands, Call.operands, go_sem, W, refsL_rcT, go_sem, List.mem_cons, List.not_mem_nil, forall_eq_or_imp, forall_eq, List.append_toArray, Option.toArray] at hA); (try simp only [go_sem, W, refsL_rcT, List.mem_cons, List.not_mem_nil, forall_eq_or_imp, forall_eq] at hQ hN); (first | (revert hA; intro hA) | have hA := trivial); (first | (revert hQ; intro hQ) | have hQ := trivial); (first | (revert hN; intro hN) | have hN := trivial); simp (disch := omega) only [go_sem, W, refsL_rcT, go_sem, hA, hQ, hN]; (repeat (refine ndI (by first | assumption | omega | rfl) ?_)); (first | apply eff_rd | apply eff_st | apply eff_nw)))) | ((first | ((with_reducible apply evD_new); rfl; rfl; rfl) | ((with_reducible apply evD_grd_new); rfl; rfl; rfl; rfl; rfl; rfl)); (intro τ hA hQ hN; ((try simp (disch := omega) only [agree, Op.operands, Call.operands, go_sem, W, refsL_rcT, go_sem, List.mem_cons, List.not_mem_nil, forall_eq_or_imp, forall_eq, List.append_toArray, Option.toArray] at hA); (try simp (disch := omega) only [go_sem, W, refsL_rcT, List.mem_cons, List.not_mem_nil, forall_eq_or_imp, forall_eq] at hQ); (first | (revert hA; intro hA) | have hA := trivial); (first | (revert hQ; intro hQ) | have hQ := trivial); simp (disch := omega) only [go_sem, W, refsL_rcT, go_sem, hA, hQ, hN]; (repeat (refine ndI (by first | assumption | omega | rfl) ?_)); exact eff_nw _ _ _ _)))); (simp (disch := omega) only [St.eff, setO, hputs, go_sem, W, refsL_rcT])) | ((with_reducible refine evC_draw ?_ ?_ ?_ ?_); kernel_rfl; kernel_rfl; (first | kernel_rfl | simp [newNames, isNew, St.free, freeH, AV.refsL, AV.refs]); intro R hR)))))
    all_goals exact hΨ _ hlt (St.to.trans (St.to.of_le (τ := stFJ j M 27 (out ++ [y]) ((i + 1 : Nat) : Int)) (St.le_of (by simp [leT]) (by simp [leH, hget, rcT_app, Pt.pv]))) (stFJ_rn j M _ _))
  · have k1 : (decide ((i : Int) < (M.length : Int))) = false := decide_eq_false (by omega)
    rw [List.take_of_length_le hge]
    (repeat (any_goals (first | ((with_reducible refine evL_one ?_ ?_); rfl; intro K hK; simp only [go_sem, k1, refsL_rcT]; ((repeat (refine ndI (by first | assumption | omega | rfl) ?_)); refine hK _ ?_; clear hK K)) | ((with_reducible refine evL_one ?_ ?_); rfl; intro K hK; simp only [go_sem, k1, refsL_rcT]; apply opA_cut_nil; rfl; rfl; rfl; rfl; (focus (simp only [go_sem]; try rfl)); rfl; (simp only [go_sem, k1, refsL_rcT]; (with_reducible refine hK _ ?_); clear hK K)) | ((with_reducible refine evL_one ?_ ?_); rfl; intro K hK; (try simp only [go_sem, k1, refsL_rcT]); (repeat (refine ndI (by first | assumption | omega | rfl) ?_)); refine opA_slice_row rfl rfl rfl rfl rfl ?_ rfl rfl rfl rfl ?_ ?_ ?_; (focus (simp only [go_sem]; try rfl)); (intro h; first | rfl | cases h); (first | omega | (dsimp only; omega) | (simp only [Option.isSome_some, Option.isSome_none]; omega) | (simp; omega) | (focus (simp; done))); (intro q hq1 hq2; (simp only [go_sem, k1, refsL_rcT]; refine hK _ ?_; clear hK K))) | ((with_reducible refine evL_one ?_ ?_); rfl; intro K hK; (try simp only [go_sem, k1, refsL_rcT]); (repeat (refine ndI (by first | assumption | omega | rfl) ?_)); refine opA_slice_cut rfl rfl rfl rfl rfl ?_ rfl rfl rfl rfl ?_ ?_ ?_; (focus (simp only [go_sem]; try rfl)); (intro h; first | rfl | cases h); (first | omega | (dsimp only; omega) | (simp only [Option.isSome_some, Option.isSome_none]; omega) | (simp; omega) | (focus (simp; done))); (simp only [go_sem, k1, refsL_rcT]; refine hK _ ?_; clear hK K)) | ((with_reducible refine evL_one ?_ ?_); rfl; intro K hK; (try simp only [go_sem, k1, refsL_rcT]); (repeat (refine ndI (by first | assumption | omega | rfl) ?_)); refine opA_index_cut rfl rfl rfl rfl rfl ?_ ?_ ?_; (focus (simp only [go_sem]; try rfl)); (first | omega | (dsimp only; omega) | (simp only [Option.isSome_some, Option.isSome_none]; omega) | (simp; omega) | (focus (simp; done))); (simp only [go_sem, k1, refsL_rcT]; refine hK _ ?_; clear hK K)) | (with_reducible first | (refine evL_nil ?_; refine hR _ ?_; clear hR R) | ((first | refine evC_seq ?_ | refine evC_block ?_); intro Ψ hΨ hΨ') | (refine evC_region ?_; intro R hR) | (refine hΨ _ ?_; clear hΨ hΨ' Ψ) | refine evC_skip ?_ | refine evC_ret ?_ | refine evC_exit ?_) | ((with_reducible refine hΨ' _ _ ?_ ?_); (focus (simp; done)); clear hΨ hΨ' Ψ) | ((with_reducible apply evC_cond); rfl; rfl; all_goals (intro hc; first | (cases hc; done) | (try simp only at hc))) | ((with_reducible refine evD_nil ?_ ?_); kernel_rfl; (with_reducible refine hR _ ?_); clear hR R) | ((first | ((with_reducible apply evD_any); rfl; rfl; (simp only [rdE, rdOf, go_sem, k1, refsL_rcT]; rfl); (intro τ hA hQ hN; ((try simp only [agree, Op.operands, Call.operands, go_sem, k1, refsL_rcT, go_sem, List.mem_cons, List.not_mem_nil, forall_eq_or_imp, forall_eq, List.append_toArray, Option.toArray] at hA); (try simp only [go_sem, k1, refsL_rcT, List.mem_cons, List.not_mem_nil, forall_eq_or_imp, forall_eq] at hQ hN); (first | (revert hA; intro hA) | have hA := trivial); (first | (revert hQ; intro hQ) | have hQ := trivial); (first | (revert hN; intro hN) | have hN := trivial); simp only [go_sem, k1, refsL_rcT, go_sem, hA, hQ, hN]; (repeat (refine ndI (by first | assumption | omega | rfl) ?_)); (first | apply eff_rd | apply eff_st | apply eff_nw)))) | ((first | ((with_reducible apply evD_new); rfl; rfl; rfl) | ((with_reducible apply evD_grd_new); rfl; rfl; rfl; rfl; rfl; rfl)); (intro τ hA hQ hN; ((try simp only [agree, Op.operands, Call.operands, go_sem, k1, refsL_rcT, go_sem, List.mem_cons, List.not_mem_nil, forall_eq_or_imp, forall_eq, List.append_toArray, Option.toArray] at hA); (try simp only [go_sem, k1, refsL_rcT, List.mem_cons, List.not_mem_nil, forall_eq_or_imp, forall_eq] at hQ); (first | (revert hA; intro hA) | have hA := trivial); (first | (revert hQ; intro hQ) | have hQ := trivial); simp only [go_sem, k1, refsL_rcT, go_sem, hA, hQ, hN]; (repeat (refine ndI (by first | assumption | omega | rfl) ?_)); exact eff_nw _ _ _ _)))); (simp only [St.eff, setO, hputs, go_sem, k1, refsL_rcT])) | ((with_reducible refine evC_draw ?_ ?_ ?_ ?_); kernel_rfl; kernel_rfl; (first | kernel_rfl | simp [newNames, isNew, St.free, freeH, AV.refsL, AV.refs]); intro R hR))))
    all_goals (refine ⟨by simp, ⟨_, ?_, AV.le_refl _⟩, leH_get (by simp [leH, hget])⟩; simp only [Tryz.results6, resL, ldA, oneOf, go_sem])
theorem few_fn (j : Jn) (hj : j.raw) : Fn Tryz.prog 6 [jnA j] [] (jnA (fewJ j)) [] := by
  have h := (few_row j hj).frzN (d := 500) (pcs := ((j.m.take 18).map cutP).flatMap Pt.pv) rfl
  have e1 : (((j.m.take 18).map cutP).flatMap Pt.pv).length = ((j.m.take 18).map cutP).length * 6 := flat_length pt_len _
  simpa [-List.length_flatMap, -List.length_map, -List.length_take, -List.map_take, fewJ, e1, AV.frz, AV.frzL, frzH, vi] using h
end Go.Proofs.YtcahibdaiokajaaGreat
namespace Go.Proofs.YtcahibdaiokajaaGreat.ax
open Go.RowKit
open Nat (reduceBEq)
set_option maxRecDepth 20000
set_option maxHeartbeats 2000000
def ddN (s : List Int) : Nat → List Int
  | 0 => []
  | i + 1 => match s[i]? with
    | none => ddN s i
    | some b => if 0 < i ∧ s[i - 1]? = some b then ddN s i else ddN s i ++ [b]
theorem ddN_same {s : List Int} {i : Nat} {a b : Int} (ha : s[i]? = some a) (hb : s[i + 1]? = some b) (e : a = b) : ddN s (i + 2) = ddN s (i + 1) := by
  show (match s[i + 1]? with | none => _ | some b => _) = _
  rw [hb]
  dsimp only
  rw [if_pos ⟨by omega, by rw [Nat.add_sub_cancel, ha, e]⟩]
theorem ddN_new {s : List Int} {i : Nat} {a b : Int} (ha : s[i]? = some a) (hb : s[i + 1]? = some b) (e : a ≠ b) : ddN s (i + 2) = ddN s (i + 1) ++ [b] := by
  show (match s[i + 1]? with | none => _ | some b => _) = _
  rw [hb]
  dsimp only
  rw [if_neg fun h => by
    have h2 := h.2
    rw [Nat.add_sub_cancel, ha] at h2
    exact e (Option.some.inj h2)]
theorem ddN_one {s : List Int} {a : Int} (ha : s[0]? = some a) : ddN s 1 = [a] := by
  show (match s[0]? with | none => _ | some b => _) = _
  rw [ha]
  dsimp only
  rw [if_neg fun h => Nat.lt_irrefl 0 h.1]
  rfl
theorem ddN_take {s : List Int} : ∀ {k : Nat}, k < s.length → (∀ j, j < k → s[j]? ≠ s[j + 1]?) → ddN s (k + 1) = s.take (k + 1)
  | 0, hk, _ => by
    rw [ddN_one (List.getElem?_eq_getElem hk), List.take_add_one, List.getElem?_eq_getElem hk]
    rfl
  | k + 1, hk, h => by
    have ih := ddN_take (k := k) (by omega) fun j hj => h j (by omega)
    have h1 := h k (by omega)
    rw [List.getElem?_eq_getElem (by omega), List.getElem?_eq_getElem hk] at h1
    rw [ddN_new (List.getElem?_eq_getElem (by omega)) (List.getElem?_eq_getElem hk) (fun e => h1 (by rw [e])), ih, List.take_add_one (i := k + 1), List.getElem?_eq_getElem hk]
    rfl
theorem ddN_le (s : List Int) : ∀ i, (ddN s i).length ≤ i
  | 0 => Nat.le_refl _
  | i + 1 => by
    have ih := ddN_le s i
    unfold ddN
    split
    · omega
    · split
      · omega
      · rw [List.length_append]; simp; omega
theorem rcA_at {l : List Int} {i : Nat} {y : Int} (h : l[i]? = some y) : (rcA l)[i]? = some (vi .u64 y) := by
  unfold rcA
  rw [List.getElem?_map]
  have h2 := flat_at (f := apv) apv_len h
  rw [Nat.mul_one] at h2
  have h3 : (l.flatMap apv)[i]? = some (.v (.int .u64 y)) := by
    have h4 : (((l.flatMap apv).drop i).take 1)[0]? = ([PV.v (.int .u64 y)] : List PV)[0]? := by rw [h2]; rfl
    rw [List.getElem?_take, if_pos (by omega), List.getElem?_drop, Nat.add_zero] at h4
    exact h4
  rw [h3]
  rfl
theorem rcA_app (l r : List Int) : rcA (l ++ r) = rcA l ++ rcA r := by
  unfold rcA; rw [List.flatMap_append, List.map_append]
theorem rcA_take (l : List Int) (k : Nat) : (rcA l).take k = rcA (l.take k) := by
  by_cases h : k ≤ l.length
  · conv => lhs; rw [← List.take_append_drop k l, rcA_app]
    exact List.take_left' (by rw [rcA_len, List.length_take]; omega)
  · rw [List.take_of_length_le (by rw [rcA_len]; omega), List.take_of_length_le (by omega)]
theorem rcA_drop (l : List Int) (k : Nat) : (rcA l).drop k = rcA (l.drop k) := by
  by_cases h : k ≤ l.length
  · conv => lhs; rw [← List.take_append_drop k l, rcA_app]
    exact List.drop_left' (by rw [rcA_len, List.length_take]; omega)
  · rw [List.drop_of_length_le (by rw [rcA_len]; omega), List.drop_of_length_le (by omega)]
    rfl
theorem rcA_set (l : List Int) (k : Nat) (x : Int) (h : k < l.length) : (rcA l).take k ++ (vi .u64 x :: (rcA l).drop (k + 1)) = rcA (l.set k x) := by
  rw [rcA_take, rcA_drop, List.set_eq_take_append_cons_drop, if_pos h, rcA_app]
  rfl
theorem zerosA_rc (k : Nat) : zerosA [.int .u64 0] k = rcA (List.replicate k 0) := by
  unfold zerosA
  induction k with
  | zero => rfl
  | succ k ih =>
    rw [List.replicate_succ, List.flatten_cons, ih, List.replicate_succ]
    rfl
theorem compact_cells (s : List Int) (hs : s.length ≤ 1000000) : Fn Tryz.prog 92 [.row 1000 63 1 s.length] [(1000, rcA s)] (.row 1000 63 1 (ddN s s.length).length) [(1000, rcA (ddN s s.length ++ List.replicate (s.length - (ddN s s.length).length) 0))] := by
  by_cases h2 : s.length < 2
  · have hd : ddN s s.length = s := by
      match s, h2 with
      | [], _ => rfl
      | [a], _ => exact ddN_one rfl
    rw [hd, Nat.sub_self, List.replicate_zero, List.append_nil]
    have k1 : (decide ((s.length : Int) < 2)) = true := by simp; omega
    (refine fn_of Tryz.func92 rfl (by rfl) ?_; simp only [Tryz.ntmps92, List.length_cons, List.length_nil, Nat.reduceAdd, Nat.reduceSub, List.replicate, List.cons_append, List.nil_append])
    (repeat (any_goals (first | ((with_reducible refine evL_one ?_ ?_); rfl; intro K hK; simp only [go_sem, k1]; ((repeat (refine ndI (by first | assumption | omega | rfl) ?_)); refine hK _ ?_; clear hK K)) | ((with_reducible refine evL_one ?_ ?_); rfl; intro K hK; simp only [go_sem, k1]; apply opA_cut_nil; rfl; rfl; rfl; rfl; (focus (simp only [go_sem]; try rfl)); rfl; (simp only [go_sem, k1]; (with_reducible refine hK _ ?_); clear hK K)) | ((with_reducible refine evL_one ?_ ?_); rfl; intro K hK; (try simp only [go_sem, k1]); (repeat (refine ndI (by first | assumption | omega | rfl) ?_)); refine opA_slice_row rfl rfl rfl rfl rfl ?_ rfl rfl rfl rfl ?_ ?_ ?_; (focus (simp only [go_sem]; try rfl)); (intro h; first | rfl | cases h); (first | omega | (dsimp only; omega) | (simp only [Option.isSome_some, Option.isSome_none]; omega) | (simp; omega) | (focus (simp; done))); (intro q hq1 hq2; (simp only [go_sem, k1]; refine hK _ ?_; clear hK K))) | ((with_reducible refine evL_one ?_ ?_); rfl; intro K hK; (try simp only [go_sem, k1]); (repeat (refine ndI (by first | assumption | omega | rfl) ?_)); refine opA_slice_cut rfl rfl rfl rfl rfl ?_ rfl rfl rfl rfl ?_ ?_ ?_; (focus (simp only [go_sem]; try rfl)); (intro h; first | rfl | cases h); (first | omega | (dsimp only; omega) | (simp only [Option.isSome_some, Option.isSome_none]; omega) | (simp; omega) | (focus (simp; done))); (simp only [go_sem, k1]; refine hK _ ?_; clear hK K)) | ((with_reducible refine evL_one ?_ ?_); rfl; intro K hK; (try simp only [go_sem, k1]); (repeat (refine ndI (by first | assumption | omega | rfl) ?_)); apply opA_clear; rfl; rfl; (focus (simp only [go_sem]; try rfl)); (first | omega | (dsimp only; omega) | (simp only [Option.isSome_some, Option.isSome_none]; omega) | (simp; omega) | (focus (simp; done))); (simp only [go_sem, Option.bind_some]; rfl); rfl; rfl; rfl; rfl; (first | omega | (simp only [go_sem, k1, spl, List.length_append, List.length_map, List.length_take, List.length_drop, List.length_replicate]; omega) | (simp [spl]; omega) | (focus (simp [spl]; done))); (simp only [go_sem, k1]; refine hK _ ?_; clear hK K)) | ((with_reducible refine evL_one ?_ ?_); rfl; intro K hK; (try simp only [go_sem, k1]); (repeat (refine ndI (by first | assumption | omega | rfl) ?_)); refine opA_index_cut rfl rfl rfl rfl rfl ?_ ?_ ?_; (focus (simp only [go_sem]; try rfl)); (first | omega | (dsimp only; omega) | (simp only [Option.isSome_some, Option.isSome_none]; omega) | (simp; omega) | (focus (simp; done))); (simp only [go_sem, k1]; refine hK _ ?_; clear hK K)) | (with_reducible first | (refine evL_nil ?_; refine hR _ ?_; clear hR R) | ((first | refine evC_seq ?_ | refine evC_block ?_); intro Ψ hΨ hΨ') | (refine evC_region ?_; intro R hR) | (refine hΨ _ ?_; clear hΨ hΨ' Ψ) | refine evC_skip ?_ | refine evC_ret ?_ | refine evC_exit ?_) | ((with_reducible refine hΨ' _ _ ?_ ?_); (focus (simp; done)); clear hΨ hΨ' Ψ) | ((with_reducible apply evC_cond); rfl; rfl; all_goals (intro hc; first | (cases hc; done) | (try simp only at hc))) | ((with_reducible refine evD_nil ?_ ?_); kernel_rfl; (with_reducible refine hR _ ?_); clear hR R) | (((with_reducible apply evD_any); rfl; rfl; (simp only [rdE, rdOf, go_sem, k1]; rfl); (intro τ hA hQ hN; ((try simp only [agree, Op.operands, Call.operands, go_sem, k1, go_sem, List.mem_cons, List.not_mem_nil, forall_eq_or_imp, forall_eq, List.append_toArray, Option.toArray] at hA); (try simp only [go_sem, k1, List.mem_cons, List.not_mem_nil, forall_eq_or_imp, forall_eq] at hQ hN); (first | (revert hA; intro hA) | have hA := trivial); (first | (revert hQ; intro hQ) | have hQ := trivial); (first | (revert hN; intro hN) | have hN := trivial); simp only [go_sem, k1, go_sem, hA, hQ, hN]; (repeat (refine ndI (by first | assumption | omega | rfl) ?_)); (first | apply eff_rd | apply eff_st | apply eff_nw)))); (simp only [St.eff, setO, hputs, go_sem, k1])) | ((with_reducible refine evC_draw ?_ ?_ ?_ ?_); kernel_rfl; kernel_rfl; (first | kernel_rfl | simp [newNames, isNew, St.free, freeH, AV.refsL, AV.refs]); intro R hR))))
    all_goals (refine ⟨by simp, ⟨_, ?_, AV.le_refl _⟩, leH_get (by simp [leH, hget])⟩; simp only [Tryz.results92, resL, ldA, oneOf, go_sem])
  · have k1 : (decide ((s.length : Int) < 2)) = false := by simp; omega
    (refine fn_of Tryz.func92 rfl (by rfl) ?_; simp only [Tryz.ntmps92, List.length_cons, List.length_nil, Nat.reduceAdd, Nat.reduceSub, List.replicate, List.cons_append, List.nil_append])
    (repeat (any_goals (first | ((with_reducible refine evL_one ?_ ?_); rfl; intro K hK; simp only [go_sem, k1]; ((repeat (refine ndI (by first | assumption | omega | rfl) ?_)); refine hK _ ?_; clear hK K)) | ((with_reducible refine evL_one ?_ ?_); rfl; intro K hK; simp only [go_sem, k1]; apply opA_cut_nil; rfl; rfl; rfl; rfl; (focus (simp only [go_sem]; try rfl)); rfl; (simp only [go_sem, k1]; (with_reducible refine hK _ ?_); clear hK K)) | ((with_reducible refine evL_one ?_ ?_); rfl; intro K hK; (try simp only [go_sem, k1]); (repeat (refine ndI (by first | assumption | omega | rfl) ?_)); refine opA_slice_row rfl rfl rfl rfl rfl ?_ rfl rfl rfl rfl ?_ ?_ ?_; (focus (simp only [go_sem]; try rfl)); (intro h; first | rfl | cases h); (first | omega | (dsimp only; omega) | (simp only [Option.isSome_some, Option.isSome_none]; omega) | (simp; omega) | (focus (simp; done))); (intro q hq1 hq2; (simp only [go_sem, k1]; refine hK _ ?_; clear hK K))) | ((with_reducible refine evL_one ?_ ?_); rfl; intro K hK; (try simp only [go_sem, k1]); (repeat (refine ndI (by first | assumption | omega | rfl) ?_)); refine opA_slice_cut rfl rfl rfl rfl rfl ?_ rfl rfl rfl rfl ?_ ?_ ?_; (focus (simp only [go_sem]; try rfl)); (intro h; first | rfl | cases h); (first | omega | (dsimp only; omega) | (simp only [Option.isSome_some, Option.isSome_none]; omega) | (simp; omega) | (focus (simp; done))); (simp only [go_sem, k1]; refine hK _ ?_; clear hK K)) | ((with_reducible refine evL_one ?_ ?_); rfl; intro K hK; (try simp only [go_sem, k1]); (repeat (refine ndI (by first | assumption | omega | rfl) ?_)); apply opA_clear; rfl; rfl; (focus (simp only [go_sem]; try rfl)); (first | omega | (dsimp only; omega) | (simp only [Option.isSome_some, Option.isSome_none]; omega) | (simp; omega) | (focus (simp; done))); (simp only [go_sem, Option.bind_some]; rfl); rfl; rfl; rfl; rfl; (first | omega | (simp only [go_sem, k1, spl, List.length_append, List.length_map, List.length_take, List.length_drop, List.length_replicate]; omega) | (simp [spl]; omega) | (focus (simp [spl]; done))); (simp only [go_sem, k1]; refine hK _ ?_; clear hK K)) | ((with_reducible refine evL_one ?_ ?_); rfl; intro K hK; (try simp only [go_sem, k1]); (repeat (refine ndI (by first | assumption | omega | rfl) ?_)); refine opA_index_cut rfl rfl rfl rfl rfl ?_ ?_ ?_; (focus (simp only [go_sem]; try rfl)); (first | omega | (dsimp only; omega) | (simp only [Option.isSome_some, Option.isSome_none]; omega) | (simp; omega) | (focus (simp; done))); (simp only [go_sem, k1]; refine hK _ ?_; clear hK K)) | (with_reducible first | (refine evL_nil ?_; refine hR _ ?_; clear hR R) | ((first | refine evC_seq ?_ | refine evC_block ?_); intro Ψ hΨ hΨ') | (refine evC_region ?_; intro R hR) | (refine hΨ _ ?_; clear hΨ hΨ' Ψ) | refine evC_skip ?_ | refine evC_ret ?_ | refine evC_exit ?_) | ((with_reducible refine hΨ' _ _ ?_ ?_); (focus (simp; done)); clear hΨ hΨ' Ψ) | ((with_reducible apply evC_cond); rfl; rfl; all_goals (intro hc; first | (cases hc; done) | (try simp only at hc))) | ((with_reducible refine evD_nil ?_ ?_); kernel_rfl; (with_reducible refine hR _ ?_); clear hR R) | (((with_reducible apply evD_any); rfl; rfl; (simp only [rdE, rdOf, go_sem, k1]; rfl); (intro τ hA hQ hN; ((try simp only [agree, Op.operands, Call.operands, go_sem, k1, go_sem, List.mem_cons, List.not_mem_nil, forall_eq_or_imp, forall_eq, List.append_toArray, Option.toArray] at hA); (try simp only [go_sem, k1, List.mem_cons, List.not_mem_nil, forall_eq_or_imp, forall_eq] at hQ hN); (first | (revert hA; intro hA) | have hA := trivial); (first | (revert hQ; intro hQ) | have hQ := trivial); (first | (revert hN; intro hN) | have hN := trivial); simp only [go_sem, k1, go_sem, hA, hQ, hN]; (repeat (refine ndI (by first | assumption | omega | rfl) ?_)); (first | apply eff_rd | apply eff_st | apply eff_nw)))); (simp only [St.eff, setO, hputs, go_sem, k1])) | ((with_reducible refine evC_draw ?_ ?_ ?_ ?_); kernel_rfl; kernel_rfl; (first | kernel_rfl | simp [newNames, isNew, St.free, freeH, AV.refsL, AV.refs]); intro R hR))))
    refine evC_loop (α := { j : Nat // j < s.length ∧ ∀ i, i < j → s[i]? ≠ s[i + 1]? }) (fun x => ⟨[.row 1000 63 1 s.length, .any, .any, vi .i64 ((x.1 + 1 : Nat) : Int), .any, .any, .any, .any, .any, .any, .any, .any, .any, .any, .any, .any, .any, .any, .any, .any, .any, .any, .any, .any, .any, .any, .any, .any, .any, .any, .any, .any, .any, .any, .any, .any, .any, .any, .any, .any, .any, .any, .any, .any, .any, .any, .any, .any, .any, .any, .any, .any, .any, .any, .any, .any, .any, .any, .any, .any, .any], [(1000, rcA s)]⟩) (fun x => s.length - x.1) ⟨0, by omega, fun i hi => absurd hi (Nat.not_lt_zero _)⟩ (St.le_of (by simp [leT]) (by simp [leH, hget])) ?_
    rintro ⟨j, hj, hnd⟩ Ψ hΨ hΨ'
    (try dsimp only at hΨ ⊢)
    rcases Nat.lt_or_ge (j + 1) s.length with hlt | hge
    · have k2 : (decide (((j + 1 : Nat) : Int) < (s.length : Int))) = true := by simp; omega
      have k3 : ((j + 1 : Nat) : Int) - 1 = (j : Int) := by omega
      have k4 : ((j + 1 : Nat) : Int) + 1 = ((j + 1 + 1 : Nat) : Int) := by omega
      obtain ⟨a, ha⟩ : ∃ a, s[j]? = some a := ⟨_, List.getElem?_eq_getElem hj⟩
      obtain ⟨b, hb⟩ : ∃ b, s[j + 1]? = some b := ⟨_, List.getElem?_eq_getElem hlt⟩
      have ea := rcA_at ha
      have eb := rcA_at hb
      by_cases hab : b = a
      · have k5 : (b == a) = true := by simp [hab]
        have hd0 : ddN s (j + 1) = s.take (j + 1) := ddN_take hj hnd
        have hd1 : ddN s (j + 2) = s.take (j + 1) := by rw [ddN_same ha hb hab.symm, hd0]
        have hd2 : (ddN s (j + 2)).length = j + 1 := by rw [hd1, List.length_take]; omega
        (have W := ndI k2 (ndI k3 (ndI k4 (ndI k5 @wrI))); (repeat (any_goals (first | ((with_reducible refine evL_one ?_ ?_); rfl; intro K hK; simp (disch := omega) only [go_sem, W, ea, eb, Nat.mul_one]; ((repeat (refine ndI (by first | assumption | omega | rfl) ?_)); refine hK _ ?_; clear hK K)) | ((with_reducible refine evL_one ?_ ?_); rfl; intro K hK; simp (disch := omega) only [go_sem, W, ea, eb, Nat.mul_one]; apply opA_cut_nil; rfl; rfl; rfl; rfl; (focus (simp (disch := omega) only [go_sem]; try rfl)); rfl; (simp (disch := omega) only [go_sem, W, ea, eb, Nat.mul_one]; (with_reducible refine hK _ ?_); clear hK K)) | ((with_reducible refine evL_one ?_ ?_); rfl; intro K hK; (try simp (disch := omega) only [go_sem, W, ea, eb, Nat.mul_one]); (repeat (refine ndI (by first | assumption | omega | rfl) ?_)); refine opA_slice_row rfl rfl rfl rfl rfl ?_ rfl rfl rfl rfl ?_ ?_ ?_; (focus (simp only [go_sem]; try rfl)); (intro h; first | rfl | cases h); (first | omega | (dsimp only; omega) | (simp (disch := omega) only [Option.isSome_some, Option.isSome_none]; omega) | (simp; omega) | (focus (simp; done))); (intro q hq1 hq2; (simp (disch := omega) only [go_sem, W, ea, eb, Nat.mul_one]; refine hK _ ?_; clear hK K))) | ((with_reducible refine evL_one ?_ ?_); rfl; intro K hK; (try simp (disch := omega) only [go_sem, W, ea, eb, Nat.mul_one]); (repeat (refine ndI (by first | assumption | omega | rfl) ?_)); refine opA_slice_cut rfl rfl rfl rfl rfl ?_ rfl rfl rfl rfl ?_ ?_ ?_; (focus (simp only [go_sem]; try rfl)); (intro h; first | rfl | cases h); (first | omega | (dsimp only; omega) | (simp (disch := omega) only [Option.isSome_some, Option.isSome_none]; omega) | (simp; omega) | (focus (simp; done))); (simp (disch := omega) only [go_sem, W, ea, eb, Nat.mul_one]; refine hK _ ?_; clear hK K)) | ((with_reducible refine evL_one ?_ ?_); rfl; intro K hK; (try simp (disch := omega) only [go_sem, W, ea, eb, Nat.mul_one]); (repeat (refine ndI (by first | assumption | omega | rfl) ?_)); apply opA_clear; rfl; rfl; (focus (simp only [go_sem]; try rfl)); (first | omega | (dsimp only; omega) | (simp (disch := omega) only [Option.isSome_some, Option.isSome_none]; omega) | (simp; omega) | (focus (simp; done))); (simp (disch := omega) only [go_sem, Option.bind_some]; rfl); rfl; rfl; rfl; rfl; (first | omega | (simp (disch := omega) only [go_sem, W, ea, eb, Nat.mul_one, spl, List.length_append, List.length_map, List.length_take, List.length_drop, List.length_replicate]; omega) | (simp [spl]; omega) | (focus (simp [spl]; done))); (simp (disch := omega) only [go_sem, W, ea, eb, Nat.mul_one]; refine hK _ ?_; clear hK K)) | ((with_reducible refine evL_one ?_ ?_); rfl; intro K hK; (try simp (disch := omega) only [go_sem, W, ea, eb, Nat.mul_one]); (repeat (refine ndI (by first | assumption | omega | rfl) ?_)); refine opA_index_cut rfl rfl rfl rfl rfl ?_ ?_ ?_; (focus (simp only [go_sem]; try rfl)); (first | omega | (dsimp only; omega) | (simp (disch := omega) only [Option.isSome_some, Option.isSome_none]; omega) | (simp; omega) | (focus (simp; done))); (simp (disch := omega) only [go_sem, W, ea, eb, Nat.mul_one]; refine hK _ ?_; clear hK K)) | (with_reducible first | (refine evL_nil ?_; refine hR _ ?_; clear hR R) | ((first | refine evC_seq ?_ | refine evC_block ?_); intro Ψ hΨ hΨ') | (refine evC_region ?_; intro R hR) | (refine hΨ _ ?_; clear hΨ hΨ' Ψ) | refine evC_skip ?_ | refine evC_ret ?_ | refine evC_exit ?_) | ((with_reducible refine hΨ' _ _ ?_ ?_); (focus (simp; done)); clear hΨ hΨ' Ψ) | ((with_reducible apply evC_cond); rfl; rfl; all_goals (intro hc; first | (cases hc; done) | (try simp only at hc))) | ((with_reducible refine evD_nil ?_ ?_); kernel_rfl; (with_reducible refine hR _ ?_); clear hR R) | (((with_reducible apply evD_any); rfl; rfl; (simp (disch := omega) only [rdE, rdOf, go_sem, W, ea, eb, Nat.mul_one]; rfl); (intro τ hA hQ hN; ((try simp only [agree, Op.operands, Call.operands, go_sem, W, ea, eb, Nat.mul_one, go_sem, List.mem_cons, List.not_mem_nil, forall_eq_or_imp, forall_eq, List.append_toArray, Option.toArray] at hA); (try simp only [go_sem, W, ea, eb, Nat.mul_one, List.mem_cons, List.not_mem_nil, forall_eq_or_imp, forall_eq] at hQ hN); (first | (revert hA; intro hA) | have hA := trivial); (first | (revert hQ; intro hQ) | have hQ := trivial); (first | (revert hN; intro hN) | have hN := trivial); simp (disch := omega) only [go_sem, W, ea, eb, Nat.mul_one, go_sem, hA, hQ, hN]; (repeat (refine ndI (by first | assumption | omega | rfl) ?_)); (first | apply eff_rd | apply eff_st | apply eff_nw)))); (simp (disch := omega) only [St.eff, setO, hputs, go_sem, W, ea, eb, Nat.mul_one])) | ((with_reducible refine evC_draw ?_ ?_ ?_ ?_); kernel_rfl; kernel_rfl; (first | kernel_rfl | simp [newNames, isNew, St.free, freeH, AV.refsL, AV.refs]); intro R hR)))))
        refine evC_loop (α := { p : Nat × List Int // j + 2 + p.1 ≤ s.length ∧ p.2.length = s.length ∧ (ddN s (j + 2 + p.1)).length ≤ j + 1 + p.1 ∧ p.2.take (ddN s (j + 2 + p.1)).length = ddN s (j + 2 + p.1) ∧ p.2.drop (j + 1 + p.1) = s.drop (j + 1 + p.1) }) (fun x => ⟨[.row 1000 63 1 s.length, .any, .any, vi .i64 ((ddN s (j + 2 + x.1.1)).length : Int), .cut 1000 63 1 (j + 1) (s.length - (j + 1)) q true, vi .i64 ((x.1.1 + 1 : Nat) : Int), .any, .any, .any, .any, .any, .any, .any, .any, .any, .any, .any, .any, .any, .any, .any, .any, .any, .any, .any, .any, .any, .any, .any, .any, .any, .any, .any, .any, .any, .any, .any, .any, .any, .any, .any, .any, .any, .any, .any, .any, .any, .any, .any, .any, .any, .any, .any, .any, .any, .any, .any, .any, .any, .any, .any], [(1000, rcA x.1.2)]⟩) (fun x => s.length - x.1.1) ⟨(0, s), by dsimp only; omega, rfl, by dsimp only; rw [Nat.add_zero, hd2]; omega, by dsimp only; rw [Nat.add_zero, hd2, hd1], rfl⟩ (St.le_of (by simp [leT, hd2]) (by simp [leH, hget])) ?_
        rintro ⟨⟨i, m⟩, c1, c2, c3, c4, c5⟩ Ψ hΨ hΨ'
        dsimp only at c1 c2 c3 c4 c5
        (try dsimp only at hΨ ⊢)
        obtain ⟨d, hd⟩ : ∃ d, (ddN s (j + 2 + i)).length = d := ⟨_, rfl⟩
        rcases Nat.lt_or_ge (j + 2 + i) s.length with hlt2 | hge2
        · have n2 : (decide (((i + 1 : Nat) : Int) < ((s.length - (j + 1) : Nat) : Int))) = true := by simp; omega
          have n3 : ((i + 1 : Nat) : Int) - 1 = (i : Int) := by omega
          have n4 : ((i + 1 : Nat) : Int) + 1 = ((i + 1 + 1 : Nat) : Int) := by omega
          have n6 : ((d : Nat) : Int) + 1 = ((d + 1 : Nat) : Int) := by omega
          obtain ⟨a', ha'⟩ : ∃ a, s[j + 1 + i]? = some a := ⟨_, List.getElem?_eq_getElem (by omega)⟩
          obtain ⟨b', hb'⟩ : ∃ b, s[j + 1 + i + 1]? = some b := ⟨_, List.getElem?_eq_getElem (by omega)⟩
          have hm : ∀ x, m[j + 1 + i + x]? = s[j + 1 + i + x]? := fun x => by
            rw [← List.getElem?_drop, ← List.getElem?_drop, c5]
          have ea' := rcA_at (l := m) (by rw [← ha']; exact hm 0)
          have eb' := rcA_at (l := m) (by rw [← hb']; exact hm 1)
          rw [Nat.add_assoc (j + 1) i 1] at eb'
          rw [Nat.add_zero] at ea'
          have c3' : d ≤ j + 1 + i := by rw [← hd]; exact c3
          have hset : (rcA m).take d ++ [vi .u64 b'] ++ (rcA m).drop (d + 1) = rcA (m.set d b') := by
            rw [List.append_assoc]
            exact rcA_set m d b' (by omega)
          have hdl : d < s.length := by omega
          have hml : (rcA m).length = s.length := by rw [rcA_len, c2, Nat.mul_one]
          rw [hd] at c3 c4
          rw [hd]
          by_cases hab' : b' = a'
          · have n5 : (b' != a') = false := by simp [hab']
            have en := ddN_same (s := s) ha' hb' hab'.symm
            have hΨ1 := fun σ' => hΨ σ' ⟨(i + 1, m), by dsimp only; omega, c2, by
              dsimp only
              rw [show j + 2 + (i + 1) = j + 1 + i + 2 by omega, en, show j + 1 + i + 1 = j + 2 + i by omega, hd]
              omega, by
              dsimp only
              rw [show j + 2 + (i + 1) = j + 1 + i + 2 by omega, en, show j + 1 + i + 1 = j + 2 + i by omega, hd]
              exact c4, by
              dsimp only
              rw [show j + 1 + (i + 1) = j + 1 + i + 1 by omega, ← List.drop_drop, c5, List.drop_drop]⟩ (by dsimp only; omega)
            dsimp only at hΨ1
            rw [show j + 2 + (i + 1) = j + 1 + i + 2 by omega, en, show j + 1 + i + 1 = j + 2 + i by omega, hd] at hΨ1
            (have W := ndI n2 (ndI n3 (ndI n4 (ndI n5 (ndI n6 @wrI)))); (repeat (any_goals (first | ((with_reducible refine evL_one ?_ ?_); rfl; intro K hK; simp (disch := omega) only [go_sem, W, ea', eb', hset, hml, Nat.mul_one]; ((repeat (refine ndI (by first | assumption | omega | rfl) ?_)); refine hK _ ?_; clear hK K)) | ((with_reducible refine evL_one ?_ ?_); rfl; intro K hK; simp (disch := omega) only [go_sem, W, ea', eb', hset, hml, Nat.mul_one]; apply opA_cut_nil; rfl; rfl; rfl; rfl; (focus (simp (disch := omega) only [go_sem]; try rfl)); rfl; (simp (disch := omega) only [go_sem, W, ea', eb', hset, hml, Nat.mul_one]; (with_reducible refine hK _ ?_); clear hK K)) | ((with_reducible refine evL_one ?_ ?_); rfl; intro K hK; (try simp (disch := omega) only [go_sem, W, ea', eb', hset, hml, Nat.mul_one]); (repeat (refine ndI (by first | assumption | omega | rfl) ?_)); refine opA_slice_row rfl rfl rfl rfl rfl ?_ rfl rfl rfl rfl ?_ ?_ ?_; (focus (simp only [go_sem]; try rfl)); (intro h; first | rfl | cases h); (first | omega | (dsimp only; omega) | (simp (disch := omega) only [Option.isSome_some, Option.isSome_none]; omega) | (simp; omega) | (focus (simp; done))); (intro q hq1 hq2; (simp (disch := omega) only [go_sem, W, ea', eb', hset, hml, Nat.mul_one]; refine hK _ ?_; clear hK K))) | ((with_reducible refine evL_one ?_ ?_); rfl; intro K hK; (try simp (disch := omega) only [go_sem, W, ea', eb', hset, hml, Nat.mul_one]); (repeat (refine ndI (by first | assumption | omega | rfl) ?_)); refine opA_slice_cut rfl rfl rfl rfl rfl ?_ rfl rfl rfl rfl ?_ ?_ ?_; (focus (simp only [go_sem]; try rfl)); (intro h; first | rfl | cases h); (first | omega | (dsimp only; omega) | (simp (disch := omega) only [Option.isSome_some, Option.isSome_none]; omega) | (simp; omega) | (focus (simp; done))); (simp (disch := omega) only [go_sem, W, ea', eb', hset, hml, Nat.mul_one]; refine hK _ ?_; clear hK K)) | ((with_reducible refine evL_one ?_ ?_); rfl; intro K hK; (try simp (disch := omega) only [go_sem, W, ea', eb', hset, hml, Nat.mul_one]); (repeat (refine ndI (by first | assumption | omega | rfl) ?_)); apply opA_clear; rfl; rfl; (focus (simp only [go_sem]; try rfl)); (first | omega | (dsimp only; omega) | (simp (disch := omega) only [Option.isSome_some, Option.isSome_none]; omega) | (simp; omega) | (focus (simp; done))); (simp (disch := omega) only [go_sem, Option.bind_some]; rfl); rfl; rfl; rfl; rfl; (first | omega | (simp (disch := omega) only [go_sem, W, ea', eb', hset, hml, Nat.mul_one, spl, List.length_append, List.length_map, List.length_take, List.length_drop, List.length_replicate]; omega) | (simp [spl]; omega) | (focus (simp [spl]; done))); (simp (disch := omega) only [go_sem, W, ea', eb', hset, hml, Nat.mul_one]; refine hK _ ?_; clear hK K)) | ((with_reducible refine evL_one ?_ ?_); rfl; intro K hK; (try simp (disch := omega) only [go_sem, W, ea', eb', hset, hml, Nat.mul_one]); (repeat (refine ndI (by first | assumption | omega | rfl) ?_)); refine opA_index_cut rfl rfl rfl rfl rfl ?_ ?_ ?_; (focus (simp only [go_sem]; try rfl)); (first | omega | (dsimp only; omega) | (simp (disch := omega) only [Option.isSome_some, Option.isSome_none]; omega) | (simp; omega) | (focus (simp; done))); (simp (disch := omega) only [go_sem, W, ea', eb', hset, hml, Nat.mul_one]; refine hK _ ?_; clear hK K)) | (with_reducible first | (refine evL_nil ?_; refine hR _ ?_; clear hR R) | ((first | refine evC_seq ?_ | refine evC_block ?_); intro Ψ hΨ hΨ') | (refine evC_region ?_; intro R hR) | (refine hΨ _ ?_; clear hΨ hΨ' Ψ) | refine evC_skip ?_ | refine evC_ret ?_ | refine evC_exit ?_) | ((with_reducible refine hΨ' _ _ ?_ ?_); (focus (simp; done)); clear hΨ hΨ' Ψ) | ((with_reducible apply evC_cond); rfl; rfl; all_goals (intro hc; first | (cases hc; done) | (try simp only at hc))) | ((with_reducible refine evD_nil ?_ ?_); kernel_rfl; (with_reducible refine hR _ ?_); clear hR R) | ((first | ((with_reducible apply evD_any); rfl; rfl; (simp (disch := omega) only [rdE, rdOf, go_sem, W, ea', eb', hset, hml, Nat.mul_one]; rfl); (intro τ hA hQ hN; ((try simp only [agree, Op.operands, Call.operands, go_sem, W, ea', eb', hset, hml, Nat.mul_one, go_sem, List.mem_cons, List.not_mem_nil, forall_eq_or_imp, forall_eq, List.append_toArray, Option.toArray] at hA); (try simp only [go_sem, W, ea', eb', hset, hml, Nat.mul_one, List.mem_cons, List.not_mem_nil, forall_eq_or_imp, forall_eq] at hQ hN); (first | (revert hA; intro hA) | have hA := trivial); (first | (revert hQ; intro hQ) | have hQ := trivial); (first | (revert hN; intro hN) | have hN := trivial); simp (disch := omega) only [go_sem, W, ea', eb', hset, hml, Nat.mul_one, go_sem, hA, hQ, hN]; (repeat (refine ndI (by first | assumption | omega | rfl) ?_)); (first | apply eff_rd | apply eff_st | apply eff_nw)))) | ((first | ((with_reducible apply evD_one); rfl) | ((with_reducible apply evD_grd); rfl; rfl; rfl; rfl)); apply opF_index_cut; rfl; rfl; rfl; rfl; rfl; (focus (simp only [go_sem]; try rfl)); (first | omega | (dsimp only; omega) | (simp (disch := omega) only [Option.isSome_some, Option.isSome_none]; omega) | (simp; omega) | (focus (simp; done))))); (simp (disch := omega) only [St.eff, setO, hputs, go_sem, W, ea', eb', hset, hml, Nat.mul_one])) | ((with_reducible refine evC_draw ?_ ?_ ?_ ?_); kernel_rfl; kernel_rfl; (first | kernel_rfl | simp [newNames, isNew, St.free, freeH, AV.refsL, AV.refs]); intro R hR)))))
            all_goals exact hΨ1 _ (St.le_of (by simp [leT]) (by simp [leH, hget]))
          · have n5 : (b' != a') = true := by simp [hab']
            have en := ddN_new (s := s) ha' hb' (fun e => hab' e.symm)
            have hl' : (ddN s (j + 1 + i + 2)).length = d + 1 := by
              rw [en, List.length_append, show j + 1 + i + 1 = j + 2 + i by omega, hd]; rfl
            have hΨ1 := fun σ' => hΨ σ' ⟨(i + 1, m.set d b'), by dsimp only; omega, by dsimp only; rw [List.length_set]; exact c2, by
              dsimp only
              rw [show j + 2 + (i + 1) = j + 1 + i + 2 by omega, hl']
              omega, by
              dsimp only
              rw [show j + 2 + (i + 1) = j + 1 + i + 2 by omega, hl', en, show j + 1 + i + 1 = j + 2 + i by omega, List.set_eq_take_append_cons_drop, if_pos (by omega), c4, List.take_append, hd]
              rw [List.take_of_length_le (by omega), show d + 1 - d = 1 by omega]
              rfl, by
              dsimp only
              rw [List.drop_set, if_pos (by omega), show j + 1 + (i + 1) = j + 1 + i + 1 by omega, ← List.drop_drop, c5, List.drop_drop]⟩ (by dsimp only; omega)
            dsimp only at hΨ1
            rw [show j + 2 + (i + 1) = j + 1 + i + 2 by omega, hl'] at hΨ1
            (have W := ndI n2 (ndI n3 (ndI n4 (ndI n5 (ndI n6 @wrI)))); (repeat (any_goals (first | ((with_reducible refine evL_one ?_ ?_); rfl; intro K hK; simp (disch := omega) only [go_sem, W, ea', eb', hset, hml, Nat.mul_one]; ((repeat (refine ndI (by first | assumption | omega | rfl) ?_)); refine hK _ ?_; clear hK K)) | ((with_reducible refine evL_one ?_ ?_); rfl; intro K hK; simp (disch := omega) only [go_sem, W, ea', eb', hset, hml, Nat.mul_one]; apply opA_cut_nil; rfl; rfl; rfl; rfl; (focus (simp (disch := omega) only [go_sem]; try rfl)); rfl; (simp (disch := omega) only [go_sem, W, ea', eb', hset, hml, Nat.mul_one]; (with_reducible refine hK _ ?_); clear hK K)) | ((with_reducible refine evL_one ?_ ?_); rfl; intro K hK; (try simp (disch := omega) only [go_sem, W, ea', eb', hset, hml, Nat.mul_one]); (repeat (refine ndI (by first | assumption | omega | rfl) ?_)); refine opA_slice_row rfl rfl rfl rfl rfl ?_ rfl rfl rfl rfl ?_ ?_ ?_; (focus (simp only [go_sem]; try rfl)); (intro h; first | rfl | cases h); (first | omega | (dsimp only; omega) | (simp (disch := omega) only [Option.isSome_some, Option.isSome_none]; omega) | (simp; omega) | (focus (simp; done))); (intro q hq1 hq2; (simp (disch := omega) only [go_sem, W, ea', eb', hset, hml, Nat.mul_one]; refine hK _ ?_; clear hK K))) | ((with_reducible refine evL_one ?_ ?_); rfl; intro K hK; (try simp (disch := omega) only [go_sem, W, ea', eb', hset, hml, Nat.mul_one]); (repeat (refine ndI (by first | assumption | omega | rfl) ?_)); refine opA_slice_cut rfl rfl rfl rfl rfl ?_ rfl rfl rfl rfl ?_ ?_ ?_; (focus (simp only [go_sem]; try rfl)); (intro h; first | rfl | cases h); (first | omega | (dsimp only; omega) | (simp (disch := omega) only [Option.isSome_some, Option.isSome_none]; omega) | (simp; omega) | (focus (simp; done))); (simp (disch := omega) only [go_sem, W, ea', eb', hset, hml, Nat.mul_one]; refine hK _ ?_; clear hK K)) | ((with_reducible refine evL_one ?_ ?_); rfl; intro K hK; (try simp (disch := omega) only [go_sem, W, ea', eb', hset, hml, Nat.mul_one]); (repeat (refine ndI (by first | assumption | omega | rfl) ?_)); apply opA_clear; rfl; rfl; (focus (simp only [go_sem]; try rfl)); (first | omega | (dsimp only; omega) | (simp (disch := omega) only [Option.isSome_some, Option.isSome_none]; omega) | (simp; omega) | (focus (simp; done))); (simp (disch := omega) only [go_sem, Option.bind_some]; rfl); rfl; rfl; rfl; rfl; (first | omega | (simp (disch := omega) only [go_sem, W, ea', eb', hset, hml, Nat.mul_one, spl, List.length_append, List.length_map, List.length_take, List.length_drop, List.length_replicate]; omega) | (simp [spl]; omega) | (focus (simp [spl]; done))); (simp (disch := omega) only [go_sem, W, ea', eb', hset, hml, Nat.mul_one]; refine hK _ ?_; clear hK K)) | ((with_reducible refine evL_one ?_ ?_); rfl; intro K hK; (try simp (disch := omega) only [go_sem, W, ea', eb', hset, hml, Nat.mul_one]); (repeat (refine ndI (by first | assumption | omega | rfl) ?_)); refine opA_index_cut rfl rfl rfl rfl rfl ?_ ?_ ?_; (focus (simp only [go_sem]; try rfl)); (first | omega | (dsimp only; omega) | (simp (disch := omega) only [Option.isSome_some, Option.isSome_none]; omega) | (simp; omega) | (focus (simp; done))); (simp (disch := omega) only [go_sem, W, ea', eb', hset, hml, Nat.mul_one]; refine hK _ ?_; clear hK K)) | (with_reducible first | (refine evL_nil ?_; refine hR _ ?_; clear hR R) | ((first | refine evC_seq ?_ | refine evC_block ?_); intro Ψ hΨ hΨ') | (refine evC_region ?_; intro R hR) | (refine hΨ _ ?_; clear hΨ hΨ' Ψ) | refine evC_skip ?_ | refine evC_ret ?_ | refine evC_exit ?_) | ((with_reducible refine hΨ' _ _ ?_ ?_); (focus (simp; done)); clear hΨ hΨ' Ψ) | ((with_reducible apply evC_cond); rfl; rfl; all_goals (intro hc; first | (cases hc; done) | (try simp only at hc))) | ((with_reducible refine evD_nil ?_ ?_); kernel_rfl; (with_reducible refine hR _ ?_); clear hR R) | ((first | ((with_reducible apply evD_any); rfl; rfl; (simp (disch := omega) only [rdE, rdOf, go_sem, W, ea', eb', hset, hml, Nat.mul_one]; rfl); (intro τ hA hQ hN; ((try simp only [agree, Op.operands, Call.operands, go_sem, W, ea', eb', hset, hml, Nat.mul_one, go_sem, List.mem_cons, List.not_mem_nil, forall_eq_or_imp, forall_eq, List.append_toArray, Option.toArray] at hA); (try simp only [go_sem, W, ea', eb', hset, hml, Nat.mul_one, List.mem_cons, List.not_mem_nil, forall_eq_or_imp, forall_eq] at hQ hN); (first | (revert hA; intro hA) | have hA := trivial); (first | (revert hQ; intro hQ) | have hQ := trivial); (first | (revert hN; intro hN) | have hN := trivial); simp (disch := omega) only [go_sem, W, ea', eb', hset, hml, Nat.mul_one, go_sem, hA, hQ, hN]; (repeat (refine ndI (by first | assumption | omega | rfl) ?_)); (first | apply eff_rd | apply eff_st | apply eff_nw)))) | ((first | ((with_reducible apply evD_one); rfl) | ((with_reducible apply evD_grd); rfl; rfl; rfl; rfl)); apply opF_index_cut; rfl; rfl; rfl; rfl; rfl; (focus (simp only [go_sem]; try rfl)); (first | omega | (dsimp only; omega) | (simp (disch := omega) only [Option.isSome_some, Option.isSome_none]; omega) | (simp; omega) | (focus (simp; done))))); (simp (disch := omega) only [St.eff, setO, hputs, go_sem, W, ea', eb', hset, hml, Nat.mul_one])) | ((with_reducible refine evC_draw ?_ ?_ ?_ ?_); kernel_rfl; kernel_rfl; (first | kernel_rfl | simp [newNames, isNew, St.free, freeH, AV.refsL, AV.refs]); intro R hR)))))
            all_goals exact hΨ1 _ (St.le_of (by simp [leT]) (by simp [leH, hget]))
        · have n2 : (decide (((i + 1 : Nat) : Int) < ((s.length - (j + 1) : Nat) : Int))) = false := by simp; omega
          have e : j + 2 + i = s.length := by omega
          rw [e] at hd c4
          rw [hd] at c4
          have hdl : d ≤ s.length := by rw [← hd]; exact ddN_le s _
          have hml := rcA_len m
          have hfin : rcA (ddN s s.length ++ List.replicate (s.length - d) 0) = spl (rcA m) d (zerosA [.int .u64 0] (s.length - d)) := by
            unfold spl
            rw [zerosA_rc, rcA_len, List.length_replicate, rcA_app, rcA_take, c4, rcA_drop, List.drop_of_length_le (by omega)]
            show _ = _ ++ []
            rw [List.append_nil]
          rw [e, hd]
          have hr : (AV.row 1000 63 1 (ddN s s.length).length) = .row 1000 63 1 d := by rw [hd]
          have hcc : ddN s s.length ++ List.replicate (s.length - (ddN s s.length).length) 0 = ddN s s.length ++ List.replicate (s.length - d) 0 := by rw [hd]
          (repeat (any_goals (first | ((with_reducible refine evL_one ?_ ?_); rfl; intro K hK; simp (disch := omega) only [go_sem, n2, wrI, Nat.mul_one]; ((repeat (refine ndI (by first | assumption | omega | rfl) ?_)); refine hK _ ?_; clear hK K)) | ((with_reducible refine evL_one ?_ ?_); rfl; intro K hK; simp (disch := omega) only [go_sem, n2, wrI, Nat.mul_one]; apply opA_cut_nil; rfl; rfl; rfl; rfl; (focus (simp (disch := omega) only [go_sem]; try rfl)); rfl; (simp (disch := omega) only [go_sem, n2, wrI, Nat.mul_one]; (with_reducible refine hK _ ?_); clear hK K)) | ((with_reducible refine evL_one ?_ ?_); rfl; intro K hK; (try simp (disch := omega) only [go_sem, n2, wrI, Nat.mul_one]); (repeat (refine ndI (by first | assumption | omega | rfl) ?_)); refine opA_slice_row rfl rfl rfl rfl rfl ?_ rfl rfl rfl rfl ?_ ?_ ?_; (focus (simp only [go_sem]; try rfl)); (intro h; first | rfl | cases h); (first | omega | (dsimp only; omega) | (simp (disch := omega) only [Option.isSome_some, Option.isSome_none]; omega) | (simp; omega) | (focus (simp; done))); (intro q hq1 hq2; (simp (disch := omega) only [go_sem, n2, wrI, Nat.mul_one]; refine hK _ ?_; clear hK K))) | ((with_reducible refine evL_one ?_ ?_); rfl; intro K hK; (try simp (disch := omega) only [go_sem, n2, wrI, Nat.mul_one]); (repeat (refine ndI (by first | assumption | omega | rfl) ?_)); refine opA_slice_cut rfl rfl rfl rfl rfl ?_ rfl rfl rfl rfl ?_ ?_ ?_; (focus (simp only [go_sem]; try rfl)); (intro h; first | rfl | cases h); (first | omega | (dsimp only; omega) | (simp (disch := omega) only [Option.isSome_some, Option.isSome_none]; omega) | (simp; omega) | (focus (simp; done))); (simp (disch := omega) only [go_sem, n2, wrI, Nat.mul_one]; refine hK _ ?_; clear hK K)) | ((with_reducible refine evL_one ?_ ?_); rfl; intro K hK; (try simp (disch := omega) only [go_sem, n2, wrI, Nat.mul_one]); (repeat (refine ndI (by first | assumption | omega | rfl) ?_)); apply opA_clear; rfl; rfl; (focus (simp only [go_sem]; try rfl)); (first | omega | (dsimp only; omega) | (simp (disch := omega) only [Option.isSome_some, Option.isSome_none]; omega) | (simp; omega) | (focus (simp; done))); (simp (disch := omega) only [go_sem, Option.bind_some]; rfl); rfl; rfl; rfl; rfl; (first | omega | (simp (disch := omega) only [go_sem, n2, wrI, Nat.mul_one, spl, List.length_append, List.length_map, List.length_take, List.length_drop, List.length_replicate]; omega) | (simp [spl]; omega) | (focus (simp [spl]; done))); (simp (disch := omega) only [go_sem, n2, wrI, Nat.mul_one]; refine hK _ ?_; clear hK K)) | ((with_reducible refine evL_one ?_ ?_); rfl; intro K hK; (try simp (disch := omega) only [go_sem, n2, wrI, Nat.mul_one]); (repeat (refine ndI (by first | assumption | omega | rfl) ?_)); refine opA_index_cut rfl rfl rfl rfl rfl ?_ ?_ ?_; (focus (simp only [go_sem]; try rfl)); (first | omega | (dsimp only; omega) | (simp (disch := omega) only [Option.isSome_some, Option.isSome_none]; omega) | (simp; omega) | (focus (simp; done))); (simp (disch := omega) only [go_sem, n2, wrI, Nat.mul_one]; refine hK _ ?_; clear hK K)) | (with_reducible first | (refine evL_nil ?_; refine hR _ ?_; clear hR R) | ((first | refine evC_seq ?_ | refine evC_block ?_); intro Ψ hΨ hΨ') | (refine evC_region ?_; intro R hR) | (refine hΨ _ ?_; clear hΨ hΨ' Ψ) | refine evC_skip ?_ | refine evC_ret ?_ | refine evC_exit ?_) | ((with_reducible refine hΨ' _ _ ?_ ?_); (focus (simp; done)); clear hΨ hΨ' Ψ) | ((with_reducible apply evC_cond); rfl; rfl; all_goals (intro hc; first | (cases hc; done) | (try simp only at hc))) | ((with_reducible refine evD_nil ?_ ?_); kernel_rfl; (with_reducible refine hR _ ?_); clear hR R) | (((with_reducible apply evD_any); rfl; rfl; (simp (disch := omega) only [rdE, rdOf, go_sem, n2, wrI, Nat.mul_one]; rfl); (intro τ hA hQ hN; ((try simp only [agree, Op.operands, Call.operands, go_sem, n2, wrI, Nat.mul_one, go_sem, List.mem_cons, List.not_mem_nil, forall_eq_or_imp, forall_eq, List.append_toArray, Option.toArray] at hA); (try simp only [go_sem, n2, wrI, Nat.mul_one, List.mem_cons, List.not_mem_nil, forall_eq_or_imp, forall_eq] at hQ hN); (first | (revert hA; intro hA) | have hA := trivial); (first | (revert hQ; intro hQ) | have hQ := trivial); (first | (revert hN; intro hN) | have hN := trivial); simp (disch := omega) only [go_sem, n2, wrI, Nat.mul_one, go_sem, hA, hQ, hN]; (repeat (refine ndI (by first | assumption | omega | rfl) ?_)); (first | apply eff_rd | apply eff_st | apply eff_nw)))); (simp (disch := omega) only [St.eff, setO, hputs, go_sem, n2, wrI, Nat.mul_one])) | ((with_reducible refine evC_draw ?_ ?_ ?_ ?_); kernel_rfl; kernel_rfl; (first | kernel_rfl | simp [newNames, isNew, St.free, freeH, AV.refsL, AV.refs]); intro R hR))))
          all_goals rw [hr, hcc, hfin]
          all_goals refine ⟨by simp, ⟨_, rfl, AV.le_cut _ _ _ _ _⟩, leH_get ⟨?_, trivial⟩⟩
          all_goals simp [hget_cons, spl, List.append_assoc]
      · have k5 : (b == a) = false := by simp [hab]
        have hΨ1 := fun σ' => hΨ σ' ⟨j + 1, hlt, fun i hi => by
          rcases Nat.lt_or_ge i j with h | h
          · exact hnd i h
          · obtain rfl : i = j := by omega
            rw [ha, hb]
            exact fun e => hab (Option.some.inj e).symm⟩ (by dsimp only; omega)
        dsimp only at hΨ1
        (have W := ndI k2 (ndI k3 (ndI k4 (ndI k5 @wrI))); (repeat (any_goals (first | ((with_reducible refine evL_one ?_ ?_); rfl; intro K hK; simp (disch := omega) only [go_sem, W, ea, eb, Nat.mul_one]; ((repeat (refine ndI (by first | assumption | omega | rfl) ?_)); refine hK _ ?_; clear hK K)) | ((with_reducible refine evL_one ?_ ?_); rfl; intro K hK; simp (disch := omega) only [go_sem, W, ea, eb, Nat.mul_one]; apply opA_cut_nil; rfl; rfl; rfl; rfl; (focus (simp (disch := omega) only [go_sem]; try rfl)); rfl; (simp (disch := omega) only [go_sem, W, ea, eb, Nat.mul_one]; (with_reducible refine hK _ ?_); clear hK K)) | ((with_reducible refine evL_one ?_ ?_); rfl; intro K hK; (try simp (disch := omega) only [go_sem, W, ea, eb, Nat.mul_one]); (repeat (refine ndI (by first | assumption | omega | rfl) ?_)); refine opA_slice_row rfl rfl rfl rfl rfl ?_ rfl rfl rfl rfl ?_ ?_ ?_; (focus (simp only [go_sem]; try rfl)); (intro h; first | rfl | cases h); (first | omega | (dsimp only; omega) | (simp (disch := omega) only [Option.isSome_some, Option.isSome_none]; omega) | (simp; omega) | (focus (simp; done))); (intro q hq1 hq2; (simp (disch := omega) only [go_sem, W, ea, eb, Nat.mul_one]; refine hK _ ?_; clear hK K))) | ((with_reducible refine evL_one ?_ ?_); rfl; intro K hK; (try simp (disch := omega) only [go_sem, W, ea, eb, Nat.mul_one]); (repeat (refine ndI (by first | assumption | omega | rfl) ?_)); refine opA_slice_cut rfl rfl rfl rfl rfl ?_ rfl rfl rfl rfl ?_ ?_ ?_; (focus (simp only [go_sem]; try rfl)); (intro h; first | rfl | cases h); (first | omega | (dsimp only; omega) | (simp (disch := omega) only [Option.isSome_some, Option.isSome_none]; omega) | (simp; omega) | (focus (simp; done))); (simp (disch := omega) only [go_sem, W, ea, eb, Nat.mul_one]; refine hK _ ?_; clear hK K)) | ((with_reducible refine evL_one ?_ ?_); rfl; intro K hK; (try simp (disch := omega) only [go_sem, W, ea, eb, Nat.mul_one]); (repeat (refine ndI (by first | assumption | omega | rfl) ?_)); apply opA_clear; rfl; rfl; (focus (simp only [go_sem]; try rfl)); (first | omega | (dsimp only; omega) | (simp (disch := omega) only [Option.isSome_some, Option.isSome_none]; omega) | (simp; omega) | (focus (simp; done))); (simp (disch := omega) only [go_sem, Option.bind_some]; rfl); rfl; rfl; rfl; rfl; (first | omega | (simp (disch := omega) only [go_sem, W, ea, eb, Nat.mul_one, spl, List.length_append, List.length_map, List.length_take, List.length_drop, List.length_replicate]; omega) | (simp [spl]; omega) | (focus (simp [spl]; done))); (simp (disch := omega) only [go_sem, W, ea, eb, Nat.mul_one]; refine hK _ ?_; clear hK K)) | ((with_reducible refine evL_one ?_ ?_); rfl; intro K hK; (try simp (disch := omega) only [go_sem, W, ea, eb, Nat.mul_one]); (repeat (refine ndI (by first | assumption | omega | rfl) ?_)); refine opA_index_cut rfl rfl rfl rfl rfl ?_ ?_ ?_; (focus (simp only [go_sem]; try rfl)); (first | omega | (dsimp only; omega) | (simp (disch := omega) only [Option.isSome_some, Option.isSome_none]; omega) | (simp; omega) | (focus (simp; done))); (simp (disch := omega) only [go_sem, W, ea, eb, Nat.mul_one]; refine hK _ ?_; clear hK K)) | (with_reducible first | (refine evL_nil ?_; refine hR _ ?_; clear hR R) | ((first | refine evC_seq ?_ | refine evC_block ?_); intro Ψ hΨ hΨ') | (refine evC_region ?_; intro R hR) | (refine hΨ _ ?_; clear hΨ hΨ' Ψ) | refine evC_skip ?_ | refine evC_ret ?_ | refine evC_exit ?_) | ((with_reducible refine hΨ' _ _ ?_ ?_); (focus (simp; done)); clear hΨ hΨ' Ψ) | ((with_reducible apply evC_cond); rfl; rfl; all_goals (intro hc; first | (cases hc; done) | (try simp only at hc))) | ((with_reducible refine evD_nil ?_ ?_); kernel_rfl; (with_reducible refine hR _ ?_); clear hR R) | (((with_reducible apply evD_any); rfl; rfl; (simp (disch := omega) only [rdE, rdOf, go_sem, W, ea, eb, Nat.mul_one]; rfl); (intro τ hA hQ hN; ((try simp only [agree, Op.operands, Call.operands, go_sem, W, ea, eb, Nat.mul_one, go_sem, List.mem_cons, List.not_mem_nil, forall_eq_or_imp, forall_eq, List.append_toArray, Option.toArray] at hA); (try simp only [go_sem, W, ea, eb, Nat.mul_one, List.mem_cons, List.not_mem_nil, forall_eq_or_imp, forall_eq] at hQ hN); (first | (revert hA; intro hA) | have hA := trivial); (first | (revert hQ; intro hQ) | have hQ := trivial); (first | (revert hN; intro hN) | have hN := trivial); simp (disch := omega) only [go_sem, W, ea, eb, Nat.mul_one, go_sem, hA, hQ, hN]; (repeat (refine ndI (by first | assumption | omega | rfl) ?_)); (first | apply eff_rd | apply eff_st | apply eff_nw)))); (simp (disch := omega) only [St.eff, setO, hputs, go_sem, W, ea, eb, Nat.mul_one])) | ((with_reducible refine evC_draw ?_ ?_ ?_ ?_); kernel_rfl; kernel_rfl; (first | kernel_rfl | simp [newNames, isNew, St.free, freeH, AV.refsL, AV.refs]); intro R hR)))))
        all_goals exact hΨ1 _ (St.le_of (by simp [leT]) (by simp [leH, hget]))
    · have k2 : (decide (((j + 1 : Nat) : Int) < (s.length : Int))) = false := by simp; omega
      have hd : ddN s s.length = s := by
        have e : s.length = j + 1 := by omega
        rw [e, ddN_take hj hnd, ← e, List.take_length]
      have hr : (AV.row 1000 63 1 (ddN s s.length).length) = .row 1000 63 1 s.length := by rw [hd]
      have hcc : ddN s s.length ++ List.replicate (s.length - (ddN s s.length).length) 0 = s := by rw [hd, Nat.sub_self, List.replicate_zero, List.append_nil]
      (repeat (any_goals (first | ((with_reducible refine evL_one ?_ ?_); rfl; intro K hK; simp only [go_sem, k2]; ((repeat (refine ndI (by first | assumption | omega | rfl) ?_)); refine hK _ ?_; clear hK K)) | ((with_reducible refine evL_one ?_ ?_); rfl; intro K hK; simp only [go_sem, k2]; apply opA_cut_nil; rfl; rfl; rfl; rfl; (focus (simp only [go_sem]; try rfl)); rfl; (simp only [go_sem, k2]; (with_reducible refine hK _ ?_); clear hK K)) | ((with_reducible refine evL_one ?_ ?_); rfl; intro K hK; (try simp only [go_sem, k2]); (repeat (refine ndI (by first | assumption | omega | rfl) ?_)); refine opA_slice_row rfl rfl rfl rfl rfl ?_ rfl rfl rfl rfl ?_ ?_ ?_; (focus (simp only [go_sem]; try rfl)); (intro h; first | rfl | cases h); (first | omega | (dsimp only; omega) | (simp only [Option.isSome_some, Option.isSome_none]; omega) | (simp; omega) | (focus (simp; done))); (intro q hq1 hq2; (simp only [go_sem, k2]; refine hK _ ?_; clear hK K))) | ((with_reducible refine evL_one ?_ ?_); rfl; intro K hK; (try simp only [go_sem, k2]); (repeat (refine ndI (by first | assumption | omega | rfl) ?_)); refine opA_slice_cut rfl rfl rfl rfl rfl ?_ rfl rfl rfl rfl ?_ ?_ ?_; (focus (simp only [go_sem]; try rfl)); (intro h; first | rfl | cases h); (first | omega | (dsimp only; omega) | (simp only [Option.isSome_some, Option.isSome_none]; omega) | (simp; omega) | (focus (simp; done))); (simp only [go_sem, k2]; refine hK _ ?_; clear hK K)) | ((with_reducible refine evL_one ?_ ?_); rfl; intro K hK; (try simp only [go_sem, k2]); (repeat (refine ndI (by first | assumption | omega | rfl) ?_)); apply opA_clear; rfl; rfl; (focus (simp only [go_sem]; try rfl)); (first | omega | (dsimp only; omega) | (simp only [Option.isSome_some, Option.isSome_none]; omega) | (simp; omega) | (focus (simp; done))); (simp only [go_sem, Option.bind_some]; rfl); rfl; rfl; rfl; rfl; (first | omega | (simp only [go_sem, k2, spl, List.length_append, List.length_map, List.length_take, List.length_drop, List.length_replicate]; omega) | (simp [spl]; omega) | (focus (simp [spl]; done))); (simp only [go_sem, k2]; refine hK _ ?_; clear hK K)) | ((with_reducible refine evL_one ?_ ?_); rfl; intro K hK; (try simp only [go_sem, k2]); (repeat (refine ndI (by first | assumption | omega | rfl) ?_)); refine opA_index_cut rfl rfl rfl rfl rfl ?_ ?_ ?_; (focus (simp only [go_sem]; try rfl)); (first | omega | (dsimp only; omega) | (simp only [Option.isSome_some, Option.isSome_none]; omega) | (simp; omega) | (focus (simp; done))); (simp only [go_sem, k2]; refine hK _ ?_; clear hK K)) | (with_reducible first | (refine evL_nil ?_; refine hR _ ?_; clear hR R) | ((first | refine evC_seq ?_ | refine evC_block ?_); intro Ψ hΨ hΨ') | (refine evC_region ?_; intro R hR) | (refine hΨ _ ?_; clear hΨ hΨ' Ψ) | refine evC_skip ?_ | refine evC_ret ?_ | refine evC_exit ?_) | ((with_reducible refine hΨ' _ _ ?_ ?_); (focus (simp; done)); clear hΨ hΨ' Ψ) | ((with_reducible apply evC_cond); rfl; rfl; all_goals (intro hc; first | (cases hc; done) | (try simp only at hc))) | ((with_reducible refine evD_nil ?_ ?_); kernel_rfl; (with_reducible refine hR _ ?_); clear hR R) | (((with_reducible apply evD_any); rfl; rfl; (simp only [rdE, rdOf, go_sem, k2]; rfl); (intro τ hA hQ hN; ((try simp only [agree, Op.operands, Call.operands, go_sem, k2, go_sem, List.mem_cons, List.not_mem_nil, forall_eq_or_imp, forall_eq, List.append_toArray, Option.toArray] at hA); (try simp only [go_sem, k2, List.mem_cons, List.not_mem_nil, forall_eq_or_imp, forall_eq] at hQ hN); (first | (revert hA; intro hA) | have hA := trivial); (first | (revert hQ; intro hQ) | have hQ := trivial); (first | (revert hN; intro hN) | have hN := trivial); simp only [go_sem, k2, go_sem, hA, hQ, hN]; (repeat (refine ndI (by first | assumption | omega | rfl) ?_)); (first | apply eff_rd | apply eff_st | apply eff_nw)))); (simp only [St.eff, setO, hputs, go_sem, k2])) | ((with_reducible refine evC_draw ?_ ?_ ?_ ?_); kernel_rfl; kernel_rfl; (first | kernel_rfl | simp [newNames, isNew, St.free, freeH, AV.refsL, AV.refs]); intro R hR))))
      all_goals rw [hr, hcc]
      all_goals (refine ⟨by simp, ⟨_, ?_, AV.le_refl _⟩, leH_get (by simp [leH, hget])⟩; simp only [Tryz.results92, resL, ldA, oneOf, go_sem])
end Go.Proofs.YtcahibdaiokajaaGreat.ax
namespace Go.Proofs.YtcahibdaiokajaaGreat.ax
open Go.RowKit
theorem heap_sorted {α : Type} [Inhabited α] {enc : α → Value} {w : World} {blk m : Nat} {d : Array α} {os : Array Obj} {cur : Array Value} {t : TypeId} (hb : w.heap[blk]? = some (.cells cur t (0, 0))) :
    (sortWorld enc w blk 0 m d os).heap[blk]? = some (.cells (Sort.putCells enc 0 d cur) t (0, 0)) := by
  have hlt : blk < w.heap.size := (Array.getElem?_eq_some_iff.1 hb).1
  unfold sortWorld
  rw [Sort.heap_grow_old _ _ (by rw [Sort.size_putRow]; exact hlt)]
  show (w.heap.modify blk (Sort.onCells (Sort.putCells enc 0 d)))[blk]? = _
  rw [Array.getElem?_modify, if_pos rfl, hb]
  rfl
theorem heap_sorted_other {α : Type} [Inhabited α] {enc : α → Value} {w : World} {blk m b : Nat} {d : Array α} {os : Array Obj} (hlt : b < w.heap.size) (hne : blk ≠ b) :
    (sortWorld enc w blk 0 m d os).heap[b]? = w.heap[b]? := by
  unfold sortWorld
  rw [Sort.heap_grow_old _ _ (by rw [Sort.size_putRow]; exact hlt)]
  show (w.heap.modify blk (Sort.onCells (Sort.putCells enc 0 d)))[b]? = _
  rw [Array.getElem?_modify, if_neg hne]
theorem size_sorted {α : Type} [Inhabited α] {enc : α → Value} {w : World} {blk m : Nat} {d : Array α} {os : Array Obj} : w.heap.size ≤ (sortWorld enc w blk 0 m d os).heap.size := by
  unfold sortWorld
  rw [Sort.size_grow, Sort.size_putRow]
  exact Nat.le_add_right _ _
theorem frozen_none {w : World} {b : Nat} {cs : Array Value} {t : TypeId} (hb : w.heap[b]? = some (.cells cs t (0, 0))) (j : Nat) : w.frozen? ⟨b, j, none⟩ = false := by
  unfold World.frozen?
  rw [hb]
  simp
theorem cell_of {w : World} {b : Nat} {cs : Array Value} {t : TypeId} (hb : w.heap[b]? = some (.cells cs t (0, 0))) (j : Nat) : w.cell? ⟨b, j, none⟩ = cs[j]? := by
  unfold World.cell?
  rw [hb]
  rfl
theorem Fn.sorting {α : Type} [Inhabited α] {P : Program} {f g : FuncId} {e : TypeId} {enc : α → Value} (h1 : ∀ x, (enc x).oneCell' = true) (l l' : List α) (hlen : l'.length = l.length)
    (hS : ∀ (blk cap : Nat) (w : World), l ≠ [] → Sort.Holds enc w blk 0 l.toArray → blk < w.heap.size → Calls P f #[.slice (some ⟨blk, 0, none⟩) l.toArray.size cap, .func (.func g) #[] #[]] w fun e w' => e = .returned (.tuple #[]) ∧ ∃ n os, w' = sortWorld enc w blk 0 n l'.toArray os)
    (h0 : ∀ p cap w, Calls P f #[.slice p 0 cap, .func (.func g) #[] #[]] w fun e w' => e = .returned (.tuple #[]) ∧ w' = w) :
    Fn P f [.row 1000 e 1 l.length, .fn g []] [(1000, l.map fun x => .c (.v (enc x)))] (.tup []) [(1000, l'.map fun x => .c (.v (enc x)))] := by
  intro E vs hD hsep hH hvl hv
  obtain ⟨v0, v1, rfl⟩ : ∃ v0 v1, vs = [v0, v1] := by
    match vs, hvl with
    | [v0, v1], _ => exact ⟨v0, v1, rfl⟩
  have r0 := hv 0 v0 _ rfl rfl
  have r1 := hv 1 v1 _ rfl rfl
  have hmine : (∀ (q : Nat) cs, hget [(1000, l'.map fun x => AV.c (.v (enc x)))] q = some cs → (q ∈ E.D → E.ι q = E.ι q) ∧ (q ∉ E.D → (E.ι q).2.1 ≠ 0 → Mine E (E.ι q).1)) := fun q cs hq =>
    ⟨fun _ => rfl, fun hn _ => by
      rw [hD] at hn
      simp only [hget] at hq
      split at hq
      · rename_i e; subst e; simp at hn
      · cases hq⟩
  have hblk0 := hH.blk 1000 (l.map fun x => AV.c (.v (enc x))) (by simp [hget])
  cases r1 with
  | fn _ us _ hul hus =>
  obtain rfl := List.eq_nil_of_length_eq_zero hul
  -- no element
  have hnone : ∀ p c, l = [] → v0 = .slice p 0 c → Calls P f [v0, .func (.func g) #[] #[]].toArray E.w fun e w' => ∃ v ι', e = .returned v ∧ RV (Sx E ι' [(1000, l'.map fun x => AV.c (.v (enc x)))]) ι' w' v (.tup []) ∧ ConcH (Sx E ι' [(1000, l'.map fun x => AV.c (.v (enc x)))]) ι' [(1000, l'.map fun x => AV.c (.v (enc x)))] w' ∧ Keep E ι' [(1000, l'.map fun x => AV.c (.v (enc x)))] w' := by
    intro p c hl0 hv0
    subst hl0 hv0
    obtain rfl := List.eq_nil_of_length_eq_zero hlen
    refine (h0 p c E.w).mono ?_
    rintro e w' ⟨rfl, rfl⟩
    refine ⟨_, E.ι, rfl, .tup [] [] rfl (fun j u x hu => by cases hu), ⟨fun q cs hq => ?_, fun q q' cs ds hq hq' hne => ?_⟩, ⟨rfl, rfl, rfl, Nat.le_refl _, fun _ _ _ => rfl, hmine⟩⟩
    · simp only [hget] at hq
      split at hq
      · rename_i e; subst e; cases hq
        rcases hblk0 with hb | ⟨cur, hc1, hc2, hc3, hc4, hc5⟩
        · exact .inl hb
        · exact .inr ⟨cur, hc1, hc2, hc3, fun j u x hu hx => (by cases hx), hc5⟩
      · cases hq
    · simp only [hget] at hq hq'
      split at hq
      · split at hq'
        · omega
        · cases hq'
      · cases hq
  rcases Nat.eq_zero_or_pos l.length with hl0 | hl0
  · generalize hn : l.length = n at r0
    have hn0 : n = 0 := by omega
    cases r0 with
    | row _ _ _ _ c k1 k2 k3 k4 k0 => exact hnone _ _ (List.eq_nil_of_length_eq_zero hl0) (by rw [hn0])
    | rnil A _ _ _ k => exact hnone A 0 (List.eq_nil_of_length_eq_zero hl0) rfl
  · have hne : l ≠ [] := fun h => by rw [h] at hl0; exact Nat.lt_irrefl _ hl0
    generalize hn : l.length = n at r0
    cases r0 with
    | rnil A _ _ _ k => omega
    | row _ _ _ _ c k1 k2 k3 k4 k0 =>
      rcases hblk0 with hb | ⟨cur, hc1, hc2, hc3, hc4, hc5⟩
      · exact absurd hb.1 k0
      · rw [List.length_map] at hc3
        have hlt : (E.ι 1000).1 < E.w.heap.size := (Array.getElem?_eq_some_iff.1 hc1).1
        have hsz : l.toArray.size = n := by simp [hn]
        have hHo : Sort.Holds enc E.w (E.ι 1000).1 0 l.toArray := by
          intro j hj
          rw [hsz] at hj
          have hjc : j < cur.size := by omega
          refine ⟨?_, frozen_none hc1 _⟩
          rw [Nat.zero_add, cell_of hc1, Array.getElem?_eq_getElem hjc]
          obtain ⟨hrv, _⟩ := hc4 j _ (.c (.v (enc l[j]))) (Array.getElem?_eq_getElem hjc) (by rw [List.getElem?_map, List.getElem?_eq_getElem (by omega)]; rfl)
          generalize cur[j] = u at hrv ⊢
          cases hrv with
          | c _ _ hp =>
            cases hp with
            | v =>
              rw [getElem!_pos _ j (by simp; omega)]
              simp
        have hC := hS (E.ι 1000).1 c E.w hne hHo hlt
        rw [hsz] at hC
        refine hC.mono ?_
        rintro e w' ⟨rfl, m, os, rfl⟩
        have hnew := heap_sorted (enc := enc) (m := m) (d := l'.toArray) (os := os) hc1
        have hcs : (Sort.putCells enc 0 l'.toArray cur).size = cur.size := by simp [Sort.putCells]
        have hcell : ∀ (j : Nat) (u : Value), (Sort.putCells enc 0 l'.toArray cur)[j]? = some u → ∃ y, cur[j]? = some y ∧ u = if j < l'.length then enc l'.toArray[j]! else y := by
          intro j u hu
          have hj : j < cur.size := by rw [← hcs]; exact (Array.getElem?_eq_some_iff.1 hu).1
          refine ⟨_, Array.getElem?_eq_getElem hj, ?_⟩
          simp only [Sort.putCells, Array.getElem?_mapIdx, Array.getElem?_eq_getElem hj, Option.map_some, Option.some.injEq] at hu
          rw [← hu]
          simp
        refine ⟨_, E.ι, rfl, .tup [] [] rfl (fun j u x hu => by cases hu), ⟨fun q cs hq => ?_, fun q q' cs ds hq hq' hne' => ?_⟩, ⟨rfl, rfl, rfl, size_sorted, fun b hb hnb => ?_, hmine⟩⟩
        · simp only [hget] at hq
          split at hq
          · rename_i e; subst e; cases hq
            refine .inr ⟨_, hnew, by rw [hcs]; exact hc2, by rw [hcs, List.length_map]; omega, fun j u x hu hx => ?_, fun u hu => ?_⟩
            · obtain ⟨y, hy, rfl⟩ := hcell j u hu
              rw [List.getElem?_map, Option.map_eq_some_iff] at hx
              obtain ⟨z, hz, rfl⟩ := hx
              have hj := (List.getElem?_eq_some_iff.1 hz).1
              rw [if_pos hj]
              have : l'.toArray[j]! = z := by
                rw [getElem!_pos _ j (by simpa using hj)]
                simp
                exact (List.getElem?_eq_some_iff.1 hz).2
              rw [this]
              exact ⟨.c _ _ (.v _ (h1 z)), h1 z⟩
            · obtain ⟨j, hj⟩ := List.mem_iff_getElem?.1 hu
              rw [Array.getElem?_toList] at hj
              obtain ⟨y, hy, rfl⟩ := hcell j u hj
              split
              · exact h1 _
              · exact hc5 y (by
                  rw [← Array.getElem?_toList] at hy
                  exact List.mem_of_getElem? hy)
          · cases hq
        · simp only [hget] at hq hq'
          split at hq
          · split at hq'
            · omega
            · cases hq'
          · cases hq
        · exact heap_sorted_other hb (hnb 1000 (by rw [hD]; simp) k0)
end Go.Proofs.YtcahibdaiokajaaGreat.ax
namespace Go.Proofs.YtcahibdaiokajaaGreat.ax
open Go.RowKit
set_option maxRecDepth 20000
set_option maxHeartbeats 2000000
def sortL_ren : Go.Shelf.Ren := ⟨fun | 6 => 90 | 15 => 98 | 14 => 97 | 28 => 109 | 29 => 110 | 20 => 101 | 21 => 102 | 22 => 103 | 23 => 104 | 24 => 105 | 25 => 106 | 26 => 107 | 27 => 108 | 46 => 111 | 47 => 112 | 48 => 113 | 49 => 114 | 50 => 115 | 57 => 116 | n => n, fun | 22 => 31 | 24 => 63 | 25 => 138 | 3 => 3 | 39 => 132 | 0 => 0 | 53 => 172 | 55 => 62 | 4 => 4 | 46 => 165 | 45 => 164 | 50 => 169 | 5 => 5 | 9 => 9 | 66 => 175 | 70 => 179 | 76 => 181 | 77 => 182 | n => n, fun | n => n⟩
theorem sortL : Go.Proofs.SlLaysF.n6 Tryz.prog sortL_ren where
  mixed := by kernel_rfl
  f6 := ⟨ "slices.SortFunc[[]sheafer/api.Addr,sheafer/api.Addr]", by decide, Tryz.func90.trans (congrArg some (by kernel_rfl))⟩
  f14 := ⟨ "slices.pdqsortCmpFunc[sheafer/api.Addr]", by decide, Tryz.func97.trans (congrArg some (by kernel_rfl))⟩
  f15 := Tryz.func98.trans (congrArg some (by kernel_rfl))
  f20 := ⟨ "slices.insertionSortCmpFunc[sheafer/api.Addr]", by decide, Tryz.func101.trans (congrArg some (by kernel_rfl))⟩
  f21 := ⟨ "slices.heapSortCmpFunc[sheafer/api.Addr]", by decide, Tryz.func102.trans (congrArg some (by kernel_rfl))⟩
  f22 := ⟨ "slices.breakPatternsCmpFunc[sheafer/api.Addr]", by decide, Tryz.func103.trans (congrArg some (by kernel_rfl))⟩
  f23 := ⟨ "slices.choosePivotCmpFunc[sheafer/api.Addr]", by decide, Tryz.func104.trans (congrArg some (by kernel_rfl))⟩
  f24 := ⟨ "slices.reverseRangeCmpFunc[sheafer/api.Addr]", by decide, Tryz.func105.trans (congrArg some (by kernel_rfl))⟩
  f25 := ⟨ "slices.partialInsertionSortCmpFunc[sheafer/api.Addr]", by decide, Tryz.func106.trans (congrArg some (by kernel_rfl))⟩
  f26 := ⟨ "slices.partitionEqualCmpFunc[sheafer/api.Addr]", by decide, Tryz.func107.trans (congrArg some (by kernel_rfl))⟩
  f27 := ⟨ "slices.partitionCmpFunc[sheafer/api.Addr]", by decide, Tryz.func108.trans (congrArg some (by kernel_rfl))⟩
  f28 := Tryz.func109.trans (congrArg some (by kernel_rfl))
  f29 := Tryz.func110.trans (congrArg some (by kernel_rfl))
  f46 := ⟨ "slices.siftDownCmpFunc[sheafer/api.Addr]", by decide, Tryz.func111.trans (congrArg some (by kernel_rfl))⟩
  f47 := Tryz.func112.trans (congrArg some (by kernel_rfl))
  f48 := Tryz.func113.trans (congrArg some (by kernel_rfl))
  f49 := ⟨ "slices.medianAdjacentCmpFunc[sheafer/api.Addr]", by decide, Tryz.func114.trans (congrArg some (by kernel_rfl))⟩
  f50 := ⟨ "slices.medianCmpFunc[sheafer/api.Addr]", by decide, Tryz.func115.trans (congrArg some (by kernel_rfl))⟩
  f57 := ⟨ "slices.order2CmpFunc[sheafer/api.Addr]", by decide, Tryz.func116.trans (congrArg some (by kernel_rfl))⟩
  t0 := Tryz.underlying0
  a0 := Tryz.isAgg0
  z0 := Tryz.sizeOf0
  v0 := Tryz.zeroValue0
  t3 := Tryz.underlying3
  a3 := Tryz.isAgg3
  z3 := Tryz.sizeOf3
  v3 := Tryz.zeroValue3
  t4 := Tryz.underlying4
  a4 := Tryz.isAgg4
  z4 := Tryz.sizeOf4
  v4 := Tryz.zeroValue4
  t5 := Tryz.underlying5
  a5 := Tryz.isAgg5
  z5 := Tryz.sizeOf5
  v5 := Tryz.zeroValue5
  t9 := Tryz.underlying9
  a9 := Tryz.isAgg9
  z9 := Tryz.sizeOf9
  v9 := Tryz.zeroValue9
  t22 := Tryz.underlying31
  a22 := Tryz.isAgg31
  z22 := Tryz.sizeOf31
  v22 := Tryz.zeroValue31
  a24 := Tryz.isAgg63
  z24 := Tryz.sizeOf63
  t25 := Tryz.underlying138
  a25 := Tryz.isAgg138
  z25 := Tryz.sizeOf138
  v25 := Tryz.zeroValue138
  t39 := Tryz.underlying132
  a39 := Tryz.isAgg132
  z39 := Tryz.sizeOf132
  v39 := Tryz.zeroValue132
  t45 := Tryz.underlying164
  a45 := Tryz.isAgg164
  z45 := Tryz.sizeOf164
  v45 := Tryz.zeroValue164
  t46 := Tryz.underlying165
  a46 := Tryz.isAgg165
  z46 := Tryz.sizeOf165
  v46 := Tryz.zeroValue165
  t50 := Tryz.underlying169
  a50 := Tryz.isAgg169
  z50 := Tryz.sizeOf169
  v50 := Tryz.zeroValue169
  t53 := Tryz.underlying172
  a53 := Tryz.isAgg172
  z53 := Tryz.sizeOf172
  v53 := Tryz.zeroValue172
  t55 := Tryz.underlying62
  a55 := Tryz.isAgg62
  z55 := Tryz.sizeOf62
  v55 := Tryz.zeroValue62
  t66 := Tryz.underlying175
  a66 := Tryz.isAgg175
  z66 := Tryz.sizeOf175
  v66 := Tryz.zeroValue175
  t70 := Tryz.underlying179
  a70 := Tryz.isAgg179
  z70 := Tryz.sizeOf179
  v70 := Tryz.zeroValue179
  t76 := Tryz.underlying181
  a76 := Tryz.isAgg181
  z76 := Tryz.sizeOf181
  v76 := Tryz.zeroValue181
  t77 := Tryz.underlying182
  a77 := Tryz.isAgg182
  z77 := Tryz.sizeOf182
  v77 := Tryz.zeroValue182
abbrev A64 := { a : Int // 0 ≤ a ∧ a ≤ 18446744073709551615 }
instance : Inhabited A64 := ⟨⟨0, by omega, by omega⟩⟩
def encA (x : A64) : Value := .int .u64 x.1
def cfA (x y : A64) : Int := if x.1 < y.1 then -1 else if y.1 < x.1 then 1 else 0
theorem ltA (x y : A64) : ltOf cfA x y = decide (x.1 < y.1) := by
  unfold ltOf cfA
  by_cases h1 : x.1 < y.1
  · simp [h1]
  · by_cases h2 : y.1 < x.1 <;> simp [h1, h2]
theorem swoA : Sort.SWO (ltOf cfA) where
  irrefl x := by rw [ltA]; simp
  trans x y z h1 h2 := by rw [ltA] at *; simp at *; omega
  ntrans x y z h1 h2 := by rw [ltA] at *; simp at *; omega
theorem totA (x y : A64) (h1 : ltOf cfA x y = false) (h2 : ltOf cfA y x = false) : x = y := by
  rw [ltA] at *
  simp at *
  exact Subtype.ext (by omega)
theorem cmpA_calls (x y : A64) (W : World) : Calls Tryz.prog 91 #[.int .u64 x.1, .int .u64 y.1] W fun e w' => e = .returned (.int .i64 (cfA x y)) ∧ ∃ q, w' = W.drewN q := by
  obtain ⟨x, hx⟩ := x
  obtain ⟨y, hy⟩ := y
  by_cases h1 : x < y
  · have e : cfA ⟨x, hx⟩ ⟨y, hy⟩ = -1 := by unfold cfA; rw [if_pos h1]
    rw [e]
    go_enter Tryz.func91, Tryz.ntmps91
    go_wp2
    go_ret
    exact ⟨rfl, 0, rfl⟩
  · have e : cfA ⟨x, hx⟩ ⟨y, hy⟩ = min (x - y) 1 := by
      unfold cfA
      rw [if_neg h1]
      dsimp only at h1 ⊢
      by_cases h2 : y < x
      · rw [if_pos h2]; omega
      · rw [if_neg h2]; omega
    rw [e]
    have hw : IntKind.u64.wrap (x - y) = x - y := wrU (by omega) (by omega)
    go_enter Tryz.func91, Tryz.ntmps91
    go_wp2
    go_ret
    exact ⟨rfl, 0, rfl⟩
theorem up64 : ∀ {l : List Int}, (∀ a ∈ l, U a) → ∃ L : List A64, L.map (·.1) = l
  | [], _ => ⟨[], rfl⟩
  | a :: l, h => by
    obtain ⟨L, hL⟩ := up64 (l := l) fun b hb => h b (by simp [hb])
    exact ⟨⟨a, h a (by simp)⟩ :: L, by simp [hL]⟩
theorem rcA_map (L : List A64) : rcA (L.map (·.1)) = L.map fun x => AV.c (.v (encA x)) := by
  unfold rcA
  induction L with
  | nil => rfl
  | cons x L ih =>
    rw [List.map_cons, List.flatMap_cons, List.map_append, ih]
    rfl
theorem sortA_fn (l : List Int) (hl : l.length ≤ 1000000) (hu : ∀ a ∈ l, U a) : ∃ s : List Int, s.Perm l ∧ s.Pairwise (· ≤ ·) ∧
    Fn Tryz.prog 90 [.row 1000 63 1 l.length, .fn 91 []] [(1000, rcA l)] (.tup []) [(1000, rcA s)] := by
  obtain ⟨L, rfl⟩ := up64 hu
  have hle : ∀ x y : A64, (!ltOf cfA y x) = decide (x.1 ≤ y.1) := fun x y => by
    rw [ltA, ← decide_not]
    exact decide_eq_decide.2 (by omega)
  refine ⟨(L.mergeSort fun x y => !ltOf cfA y x).map (·.1), (List.mergeSort_perm _ _).map _, ?_, ?_⟩
  · have h := List.pairwise_mergeSort (le := fun x y : A64 => !ltOf cfA y x) (fun x y z h1 h2 => by
      rw [hle] at *
      simp at *
      omega) (fun x y => by
      rw [hle, hle]
      simp
      omega) L
    rw [List.pairwise_map]
    exact h.imp fun {x y} hxy => by
      rw [hle] at hxy
      simpa using hxy
  · rw [rcA_map, rcA_map, List.length_map]
    refine Fn.sorting (enc := encA) (fun _ => rfl) L _ (List.length_mergeSort _) (fun blk cap w hne hH hblk => ?_) fun p cap w => ?_
    · have eg : ∀ args w, (callFunc 91 args).run Tryz.prog w = .ok (.enter 91 args) w := enters_of Tryz.func91 (by kernel_rfl) rfl
      have hc : CmpReads Tryz.prog 91 #[] encA cfA blk 0 L.toArray.size w := fun m os dk hdk x y => cmpA_calls x y _
      have h := Any.slices_SortFunc_total sortL encA (fun _ => rfl) cfA swoA 91 #[] blk 0 cap L.toArray w eg hc.lays hH hblk (by simp at hl ⊢; omega) totA
      exact h
    · exact AnyF.slices_SortFunc_none (P := Tryz.prog) (ρ := sortL_ren) { sortL with } p cap _ w
end Go.Proofs.YtcahibdaiokajaaGreat.ax
namespace Go.Proofs.YtcahibdaiokajaaGreat.ax
open Go.RowKit
open Nat (reduceBEq)
set_option maxRecDepth 20000
set_option maxHeartbeats 2000000
theorem ddN_succ {s : List Int} {i : Nat} {b : Int} (hb : s[i]? = some b) : (ddN s (i + 1) = ddN s i ∧ 0 < i ∧ s[i - 1]? = some b) ∨ (ddN s (i + 1) = ddN s i ++ [b] ∧ (0 < i → s[i - 1]? ≠ some b)) := by
  have e : ddN s (i + 1) = if 0 < i ∧ s[i - 1]? = some b then ddN s i else ddN s i ++ [b] := by
    show (match s[i]? with | none => _ | some b => _) = _
    rw [hb]
  by_cases h : 0 < i ∧ s[i - 1]? = some b
  · exact .inl ⟨by rw [e, if_pos h], h⟩
  · exact .inr ⟨by rw [e, if_neg h], fun h1 h2 => h ⟨h1, h2⟩⟩
theorem mem_take_of {s : List Int} {i j : Nat} {b : Int} (h : s[j]? = some b) (hj : j < i) : b ∈ s.take i := by
  refine List.mem_of_getElem? (i := j) ?_
  rw [List.getElem?_take, if_pos hj, h]
theorem ddN_mem (s : List Int) : ∀ i, i ≤ s.length → ∀ x, x ∈ ddN s i ↔ x ∈ s.take i
  | 0, _, x => by simp [ddN]
  | i + 1, h, x => by
    have ih := ddN_mem s i (by omega) x
    have hb : s[i]? = some (s[i]'(by omega)) := List.getElem?_eq_getElem (by omega)
    have et : s.take (i + 1) = s.take i ++ [s[i]'(by omega)] := by rw [List.take_add_one, hb]; rfl
    rw [et, List.mem_append, List.mem_singleton]
    rcases ddN_succ hb with ⟨e, h0, h1⟩ | ⟨e, _⟩
    · rw [e, ih]
      refine ⟨.inl, fun h => h.elim id fun hx => ?_⟩
      rw [hx]
      exact mem_take_of h1 (by omega)
    · rw [e, List.mem_append, List.mem_singleton, ih]
theorem ddN_lt (s : List Int) (hs : s.Pairwise (· ≤ ·)) : ∀ i, i ≤ s.length → (ddN s i).Pairwise (· < ·)
  | 0, _ => by simp [ddN]
  | i + 1, h => by
    have ih := ddN_lt s hs i (by omega)
    have hb : s[i]? = some (s[i]'(by omega)) := List.getElem?_eq_getElem (by omega)
    rcases ddN_succ hb with ⟨e, _⟩ | ⟨e, h1⟩
    · rw [e]; exact ih
    · rw [e, List.pairwise_append]
      refine ⟨ih, List.pairwise_singleton _ _, fun a ha b hb' => ?_⟩
      rw [List.mem_singleton] at hb'
      subst hb'
      have ha' := (ddN_mem s i (by omega) a).1 ha
      obtain ⟨j, hj⟩ := List.mem_iff_getElem?.1 ha'
      rw [List.getElem?_take] at hj
      split at hj
      · rename_i hji
        have hp := List.pairwise_iff_getElem.1 hs
        have haj : s[j]'(by omega) = a := (List.getElem?_eq_some_iff.1 hj).2
        have h2 := hp j i (by omega) (by omega) hji
        rw [haj] at h2
        have h3 := h1 (by omega)
        rw [List.getElem?_eq_getElem (by omega)] at h3
        have h4 : s[i - 1]'(by omega) ≠ s[i]'(by omega) := fun e => h3 (by rw [e])
        have h5 := hp (i - 1) i (by omega) (by omega) (by omega)
        rcases Nat.lt_or_ge j (i - 1) with h6 | h6
        · have h7 := hp j (i - 1) (by omega) (by omega) h6
          rw [haj] at h7
          omega
        · have : j = i - 1 := by omega
          subst this
          rw [haj] at h4
          omega
      · cases hj
theorem sorted_any (ex : Bool) (l : List Int) (hl : l.length ≤ 1000000) (hu : ∀ a ∈ l, U a) : ∃ r : List Int, r.Pairwise (· < ·) ∧ (∀ x, x ∈ r ↔ x ∈ l) ∧ r.length ≤ l.length ∧ Fn Tryz.prog 72 [asl ex l] [] (asl false r) [] := by
  obtain ⟨s, hp, hs, so⟩ := sortA_fn l hl hu
  have hlen := hp.length_eq
  have cl := cloneA_fn ex l hl
  have co := (compact_cells s (by omega)).weaken (H2 := [(1000, rcA (ddN s s.length))]) (AV.le_refl _) (leHp (ds := rcA (List.replicate (s.length - (ddN s s.length).length) 0)) (by rw [rcA_app]; simp [hget]))
  rw [hlen] at co
  have hdl := ddN_le s l.length
  refine ⟨ddN s l.length, ddN_lt s hs _ (by omega), fun x => ?_, hdl, ?_⟩
  · rw [ddN_mem s _ (by omega), ← hlen, List.take_length]
    exact hp.mem_iff
  · have hrow : Fn Tryz.prog 72 [asl ex l] [] (.row 5 63 1 (ddN s l.length).length) [(5, rcA (ddN s l.length))] := by
      generalize ddN s l.length = r at co hdl ⊢
      unfold rcA at cl so co ⊢
      (refine fn_of Tryz.func72 rfl (by rfl) ?_; simp only [Tryz.ntmps72, List.length_cons, List.length_nil, Nat.reduceAdd, Nat.reduceSub, List.replicate, List.cons_append, List.nil_append])
      (repeat (any_goals (first | ((with_reducible refine evL_call ?_ ?_ ?_); rfl; rfl; intro K hK; (first | (apply opA_callR (cl) (fun r => 5); rfl; rfl; rfl; rfl; exact Tryz.func27; kernel_rfl; rfl; rfl; (intro r hr q hq h; simp only [List.map_cons, List.map_nil, List.cons_append, List.nil_append, List.mem_cons, List.not_mem_nil, or_false] at hr hq; (try dsimp only at h); first | omega | (rcases hr with rfl | rfl | rfl <;> rcases hq with rfl | rfl | rfl <;> simp at h ⊢) | (rcases hr with rfl | rfl <;> rcases hq with rfl | rfl <;> simp at h ⊢) | ((repeat' split at h) <;> omega)); (simp only [argsOk, argOk, AV.ren, AV.renL, renL_map, List.mem_cons, List.not_mem_nil, forall_eq_or_imp, forall_eq, newOk, List.contains_cons, List.contains_nil, AV.refsL, AV.refs, refsL_map, AV.inN, AV.inNL, inH, inNL_map, go_sem])) | (apply opA_callR (so) (fun r => 5); rfl; rfl; rfl; rfl; exact Tryz.func90; kernel_rfl; rfl; rfl; (intro r hr q hq h; simp only [List.map_cons, List.map_nil, List.cons_append, List.nil_append, List.mem_cons, List.not_mem_nil, or_false] at hr hq; (try dsimp only at h); first | omega | (rcases hr with rfl | rfl | rfl <;> rcases hq with rfl | rfl | rfl <;> simp at h ⊢) | (rcases hr with rfl | rfl <;> rcases hq with rfl | rfl <;> simp at h ⊢) | ((repeat' split at h) <;> omega)); (simp only [argsOk, argOk, AV.ren, AV.renL, renL_map, List.mem_cons, List.not_mem_nil, forall_eq_or_imp, forall_eq, newOk, List.contains_cons, List.contains_nil, AV.refsL, AV.refs, refsL_map, AV.inN, AV.inNL, inH, inNL_map, go_sem])) | (apply opA_callR (co) (fun r => 5); rfl; rfl; rfl; rfl; exact Tryz.func92; kernel_rfl; rfl; rfl; (intro r hr q hq h; simp only [List.map_cons, List.map_nil, List.cons_append, List.nil_append, List.mem_cons, List.not_mem_nil, or_false] at hr hq; (try dsimp only at h); first | omega | (rcases hr with rfl | rfl | rfl <;> rcases hq with rfl | rfl | rfl <;> simp at h ⊢) | (rcases hr with rfl | rfl <;> rcases hq with rfl | rfl <;> simp at h ⊢) | ((repeat' split at h) <;> omega)); (simp only [argsOk, argOk, AV.ren, AV.renL, renL_map, List.mem_cons, List.not_mem_nil, forall_eq_or_imp, forall_eq, newOk, List.contains_cons, List.contains_nil, AV.refsL, AV.refs, refsL_map, AV.inN, AV.inNL, inH, inNL_map, go_sem]))); (simp only [hputs, hdels, renH, AV.ren, AV.renL, renL_map, go_sem]; refine hK _ ?_; clear hK K)) | ((with_reducible refine evL_one ?_ ?_); rfl; intro K hK; simp only [go_sem]; ((repeat (refine ndI (by first | assumption | omega | rfl) ?_)); refine hK _ ?_; clear hK K)) | (with_reducible first | (refine evL_nil ?_; refine hR _ ?_; clear hR R) | ((first | refine evC_seq ?_ | refine evC_block ?_); intro Ψ hΨ hΨ') | (refine evC_region ?_; intro R hR) | (refine hΨ _ ?_; clear hΨ hΨ' Ψ) | refine evC_skip ?_ | refine evC_ret ?_ | refine evC_exit ?_) | ((with_reducible refine hΨ' _ _ ?_ ?_); (focus (simp; done)); clear hΨ hΨ' Ψ) | ((with_reducible apply evC_cond); rfl; rfl; all_goals (intro hc; first | (cases hc; done) | (try simp only at hc))))))
      all_goals (refine ⟨by simp, ⟨_, ?_, AV.le_refl _⟩, leH_get (by simp [leH, hget])⟩; simp only [Tryz.results72, resL, ldA, oneOf, go_sem])
    have h := Fn.frzG (d := 5) (pcs := (ddN s l.length).flatMap apv) hrow
    simp only [AV.frz, beq_self_eq_true, if_true] at h
    rw [if_pos (flat_length apv_len _).symm] at h
    exact h
end Go.Proofs.YtcahibdaiokajaaGreat.ax
namespace Go.Proofs.YtcahibdaiokajaaGreat.ax
open Go.RowKit
open Nat (reduceBEq)
set_option maxRecDepth 20000
set_option maxHeartbeats 2000000
abbrev nilX : AV := .agg [.c (.v (.slice none 0 0)), .c (.v (.slice none 0 0)), .c (.v (.slice none 0 0))]
theorem nilX_le : nilX.le (xsA ⟨[], [], []⟩) := AV.le_agg ⟨AV.le_nil _ _, AV.le_nil _ _, AV.le_nil _ _, trivial⟩
abbrev res2 (r : Xs × Int) : AV := .tup [xsA r.1, vi .i64 r.2]
theorem nil2 (e : Int) : (AV.tup [nilX, vi .i64 e]).le (res2 (⟨[], [], []⟩, e)) := AV.le_tupL ⟨nilX_le, AV.le_refl _, trivial⟩
theorem new_fn (ex : Bool) (l : List Int) (hl : l.length ≤ 1000000) (hu : ∀ a ∈ l, U a) : ∃ r : List Int, r.Pairwise (· < ·) ∧ (∀ x, x ∈ r ↔ x ∈ l) ∧ r.length ≤ l.length ∧ Fn Tryz.prog 51 [asl ex l] [] (res2 (if r.length ≤ 400 then (⟨r, [], []⟩, 0) else (⟨[], [], []⟩, 6))) [] := by
  obtain ⟨r, h1, h2, h3, so⟩ := sorted_any ex l hl hu
  refine ⟨r, h1, h2, h3, ?_⟩
  by_cases h : r.length ≤ 400
  · have e : decide ((r.length : Int) > 400) = false := decide_eq_false (by omega)
    rw [if_pos h]
    (refine fn_of Tryz.func51 rfl (by rfl) ?_; simp only [Tryz.ntmps51, List.length_cons, List.length_nil, Nat.reduceAdd, Nat.reduceSub, List.replicate, List.cons_append, List.nil_append])
    (repeat (any_goals (first | ((with_reducible refine evL_call ?_ ?_ ?_); rfl; rfl; intro K hK; ((apply opA_callB (so); rfl; rfl; rfl; rfl; exact Tryz.func72); kernel_rfl; rfl; (simp only [go_sem, e]; rfl); (first | rfl | simp [AV.inNL, AV.inN])); (simp only [go_sem, e]; refine hK _ ?_; clear hK K)) | ((with_reducible refine evL_one ?_ ?_); rfl; intro K hK; simp only [go_sem, e]; ((repeat (refine ndI (by first | assumption | omega | rfl) ?_)); refine hK _ ?_; clear hK K)) | (with_reducible first | (refine evL_nil ?_; refine hR _ ?_; clear hR R) | ((first | refine evC_seq ?_ | refine evC_block ?_); intro Ψ hΨ hΨ') | (refine evC_region ?_; intro R hR) | (refine hΨ _ ?_; clear hΨ hΨ' Ψ) | refine evC_skip ?_ | refine evC_ret ?_ | refine evC_exit ?_) | ((with_reducible refine hΨ' _ _ ?_ ?_); (focus (simp; done)); clear hΨ hΨ' Ψ) | ((with_reducible apply evC_cond); rfl; rfl; all_goals (intro hc; first | (cases hc; done) | (try simp only at hc))))))
    all_goals exact ⟨by simp, ⟨_, rfl, AV.le_tupL ⟨AV.le_agg ⟨AV.le_refl _, AV.le_nil _ _, AV.le_nil _ _, trivial⟩, AV.le_refl _, trivial⟩⟩, leH_get (by simp [leH, hget])⟩
  · have e : decide ((r.length : Int) > 400) = true := decide_eq_true (by omega)
    rw [if_neg h]
    (refine fn_of Tryz.func51 rfl (by rfl) ?_; simp only [Tryz.ntmps51, List.length_cons, List.length_nil, Nat.reduceAdd, Nat.reduceSub, List.replicate, List.cons_append, List.nil_append])
    (repeat (any_goals (first | ((with_reducible refine evL_call ?_ ?_ ?_); rfl; rfl; intro K hK; ((apply opA_callB (so); rfl; rfl; rfl; rfl; exact Tryz.func72); kernel_rfl; rfl; (simp only [go_sem, e]; rfl); (first | rfl | simp [AV.inNL, AV.inN])); (simp only [go_sem, e]; refine hK _ ?_; clear hK K)) | ((with_reducible refine evL_one ?_ ?_); rfl; intro K hK; simp only [go_sem, e]; ((repeat (refine ndI (by first | assumption | omega | rfl) ?_)); refine hK _ ?_; clear hK K)) | (with_reducible first | (refine evL_nil ?_; refine hR _ ?_; clear hR R) | ((first | refine evC_seq ?_ | refine evC_block ?_); intro Ψ hΨ hΨ') | (refine evC_region ?_; intro R hR) | (refine hΨ _ ?_; clear hΨ hΨ' Ψ) | refine evC_skip ?_ | refine evC_ret ?_ | refine evC_exit ?_) | ((with_reducible refine hΨ' _ _ ?_ ?_); (focus (simp; done)); clear hΨ hΨ' Ψ) | ((with_reducible apply evC_cond); rfl; rfl; all_goals (intro hc; first | (cases hc; done) | (try simp only at hc))))))
    all_goals exact ⟨by simp, ⟨_, rfl, nil2 _⟩, leH_get (by simp [leH, hget])⟩
end Go.Proofs.YtcahibdaiokajaaGreat.ax
namespace Go.Proofs.YtcahibdaiokajaaGreat
open Go.RowKit Go.MapKept
section
variable {S S' : Nat → Prop} {ι : Nat → Nat × Nat × Nat} {w w' : World}
end
section
variable {E : Env} {ι : Nat → Nat × Nat × Nat} {σ : St} {a : Act} {w : World} {b clk clk' : Nat} {X X' : Array MapEntry}
end

/-! maps from numbers, by lists -/
section
variable {V : Type}
end
section
variable {P : Program} {o : Oper} {σ : St} {K : St → Prop} {V : Type}
theorem opE_makeMap {E0 : Env} {t : TypeId} (ho : o.op = .makeMap t none) (hK : ∀ b, E0.w.heap.size ≤ b → K (σ.put o.dst (.c (.mp b [])))) : OpE (fun E => E = E0) P o σ K := by
  intro E ι a w hE hc K' Q hK'
  subst hE
  have hS : Sx E ι σ.H w.heap.size := by
    refine ⟨.inr (.inl hc.keep.size), fun r cs hr hz e => ?_⟩
    rcases hc.heap.blk r cs hr with ⟨h0, _⟩ | ⟨cur, hh, _⟩
    · exact hz h0
    · have := (Array.getElem?_eq_some_iff.1 hh).1
      omega
  have hc1 := hc.alloc (.map #[] 0)
  have hnew : (w.alloc (.map #[] 0)).heap[w.heap.size]? = some (.map #[] 0) := World.alloc_heap_new w _
  have hr : (execOp a.eval o).run P w = .ok (.value (.map (some w.heap.size))) (w.alloc (.map #[] 0)) := by
    unfold execOp
    simp only [ho]
    rfl
  have h2 := hK' ι _ _ _ (hK w.heap.size hc.keep.size) (hc1.put o.dst (.c _ _ (.mp w.heap.size [] #[] 0 hS hnew rfl)))
  refine wpIn_of_wp (by unfold opNd; rw [ho]) ?_
  unfold Oper.wp
  rw [hr]
  exact h2
end
/-! sets, by lists: maps to bools whose keys are of many cells -/
section
variable {P : Program} {o : Oper} {σ : St} {K : St → Prop} {κ : Type}
end
section
variable {p : Env → Prop} {P : Program} {σ : St} {Φ : Exit → St → Prop}
theorem AWE.seqI {x y : Code} (h : ∀ Ψ : Exit → St → Prop, (∀ σ', AWE p P y σ' Φ → Ψ .normal σ') → (∀ ex σ', ex ≠ .normal → Φ ex σ' → Ψ ex σ') → AWE p P x σ Ψ) : AWE p P (.seq x y) σ Φ :=
  AWE.seq (h _ (fun _ h => h) fun ex σ' hne h' => by
    cases ex with
    | normal => exact absurd rfl hne
    | _ => exact h')
theorem AWE.blockI {id : Nat} {x : Code} (h : ∀ Ψ : Exit → St → Prop, (∀ σ', Φ .normal σ' → Ψ (.exit id) σ') → (∀ ex σ', (∀ j, ex = .exit j → j ≠ id) → Φ ex σ' → Ψ ex σ') → AWE p P x σ Ψ) : AWE p P (.block id x) σ Φ :=
  AWE.block (h _ (fun σ' h' => by show (if id = id then _ else _); rw [if_pos rfl]; exact h') fun ex σ' hne h' => by
    cases ex with
    | exit j => show (if j = id then _ else _); rw [if_neg (hne j rfl)]; exact h'
    | _ => exact h')
theorem AWE.regionI {id : Nat} {l : List Oper} (k : Nat) {o : Oper} (hk : l[k]? = some o) (n0 : l.all (fun x => opNd x) = true) (hg : o.guard = none)
    (h : ∀ R : St → Prop, (∀ σ1, (OpE p P o σ1 fun σ2 => ∀ R2 : St → Prop, (∀ σ', Φ .normal σ' → R2 σ') → evL P l.toArray (l.drop (k + 1)) σ2 R2) → R σ1) → evL P l.toArray (l.take k) σ R) : AWE p P (.region id l.toArray false) σ Φ :=
  AWE.region_at k hk n0 fun R hR => h R fun σ1 h1 => hR σ1 ⟨.inl hg, h1⟩
end
def isMapW (o : Oper) : Bool := match o.op with | .mapUpdate _ _ _ _ => true | .makeMap _ _ => true | _ => false
section
variable {p : Env → Prop} {P : Program} {σ : St} {Φ : Exit → St → Prop}
theorem AWE.regionM {id : Nat} {l : List Oper} {k : Nat} {o : Oper} (hf : l.findIdx? isMapW = some k) (hk : l[k]? = some o) (n0 : l.all (fun x => opNd x) = true) (hg : o.guard = none)
    (h : ∀ R : St → Prop, (∀ σ1, (OpE p P o σ1 fun σ2 => ∀ R2 : St → Prop, (∀ σ', Φ .normal σ' → R2 σ') → evL P l.toArray (l.drop (k + 1)) σ2 R2) → R σ1) → evL P l.toArray (l.take k) σ R) : AWE p P (.region id l.toArray false) σ Φ :=
  AWE.regionI k hk n0 hg h
theorem AWE.ofR {id : Nat} {ops : Array Oper} (h : evC P (.region id ops false) σ Φ) : AWE p P (.region id ops false) σ Φ := AWE.of h
theorem AWE.ofRD {id : Nat} {ops : Array Oper} (h : evC P (.region id ops true) σ Φ) : AWE p P (.region id ops true) σ Φ := AWE.of h
theorem AWE.ofSkip (h : Φ .normal σ) : AWE p P .skip σ Φ := AWE.of (evC_skip h)
theorem AWE.ofRet (h : Φ .ret σ) : AWE p P .ret σ Φ := AWE.of (evC_ret h)
theorem AWE.ofExit {id : Nat} (h : Φ (.exit id) σ) : AWE p P (.exit id) σ Φ := AWE.of (evC_exit h)
end
theorem Fn.known {P : Program} {f : FuncId} {args : List AV} {H0 H1 : List (Nat × List AV)} {res : AV} (h : ∀ E0, FnW (fun E => E = E0) P f args H0 res H1) : Fn P f args H0 res H1 := fun E vs => h E E vs rfl
end Go.Proofs.YtcahibdaiokajaaGreat
namespace Go.Proofs.YtcahibdaiokajaaGreat
open Go.RowKit
open Nat (reduceBEq)
set_option maxRecDepth 20000
set_option maxHeartbeats 4000000
def riW (d : Nat) : Wl := ⟨[⟨20, d, 0, [], []⟩], [], []⟩
theorem rich_row (d : Nat) : Fn Tryz.prog 20 [vi .u64 d] [] (.agg [.row 6 69 8 1, nilC, nilC]) [(6, [vi .u64 20, vi .u64 d, vi .u64 0, vi .u64 0, vi .u64 0, vi .u64 0, nilC, nilC])] := by
  (refine fn_of Tryz.func20 rfl (by rfl) ?_; simp only [Tryz.ntmps20, List.length_cons, List.length_nil, Nat.reduceAdd, Nat.reduceSub, List.replicate, List.cons_append, List.nil_append])
  (repeat (any_goals (first | ((with_reducible refine evL_one ?_ ?_); rfl; intro K hK; simp only [go_sem]; ((repeat (refine ndI (by first | assumption | omega | rfl) ?_)); refine hK _ ?_; clear hK K)) | (with_reducible first | (refine evL_nil ?_; refine hR _ ?_; clear hR R) | ((first | refine evC_seq ?_ | refine evC_block ?_); intro Ψ hΨ hΨ') | (refine evC_region ?_; intro R hR) | (refine hΨ _ ?_; clear hΨ hΨ' Ψ) | refine evC_skip ?_ | refine evC_ret ?_ | refine evC_exit ?_) | ((with_reducible refine hΨ' _ _ ?_ ?_); (focus (simp; done)); clear hΨ hΨ' Ψ) | ((with_reducible apply evC_cond); rfl; rfl; all_goals (intro hc; first | (cases hc; done) | (try simp only at hc))))))
  all_goals (refine ⟨by simp, ⟨_, ?_, AV.le_refl _⟩, leH_get (by simp [leH, hget])⟩; simp only [Tryz.results20, resL, ldA, oneOf, go_sem])
theorem rich_fn (d : Nat) (hd : d < 18446744073709551616) : Fn Tryz.prog 20 [vi .u64 d] [] (wlA (riW d)) [] := by
  have e0 : l0 d = (d : Int) := by unfold l0; rw [Nat.mod_eq_of_lt hd]
  have e1 : l1 d = 0 := by unfold l1; rw [Nat.div_eq_of_lt hd]; rfl
  have e2 : l2 d = 0 := by unfold l2; rw [Nat.div_eq_of_lt hd]; rfl
  have e3 : l3 d = 0 := by unfold l3; rw [Nat.div_eq_of_lt hd]; rfl
  have k1 := (rich_row d).to (St.to.cells 6 (ds := ((riW d).S.flatMap Ac.pv).map .c) rfl (by
    simp only [riW, List.flatMap_cons, List.flatMap_nil, Ac.pv, List.cons_append, List.nil_append, List.map_cons, List.map_nil, leL, e0, e1, e2, e3]
    exact ⟨AV.le_refl _, AV.le_refl _, AV.le_refl _, AV.le_refl _, AV.le_refl _, AV.le_refl _, AV.le_nil _ _, AV.le_nil _ _, trivial⟩))
  have k2 := k1.frzN (d := 6) (pcs := (riW d).S.flatMap Ac.pv) rfl
  refine k2.weaken ?_ (fun r cs h => by cases h)
  simp only [AV.frz, AV.frzL, if_true, eq_self, ↓reduceIte, Nat.reduceEqDiff]
  exact AV.le_agg ⟨AV.le_refl _, AV.le_nil _ _, AV.le_nil _ _, trivial⟩
theorem riW_ok (d : Nat) (hd : d < WW) : (riW d).ok := by
  refine ⟨⟨(by decide : 1 ≤ 45), fun x hx => ?_⟩, ⟨(by decide : 0 ≤ 40), fun x hx => by cases hx⟩, ⟨(by decide : 0 ≤ 70), fun x hx => by cases hx⟩⟩
  simp only [riW, List.mem_cons, List.not_mem_nil, or_false] at hx
  subst hx
  exact ⟨⟨(⟨by decide, by decide⟩ : U 20), hd, (⟨by decide, by decide⟩ : U 0), ⟨Nat.zero_le _, fun c h => by cases h⟩, Nat.zero_le _, fun p h => by cases h⟩, Nat.zero_le _, Nat.zero_le _⟩
def x13 : ax.Xs := ⟨[1, 3], [], []⟩
theorem new13 : Fn Tryz.prog 51 [.c (.sl true 1 2 [.v (.int .u64 3), .v (.int .u64 1)])] [] (.tup [xxA x13, vi .i64 0]) [] := by
  obtain ⟨r, h1, h2, h3, h4⟩ := ax.new_fn true [3, 1] (by decide) (fun a ha => by
    simp only [List.mem_cons, List.not_mem_nil, or_false] at ha
    rcases ha with rfl | rfl <;> exact ⟨by decide, by decide⟩)
  have hr : r = [1, 3] := by
    match r, h1, h2, h3 with
    | [], _, h2, _ => exact absurd ((h2 1).2 (by simp)) (by simp)
    | [a], _, h2, _ =>
      have g1 : (1 : Int) = a := by simpa using (h2 1).2 (by simp)
      have g2 : (3 : Int) = a := by simpa using (h2 3).2 (by simp)
      omega
    | [a, b], h1, h2, _ =>
      have g : a < b := by simpa using h1
      have g1 : (1 : Int) = a ∨ (1 : Int) = b := by simpa using (h2 1).2 (by simp)
      have g2 : (3 : Int) = a ∨ (3 : Int) = b := by simpa using (h2 3).2 (by simp)
      have : a = 1 ∧ b = 3 := by omega
      rw [this.1, this.2]
    | a :: b :: c :: l, _, _, h3 => simp at h3
  subst hr
  exact h4
theorem x13_ok : x13.ok := by
  refine ⟨fun a ha => ?_, fun s hs => ?_, fun p hp => ?_⟩
  · simp only [x13, List.mem_cons, List.not_mem_nil, or_false] at ha
    rcases ha with rfl | rfl <;> exact ⟨by decide, by decide⟩
  · exact absurd hs (by simp [x13])
  · exact absurd hp (by simp [x13])
theorem x13_few : x13.few := ⟨(by decide : 2 ≤ 700), (by decide : 0 ≤ 700), (by decide : 0 ≤ 700)⟩
theorem newJ (w : Wl) (hw : w.ok) (h : rightW w = true) : Fn Tryz.prog 19 [wlA w, .c (.sl true 1 2 [.v (.int .u64 3), .v (.int .u64 1)])] [] (.tup [.agg [.c (acV w.S), .c (hdV w.L), .c (noV w.N), .c (adV x13.ad), .c (spV x13.sp), .c (pgV x13.pg), nilC], vi .i64 0]) [] := by
  have f1 := checkW_fn w hw
  rw [h, if_pos rfl] at f1
  have f2 := new13
  have ow := own_fn ⟨w, x13⟩ ⟨hw, x13_ok, x13_few⟩
  generalize x13 = x at *
  (refine fn_of Tryz.func19 rfl (by rfl) ?_; simp only [Tryz.ntmps19, List.length_cons, List.length_nil, Nat.reduceAdd, Nat.reduceSub, List.replicate, List.cons_append, List.nil_append])
  (repeat (any_goals (first | ((with_reducible refine evL_call ?_ ?_ ?_); rfl; rfl; intro K hK; ((first | (apply opA_callB (f1); rfl; rfl; rfl; rfl; exact Tryz.func11) | (apply opA_callB (f2); rfl; rfl; rfl; rfl; exact Tryz.func51) | (apply opA_callB (ow); rfl; rfl; rfl; rfl; exact Tryz.func52)); kernel_rfl; rfl; (simp only [go_sem]; rfl); (first | rfl | simp [AV.inNL, AV.inN])); (simp only [go_sem]; refine hK _ ?_; clear hK K)) | ((with_reducible refine evL_one ?_ ?_); rfl; intro K hK; simp only [go_sem]; ((repeat (refine ndI (by first | assumption | omega | rfl) ?_)); refine hK _ ?_; clear hK K)) | (with_reducible first | (refine evL_nil ?_; refine hR _ ?_; clear hR R) | ((first | refine evC_seq ?_ | refine evC_block ?_); intro Ψ hΨ hΨ') | (refine evC_region ?_; intro R hR) | (refine hΨ _ ?_; clear hΨ hΨ' Ψ) | refine evC_skip ?_ | refine evC_ret ?_ | refine evC_exit ?_) | ((with_reducible refine hΨ' _ _ ?_ ?_); (focus (simp; done)); clear hΨ hΨ' Ψ) | ((with_reducible apply evC_cond); rfl; rfl; all_goals (intro hc; first | (cases hc; done) | (try simp only at hc))))))
  all_goals (refine ⟨by simp, ⟨_, ?_, AV.le_refl _⟩, leH_get (by simp [leH, hget])⟩; simp only [Tryz.results19, resL, ldA, oneOf, go_sem])
def j1 : Jn := ⟨⟨riW 5, x13⟩, []⟩
def j2 : Jn := ⟨⟨riW 5, x13⟩, [⟨riW 5, x13⟩]⟩
def j3 : Jn := ⟨⟨riW 7, x13⟩, [⟨riW 5, x13⟩]⟩
theorem p5_ok : (⟨riW 5, x13⟩ : Pt).ok := ⟨riW_ok 5 (by decide), x13_ok, x13_few⟩
theorem p7_ok : (⟨riW 7, x13⟩ : Pt).ok := ⟨riW_ok 7 (by decide), x13_ok, x13_few⟩
theorem j1_ok : j1.ok := ⟨p5_ok, (by decide : 0 ≤ 100), fun p h => by cases h⟩
theorem j2_ok : j2.ok := ⟨p5_ok, (by decide : 1 ≤ 100), fun p h => by
  simp only [j2, List.mem_cons, List.not_mem_nil, or_false] at h
  subst h; exact p5_ok⟩
theorem j3_ok : j3.ok := ⟨p7_ok, (by decide : 1 ≤ 100), fun p h => by
  simp only [j3, List.mem_cons, List.not_mem_nil, or_false] at h
  subst h; exact p5_ok⟩
theorem vJ1 : markJ j1 = (j2, 0) := by kernel_rfl
theorem vJ2 : markN j1 = 0 := by kernel_rfl
theorem vJ3 : putJ j2 ⟨riW 7, x13⟩ = (j3, 0) := by kernel_rfl
theorem vJ4 : atJ j3 0 (fun y => y) = (j1, 0) := by kernel_rfl
theorem wakesJ_fn : Fn Tryz.prog 5 [] [] (vb true) [] := by
  have r5 : Fn Tryz.prog 20 [vi .u64 5] [] (wlA (riW 5)) [] := rich_fn 5 (by decide)
  have r7 : Fn Tryz.prog 20 [vi .u64 7] [] (wlA (riW 7)) [] := rich_fn 7 (by decide)
  have nw := newJ (riW 5) (riW_ok 5 (by decide)) (by kernel_rfl)
  have mk : Fn Tryz.prog 15 [.agg [.c (acV (riW 5).S), .c (hdV (riW 5).L), .c (noV (riW 5).N), .c (adV x13.ad), .c (spV x13.sp), .c (pgV x13.pg), nilC]] [] (.tup [jnA j2, vi .i64 0, vi .i64 0]) [] := by
    have h := mark_fn j1 j1_ok
    rw [vJ1, vJ2] at h
    exact h.args ⟨AV.le_agg ⟨AV.le_refl _, AV.le_refl _, AV.le_refl _, AV.le_refl _, AV.le_refl _, AV.le_refl _, AV.le_nil _ _, trivial⟩, trivial⟩
  have la : Fn Tryz.prog 9 [jnA j2, wlA (riW 7)] [] (resJ (j3, 0)) [] := by
    have h := lay_fn j2 j2_ok (riW 7) (riW_ok 7 (by decide))
    rw [show (⟨riW 7, j2.p.x⟩ : Pt) = ⟨riW 7, x13⟩ from rfl, vJ3] at h
    exact h
  have bk : Fn Tryz.prog 17 [jnA j3, vi .i64 0] [] (resJ (j1, 0)) [] := by
    have h := back_fn j3 j3_ok 0 ⟨by decide, by decide⟩
    rw [vJ4] at h
    exact h
  have sw : Fn Tryz.prog 14 [wlA j1.p.w, wlA (riW 5)] [] (vb true) [] := by
    have h := samew_fn (riW 5) (riW 5) (riW_ok 5 (by decide)) (riW_ok 5 (by decide))
    rw [decide_eq_true rfl] at h
    exact h
  have e1 : ((j3.m.length : Int) == 1) = true := rfl
  have e2 : ((j3.p.w.S.length : Int) == 1) = true := rfl
  have e3 : ((j1.m.length : Int) == 0) = true := rfl
  have e4 : ((j1.p.x.ad.length : Int) == 2) = true := rfl
  have e5 : (j3.p.w.S.flatMap Ac.pv).take 8 = [.v (.int .u64 20), .v (.int .u64 7), .v (.int .u64 0), .v (.int .u64 0), .v (.int .u64 0), .v (.int .u64 0), bsV [], psV []] := by kernel_rfl
  have e6 : ((0 : Int) < (j3.p.w.S.length : Int)) := by decide
  have e7 : j3.p.w.S.length = 1 := rfl
  have e8 : j3.m.length < 9223372036854775808 := by decide
  have e9 : j1.m.length < 9223372036854775808 := by decide
  have e10 : j1.p.x.ad.length < 9223372036854775808 := by decide
  have e11 : j3.p.w.S.length < 9223372036854775808 := by decide
  have e12 : (7 : Int) == 7 := rfl
  refine Fn.known fun E0 => ?_
  (refine fnW_of Tryz.func5 rfl (by rfl) ?_; simp only [Tryz.ntmps5, List.length_cons, List.length_nil, Nat.reduceAdd, Nat.reduceSub, List.replicate, List.cons_append, List.nil_append])
  (repeat (any_goals (first | ((with_reducible refine evL_op ?_ ?_); rfl; intro K hK; apply opA_buildSlice_flat; rfl; rfl; (focus (simp only [go_sem]; try rfl)); (focus (simp only [go_sem]; try rfl)); rfl; (first | omega | (dsimp only; omega) | (simp only [Option.isSome_some, Option.isSome_none]; omega) | (simp; omega) | (focus (simp; done))); (first | omega | (dsimp only; omega) | (simp only [Option.isSome_some, Option.isSome_none]; omega) | (simp; omega) | (focus (simp; done))); (first | omega | (dsimp only; omega) | (simp only [Option.isSome_some, Option.isSome_none]; omega) | (simp; omega) | (focus (simp; done))); (simp only [go_sem]; rfl); rfl; (focus ((simp only [unC, Option.map_some]); (try rfl))); (simp only [go_sem]; refine hK _ ?_; clear hK K)) | ((with_reducible refine evL_call ?_ ?_ ?_); rfl; rfl; intro K hK; (first | ((first | (apply opA_callB (nw); rfl; rfl; rfl; rfl; exact Tryz.func19) | (apply opA_callB (mk); rfl; rfl; rfl; rfl; exact Tryz.func15) | (apply opA_callB (bk); rfl; rfl; rfl; rfl; exact Tryz.func17)); kernel_rfl; rfl; (simp only [go_sem]; rfl); (first | rfl | simp [AV.inNL, AV.inN])) | ((apply opA_callB (r5); rfl; rfl; rfl; rfl; exact Tryz.func20); kernel_rfl; rfl; (simp only [go_sem]; rfl); (first | rfl | simp [AV.inNL, AV.inN])) | ((apply opA_callB (r7); rfl; rfl; rfl; rfl; exact Tryz.func20); kernel_rfl; rfl; (simp only [go_sem]; rfl); (first | rfl | simp [AV.inNL, AV.inN]))); (simp only [go_sem]; refine hK _ ?_; clear hK K)) | ((with_reducible refine evL_one ?_ ?_); rfl; intro K hK; simp only [go_sem]; ((repeat (refine ndI (by first | assumption | omega | rfl) ?_)); refine hK _ ?_; clear hK K)) | ((with_reducible first | refine AWE.seqI ?_ | refine AWE.blockI ?_); intro Ψ hΨ hΨ') | (with_reducible first | refine AWE.ofSkip ?_ | refine AWE.ofRet ?_ | refine AWE.ofExit ?_) | ((with_reducible apply AWE.regionM); rfl; rfl; rfl; rfl; intro R hR; simp only [List.take_succ_cons, List.take_zero, List.drop_succ_cons, List.drop_zero, List.drop_nil] at hR ⊢) | (with_reducible refine AWE.ofR ?_) | ((with_reducible apply AWE.cond); rfl; rfl; all_goals (intro hc; first | (cases hc; done) | (try simp only at hc))) | ((with_reducible apply opE_makeMap); rfl; intro mb umb R hR; simp only [go_sem]) | (with_reducible first | (refine evL_nil ?_; refine hR _ ?_; clear hR R) | ((first | refine evC_seq ?_ | refine evC_block ?_); intro Ψ hΨ hΨ') | (refine evC_region ?_; intro R hR) | (refine hΨ _ ?_; clear hΨ hΨ' Ψ) | refine evC_skip ?_ | refine evC_ret ?_ | refine evC_exit ?_) | ((with_reducible refine hΨ' _ _ ?_ ?_); (focus (simp; done)); clear hΨ hΨ' Ψ) | ((with_reducible apply evC_cond); rfl; rfl; all_goals (intro hc; first | (cases hc; done) | (try simp only at hc))) | ((with_reducible refine evD_nil ?_ ?_); kernel_rfl; (with_reducible refine hR _ ?_); clear hR R) | ((first | ((with_reducible apply evD_fcall); rfl; rfl; (first | ((apply opF_callB (la); rfl; rfl; rfl; rfl; exact Tryz.func9); kernel_rfl; rfl; (simp only [go_sem]; rfl); (first | rfl | simp [AV.inNL, AV.inN])) | ((apply opF_callB (r5); rfl; rfl; rfl; rfl; exact Tryz.func20); kernel_rfl; rfl; (simp only [go_sem]; rfl); (first | rfl | simp [AV.inNL, AV.inN])) | ((apply opF_callB (r7); rfl; rfl; rfl; rfl; exact Tryz.func20); kernel_rfl; rfl; (simp only [go_sem]; rfl); (first | rfl | simp [AV.inNL, AV.inN])))) | ((with_reducible apply evD_any); rfl; rfl; (simp only [rdE, rdOf, go_sem]; rfl); (intro τ hA hQ hN; ((try simp only [agree, Op.operands, Call.operands, go_sem, List.mem_cons, List.not_mem_nil, forall_eq_or_imp, forall_eq, List.append_toArray, Option.toArray] at hA); (try simp only [go_sem, List.mem_cons, List.not_mem_nil, forall_eq_or_imp, forall_eq] at hQ hN); (first | (revert hA; intro hA) | have hA := trivial); (first | (revert hQ; intro hQ) | have hQ := trivial); (first | (revert hN; intro hN) | have hN := trivial); simp only [go_sem, hA, hQ, hN]; (repeat (refine ndI (by first | assumption | omega | rfl) ?_)); (first | apply eff_rd | apply eff_st | apply eff_nw)))) | ((first | ((with_reducible apply evD_new); rfl; rfl; rfl) | ((with_reducible apply evD_grd_new); rfl; rfl; rfl; rfl; rfl; rfl)); (intro τ hA hQ hN; ((try simp only [agree, Op.operands, Call.operands, go_sem, List.mem_cons, List.not_mem_nil, forall_eq_or_imp, forall_eq, List.append_toArray, Option.toArray] at hA); (try simp only [go_sem, List.mem_cons, List.not_mem_nil, forall_eq_or_imp, forall_eq] at hQ); (first | (revert hA; intro hA) | have hA := trivial); (first | (revert hQ; intro hQ) | have hQ := trivial); simp only [go_sem, hA, hQ, hN]; (repeat (refine ndI (by first | assumption | omega | rfl) ?_)); exact eff_nw _ _ _ _))) | ((first | ((with_reducible apply evD_one); rfl) | ((with_reducible apply evD_grd); rfl; rfl; rfl; rfl)); apply opF_buildSlice_flat; rfl; rfl; (focus (simp only [go_sem]; try rfl)); (focus (simp only [go_sem]; try rfl)); rfl; (first | omega | (dsimp only; omega) | (simp only [Option.isSome_some, Option.isSome_none]; omega) | (simp; omega) | (focus (simp; done))); (first | omega | (dsimp only; omega) | (simp only [Option.isSome_some, Option.isSome_none]; omega) | (simp; omega) | (focus (simp; done))); (first | omega | (dsimp only; omega) | (simp only [Option.isSome_some, Option.isSome_none]; omega) | (simp; omega) | (focus (simp; done))); (simp only [go_sem]; rfl); rfl; (focus ((simp only [unC, Option.map_some]); (try rfl))))); (simp only [St.eff, setO, hputs, go_sem])))))
  refine AWE.ofRD ?_
  refine evC_draw (by kernel_rfl) (by kernel_rfl) (by simp [newNames, isNew, St.free, freeH, AV.refsL, AV.refs]) ?_
  intro R hR
  (repeat (any_goals (first | ((with_reducible refine evL_op ?_ ?_); rfl; intro K hK; apply opA_buildSlice_flat; rfl; rfl; (focus (simp only [go_sem]; try rfl)); (focus (simp only [go_sem]; try rfl)); rfl; (first | omega | (dsimp only; omega) | (simp only [Option.isSome_some, Option.isSome_none]; omega) | (simp; omega) | (focus (simp; done))); (first | omega | (dsimp only; omega) | (simp only [Option.isSome_some, Option.isSome_none]; omega) | (simp; omega) | (focus (simp; done))); (first | omega | (dsimp only; omega) | (simp only [Option.isSome_some, Option.isSome_none]; omega) | (simp; omega) | (focus (simp; done))); (simp only [go_sem]; rfl); rfl; (focus ((simp only [unC, Option.map_some]); (try rfl))); (simp only [go_sem]; refine hK _ ?_; clear hK K)) | ((with_reducible refine evL_call ?_ ?_ ?_); rfl; rfl; intro K hK; (first | ((first | (apply opA_callB (nw); rfl; rfl; rfl; rfl; exact Tryz.func19) | (apply opA_callB (mk); rfl; rfl; rfl; rfl; exact Tryz.func15) | (apply opA_callB (bk); rfl; rfl; rfl; rfl; exact Tryz.func17)); kernel_rfl; rfl; (simp only [go_sem]; rfl); (first | rfl | simp [AV.inNL, AV.inN])) | ((apply opA_callB (r5); rfl; rfl; rfl; rfl; exact Tryz.func20); kernel_rfl; rfl; (simp only [go_sem]; rfl); (first | rfl | simp [AV.inNL, AV.inN])) | ((apply opA_callB (r7); rfl; rfl; rfl; rfl; exact Tryz.func20); kernel_rfl; rfl; (simp only [go_sem]; rfl); (first | rfl | simp [AV.inNL, AV.inN]))); (simp only [go_sem]; refine hK _ ?_; clear hK K)) | ((with_reducible refine evL_one ?_ ?_); rfl; intro K hK; simp only [go_sem]; ((repeat (refine ndI (by first | assumption | omega | rfl) ?_)); refine hK _ ?_; clear hK K)) | ((with_reducible first | refine AWE.seqI ?_ | refine AWE.blockI ?_); intro Ψ hΨ hΨ') | (with_reducible first | refine AWE.ofSkip ?_ | refine AWE.ofRet ?_ | refine AWE.ofExit ?_) | ((with_reducible apply AWE.regionM); rfl; rfl; rfl; rfl; intro R hR; simp only [List.take_succ_cons, List.take_zero, List.drop_succ_cons, List.drop_zero, List.drop_nil] at hR ⊢) | (with_reducible refine AWE.ofR ?_) | ((with_reducible apply AWE.cond); rfl; rfl; all_goals (intro hc; first | (cases hc; done) | (try simp only at hc))) | ((with_reducible apply opE_makeMap); rfl; intro mb umb R hR; simp only [go_sem]) | (with_reducible first | (refine evL_nil ?_; refine hR _ ?_; clear hR R) | ((first | refine evC_seq ?_ | refine evC_block ?_); intro Ψ hΨ hΨ') | (refine evC_region ?_; intro R hR) | (refine hΨ _ ?_; clear hΨ hΨ' Ψ) | refine evC_skip ?_ | refine evC_ret ?_ | refine evC_exit ?_) | ((with_reducible refine hΨ' _ _ ?_ ?_); (focus (simp; done)); clear hΨ hΨ' Ψ) | ((with_reducible apply evC_cond); rfl; rfl; all_goals (intro hc; first | (cases hc; done) | (try simp only at hc))) | ((with_reducible refine evD_nil ?_ ?_); kernel_rfl; (with_reducible refine hR _ ?_); clear hR R) | ((first | ((with_reducible apply evD_fcall); rfl; rfl; (first | ((apply opF_callB (la); rfl; rfl; rfl; rfl; exact Tryz.func9); kernel_rfl; rfl; (simp only [go_sem]; rfl); (first | rfl | simp [AV.inNL, AV.inN])) | ((apply opF_callB (r5); rfl; rfl; rfl; rfl; exact Tryz.func20); kernel_rfl; rfl; (simp only [go_sem]; rfl); (first | rfl | simp [AV.inNL, AV.inN])) | ((apply opF_callB (r7); rfl; rfl; rfl; rfl; exact Tryz.func20); kernel_rfl; rfl; (simp only [go_sem]; rfl); (first | rfl | simp [AV.inNL, AV.inN])))) | ((with_reducible apply evD_any); rfl; rfl; (simp only [rdE, rdOf, go_sem]; rfl); (intro τ hA hQ hN; ((try simp only [agree, Op.operands, Call.operands, go_sem, List.mem_cons, List.not_mem_nil, forall_eq_or_imp, forall_eq, List.append_toArray, Option.toArray] at hA); (try simp only [go_sem, List.mem_cons, List.not_mem_nil, forall_eq_or_imp, forall_eq] at hQ hN); (first | (revert hA; intro hA) | have hA := trivial); (first | (revert hQ; intro hQ) | have hQ := trivial); (first | (revert hN; intro hN) | have hN := trivial); simp only [go_sem, hA, hQ, hN]; (repeat (refine ndI (by first | assumption | omega | rfl) ?_)); (first | apply eff_rd | apply eff_st | apply eff_nw)))) | ((first | ((with_reducible apply evD_new); rfl; rfl; rfl) | ((with_reducible apply evD_grd_new); rfl; rfl; rfl; rfl; rfl; rfl)); (intro τ hA hQ hN; ((try simp only [agree, Op.operands, Call.operands, go_sem, List.mem_cons, List.not_mem_nil, forall_eq_or_imp, forall_eq, List.append_toArray, Option.toArray] at hA); (try simp only [go_sem, List.mem_cons, List.not_mem_nil, forall_eq_or_imp, forall_eq] at hQ); (first | (revert hA; intro hA) | have hA := trivial); (first | (revert hQ; intro hQ) | have hQ := trivial); simp only [go_sem, hA, hQ, hN]; (repeat (refine ndI (by first | assumption | omega | rfl) ?_)); exact eff_nw _ _ _ _))) | ((first | ((with_reducible apply evD_one); rfl) | ((with_reducible apply evD_grd); rfl; rfl; rfl; rfl)); apply opF_buildSlice_flat; rfl; rfl; (focus (simp only [go_sem]; try rfl)); (focus (simp only [go_sem]; try rfl)); rfl; (first | omega | (dsimp only; omega) | (simp only [Option.isSome_some, Option.isSome_none]; omega) | (simp; omega) | (focus (simp; done))); (first | omega | (dsimp only; omega) | (simp only [Option.isSome_some, Option.isSome_none]; omega) | (simp; omega) | (focus (simp; done))); (first | omega | (dsimp only; omega) | (simp only [Option.isSome_some, Option.isSome_none]; omega) | (simp; omega) | (focus (simp; done))); (simp only [go_sem]; rfl); rfl; (focus ((simp only [unC, Option.map_some]); (try rfl))))); (simp only [St.eff, setO, hputs, go_sem])))))
  refine AWE.to (St.to.of_le (τ := ⟨[.any, .any, vi .i64 0, vi .i64 0, vi .i64 0, .ptr 5 0, vi .i64 0, .ptr 7 0, vi .i64 0, .any, .any, .any, .any, .any, .any, .any, .any, .any, .any, .any, .any, .any, .any, .any, .any, .any, .any, .any, .any, .any, .any, .any, .any, .any, .any, .any, .any, .any, .any, .any, .any, .any, .any, .any, .any, .any, .any, .any, .any, .any, .any, .any, .any, .any, .any, .any, .any, .any, .any, .any, .any, .any, .any, .any, .any, .any, .any, .any, .any, .any, .any, .any, .any, .any, .any, .any, .any, .any, .any, .any, .any, .any, .any, .any, .any, .any, .any, .any, .any, .any, .any, .any, .any, .any, .any, .any, .any, .any, .any], [(5, jc j3), (7, jc j1)]⟩) (St.le_of (by simp [leT]) (by simp [leH, hget]))) ?_
  refine AWE.ofRD ?_
  simp only [List.append]
  clear r7 nw mk la bk
  generalize j3 = J3 at *
  generalize j1 = J1 at *
  refine evC_draw (by kernel_rfl) (by kernel_rfl) (by simp [newNames, isNew, St.free, freeH, AV.refsL, AV.refs]) ?_
  intro R hR
  iterate 68 (first | ((with_reducible refine evL_op ?_ ?_); rfl; intro K hK; apply opA_buildSlice_flat; rfl; rfl; (focus (simp only [go_sem]; try rfl)); (focus (simp only [go_sem]; try rfl)); rfl; (first | omega | (dsimp only; omega) | (simp (disch := omega) only [Option.isSome_some, Option.isSome_none]; omega) | (simp; omega) | (focus (simp; done))); (first | omega | (dsimp only; omega) | (simp (disch := omega) only [Option.isSome_some, Option.isSome_none]; omega) | (simp; omega) | (focus (simp; done))); (first | omega | (dsimp only; omega) | (simp (disch := omega) only [Option.isSome_some, Option.isSome_none]; omega) | (simp; omega) | (focus (simp; done))); (simp (disch := omega) only [go_sem, e1, e2, e3, e4, e5]; rfl); rfl; (focus ((simp (disch := omega) only [unC, Option.map_some]); (try rfl))); (simp (disch := omega) only [go_sem, e1, e2, e3, e4, e5]; refine hK _ ?_; clear hK K)) | ((with_reducible refine evL_call ?_ ?_ ?_); rfl; rfl; intro K hK; ((first | (apply opA_callB (r5); rfl; rfl; rfl; rfl; exact Tryz.func20) | (apply opA_callB (sw); rfl; rfl; rfl; rfl; exact Tryz.func14)); kernel_rfl; rfl; (simp (disch := omega) only [go_sem, e1, e2, e3, e4, e5]; rfl); (first | rfl | simp [AV.inNL, AV.inN])); (simp (disch := omega) only [go_sem, e1, e2, e3, e4, e5]; refine hK _ ?_; clear hK K)) | ((with_reducible refine evL_one ?_ ?_); rfl; intro K hK; simp (disch := omega) only [go_sem, e1, e2, e3, e4, e5]; ((repeat (refine ndI (by first | assumption | omega | rfl) ?_)); refine hK _ ?_; clear hK K)) | (with_reducible first | (refine evL_nil ?_; refine hR _ ?_; clear hR R) | ((first | refine evC_seq ?_ | refine evC_block ?_); intro Ψ hΨ hΨ') | (refine evC_region ?_; intro R hR) | (refine hΨ _ ?_; clear hΨ hΨ' Ψ) | refine evC_skip ?_ | refine evC_ret ?_ | refine evC_exit ?_) | ((with_reducible refine hΨ' _ _ ?_ ?_); (focus (simp; done)); clear hΨ hΨ' Ψ) | ((with_reducible apply evC_cond); rfl; rfl; all_goals (intro hc; first | (cases hc; done) | (try simp only at hc))) | ((with_reducible refine evD_nil ?_ ?_); kernel_rfl; (with_reducible refine hR _ ?_); clear hR R) | ((first | ((with_reducible apply evD_skip); rfl; rfl; rfl; rfl) | ((with_reducible apply evD_unmet); rfl; rfl; rfl) | ((first | ((with_reducible apply evD_fcall); rfl; rfl) | ((with_reducible apply evD_gcall); rfl; rfl; rfl; rfl; rfl)); ((first | (apply opF_callB (r5); rfl; rfl; rfl; rfl; exact Tryz.func20) | (apply opF_callB (sw); rfl; rfl; rfl; rfl; exact Tryz.func14)); kernel_rfl; rfl; (simp (disch := omega) only [go_sem, e1, e2, e3, e4, e5]; rfl); (first | rfl | simp [AV.inNL, AV.inN]))) | ((first | ((with_reducible apply evD_any); rfl; rfl) | ((with_reducible apply evD_gany); rfl; rfl; rfl; rfl; rfl)); (simp (disch := omega) only [rdE, rdOf, go_sem, e1, e2, e3, e4, e5]; rfl); (intro τ hA hQ hN; ((try simp only [agree, Op.operands, Call.operands, go_sem, e1, e2, e3, e4, e5, go_sem, List.mem_cons, List.not_mem_nil, forall_eq_or_imp, forall_eq, List.append_toArray, Option.toArray] at hA); (try simp only [go_sem, e1, e2, e3, e4, e5, List.mem_cons, List.not_mem_nil, forall_eq_or_imp, forall_eq] at hQ hN); (first | (revert hA; intro hA) | have hA := trivial); (first | (revert hQ; intro hQ) | have hQ := trivial); (first | (revert hN; intro hN) | have hN := trivial); simp (disch := omega) only [go_sem, e1, e2, e3, e4, e5, go_sem, hA, hQ, hN]; (repeat (refine ndI (by first | assumption | omega | rfl) ?_)); (first | apply eff_rd | apply eff_st | apply eff_nw)))) | ((first | ((with_reducible apply evD_new); rfl; rfl; rfl) | ((with_reducible apply evD_grd_new); rfl; rfl; rfl; rfl; rfl; rfl)); (intro τ hA hQ hN; ((try simp (disch := omega) only [agree, Op.operands, Call.operands, go_sem, e1, e2, e3, e4, e5, go_sem, List.mem_cons, List.not_mem_nil, forall_eq_or_imp, forall_eq, List.append_toArray, Option.toArray] at hA); (try simp (disch := omega) only [go_sem, e1, e2, e3, e4, e5, List.mem_cons, List.not_mem_nil, forall_eq_or_imp, forall_eq] at hQ); (first | (revert hA; intro hA) | have hA := trivial); (first | (revert hQ; intro hQ) | have hQ := trivial); simp (disch := omega) only [go_sem, e1, e2, e3, e4, e5, go_sem, hA, hQ, hN]; (repeat (refine ndI (by first | assumption | omega | rfl) ?_)); exact eff_nw _ _ _ _))) | ((first | ((with_reducible apply evD_one); rfl) | ((with_reducible apply evD_grd); rfl; rfl; rfl; rfl)); apply opF_index_ep; rfl; rfl; rfl; rfl; rfl; (focus (simp only [go_sem]; try rfl)); (first | omega | (dsimp only; omega) | (simp (disch := omega) only [Option.isSome_some, Option.isSome_none]; omega) | (simp; omega) | (focus (simp; done))); (first | omega | (simp (disch := omega) only [go_sem, e1, e2, e3, e4, e5, spl, List.length_append, List.length_map, List.length_take, List.length_drop, List.length_replicate]; omega) | (simp [spl]; omega) | (focus (simp [spl]; done)))) | ((first | ((with_reducible apply evD_one); rfl) | ((with_reducible apply evD_grd); rfl; rfl; rfl; rfl)); apply opF_buildSlice_flat; rfl; rfl; (focus (simp only [go_sem]; try rfl)); (focus (simp only [go_sem]; try rfl)); rfl; (first | omega | (dsimp only; omega) | (simp (disch := omega) only [Option.isSome_some, Option.isSome_none]; omega) | (simp; omega) | (focus (simp; done))); (first | omega | (dsimp only; omega) | (simp (disch := omega) only [Option.isSome_some, Option.isSome_none]; omega) | (simp; omega) | (focus (simp; done))); (first | omega | (dsimp only; omega) | (simp (disch := omega) only [Option.isSome_some, Option.isSome_none]; omega) | (simp; omega) | (focus (simp; done))); (simp (disch := omega) only [go_sem, e1, e2, e3, e4, e5]; rfl); rfl; (focus ((simp (disch := omega) only [unC, Option.map_some]); (try rfl))))); (simp (disch := omega) only [St.eff, setO, hputs, go_sem, e1, e2, e3, e4, e5])) | ((with_reducible apply evD_split); rfl; rfl; rfl; all_goals intro hb; all_goals (simp (disch := omega) only [St.eff, setO, hputs, go_sem, e1, e2, e3, e4, e5])) | ((with_reducible refine evC_draw ?_ ?_ ?_ ?_); kernel_rfl; kernel_rfl; (first | kernel_rfl | simp [newNames, isNew, St.free, freeH, AV.refsL, AV.refs]); intro R hR))
  refine hΨ _ ?_
  refine AWE.ofRet ?_
  (refine ⟨by simp, ⟨_, ?_, AV.le_refl _⟩, leH_get (by simp [leH, hget])⟩; simp only [Tryz.results5, resL, ldA, oneOf, go_sem])
end Go.Proofs.YtcahibdaiokajaaGreat
namespace Go.Proofs.YtcahibdaiokajaaGreat
open Go.RowKit
set_option maxRecDepth 20000
set_option maxHeartbeats 2000000
def withS (L : List Ac) (a : Int) (r : List Ac × Int) : List Ac × Int := if !okSt L then ([], 160) else if a = 0 then ([], 2) else r
def mintS (L : List Ac) (a : Int) (n : Nat) : List Ac × Int := withS L a (if WW ≤ n + (L.map Ac.b).sum then ([], 2) else putS L { ofS L a with b := ((ofS L a).b + n) % WW })
end Go.Proofs.YtcahibdaiokajaaGreat
namespace Go.Proofs.YtcahibdaiokajaaGreat
open Go.RowKit
set_option maxRecDepth 20000
set_option maxHeartbeats 2000000
def saveR (L : List Ac) (x : Ac) (k v : Nat) : List Ac × Int :=
  let p := bsr (ltP x.store k) x.store.length 0 x.store.length
  let t := eqP x.store k p
  if t && decide (v = 0) then putS L { x with store := x.store.take p ++ x.store.drop (p + 1) }
  else if t then putS L { x with store := x.store.take p ++ ⟨k, v⟩ :: x.store.drop (p + 1) }
  else if !decide (v = 0) && decide (x.store.length = 24) then ([], 6)
  else if !decide (v = 0) then putS L { x with store := x.store.take p ++ ⟨k, v⟩ :: x.store.drop p }
  else putS L x
def saveS (L : List Ac) (a : Int) (k v : Nat) : List Ac × Int := withS L a (saveR L (ofS L a) k v)
def totalS (L : List Ac) : Nat := if okSt L then (L.map Ac.b).sum % WW else 0
def OfS (L : List Ac) (a : Int) : Ac := if okSt L then ofS L a else ⟨a, 0, 0, [], []⟩
def loadX (x : Ac) (k : Nat) : Nat := if eqP x.store k (bsr (ltP x.store k) x.store.length 0 x.store.length) then ((x.store[bsr (ltP x.store k) x.store.length 0 x.store.length]?).map Pr.v).getD 0 else 0
end Go.Proofs.YtcahibdaiokajaaGreat
namespace Go.Proofs.YtcahibdaiokajaaGreat
open Go.RowKit
set_option maxRecDepth 20000
set_option maxHeartbeats 2000000
def w1 : List Ac := [⟨20, 7, 0, [], []⟩]
def w2 : List Ac := [⟨20, 4, 0, [], []⟩, ⟨21, 3, 0, [], []⟩]
def w3 : List Ac := [⟨20, 4, 0, [], []⟩, ⟨21, 3, 0, [], [⟨5, 9⟩]⟩]
theorem v1 : mintS [] 20 7 = (w1, 0) := by kernel_rfl
theorem v3 : saveS w2 21 5 9 = (w3, 0) := by kernel_rfl
theorem v4 : totalS w3 = 7 := by kernel_rfl
theorem v5 : loadX (OfS w3 21) 5 = 9 := by kernel_rfl
theorem k0 : Okl [] := ⟨Nat.zero_le _, fun x h => by cases h⟩
theorem word_of {a b c d : Int} (ha : 0 ≤ a ∧ a ≤ 18446744073709551615) (hb : 0 ≤ b ∧ b ≤ 18446744073709551615) (hc : 0 ≤ c ∧ c ≤ 18446744073709551615) (hd : 0 ≤ d ∧ d ≤ 18446744073709551615) : ∃ n : Nat, n < WW ∧ l0 n = a ∧ l1 n = b ∧ l2 n = c ∧ l3 n = d := by
  refine ⟨a.toNat + 18446744073709551616 * (b.toNat + 18446744073709551616 * (c.toNat + 18446744073709551616 * d.toNat)), ?_, ?_⟩
  · show _ < 115792089237316195423570985008687907853269984665640564039457584007913129639936
    omega
  · obtain ⟨h0, h1, h2, h3⟩ := limbs_of (s0 := a.toNat) (s1 := b.toNat) (s2 := c.toNat) (s3 := d.toNat) rfl (by omega) (by omega) (by omega) (by omega)
    rw [h0, h1, h2, h3]
    exact ⟨Int.toNat_of_nonneg ha.1, Int.toNat_of_nonneg hb.1, Int.toNat_of_nonneg hc.1, Int.toNat_of_nonneg hd.1⟩
theorem decV_word : DecV Tryz.prog 65 4 wpv (fun n => n < WW) :=
  (decV_w4 Tryz.underlying65 (by kernel_rfl) Tryz.underlying62 (by kernel_rfl)).map fun x hx => by
    obtain ⟨n, hn, h0, h1, h2, h3⟩ := word_of hx.1 hx.2.1 hx.2.2.1 hx.2.2.2
    exact ⟨n, by unfold wpv; rw [h0, h1, h2, h3], hn⟩
theorem decV_addr : DecV Tryz.prog 63 1 (fun n : Int => [PV.v (.int .u64 n)]) U := (decV_u64 Tryz.underlying63 (by kernel_rfl)).map fun a ga => ⟨a, rfl, ga⟩
theorem decV_num : DecV Tryz.prog 62 1 (fun n : Int => [PV.v (.int .u64 n)]) U := (decV_u64 Tryz.underlying62 (by kernel_rfl)).map fun a ga => ⟨a, rfl, ga⟩
theorem decV_byte : DecV Tryz.prog 5 1 bpv (fun n => n < 256) := (decV_int Tryz.underlying5 (by kernel_rfl)).map fun a ga => ⟨a.toNat, by unfold bpv; rw [Int.toNat_of_nonneg (wf_u8 ga).1], by have := wf_u8 ga; omega⟩
theorem decV_bytes : DecV Tryz.prog 66 1 (fun l : List Nat => [PV.sl false 1 l.length (l.flatMap bpv)]) (fun l => l.length ≤ maxLen ∧ ∀ a ∈ l, a < 256) :=
  decV_slice Tryz.underlying66 (by kernel_rfl) decV_byte (by omega) bpv_len
theorem decV_pairP : DecV Tryz.prog 76 8 Pr.pv Pr.ok :=
  (decV_struct (sz := 4 + 4) Tryz.underlying76 (by kernel_rfl) (decF_cons decV_word rfl (decF_one decV_word rfl))).map fun x hx => ⟨⟨x.1, x.2⟩, rfl, hx⟩
theorem decV_pairs : DecV Tryz.prog 67 1 (fun l : List Pr => [PV.sl false 8 l.length (l.flatMap Pr.pv)]) (fun l => l.length ≤ maxLen ∧ ∀ a ∈ l, a.ok) :=
  decV_slice Tryz.underlying67 (by kernel_rfl) decV_pairP (by omega) pr_len
theorem decV_account : DecV Tryz.prog 69 8 Ac.pv Ac.ok :=
  (decV_struct (sz := 1 + (4 + (1 + (1 + 1)))) Tryz.underlying69 (by kernel_rfl) (decF_cons decV_addr rfl (decF_cons decV_word rfl (decF_cons decV_num rfl (decF_cons decV_bytes rfl (decF_one decV_pairs rfl)))))).map fun x hx => ⟨⟨x.1, x.2.1, x.2.2.1, x.2.2.2.1, x.2.2.2.2⟩, rfl, hx⟩
theorem decV_accounts : DecV Tryz.prog 22 1 (fun l : List Ac => [PV.sl false 8 l.length (l.flatMap Ac.pv)]) (fun l => l.length ≤ maxLen ∧ ∀ a ∈ l, a.ok) :=
  decV_slice Tryz.underlying22 (by kernel_rfl) decV_account (by omega) ac_len
end Go.Proofs.YtcahibdaiokajaaGreat
namespace Go.Proofs.YtcahibdaiokajaaGreat
open Go.RowKit
set_option maxRecDepth 20000
set_option maxHeartbeats 4000000
theorem decVH : DecV Tryz.prog 79 11 lg.Hd.pv lg.Hd.ok :=
  (decV_struct (sz := 1 + (4 + (4 + (1 + 1)))) Tryz.underlying79 (by kernel_rfl) (decF_cons decV_addr rfl (decF_cons decV_word rfl (decF_cons decV_word rfl (decF_cons decV_num rfl (decF_one decV_num rfl)))))).map fun x hx => ⟨⟨x.1, x.2.1, x.2.2.1, x.2.2.2.1, x.2.2.2.2⟩, rfl, hx⟩
theorem decVHs : DecV Tryz.prog 25 1 (fun l : List lg.Hd => [hdV l]) (fun l => l.length ≤ maxLen ∧ ∀ h ∈ l, h.ok) :=
  decV_slice Tryz.underlying25 (by kernel_rfl) decVH (by omega) lg.hd_len
theorem decVL : DecV Tryz.prog 27 1 (fun l : List lg.Hd => [hdV l]) (fun l => l.length ≤ maxLen ∧ ∀ h ∈ l, h.ok) :=
  decV_struct Tryz.underlying27 (by kernel_rfl) (decF_one decVHs rfl)
theorem decVS : DecV Tryz.prog 24 1 (fun l : List Ac => [acV l]) (fun l => l.length ≤ maxLen ∧ ∀ h ∈ l, h.ok) :=
  decV_struct Tryz.underlying24 (by kernel_rfl) (decF_one decV_accounts rfl)
theorem decVN : DecV Tryz.prog 82 6 nz.N6.pv nz.N6.ok :=
  (decV_triple (s0 := 1) (s1 := 4) (s2 := 1) Tryz.underlying82 (by kernel_rfl) (decV_u64 Tryz.underlying63 (by kernel_rfl)) (decV_w4 Tryz.underlying65 (by kernel_rfl) Tryz.underlying62 (by kernel_rfl)) (decV_u64 Tryz.underlying62 (by kernel_rfl)) rfl rfl rfl).map
    fun v ⟨h1, ⟨h2, h3, h4, h5⟩, h6⟩ => ⟨⟨v.1, v.2.1.1, v.2.1.2.1, v.2.1.2.2.1, v.2.1.2.2.2, v.2.2⟩, rfl, h1, h2, h3, h4, h5, h6⟩
theorem decVNs : DecV Tryz.prog 28 1 (fun l : List nz.N6 => [noV l]) (fun l => l.length ≤ maxLen ∧ ∀ n ∈ l, n.ok) :=
  decV_slice Tryz.underlying28 (by kernel_rfl) decVN (by omega) (fun _ => rfl)
theorem decVW : DecV Tryz.prog 30 3 Wl.pv Wl.raw :=
  (decV_struct (sz := 1 + (1 + 1)) Tryz.underlying30 (by kernel_rfl) (decF_cons decVS rfl (decF_cons decVL rfl (decF_one decVNs rfl)))).map fun x hx => ⟨⟨x.1, x.2.1, x.2.2⟩, rfl, hx.1, hx.2.1, hx.2.2⟩
end Go.Proofs.YtcahibdaiokajaaGreat
namespace Go.Proofs.YtcahibdaiokajaaGreat
open Go.RowKit
open Nat (reduceBEq)
set_option maxRecDepth 20000
set_option maxHeartbeats 4000000
theorem okJ_put {j : Jn} {p : Pt} (h : okJ j = true) (hp : okPt p = true) : okJ ⟨p, j.m⟩ = true := by
  unfold okJ at h ⊢
  simp only [Bool.and_eq_true] at h ⊢
  exact ⟨h.1, hp, h.2.2⟩
theorem decVSp : DecV Tryz.prog 86 5 ax.Sp.pv ax.Sp.ok :=
  (decV_struct (sz := 1 + 4) Tryz.underlying86 (by kernel_rfl) (decF_cons decV_addr rfl (decF_one decV_word rfl))).map fun x hx => ⟨⟨x.1, x.2⟩, rfl, hx⟩
theorem decVPg : DecV Tryz.prog 89 9 ax.Pg.pv ax.Pg.ok :=
  (decV_struct (sz := 5 + 4) Tryz.underlying89 (by kernel_rfl) (decF_cons decVSp rfl (decF_one decV_word rfl))).map fun x hx => ⟨⟨x.1, x.2⟩, rfl, hx⟩
theorem decVX : DecV Tryz.prog 35 3 (fun x : ax.Xs => [adV x.ad, spV x.sp, pgV x.pg]) XRaw :=
  (decV_struct (sz := 1 + (1 + 1)) Tryz.underlying35 (by kernel_rfl) (decF_cons (decV_slice Tryz.underlying31 (by kernel_rfl) decV_addr (by omega) (fun _ => rfl)) rfl (decF_cons (decV_slice Tryz.underlying32 (by kernel_rfl) decVSp (by omega) (fun _ => rfl)) rfl (decF_one (decV_slice Tryz.underlying33 (by kernel_rfl) decVPg (by omega) (fun _ => rfl)) rfl)))).map fun x hx => ⟨⟨x.1, x.2.1, x.2.2⟩, rfl, hx.1, hx.2.1, hx.2.2⟩
theorem decVP : DecV Tryz.prog 37 6 Pt.pv Pt.raw :=
  (decV_struct (sz := 3 + 3) Tryz.underlying37 (by kernel_rfl) (decF_cons decVW rfl (decF_one decVX rfl))).map fun x hx => ⟨⟨x.1, x.2⟩, rfl, hx.1, hx.2⟩
theorem decVJ : DecV Tryz.prog 40 7 Jn.pv Jn.raw :=
  (decV_struct (sz := 6 + 1) Tryz.underlying40 (by kernel_rfl) (decF_cons decVP rfl (decF_one (decV_slice Tryz.underlying38 (by kernel_rfl) decVP (by omega) pt_len) rfl))).map fun x hx => ⟨⟨x.1, x.2⟩, rfl, hx.1, hx.2⟩
end Go.Proofs.YtcahibdaiokajaaGreat
namespace Go.Proofs.YtcahibdaiokajaaGreat
open Go.RowKit
set_option maxRecDepth 20000
set_option maxHeartbeats 4000000
structure Sj where
  k : Int
  n : Int
  w : Wl
  x : ax.Xs
def Sj.pv (s : Sj) : List PV := [.v (.int .i64 s.k), .v (.int .i64 s.n), acV s.w.S, hdV s.w.L, noV s.w.N, adV s.x.ad, spV s.x.sp, pgV s.x.pg]
theorem sj_len (s : Sj) : s.pv.length = 8 := rfl
abbrev sjA (s : Sj) : AV := .agg [vi .i64 s.k, vi .i64 s.n, .c (acV s.w.S), .c (hdV s.w.L), .c (noV s.w.N), .c (adV s.x.ad), .c (spV s.x.sp), .c (pgV s.x.pg)]
abbrev sjl (ex : Bool) (l : List Sj) : AV := .c (.sl ex 8 l.length (l.flatMap Sj.pv))
theorem sj_at {l : List Sj} {i : Nat} {y : Sj} (h : l[i]? = some y) : ((l.flatMap Sj.pv).drop (i * 8)).take 8 = [.v (.int .i64 y.k), .v (.int .i64 y.n), acV y.w.S, hdV y.w.L, noV y.w.N, adV y.x.ad, spV y.x.sp, pgV y.x.pg] := flat_at (f := Sj.pv) sj_len h
structure Sj.ok (s : Sj) : Prop where
  k : -9223372036854775808 ≤ s.k ∧ s.k ≤ 9223372036854775807
  n : -9223372036854775808 ≤ s.n ∧ s.n ≤ 9223372036854775807
  w : s.w.ok
  x : s.x.ok
  f : s.x.few
def kindJ (s : Sj) : Int := (IntKind.u64.wrap s.k).tmod 5
def doesJ (s : Sj) (j : Jn) : Jn × Int × Int :=
  if kindJ s = 0 then ((markJ j).1, markN j, (markJ j).2)
  else if kindJ s = 1 then ((atJ j s.n fun y => y).1, 0, (atJ j s.n fun y => y).2)
  else if kindJ s = 2 then ((atJ j s.n fun _ => j.p).1, 0, (atJ j s.n fun _ => j.p).2)
  else if kindJ s = 3 then ((putJ j ⟨s.w, j.p.x⟩).1, 0, (putJ j ⟨s.w, j.p.x⟩).2)
  else ((putJ j ⟨j.p.w, s.x⟩).1, 0, (putJ j ⟨j.p.w, s.x⟩).2)
def aboveJ (s : Sj) (m : Int) : Bool := (decide (kindJ s ≠ 1) && decide (kindJ s ≠ 2)) || decide (s.n ≥ m)
def stepJ (m : Int) (j : Jn) (s : Sj) : Jn := if aboveJ s m then (if (doesJ s j).2.2 = 0 then (doesJ s j).1 else j) else j
theorem okJ_iff {j : Jn} : okJ j = true ↔ j.m.length ≤ 16 ∧ okPt j.p = true ∧ ∀ p ∈ j.m, okPt p = true := by
  unfold okJ
  simp only [Bool.and_eq_true, decide_eq_true_eq, List.all_eq_true]
def Under (M : List Pt) (j : Jn) : Prop := okJ j = true ∧ j.ok ∧ j.m.take M.length = M
theorem under_step {M : List Pt} {j : Jn} {s : Sj} (hs : s.ok) (h : Under M j) (hM : M.length ≤ 100) : Under M (stepJ M.length j s) := by
  obtain ⟨h1, h2, h3⟩ := h
  have hl : M.length ≤ j.m.length := by rw [← h3, List.length_take]; omega
  obtain ⟨g1, g2, g3⟩ := okJ_iff.1 h1
  unfold stepJ
  by_cases ha : aboveJ s M.length = true
  case neg => rw [if_neg ha]; exact ⟨h1, h2, h3⟩
  rw [if_pos ha]
  by_cases he : (doesJ s j).2.2 = 0
  case neg => rw [if_neg he]; exact ⟨h1, h2, h3⟩
  rw [if_pos he]
  have put : ∀ p : Pt, p.ok → (putJ j p).2 = 0 → Under M (putJ j p).1 := fun p hp hz => by
    unfold putJ at hz ⊢
    rw [if_pos h1] at hz ⊢
    by_cases hq : okPt p = true
    · rw [if_pos hq]
      exact ⟨okJ_put h1 hq, ⟨hp, h2.m⟩, h3⟩
    · rw [if_neg hq] at hz; cases hz
  have at' : ∀ p : Pt → Pt, (∀ y, y.ok → (p y).ok) → (∀ y, okPt y = true → okPt (p y) = true) → s.n ≥ M.length → (atJ j s.n p).2 = 0 → Under M (atJ j s.n p).1 := fun p hp hq hn hz => by
    unfold atJ at hz ⊢
    rw [if_pos h1] at hz ⊢
    by_cases h0 : s.n < 0
    · omega
    rw [if_neg h0] at hz ⊢
    cases hy : j.m[s.n.toNat]? with
    | none => rw [hy] at hz; cases hz
    | some y =>
      have ym := List.mem_of_getElem? hy
      refine ⟨okJ_iff.2 ⟨by show (j.m.take _).length ≤ 16; rw [List.length_take]; omega, hq y (g3 y ym), fun q hq => g3 q (List.mem_of_mem_take hq)⟩, ⟨hp y (h2.m.2 y ym), by show (j.m.take _).length ≤ 100; rw [List.length_take]; have := h2.m.1; omega, fun q hq => h2.m.2 q (List.mem_of_mem_take hq)⟩, ?_⟩
      show (j.m.take s.n.toNat).take M.length = M
      rw [List.take_take, Nat.min_eq_left (by omega)]
      exact h3
  unfold doesJ at he ⊢
  unfold aboveJ at ha
  by_cases c0 : kindJ s = 0
  · rw [if_pos c0] at he ⊢
    show Under M (markJ j).1
    replace he : (markJ j).2 = 0 := he
    unfold markJ at he ⊢
    rw [if_pos h1] at he ⊢
    by_cases hq : j.m.length = 16
    · rw [if_pos hq] at he; cases he
    · rw [if_neg hq]
      refine ⟨okJ_iff.2 ⟨by show (j.m ++ [j.p]).length ≤ 16; rw [List.length_append, List.length_singleton]; omega, g2, fun q h => (List.mem_append.1 h).elim (g3 q) fun h => by rw [List.mem_singleton.1 h]; exact g2⟩, ⟨h2.p, by show (j.m ++ [j.p]).length ≤ 100; rw [List.length_append, List.length_singleton]; omega, fun q h => (List.mem_append.1 h).elim (h2.m.2 q) fun h => by rw [List.mem_singleton.1 h]; exact h2.p⟩, ?_⟩
      show (j.m ++ [j.p]).take M.length = M
      rw [List.take_append_of_le_length hl]
      exact h3
  rw [if_neg c0] at he ⊢
  by_cases c1 : kindJ s = 1
  · rw [if_pos c1] at he ⊢
    rw [c1] at ha
    exact at' _ (fun y h => h) (fun y h => h) (by simpa using ha) he
  rw [if_neg c1] at he ⊢
  by_cases c2 : kindJ s = 2
  · rw [if_pos c2] at he ⊢
    rw [c2] at ha
    exact at' _ (fun y h => h2.p) (fun y h => g2) (by simpa using ha) he
  rw [if_neg c2] at he ⊢
  by_cases c3 : kindJ s = 3
  · rw [if_pos c3] at he ⊢
    exact put _ ⟨hs.w, h2.p.x, h2.p.f⟩ he
  · rw [if_neg c3] at he ⊢
    exact put _ ⟨h2.p.w, hs.x, hs.f⟩ he
def goneJ (m : Int) (j : Jn) (l : List Sj) : Jn := l.foldl (stepJ m) j
theorem under_gone {M : List Pt} (hM : M.length ≤ 100) : ∀ {l : List Sj} {j : Jn}, (∀ s ∈ l, s.ok) → Under M j → Under M (goneJ M.length j l)
  | [], j, _, h => h
  | s :: l, j, hs, h => under_gone hM (l := l) (fun t ht => hs t (by simp [ht])) (under_step (hs s (by simp)) h hM)
theorem back_law {J : Jn} (hJ : J.ok) (hc : okJ J = true) (h16 : J.m.length ≠ 16) {l : List Sj} (hl : ∀ s ∈ l, s.ok) {K : Jn} (hK : K = goneJ (J.m.length + 1 : Nat) ⟨J.p, J.m ++ [J.p]⟩ l) :
    K.ok ∧ okJ K = true ∧ atJ K J.m.length (fun y => y) = (J, 0) ∧ atJ K J.m.length (fun _ => K.p) = (⟨K.p, J.m⟩, 0) ∧ (⟨K.p, J.m⟩ : Jn).ok ∧ okJ ⟨K.p, J.m⟩ = true := by
  obtain ⟨g1, g2, g3⟩ := okJ_iff.1 hc
  have e : (J.m ++ [J.p]).length = J.m.length + 1 := by simp
  have u0 : Under (J.m ++ [J.p]) ⟨J.p, J.m ++ [J.p]⟩ := by
    refine ⟨okJ_iff.2 ⟨by show (J.m ++ [J.p]).length ≤ 16; omega, g2, fun q h => (List.mem_append.1 h).elim (g3 q) fun h => by rw [List.mem_singleton.1 h]; exact g2⟩, ⟨hJ.p, by show (J.m ++ [J.p]).length ≤ 100; omega, fun q h => (List.mem_append.1 h).elim (hJ.m.2 q) fun h => by rw [List.mem_singleton.1 h]; exact hJ.p⟩, List.take_of_length_le (Nat.le_refl _)⟩
  have u := under_gone (by omega) hl u0
  rw [e, ← hK] at u
  obtain ⟨k1, k2, k3⟩ := u
  rw [e] at k3
  have hlt : J.m.length < K.m.length := by
    have := congrArg List.length k3
    rw [List.length_take, e] at this
    omega
  have hy : K.m[J.m.length]? = some J.p := by
    have : (K.m.take (J.m.length + 1))[J.m.length]? = some J.p := by rw [k3]; simp
    rwa [List.getElem?_take, if_pos (by omega)] at this
  have ht : K.m.take J.m.length = J.m := by
    have : (K.m.take (J.m.length + 1)).take J.m.length = J.m := by rw [k3]; simp
    rwa [List.take_take, Nat.min_eq_left (by omega)] at this
  have at' : ∀ p : Pt → Pt, atJ K J.m.length p = (⟨p J.p, J.m⟩, 0) := fun p => by
    unfold atJ
    rw [if_pos k1, if_neg (by omega), Int.toNat_natCast, hy]
    show ((⟨p J.p, K.m.take J.m.length⟩ : Jn), (0 : Int)) = _
    rw [ht]
  obtain ⟨f1, f2, f3⟩ := okJ_iff.1 k1
  exact ⟨k2, k1, at' _, at' _, ⟨k2.p, hJ.m⟩, okJ_iff.2 ⟨g1, f2, g3⟩⟩
end Go.Proofs.YtcahibdaiokajaaGreat
