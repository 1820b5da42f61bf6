/-
  Proved: the law JournalMay answers true for every two journals and every row of addresses, and its arguments read behind the call as before. Conditions: none.
-/
import Derived.Test.YtmidmaeihpldhaaGreatRa
import Derived.Test.YtmidmaeihpldhaaGreatJf
import Derived.Test.YtmidmaeihpldhaaGreatLc
import Derived.MapKept
import Derived.WideKeyMaps
import Derived.Test.YtmidmaeihpldhaaGreatSf
import Derived.Test.YtmidmaeihpldhaaGreatAvW
set_option linter.unusedSimpArgs false
set_option linter.unusedVariables false
namespace Go.Proofs.YtmidmaeihpldhaaGreat
open Go.RowKit
open Nat (reduceBEq)
set_option maxRecDepth 20000
set_option maxHeartbeats 4000000
theorem world_row (w : Wl) (hw : w.raw) : Fn Tryz.prog 7 [wlA w] [] (.agg [.row 9 76 8 (cutW w).S.length, .c (hdV (cutW w).L), .c (noV (cutW w).N)]) [(9, rcS (cutW w).S)] := by
  obtain ⟨S, L, N⟩ := w
  obtain ⟨⟨hs, os⟩, ⟨hl, ol⟩, ⟨hn, on'⟩⟩ := hw
  dsimp only at hs os hl ol hn on'
  have s8 : S.length < 9223372036854775808 := Nat.lt_succ_of_le hs
  have l8 : L.length < 9223372036854775808 := Nat.lt_succ_of_le hl
  have n8 : N.length < 9223372036854775808 := Nat.lt_succ_of_le hn
  have c1 := cloneA_fn false (S.take 45) (by rw [List.length_take]; omega)
  have c4 := cloneHv false (L.take 40) (by rw [List.length_take]; omega)
  have c5 := cloneNv false (N.take 70) (by rw [List.length_take]; omega)
  have e1 : (if (45 : Int) < (S.length : Int) then (45 : Int) else (S.length : Int)) = ((min S.length 45 : Nat) : Int) := min_if S.length 45
  have e2 : (S.flatMap Ac.pv).take (min S.length 45 * 8) = (S.take 45).flatMap Ac.pv := by rw [flat_take ac_len, take_min]
  have e3 : (S.take 45).length = min S.length 45 := by rw [List.length_take, Nat.min_comm]
  have e4 : (if (40 : Int) < (L.length : Int) then (40 : Int) else (L.length : Int)) = ((min L.length 40 : Nat) : Int) := min_if L.length 40
  have e5 : (L.flatMap lg.Hd.pv).take (min L.length 40 * 11) = (L.take 40).flatMap lg.Hd.pv := by rw [flat_take lg.hd_len, take_min]
  have e6 : (L.take 40).length = min L.length 40 := by rw [List.length_take, Nat.min_comm]
  have e7 : (if (70 : Int) < (N.length : Int) then (70 : Int) else (N.length : Int)) = ((min N.length 70 : Nat) : Int) := min_if N.length 70
  have e8 : (N.flatMap nz.N6.pv).take (min N.length 70 * 6) = (N.take 70).flatMap nz.N6.pv := by rw [flat_take nz.pv_len, take_min]
  have e9 : (N.take 70).length = min N.length 70 := by rw [List.length_take, Nat.min_comm]
  have os' : ∀ x ∈ S.take 45, x.ok := fun x hx => os x (List.mem_of_mem_take hx)
  show Fn Tryz.prog 7 [wlA ⟨S, L, N⟩] [] (.agg [.row 9 76 8 ((S.take 45).map cutA).length, .c (hdV (L.take 40)), .c (noV (N.take 70))]) [(9, rcS ((S.take 45).map cutA))]
  have h45 : (S.take 45).length ≤ 45 := by rw [List.length_take]; omega
  unfold acS at c1
  rw [e3] at c1
  unfold hdV at c4
  rw [e6] at c4
  unfold noV at c5
  rw [e9] at c5
  have m1 : ((S.take 45).map cutA).length = min S.length 45 := by rw [List.length_map, e3]
  unfold hdV noV
  rw [m1, e6, e9]
  rw [← e3] at e1 e2 c1 m1 ⊢
  generalize S.take 45 = M at *
  have f1 : ∀ d, AV.refsL d (rcS M) = false := fun d => refsL_map d _
  have f2 : ∀ r, AV.renL r (rcS M) = rcS M := fun r => renL_map r _
  have f3 : ∀ r, AV.inNL r (rcS M) = true := fun r => inNL_map r _
  have f4 := rcS_len M
  (refine fn_of Tryz.func7 rfl (by rfl) ?_; simp only [Tryz.ntmps7, List.length_cons, List.length_nil, Nat.reduceAdd, Nat.reduceSub, List.replicate, List.cons_append, List.nil_append])
  (have W := ndI e1 (ndI e2 (ndI f1 (ndI f2 (ndI f3 f4)))); (repeat (any_goals (first | ((with_reducible refine evL_call ?_ ?_ ?_); rfl; rfl; intro K hK; (apply opA_callR (c1) (fun r => 9); rfl; rfl; rfl; rfl; exact Tryz.func29; kernel_rfl; rfl; rfl; (intro r hr q hq h; simp (disch := omega) only [List.map_cons, List.map_nil, List.cons_append, List.nil_append, List.mem_cons, List.not_mem_nil, or_false] at hr hq; (try dsimp only at h); first | omega); (simp (disch := omega) only [argsOk, argOk, AV.ren, AV.renL, renL_map, List.mem_cons, List.not_mem_nil, forall_eq_or_imp, forall_eq, newOk, List.contains_cons, List.contains_nil, AV.refsL, AV.refs, refsL_map, AV.inN, AV.inNL, inH, inNL_map, go_sem, W, Bool.false_and])); (simp (disch := omega) only [hputs, hdels, renH, AV.ren, AV.renL, renL_map, go_sem, W, Bool.false_and]; refine hK _ ?_; clear hK K)) | ((with_reducible refine evL_one ?_ ?_); rfl; intro K hK; simp (disch := omega) only [go_sem, W, Bool.false_and]; ((repeat (refine ndI (by first | assumption | omega | rfl) ?_)); refine hK _ ?_; clear hK K)) | (with_reducible first | (refine evL_nil ?_; refine hR _ ?_; clear hR R) | ((first | refine evC_seq ?_ | refine evC_block ?_); intro Ψ hΨ hΨ') | (refine evC_region ?_; intro R hR) | (refine hΨ _ ?_; clear hΨ hΨ' Ψ))))))
  have rr : ∀ (A B : List Ac) (d : Nat), AV.refsL d (rcS (A ++ B)) = false := fun A B d => refsL_map d _
  refine evC_upto M.length (fun i => ⟨[wlA ⟨S, L, N⟩, .ptr 1 0, .ptr 2 0, .any, .any, .any, .any, .any, .any, .any, .any, .any, .any, .any, .any, .any, .any, .any, .any, .any, vi .i64 M.length, vi .i64 (i : Int), .any, .any, .any, .any, .any, .any, .any, .any, .any, .any, .any, .any, .any, .any, .any, .any, .any, .any, .any, .any, .any, .any, .any, .any, .any, .any, .any, .any, .any, .any, .any, .any, .any, .any, .any, .any, .any, .any, .any, .any, .any, .any, .any, .any, .any, .any, .any, .any, .any, .any, .any, .any, .any, .any, .any, .any, .any, .any, .any, .any], [(1, [.row 9 76 8 M.length, .c (hdV L), .c (noV N)]), (2, [.c (.v (.slice none 0 0)), .c (.v (.slice none 0 0)), .c (.v (.slice none 0 0))]), (9, rcS ((M.take i).map cutA ++ M.drop i))]⟩) (St.le_of (by simp [leT]) (by simp [leH, hget])) ?_
  intro i hi Ψ hΨ hΨ'
  (try dsimp only at hΨ ⊢)
  have k8 : M.length < 9223372036854775808 := by omega
  rcases Nat.lt_or_ge i M.length with hlt | hge
  · obtain ⟨y, hy⟩ : ∃ x, M[i]? = some x := ⟨_, List.getElem?_eq_getElem hlt⟩
    have k1 : (decide ((i : Int) < (M.length : Int))) = true := decide_eq_true (by omega)
    have k7 : (i : Int) + 1 = ((i + 1 : Nat) : Int) := by omega
    have hA : ((M.take i).map cutA).length = i := by rw [List.length_map, List.length_take]; omega
    have d1 : M.drop i = y :: M.drop (i + 1) := by
      rw [List.drop_eq_getElem_cons hlt]
      congr 1
      exact (List.getElem?_eq_some_iff.1 hy).2
    have d2 : (M.take (i + 1)).map cutA ++ M.drop (i + 1) = (M.take i).map cutA ++ cutA y :: M.drop (i + 1) := by
      rw [List.take_add_one, hy, List.map_append]; simp
    rw [d2] at hΨ
    rw [d1]
    have yo := os' y (List.mem_of_getElem? hy)
    have y8 : y.code.length < 9223372036854775808 := Nat.lt_succ_of_le yo.2.2.2.1.1
    have z8 : y.store.length < 9223372036854775808 := Nat.lt_succ_of_le yo.2.2.2.2.1
    have b1 := cloneBv false (y.code.take 300) (by rw [List.length_take]; omega)
    have b2 := clonePv false (y.store.take 40) (by rw [List.length_take]; omega)
    have g1 : (if (300 : Int) < (y.code.length : Int) then (300 : Int) else (y.code.length : Int)) = ((min y.code.length 300 : Nat) : Int) := min_if y.code.length 300
    have g2 : (y.code.flatMap bpv).take (min y.code.length 300) = (y.code.take 300).flatMap bpv := by
      have := flat_take (f := bpv) bpv_len y.code (min y.code.length 300)
      rw [Nat.mul_one] at this
      rw [this, take_min]
    have g3 : (y.code.take 300).length = min y.code.length 300 := by rw [List.length_take, Nat.min_comm]
    have g4 : (if (40 : Int) < (y.store.length : Int) then (40 : Int) else (y.store.length : Int)) = ((min y.store.length 40 : Nat) : Int) := min_if y.store.length 40
    have g5 : (y.store.flatMap Pr.pv).take (min y.store.length 40 * 8) = (y.store.take 40).flatMap Pr.pv := by rw [flat_take pr_len, take_min]
    have g6 : (y.store.take 40).length = min y.store.length 40 := by rw [List.length_take, Nat.min_comm]
    generalize (M.take i).map cutA = A at hA hΨ ⊢
    generalize M.drop (i + 1) = B at hΨ ⊢
    obtain ⟨u1, u2⟩ := acell (B := B) (y := y) hA
    have u3 := spl_code (B := B) (y := y) hA (y.code.take 300)
    have u4 := spl_store (B := B) (y := ⟨y.a, y.b, y.n, y.code.take 300, y.store⟩) hA (y.store.take 40)
    have u5 := rcS_len (A ++ y :: B)
    have u6 := rcS_len (A ++ ⟨y.a, y.b, y.n, y.code.take 300, y.store⟩ :: B)
    have v1 : i * 8 + 8 ≤ (rcS (A ++ y :: B)).length := by rw [u5, List.length_append, List.length_cons]; omega
    have v2 : i * 8 + 8 ≤ (rcS (A ++ ⟨y.a, y.b, y.n, y.code.take 300, y.store⟩ :: B)).length := by rw [u6, List.length_append, List.length_cons]; omega
    unfold bsV at b1 u3
    unfold psV at b2 u4
    rw [g3] at b1 u3
    rw [g6] at b2 u4
    have q1 := rr A (y :: B)
    have q2 := rr A (⟨y.a, y.b, y.n, y.code.take 300, y.store⟩ :: B)
    have q3 := rr A (⟨y.a, y.b, y.n, y.code.take 300, y.store.take 40⟩ :: B)
    (have W := ndI k1 (ndI k7 (ndI g1 (ndI g2 (ndI g4 (ndI g5 (ndI u1 (ndI u2 (ndI u3 (ndI u4 (ndI q1 (ndI q2 (ndI q3 @wrI)))))))))))); (repeat (any_goals (first | ((with_reducible refine evL_one ?_ ?_); rfl; intro K hK; simp (disch := omega) only [go_sem, W, Bool.false_and, Nat.mul_one]; ((repeat (refine ndI (by first | assumption | omega | rfl) ?_)); refine hK _ ?_; clear hK K)) | (with_reducible first | (refine evL_nil ?_; refine hR _ ?_; clear hR R) | ((first | refine evC_seq ?_ | refine evC_block ?_); intro Ψ hΨ hΨ') | (refine evC_region ?_; intro R hR) | (refine hΨ _ ?_; clear hΨ hΨ' Ψ) | refine evC_skip ?_) | ((with_reducible refine hΨ' _ _ ?_ ?_); (focus (simp; done)); clear hΨ hΨ' Ψ) | ((with_reducible apply evC_cond); rfl; rfl; all_goals (intro hc; first | (cases hc; done) | (try simp only at hc))) | ((with_reducible refine evD_nil ?_ ?_); (apply drawOK_sim); (focus (repeat (first | exact Sims.nil | ((apply Sims.cons); (focus (first | ((apply Ef.sim_row); assumption) | exact Ef.sim_refl _)))))); kernel_rfl; (with_reducible refine hR _ ?_); clear hR R) | ((first | ((with_reducible apply evD_fcall); rfl; rfl; ((first | (apply opF_callB (b1); rfl; rfl; rfl; rfl; exact Tryz.func30) | (apply opF_callB (b2); rfl; rfl; rfl; rfl; exact Tryz.func31)); kernel_rfl; rfl; (simp (disch := omega) only [go_sem, W, Bool.false_and, Nat.mul_one]; rfl); (first | simp [AV.inNL, AV.inN]))) | ((with_reducible apply evD_any); rfl; rfl; (simp (disch := omega) only [rdE, rdOf, go_sem, W, Bool.false_and, Nat.mul_one]; rfl); (intro τ hA hQ hN; ((try simp only [agree, Op.operands, Call.operands, go_sem, W, Bool.false_and, Nat.mul_one, go_sem, List.mem_cons, List.not_mem_nil, forall_eq_or_imp, forall_eq, List.append_toArray, Option.toArray] at hA); (try simp only [go_sem, W, Bool.false_and, Nat.mul_one, List.mem_cons, List.not_mem_nil, forall_eq_or_imp, forall_eq] at hQ hN); (first | (revert hA; intro hA)); (first | (revert hQ; intro hQ)); (first | (revert hN; intro hN)); simp (disch := omega) only [go_sem, W, Bool.false_and, Nat.mul_one, go_sem, hA, hQ, hN]; (repeat (refine ndI (by first | assumption | omega | rfl) ?_)); (first | apply eff_rd | apply eff_st))))); (simp (disch := omega) only [St.eff, setO, hputs, go_sem, W, Bool.false_and, Nat.mul_one])) | ((with_reducible refine evC_draw ?_ ?_ ?_ ?_); kernel_rfl; kernel_rfl; (simp [newNames, isNew, St.free, freeH, AV.refsL, AV.refs, q1]); intro R hR)))))
    all_goals exact hΨ _ hlt (St.le_of (by simp [leT]) (by simp [leH, hget, cutA]))
  · have k1 : (decide ((i : Int) < (M.length : Int))) = false := decide_eq_false (by omega)
    rw [List.take_of_length_le hge, List.drop_eq_nil_of_le hge, List.append_nil]
    have f5 : ∀ d, AV.refsL d (rcS (M.map cutA)) = false := fun d => refsL_map d _
    (have W := ndI k1 (ndI e4 (ndI e5 (ndI e7 (ndI e8 f5)))); (repeat (any_goals (first | ((with_reducible refine evL_call ?_ ?_ ?_); rfl; rfl; intro K hK; ((first | (apply opA_callB (c4); rfl; rfl; rfl; rfl; exact Tryz.func32) | (apply opA_callB (c5); rfl; rfl; rfl; rfl; exact Tryz.func33)); kernel_rfl; rfl; (simp (disch := omega) only [go_sem, W, Bool.false_and]; rfl); (first | simp [AV.inNL, AV.inN])); (simp (disch := omega) only [go_sem, W, Bool.false_and]; refine hK _ ?_; clear hK K)) | ((with_reducible refine evL_one ?_ ?_); rfl; intro K hK; simp (disch := omega) only [go_sem, W, Bool.false_and]; ((repeat (refine ndI (by first | assumption | omega | rfl) ?_)); refine hK _ ?_; clear hK K)) | (with_reducible first | (refine evL_nil ?_; refine hR _ ?_; clear hR R) | ((first | refine evC_seq ?_); intro Ψ hΨ hΨ') | (refine evC_region ?_; intro R hR) | (refine hΨ _ ?_; clear hΨ hΨ' Ψ) | refine evC_ret ?_ | refine evC_exit ?_) | ((with_reducible refine hΨ' _ _ ?_ ?_); (focus (simp; done)); clear hΨ hΨ' Ψ) | ((with_reducible apply evC_cond); rfl; rfl; all_goals (intro hc; first | (cases hc; done) | (try simp only at hc)))))))
    all_goals (refine ⟨by simp, ⟨_, ?_, AV.le_refl _⟩, leH_get (by simp [leH, hget])⟩; simp only [Tryz.results7, resL, ldA, oneOf, go_sem])
theorem world_fn (w : Wl) (hw : w.raw) : Fn Tryz.prog 7 [wlA w] [] (wlA (cutW w)) [] := by
  have k := (world_row w hw).frzN (d := 9) (pcs := (cutW w).S.flatMap Ac.pv) rfl
  have e1 : ((cutW w).S.flatMap Ac.pv).length = (cutW w).S.length * 8 := flat_length ac_len _
  simpa [-List.length_flatMap, e1, AV.frz, AV.frzL, frzH, acV, vi] using k
end Go.Proofs.YtmidmaeihpldhaaGreat
namespace Go.Proofs.YtmidmaeihpldhaaGreat
open Go.RowKit
open Nat (reduceBEq)
set_option maxRecDepth 20000
set_option maxHeartbeats 4000000
def cutX (x : ax.Xs) : ax.Xs := ⟨x.ad.take 402, x.sp.take 402, x.pg.take 402⟩
structure XRaw (x : ax.Xs) : Prop where
  ad : x.ad.length ≤ maxLen ∧ ∀ a ∈ x.ad, U a
  sp : x.sp.length ≤ maxLen ∧ ∀ s ∈ x.sp, s.ok
  pg : x.pg.length ≤ maxLen ∧ ∀ p ∈ x.pg, p.ok
theorem cutX_ok {x : ax.Xs} (h : XRaw x) : (cutX x).ok ∧ (cutX x).few := by
  refine ⟨⟨fun a ha => h.ad.2 a (List.mem_of_mem_take ha), fun a ha => h.sp.2 a (List.mem_of_mem_take ha), fun a ha => h.pg.2 a (List.mem_of_mem_take ha)⟩, ?_, ?_, ?_⟩
  · show (x.ad.take 402).length ≤ 700; rw [List.length_take]; omega
  · show (x.sp.take 402).length ≤ 700; rw [List.length_take]; omega
  · show (x.pg.take 402).length ≤ 700; rw [List.length_take]; omega
theorem touched_fn (x : ax.Xs) (hx : XRaw x) : Fn Tryz.prog 8 [xxA x] [] (xxA (cutX x)) [] := by
  obtain ⟨A, S, P⟩ := x
  obtain ⟨⟨ha, oa⟩, ⟨hs, os⟩, ⟨hp, op⟩⟩ := hx
  dsimp only at ha oa hs os hp op
  have a8 : A.length < 9223372036854775808 := Nat.lt_succ_of_le ha
  have s8 : S.length < 9223372036854775808 := Nat.lt_succ_of_le hs
  have p8 : P.length < 9223372036854775808 := Nat.lt_succ_of_le hp
  have c1 := ax.cloneA_val false (A.take 402) (by rw [List.length_take]; omega)
  have c2 := ax.cloneS_val false (S.take 402) (by rw [List.length_take]; omega)
  have c3 := ax.cloneP_val false (P.take 402) (by rw [List.length_take]; omega)
  have e1 : (if (402 : Int) < (A.length : Int) then (402 : Int) else (A.length : Int)) = ((min A.length 402 : Nat) : Int) := min_if A.length 402
  have e2 : (A.flatMap ax.apv).take (min A.length 402) = (A.take 402).flatMap ax.apv := by
    have := flat_take (f := ax.apv) ax.apv_len A (min A.length 402)
    rw [Nat.mul_one] at this
    rw [this, take_min]
  have e3 : (A.take 402).length = min A.length 402 := by rw [List.length_take, Nat.min_comm]
  have e4 : (if (402 : Int) < (S.length : Int) then (402 : Int) else (S.length : Int)) = ((min S.length 402 : Nat) : Int) := min_if S.length 402
  have e5 : (S.flatMap ax.Sp.pv).take (min S.length 402 * 5) = (S.take 402).flatMap ax.Sp.pv := by rw [flat_take (show ∀ s : ax.Sp, s.pv.length = 5 from fun _ => rfl), take_min]
  have e6 : (S.take 402).length = min S.length 402 := by rw [List.length_take, Nat.min_comm]
  have e7 : (if (402 : Int) < (P.length : Int) then (402 : Int) else (P.length : Int)) = ((min P.length 402 : Nat) : Int) := min_if P.length 402
  have e8 : (P.flatMap ax.Pg.pv).take (min P.length 402 * 9) = (P.take 402).flatMap ax.Pg.pv := by rw [flat_take (show ∀ s : ax.Pg, s.pv.length = 9 from fun _ => rfl), take_min]
  have e9 : (P.take 402).length = min P.length 402 := by rw [List.length_take, Nat.min_comm]
  unfold ax.asl at c1
  unfold ax.spl5 at c2
  unfold ax.pgl9 at c3
  rw [e3] at c1
  rw [e6] at c2
  rw [e9] at c3
  show Fn Tryz.prog 8 [xxA ⟨A, S, P⟩] [] (xxA ⟨A.take 402, S.take 402, P.take 402⟩) []
  unfold xxA adV spV pgV
  dsimp only
  rw [e3, e6, e9]
  (refine fn_of Tryz.func8 rfl (by rfl) ?_; simp only [Tryz.ntmps8, List.length_cons, List.length_nil, Nat.reduceAdd, Nat.reduceSub, List.replicate, List.cons_append, List.nil_append])
  (have W := ndI e1 (ndI e2 (ndI e4 (ndI e5 (ndI e7 e8)))); (repeat (any_goals (first | ((with_reducible refine evL_one ?_ ?_); rfl; intro K hK; simp (disch := omega) only [go_sem, W, Bool.false_and, Nat.mul_one]; ((repeat (refine ndI (by first | assumption | rfl) ?_)); refine hK _ ?_; clear hK K)) | (with_reducible first | (refine evL_nil ?_; refine hR _ ?_; clear hR R) | ((first | refine evC_seq ?_); intro Ψ hΨ hΨ') | (refine evC_region ?_; intro R hR) | (refine hΨ _ ?_; clear hΨ hΨ' Ψ) | refine evC_ret ?_) | ((with_reducible refine evD_nil ?_ ?_); kernel_rfl; (with_reducible refine hR _ ?_); clear hR R) | ((first | ((with_reducible apply evD_fcall); rfl; rfl; ((first | (apply opF_callB (c1); rfl; rfl; rfl; rfl; exact Tryz.func15) | (apply opF_callB (c2); rfl; rfl; rfl; rfl; exact Tryz.func34) | (apply opF_callB (c3); rfl; rfl; rfl; rfl; exact Tryz.func35)); kernel_rfl; rfl; (simp (disch := omega) only [go_sem, W, Bool.false_and, Nat.mul_one]; rfl); (first | simp [AV.inNL, AV.inN]))) | ((with_reducible apply evD_any); rfl; rfl; (simp (disch := omega) only [rdE, rdOf, go_sem, W, Bool.false_and, Nat.mul_one]; rfl); (intro τ hA hQ hN; ((try simp only [agree, Op.operands, Call.operands, go_sem, W, Bool.false_and, Nat.mul_one, go_sem, List.mem_cons, List.not_mem_nil, forall_eq_or_imp, forall_eq, List.append_toArray, Option.toArray] at hA); (try simp only [go_sem, W, Bool.false_and, Nat.mul_one, List.mem_cons, List.not_mem_nil, forall_eq_or_imp, forall_eq] at hQ hN); (first | (revert hA; intro hA)); (first | (revert hQ; intro hQ)); (first | (revert hN; intro hN)); simp (disch := omega) only [go_sem, W, Bool.false_and, Nat.mul_one, go_sem, hA, hQ, hN]; (repeat (refine ndI (by first | assumption | omega | rfl) ?_)); (first | apply eff_rd | apply eff_st))))); (simp (disch := omega) only [St.eff, setO, hputs, go_sem, W, Bool.false_and, Nat.mul_one])) | ((with_reducible refine evC_draw ?_ ?_ ?_ ?_); kernel_rfl; kernel_rfl; (first | kernel_rfl); intro R hR)))))
  all_goals (refine ⟨by simp, ⟨_, ?_, AV.le_refl _⟩, leH_get (by simp [leH, hget])⟩; simp only [Tryz.results8, resL, ldA, oneOf, go_sem])
def cutP (p : Pt) : Pt := ⟨cutW p.w, cutX p.x⟩
structure Pt.raw (p : Pt) : Prop where
  w : p.w.raw
  x : XRaw p.x
theorem cutP_ok {p : Pt} (h : p.raw) : (cutP p).ok := ⟨cutW_ok h.w, (cutX_ok h.x).1, (cutX_ok h.x).2⟩
theorem point_fn (p : Pt) (hp : p.raw) : Fn Tryz.prog 28 [ptA p] [] (ptA (cutP p)) [] := by
  have w1 := world_fn p.w hp.w
  have t1 := touched_fn p.x hp.x
  show Fn Tryz.prog 28 [ptA p] [] (ptA ⟨cutW p.w, cutX p.x⟩) []
  generalize cutW p.w = v at *
  generalize cutX p.x = y at *
  (refine fn_of Tryz.func28 rfl (by rfl) ?_; simp only [Tryz.ntmps28, List.length_cons, List.length_nil, Nat.reduceAdd, Nat.reduceSub, List.replicate, List.cons_append, List.nil_append])
  (repeat (any_goals (first | ((with_reducible refine evL_one ?_ ?_); rfl; intro K hK; simp only [go_sem]; ((repeat (refine ndI (by first | assumption) ?_)); refine hK _ ?_; clear hK K)) | (with_reducible first | (refine evL_nil ?_; refine hR _ ?_; clear hR R) | ((first | refine evC_seq ?_); intro Ψ hΨ hΨ') | (refine evC_region ?_; intro R hR) | (refine hΨ _ ?_; clear hΨ hΨ' Ψ) | refine evC_ret ?_) | ((with_reducible refine evD_nil ?_ ?_); kernel_rfl; (with_reducible refine hR _ ?_); clear hR R) | ((first | ((with_reducible apply evD_fcall); rfl; rfl; ((first | (apply opF_callB (w1); rfl; rfl; rfl; rfl; exact Tryz.func7) | (apply opF_callB (t1); rfl; rfl; rfl; rfl; exact Tryz.func8)); kernel_rfl; rfl; (simp only [go_sem]; rfl); (first | simp [AV.inNL, AV.inN]))) | ((with_reducible apply evD_any); rfl; rfl; (simp only [rdE, rdOf, go_sem]; rfl); (intro τ hA hQ hN; ((try simp only [agree, Op.operands, Call.operands, go_sem, List.mem_cons, List.not_mem_nil, forall_eq_or_imp, forall_eq, List.append_toArray, Option.toArray] at hA); (try simp only [go_sem, List.mem_cons, List.not_mem_nil, forall_eq_or_imp, forall_eq] at hQ hN); (first | (revert hA; intro hA)); (first | (revert hQ; intro hQ)); (first | (revert hN; intro hN)); simp only [go_sem, hA, hQ, hN]; (repeat (refine ndI (by first | assumption) ?_)); (first | apply eff_rd | apply eff_st))))); (simp only [St.eff, setO, hputs, go_sem])) | ((with_reducible refine evC_draw ?_ ?_ ?_ ?_); kernel_rfl; kernel_rfl; (first | kernel_rfl); intro R hR))))
  all_goals (refine ⟨by simp, ⟨_, ?_, AV.le_refl _⟩, leH_get (by simp [leH, hget])⟩; simp only [Tryz.results28, resL, ldA, oneOf, go_sem])
def fewJ (j : Jn) : Jn := ⟨cutP j.p, (j.m.take 18).map cutP⟩
structure Jn.raw (j : Jn) : Prop where
  p : j.p.raw
  m : j.m.length ≤ maxLen ∧ ∀ p ∈ j.m, p.raw
theorem fewJ_ok {j : Jn} (h : j.raw) : (fewJ j).ok := by
  refine ⟨cutP_ok h.p, ?_, fun x hx => ?_⟩
  · show ((j.m.take 18).map cutP).length ≤ 100; rw [List.length_map, List.length_take]; omega
  · obtain ⟨y, hy, rfl⟩ := List.mem_map.1 hx
    exact cutP_ok (h.m.2 y (List.mem_of_mem_take hy))
abbrev stFJ (j : Jn) (M : List Pt) (r : Nat) (out : List Pt) (i : Int) : St := ⟨[.any, .any, .ptr 2 0, .ptr 3 0, .any, .any, .any, .any, .any, .any, .any, .any, .any, .any, .any, .any, .c (.sl false 6 M.length (M.flatMap Pt.pv)), vi .i64 M.length, vi .i64 i, .any, .any, .any, .any, .any, .any, .any, .any, .any, .any, .any, .any], [(2, nil7), (3, [.c (acV (cutP j.p).w.S), .c (hdV (cutP j.p).w.L), .c (noV (cutP j.p).w.N), .c (adV (cutP j.p).x.ad), .c (spV (cutP j.p).x.sp), .c (pgV (cutP j.p).x.pg), .row r 37 6 out.length]), (r, rcT out)]⟩
theorem stFJ_rn (j : Jn) (M : List Pt) (out : List Pt) (i : Int) : (stFJ j M 27 out i).to (stFJ j M 500 out i) := by
  have h := St.to.rn (σ := stFJ j M 27 out i) (fun r => if r = 27 then 500 else r) (fun r => if r = 500 then 27 else r) [2, 3, 27] (by simp [AV.inNL, AV.inN]) (by simp) (by simp [inH, AV.inNL, AV.inN, rcT]) (by simp) (by simp)
  simpa [AV.renL, AV.ren, renH, rcT, stFJ] using h
theorem few_row (j : Jn) (hj : j.raw) : Fn Tryz.prog 6 [jnA j] [] (.agg [.c (acV (cutP j.p).w.S), .c (hdV (cutP j.p).w.L), .c (noV (cutP j.p).w.N), .c (adV (cutP j.p).x.ad), .c (spV (cutP j.p).x.sp), .c (pgV (cutP j.p).x.pg), .row 500 37 6 ((j.m.take 18).map cutP).length]) [(500, rcT ((j.m.take 18).map cutP))] := by
  have p1 := point_fn j.p hj.p
  have m8 : j.m.length < 9223372036854775808 := Nat.lt_succ_of_le hj.m.1
  have e1 : (if (18 : Int) < (j.m.length : Int) then (18 : Int) else (j.m.length : Int)) = ((min j.m.length 18 : Nat) : Int) := min_if j.m.length 18
  have e2 : (j.m.flatMap Pt.pv).take (min j.m.length 18 * 6) = (j.m.take 18).flatMap Pt.pv := by rw [flat_take pt_len, take_min]
  have e3 : (j.m.take 18).length = min j.m.length 18 := by rw [List.length_take, Nat.min_comm]
  rw [← e3] at e1 e2
  have hM : (j.m.take 18).length ≤ 18 := by rw [List.length_take]; omega
  have oM : ∀ p ∈ j.m.take 18, p.raw := fun p hp => hj.m.2 p (List.mem_of_mem_take hp)
  generalize j.m.take 18 = M at *
  (refine fn_of Tryz.func6 rfl (by rfl) ?_; simp only [Tryz.ntmps6, List.length_cons, List.length_nil, Nat.reduceAdd, Nat.reduceSub, List.replicate, List.cons_append, List.nil_append])
  (repeat (any_goals (first | ((with_reducible refine evL_call ?_ ?_ ?_); rfl; rfl; intro K hK; ((apply opA_callB (p1); rfl; rfl; rfl; rfl; exact Tryz.func28); kernel_rfl; rfl; (simp (disch := omega) only [go_sem, e1, e2, Bool.false_and]; rfl); (first | simp [AV.inNL, AV.inN])); (simp (disch := omega) only [go_sem, e1, e2, Bool.false_and]; refine hK _ ?_; clear hK K)) | ((with_reducible refine evL_one ?_ ?_); rfl; intro K hK; simp (disch := omega) only [go_sem, e1, e2, Bool.false_and]; ((repeat (refine ndI (by first | assumption | omega | rfl) ?_)); refine hK _ ?_; clear hK K)) | (with_reducible first | (refine evL_nil ?_; refine hR _ ?_; clear hR R) | ((first | refine evC_seq ?_ | refine evC_block ?_); intro Ψ hΨ hΨ') | (refine evC_region ?_; intro R hR) | (refine hΨ _ ?_; clear hΨ hΨ' Ψ)))))
  refine evC_uptoT M.length (fun i => stFJ j M 500 ((M.take i).map cutP) (i : Int)) ?_ ?_
  · refine St.to.trans (St.to.nilcell 3 500 37 6 6 (by simp [hget]; rfl) rfl (by simp [St.free, freeH, AV.refsL, AV.refs]) (by decide) (by decide)) (St.to.of_le (St.le_of (by simp [leT]) (by simp [leH, hget, hput, rcT])))
  intro i hi Ψ hΨ hΨ'
  (try dsimp only at hΨ ⊢)
  rcases Nat.lt_or_ge i M.length with hlt | hge
  · obtain ⟨x, hx⟩ : ∃ x, M[i]? = some x := ⟨_, List.getElem?_eq_getElem hlt⟩
    have k1 : (decide ((i : Int) < (M.length : Int))) = true := decide_eq_true (by omega)
    have k2 := pt_at hx
    have k7 : (i : Int) + 1 = ((i + 1 : Nat) : Int) := by omega
    have ho := point_fn x (oM x (List.mem_of_getElem? hx))
    have hs : (M.take (i + 1)).map cutP = (M.take i).map cutP ++ [cutP x] := by rw [List.take_add_one, hx, List.map_append]; rfl
    rw [hs] at hΨ
    have hol : ((M.take i).map cutP).length ≤ 100 := by rw [List.length_map, List.length_take]; omega
    generalize (M.take i).map cutP = out at hΨ hol ⊢
    generalize cutP x = y at hΨ ho
    (have W := ndI k1 (ndI k2 k7); (repeat (any_goals (first | ((with_reducible refine evL_one ?_ ?_); rfl; intro K hK; simp only [go_sem, W, refsL_rcT]; ((repeat (refine ndI (by first | assumption | omega) ?_)); refine hK _ ?_; clear hK K)) | (with_reducible first | (refine evL_nil ?_; refine hR _ ?_; clear hR R) | ((first | refine evC_seq ?_ | refine evC_block ?_); intro Ψ hΨ hΨ') | (refine evC_region ?_; intro R hR) | (refine hΨ _ ?_; clear hΨ hΨ' Ψ) | refine evC_skip ?_) | ((with_reducible apply evC_cond); rfl; rfl; all_goals (intro hc; first | (cases hc; done) | (try simp only at hc)))))))
    refine evC_draw_at 5 (by decide) (by kernel_rfl) (by kernel_rfl) (by kernel_rfl) (by kernel_rfl) (by simp [newNames, isNew, St.free, freeH, AV.refsL, AV.refs, refsL_rcT]) ?_
    intro R hR
    simp only [List.take_succ_cons, List.take_zero, List.drop_succ_cons, List.drop_zero] at hR ⊢
    (have W := ndI k1 (ndI k2 k7); (repeat (any_goals (first | ((with_reducible refine evD_nil ?_ ?_); kernel_rfl; (with_reducible refine hR _ ?_); clear hR R) | ((first | ((with_reducible apply evD_fcall); rfl; rfl; ((apply opF_callB (ho); rfl; rfl; rfl; rfl; exact Tryz.func28); kernel_rfl; rfl; (simp only [go_sem, W, refsL_rcT, eq_self, decide_true]; rfl); (first | simp [AV.inNL, AV.inN]))) | ((with_reducible apply evD_any); rfl; rfl; (simp only [rdE, rdOf, go_sem, W, refsL_rcT, eq_self, decide_true]; rfl); (intro τ hA hQ hN; ((try simp only [agree, Op.operands, Call.operands, go_sem, W, refsL_rcT, eq_self, decide_true, go_sem, List.mem_cons, List.not_mem_nil, forall_eq_or_imp, forall_eq, List.append_toArray, Option.toArray] at hA); (try simp only [go_sem, W, refsL_rcT, eq_self, decide_true, List.mem_cons, List.not_mem_nil, forall_eq_or_imp, forall_eq] at hQ hN); (first | (revert hA; intro hA)); (first | (revert hQ; intro hQ)); (first | (revert hN; intro hN)); simp only [go_sem, W, refsL_rcT, eq_self, decide_true, go_sem, hA, hQ, hN]; (repeat (refine ndI (by first | assumption) ?_)); (first | apply eff_rd)))) | ((first | ((with_reducible apply evD_one); rfl)); apply opF_buildSlice_flat; rfl; rfl; (focus (simp only [go_sem]; try rfl)); (focus (simp only [go_sem]; try rfl)); rfl; (first | omega); (first | omega); (first | omega); (simp only [go_sem, W, refsL_rcT, eq_self, decide_true]; rfl); rfl; (focus ((simp only [unC, Option.map_some]); (try rfl))))); (simp only [St.eff, setO, hputs, go_sem, W, refsL_rcT, eq_self, decide_true]))))))
    have rl := rcT_len out
    (repeat (any_goals (first | ((with_reducible refine evL_one ?_ ?_); rfl; intro K hK; simp (disch := omega) only [go_sem, refsL_rcT, refsL_map, refsL_app, AV.refsL, AV.refs, List.length_append, List.length_cons, List.length_nil, Bool.or_false]; ((repeat (refine ndI (by first | assumption | omega | rfl) ?_)); refine hK _ ?_; clear hK K)))))
    refine evL_nil ?_
    (have W := ndI k1 (ndI k2 (ndI k7 @wrI)); (repeat (any_goals (first | ((with_reducible refine evL_one ?_ ?_); rfl; intro K hK; simp (disch := omega) only [go_sem, W, refsL_rcT]; ((repeat (refine ndI (by first | assumption | rfl) ?_)); refine hK _ ?_; clear hK K)) | (with_reducible first | (refine evL_nil ?_; refine hR _ ?_; clear hR R) | (refine evC_region ?_; intro R hR) | (refine hΨ _ ?_; clear hΨ hΨ' Ψ)) | ((with_reducible refine hΨ' _ _ ?_ ?_); (focus (simp; done)); clear hΨ hΨ' Ψ)))))
    all_goals exact hΨ _ hlt (St.to.trans (St.to.of_le (τ := stFJ j M 27 (out ++ [y]) ((i + 1 : Nat) : Int)) (St.le_of (by simp [leT]) (by simp [leH, hget, rcT_app, Pt.pv]))) (stFJ_rn j M _ _))
  · have k1 : (decide ((i : Int) < (M.length : Int))) = false := decide_eq_false (by omega)
    rw [List.take_of_length_le hge]
    (repeat (any_goals (first | ((with_reducible refine evL_one ?_ ?_); rfl; intro K hK; simp only [go_sem, k1, refsL_rcT]; ((repeat (refine ndI (by first | assumption) ?_)); refine hK _ ?_; clear hK K)) | (with_reducible first | (refine evL_nil ?_; refine hR _ ?_; clear hR R) | ((first | refine evC_seq ?_); intro Ψ hΨ hΨ') | (refine evC_region ?_; intro R hR) | (refine hΨ _ ?_; clear hΨ hΨ' Ψ) | refine evC_ret ?_ | refine evC_exit ?_) | ((with_reducible refine hΨ' _ _ ?_ ?_); (focus (simp; done)); clear hΨ hΨ' Ψ) | ((with_reducible apply evC_cond); rfl; rfl; all_goals (intro hc; first | (cases hc; done) | (try simp only at hc))))))
    all_goals (refine ⟨by simp, ⟨_, ?_, AV.le_refl _⟩, leH_get (by simp [leH, hget])⟩; simp only [Tryz.results6, resL, ldA, oneOf, go_sem])
theorem few_fn (j : Jn) (hj : j.raw) : Fn Tryz.prog 6 [jnA j] [] (jnA (fewJ j)) [] := by
  have h := (few_row j hj).frzN (d := 500) (pcs := ((j.m.take 18).map cutP).flatMap Pt.pv) rfl
  have e1 : (((j.m.take 18).map cutP).flatMap Pt.pv).length = ((j.m.take 18).map cutP).length * 6 := flat_length pt_len _
  simpa [-List.length_flatMap, -List.length_map, -List.length_take, -List.map_take, fewJ, e1, AV.frz, AV.frzL, frzH, vi] using h
end Go.Proofs.YtmidmaeihpldhaaGreat
namespace Go.Proofs.YtmidmaeihpldhaaGreat
open Go.RowKit Go.MapKept
section
variable {S S' : Nat → Prop} {ι : Nat → Nat × Nat × Nat} {w w' : World}
end
section
variable {E : Env} {ι : Nat → Nat × Nat × Nat} {σ : St} {a : Act} {w : World} {b clk clk' : Nat} {X X' : Array MapEntry}
end

/-! maps from numbers, by lists -/
section
variable {V : Type}
end
section
variable {P : Program} {o : Oper} {σ : St} {K : St → Prop} {V : Type}
end
/-! sets, by lists: maps to bools whose keys are of many cells -/
section
variable {P : Program} {o : Oper} {σ : St} {K : St → Prop} {κ : Type}
end
section
variable {p : Env → Prop} {P : Program} {σ : St} {Φ : Exit → St → Prop}
theorem AWE.seqI {x y : Code} (h : ∀ Ψ : Exit → St → Prop, (∀ σ', AWE p P y σ' Φ → Ψ .normal σ') → (∀ ex σ', ex ≠ .normal → Φ ex σ' → Ψ ex σ') → AWE p P x σ Ψ) : AWE p P (.seq x y) σ Φ :=
  AWE.seq (h _ (fun _ h => h) fun ex σ' hne h' => by
    cases ex with
    | normal => exact absurd rfl hne
    | _ => exact h')
end
section
variable {p : Env → Prop} {P : Program} {σ : St} {Φ : Exit → St → Prop}
theorem AWE.ofR {id : Nat} {ops : Array Oper} (h : evC P (.region id ops false) σ Φ) : AWE p P (.region id ops false) σ Φ := AWE.of h
theorem AWE.ofRD {id : Nat} {ops : Array Oper} (h : evC P (.region id ops true) σ Φ) : AWE p P (.region id ops true) σ Φ := AWE.of h
theorem AWE.ofRet (h : Φ .ret σ) : AWE p P .ret σ Φ := AWE.of (evC_ret h)
end
theorem Fn.known {P : Program} {f : FuncId} {args : List AV} {H0 H1 : List (Nat × List AV)} {res : AV} (h : ∀ E0, FnW (fun E => E = E0) P f args H0 res H1) : Fn P f args H0 res H1 := fun E vs => h E E vs rfl
end Go.Proofs.YtmidmaeihpldhaaGreat
namespace Go.Proofs.YtmidmaeihpldhaaGreat
open Go.RowKit
open Nat (reduceBEq)
set_option maxRecDepth 20000
set_option maxHeartbeats 4000000
def riW (d : Nat) : Wl := ⟨[⟨20, d, 0, [], []⟩], [], []⟩
theorem rich_row (d : Nat) : Fn Tryz.prog 24 [vi .u64 d] [] (.agg [.row 6 76 8 1, nilC, nilC]) [(6, [vi .u64 20, vi .u64 d, vi .u64 0, vi .u64 0, vi .u64 0, vi .u64 0, nilC, nilC])] := by
  (refine fn_of Tryz.func24 rfl (by rfl) ?_; simp only [Tryz.ntmps24, List.length_cons, List.length_nil, Nat.reduceAdd, Nat.reduceSub, List.replicate, List.cons_append, List.nil_append])
  (repeat (any_goals (first | ((with_reducible refine evL_one ?_ ?_); rfl; intro K hK; simp only [go_sem]; ((repeat (refine ndI (by first | assumption) ?_)); refine hK _ ?_; clear hK K)) | (with_reducible first | (refine evL_nil ?_; refine hR _ ?_; clear hR R) | ((first | refine evC_seq ?_); intro Ψ hΨ hΨ') | (refine evC_region ?_; intro R hR) | (refine hΨ _ ?_; clear hΨ hΨ' Ψ) | refine evC_ret ?_))))
  all_goals (refine ⟨by simp, ⟨_, ?_, AV.le_refl _⟩, leH_get (by simp [leH, hget])⟩; simp only [Tryz.results24, resL, ldA, oneOf, go_sem])
theorem rich_fn (d : Nat) (hd : d < 18446744073709551616) : Fn Tryz.prog 24 [vi .u64 d] [] (wlA (riW d)) [] := by
  have e0 : l0 d = (d : Int) := by unfold l0; rw [Nat.mod_eq_of_lt hd]
  have e1 : l1 d = 0 := by unfold l1; rw [Nat.div_eq_of_lt hd]; rfl
  have e2 : l2 d = 0 := by unfold l2; rw [Nat.div_eq_of_lt hd]; rfl
  have e3 : l3 d = 0 := by unfold l3; rw [Nat.div_eq_of_lt hd]; rfl
  have k1 := (rich_row d).to (St.to.cells 6 (ds := ((riW d).S.flatMap Ac.pv).map .c) rfl (by
    simp only [riW, List.flatMap_cons, List.flatMap_nil, Ac.pv, List.cons_append, List.nil_append, List.map_cons, List.map_nil, leL, e0, e1, e2, e3]
    exact ⟨AV.le_refl _, AV.le_refl _, AV.le_refl _, AV.le_refl _, AV.le_refl _, AV.le_refl _, AV.le_nil _ _, AV.le_nil _ _, trivial⟩))
  have k2 := k1.frzN (d := 6) (pcs := (riW d).S.flatMap Ac.pv) rfl
  refine k2.weaken ?_ (fun r cs h => by cases h)
  simp only [AV.frz, AV.frzL, if_true, eq_self, ↓reduceIte, Nat.reduceEqDiff]
  exact AV.le_agg ⟨AV.le_refl _, AV.le_nil _ _, AV.le_nil _ _, trivial⟩
theorem riW_ok (d : Nat) (hd : d < WW) : (riW d).ok := by
  refine ⟨⟨(by decide : 1 ≤ 45), fun x hx => ?_⟩, ⟨(by decide : 0 ≤ 40), fun x hx => by cases hx⟩, ⟨(by decide : 0 ≤ 70), fun x hx => by cases hx⟩⟩
  simp only [riW, List.mem_cons, List.not_mem_nil, or_false] at hx
  subst hx
  exact ⟨⟨(⟨by decide, by decide⟩ : U 20), hd, (⟨by decide, by decide⟩ : U 0), ⟨Nat.zero_le _, fun c h => by cases h⟩, Nat.zero_le _, fun p h => by cases h⟩, Nat.zero_le _, Nat.zero_le _⟩
def x13 : ax.Xs := ⟨[1, 3], [], []⟩
theorem new13 : Fn Tryz.prog 62 [.c (.sl true 1 2 [.v (.int .u64 3), .v (.int .u64 1)])] [] (.tup [xxA x13, vi .i64 0]) [] := by
  obtain ⟨r, h1, h2, h3, h4⟩ := ax.new_fn true [3, 1] (by decide) (fun a ha => by
    simp only [List.mem_cons, List.not_mem_nil, or_false] at ha
    rcases ha with rfl | rfl <;> exact ⟨by decide, by decide⟩)
  have hr : r = [1, 3] := by
    match r, h1, h2, h3 with
    | [], _, h2, _ => exact absurd ((h2 1).2 (by simp)) (by simp)
    | [a], _, h2, _ =>
      have g1 : (1 : Int) = a := by simpa using (h2 1).2 (by simp)
      have g2 : (3 : Int) = a := by simpa using (h2 3).2 (by simp)
      omega
    | [a, b], h1, h2, _ =>
      have g : a < b := by simpa using h1
      have g1 : (1 : Int) = a ∨ (1 : Int) = b := by simpa using (h2 1).2 (by simp)
      have g2 : (3 : Int) = a ∨ (3 : Int) = b := by simpa using (h2 3).2 (by simp)
      have : a = 1 ∧ b = 3 := by omega
      rw [this.1, this.2]
    | a :: b :: c :: l, _, _, h3 => simp at h3
  subst hr
  exact h4
theorem x13_ok : x13.ok := by
  refine ⟨fun a ha => ?_, fun s hs => ?_, fun p hp => ?_⟩
  · simp only [x13, List.mem_cons, List.not_mem_nil, or_false] at ha
    rcases ha with rfl | rfl <;> exact ⟨by decide, by decide⟩
  · exact absurd hs (by simp [x13])
  · exact absurd hp (by simp [x13])
theorem x13_few : x13.few := ⟨(by decide : 2 ≤ 700), (by decide : 0 ≤ 700), (by decide : 0 ≤ 700)⟩
theorem newJ (w : Wl) (hw : w.ok) (h : rightW w = true) : Fn Tryz.prog 22 [wlA w, .c (.sl true 1 2 [.v (.int .u64 3), .v (.int .u64 1)])] [] (.tup [.agg [.c (acV w.S), .c (hdV w.L), .c (noV w.N), .c (adV x13.ad), .c (spV x13.sp), .c (pgV x13.pg), nilC], vi .i64 0]) [] := by
  have f1 := checkW_fn w hw
  rw [h, if_pos rfl] at f1
  have f2 := new13
  have ow := own_fn ⟨w, x13⟩ ⟨hw, x13_ok, x13_few⟩
  generalize x13 = x at *
  (refine fn_of Tryz.func22 rfl (by rfl) ?_; simp only [Tryz.ntmps22, List.length_cons, List.length_nil, Nat.reduceAdd, Nat.reduceSub, List.replicate, List.cons_append, List.nil_append])
  (repeat (any_goals (first | ((with_reducible refine evL_call ?_ ?_ ?_); rfl; rfl; intro K hK; ((first | (apply opA_callB (f1); rfl; rfl; rfl; rfl; exact Tryz.func18) | (apply opA_callB (f2); rfl; rfl; rfl; rfl; exact Tryz.func62) | (apply opA_callB (ow); rfl; rfl; rfl; rfl; exact Tryz.func63)); kernel_rfl; rfl; (simp only [go_sem]; rfl); (first | simp [AV.inNL, AV.inN])); (simp only [go_sem]; refine hK _ ?_; clear hK K)) | ((with_reducible refine evL_one ?_ ?_); rfl; intro K hK; simp only [go_sem]; ((repeat (refine ndI (by first | assumption) ?_)); refine hK _ ?_; clear hK K)) | (with_reducible first | (refine evL_nil ?_; refine hR _ ?_; clear hR R) | ((first | refine evC_seq ?_); intro Ψ hΨ hΨ') | (refine evC_region ?_; intro R hR) | (refine hΨ _ ?_; clear hΨ hΨ' Ψ) | refine evC_skip ?_ | refine evC_ret ?_) | ((with_reducible apply evC_cond); rfl; rfl; all_goals (intro hc; first | (cases hc; done) | (try simp only at hc))))))
  all_goals (refine ⟨by simp, ⟨_, ?_, AV.le_refl _⟩, leH_get (by simp [leH, hget])⟩; simp only [Tryz.results22, resL, ldA, oneOf, go_sem])
def j1 : Jn := ⟨⟨riW 5, x13⟩, []⟩
def j2 : Jn := ⟨⟨riW 5, x13⟩, [⟨riW 5, x13⟩]⟩
def j3 : Jn := ⟨⟨riW 7, x13⟩, [⟨riW 5, x13⟩]⟩
theorem p5_ok : (⟨riW 5, x13⟩ : Pt).ok := ⟨riW_ok 5 (by decide), x13_ok, x13_few⟩
theorem p7_ok : (⟨riW 7, x13⟩ : Pt).ok := ⟨riW_ok 7 (by decide), x13_ok, x13_few⟩
theorem j1_ok : j1.ok := ⟨p5_ok, (by decide : 0 ≤ 100), fun p h => by cases h⟩
theorem j2_ok : j2.ok := ⟨p5_ok, (by decide : 1 ≤ 100), fun p h => by
  simp only [j2, List.mem_cons, List.not_mem_nil, or_false] at h
  subst h; exact p5_ok⟩
theorem j3_ok : j3.ok := ⟨p7_ok, (by decide : 1 ≤ 100), fun p h => by
  simp only [j3, List.mem_cons, List.not_mem_nil, or_false] at h
  subst h; exact p5_ok⟩
theorem vJ1 : markJ j1 = (j2, 0) := by kernel_rfl
theorem vJ2 : markN j1 = 0 := by kernel_rfl
theorem vJ3 : putJ j2 ⟨riW 7, x13⟩ = (j3, 0) := by kernel_rfl
theorem vJ4 : atJ j3 0 (fun y => y) = (j1, 0) := by kernel_rfl
theorem wakesJ_fn : Fn Tryz.prog 5 [] [] (vb true) [] := by
  have r5 : Fn Tryz.prog 24 [vi .u64 5] [] (wlA (riW 5)) [] := rich_fn 5 (by decide)
  have r7 : Fn Tryz.prog 24 [vi .u64 7] [] (wlA (riW 7)) [] := rich_fn 7 (by decide)
  have nw := newJ (riW 5) (riW_ok 5 (by decide)) (by kernel_rfl)
  have mk : Fn Tryz.prog 25 [.agg [.c (acV (riW 5).S), .c (hdV (riW 5).L), .c (noV (riW 5).N), .c (adV x13.ad), .c (spV x13.sp), .c (pgV x13.pg), nilC]] [] (.tup [jnA j2, vi .i64 0, vi .i64 0]) [] := by
    have h := mark_fn j1 j1_ok
    rw [vJ1, vJ2] at h
    exact h.args ⟨AV.le_agg ⟨AV.le_refl _, AV.le_refl _, AV.le_refl _, AV.le_refl _, AV.le_refl _, AV.le_refl _, AV.le_nil _ _, trivial⟩, trivial⟩
  have la : Fn Tryz.prog 26 [jnA j2, wlA (riW 7)] [] (resJ (j3, 0)) [] := by
    have h := lay_fn j2 j2_ok (riW 7) (riW_ok 7 (by decide))
    rw [show (⟨riW 7, j2.p.x⟩ : Pt) = ⟨riW 7, x13⟩ from rfl, vJ3] at h
    exact h
  have bk : Fn Tryz.prog 27 [jnA j3, vi .i64 0] [] (resJ (j1, 0)) [] := by
    have h := back_fn j3 j3_ok 0 ⟨by decide, by decide⟩
    rw [vJ4] at h
    exact h
  have sw : Fn Tryz.prog 20 [wlA j1.p.w, wlA (riW 5)] [] (vb true) [] := by
    have h := samew_fn (riW 5) (riW 5) (riW_ok 5 (by decide)) (riW_ok 5 (by decide))
    rw [decide_eq_true rfl] at h
    exact h
  have e1 : ((j3.m.length : Int) == 1) = true := rfl
  have e2 : ((j3.p.w.S.length : Int) == 1) = true := rfl
  have e3 : ((j1.m.length : Int) == 0) = true := rfl
  have e4 : ((j1.p.x.ad.length : Int) == 2) = true := rfl
  have e5 : (j3.p.w.S.flatMap Ac.pv).take 8 = [.v (.int .u64 20), .v (.int .u64 7), .v (.int .u64 0), .v (.int .u64 0), .v (.int .u64 0), .v (.int .u64 0), bsV [], psV []] := by kernel_rfl
  have e6 : ((0 : Int) < (j3.p.w.S.length : Int)) := by decide
  have e7 : j3.p.w.S.length = 1 := rfl
  have e8 : j3.m.length < 9223372036854775808 := by decide
  have e9 : j1.m.length < 9223372036854775808 := by decide
  have e10 : j1.p.x.ad.length < 9223372036854775808 := by decide
  have e11 : j3.p.w.S.length < 9223372036854775808 := by decide
  have e12 : (7 : Int) == 7 := rfl
  refine Fn.known fun E0 => ?_
  (refine fnW_of Tryz.func5 rfl (by rfl) ?_; simp only [Tryz.ntmps5, List.length_cons, List.length_nil, Nat.reduceAdd, Nat.reduceSub, List.replicate, List.cons_append, List.nil_append])
  (repeat (any_goals (first | ((with_reducible refine evL_op ?_ ?_); rfl; intro K hK; apply opA_buildSlice_flat; rfl; rfl; (focus (simp only [go_sem]; try rfl)); (focus (simp only [go_sem]; try rfl)); rfl; (first | omega); (first | omega); (first | omega); (simp only [go_sem]; rfl); rfl; (focus ((simp only [unC, Option.map_some]); (try rfl))); (simp only [go_sem]; refine hK _ ?_; clear hK K)) | ((with_reducible refine evL_call ?_ ?_ ?_); rfl; rfl; intro K hK; (first | ((first | (apply opA_callB (nw); rfl; rfl; rfl; rfl; exact Tryz.func22) | (apply opA_callB (mk); rfl; rfl; rfl; rfl; exact Tryz.func25)); kernel_rfl; rfl; (simp only [go_sem]; rfl); (first | simp [AV.inNL, AV.inN])) | ((apply opA_callB (r5); rfl; rfl; rfl; rfl; exact Tryz.func24); kernel_rfl; rfl; (simp only [go_sem]; rfl); (first | simp [AV.inNL, AV.inN]))); (simp only [go_sem]; refine hK _ ?_; clear hK K)) | ((with_reducible refine evL_one ?_ ?_); rfl; intro K hK; simp only [go_sem]; ((repeat (refine ndI (by first | assumption) ?_)); refine hK _ ?_; clear hK K)) | ((with_reducible first | refine AWE.seqI ?_); intro Ψ hΨ hΨ') | (with_reducible refine AWE.ofR ?_) | (with_reducible first | (refine evL_nil ?_; refine hR _ ?_; clear hR R) | (refine evC_region ?_; intro R hR) | (refine hΨ _ ?_; clear hΨ hΨ' Ψ)))))
  refine AWE.ofRD ?_
  refine evC_draw (by kernel_rfl) (by kernel_rfl) (by simp [newNames, isNew, St.free, freeH, AV.refsL, AV.refs]) ?_
  intro R hR
  (repeat (any_goals (first | ((with_reducible refine evL_call ?_ ?_ ?_); rfl; rfl; intro K hK; (first | ((first | (apply opA_callB (bk); rfl; rfl; rfl; rfl; exact Tryz.func27)); kernel_rfl; rfl; (simp only [go_sem]; rfl); (first | simp [AV.inNL, AV.inN]))); (simp only [go_sem]; refine hK _ ?_; clear hK K)) | ((with_reducible refine evL_one ?_ ?_); rfl; intro K hK; simp only [go_sem]; ((repeat (refine ndI (by first | assumption) ?_)); refine hK _ ?_; clear hK K)) | ((with_reducible first | refine AWE.seqI ?_); intro Ψ hΨ hΨ') | (with_reducible refine AWE.ofR ?_) | (with_reducible first | (refine evL_nil ?_; refine hR _ ?_; clear hR R) | (refine evC_region ?_; intro R hR) | (refine hΨ _ ?_; clear hΨ hΨ' Ψ)) | ((with_reducible refine evD_nil ?_ ?_); kernel_rfl; (with_reducible refine hR _ ?_); clear hR R) | ((first | ((with_reducible apply evD_fcall); rfl; rfl; (first | ((apply opF_callB (la); rfl; rfl; rfl; rfl; exact Tryz.func26); kernel_rfl; rfl; (simp only [go_sem]; rfl); (first | simp [AV.inNL, AV.inN])) | ((apply opF_callB (r7); rfl; rfl; rfl; rfl; exact Tryz.func24); kernel_rfl; rfl; (simp only [go_sem]; rfl); (first | simp [AV.inNL, AV.inN])))) | ((with_reducible apply evD_any); rfl; rfl; (simp only [rdE, rdOf, go_sem]; rfl); (intro τ hA hQ hN; ((try simp only [agree, Op.operands, Call.operands, go_sem, List.mem_cons, List.not_mem_nil, forall_eq_or_imp, forall_eq, List.append_toArray, Option.toArray] at hA); (try simp only [go_sem, List.mem_cons, List.not_mem_nil, forall_eq_or_imp, forall_eq] at hQ hN); (first | (revert hA; intro hA)); (first | (revert hQ; intro hQ)); (first | (revert hN; intro hN)); simp only [go_sem, hA, hQ, hN]; (repeat (refine ndI (by first | assumption) ?_)); (first | apply eff_rd | apply eff_st)))) | ((first | ((with_reducible apply evD_new); rfl; rfl; rfl)); (intro τ hA hQ hN; ((try simp only [agree, Op.operands, Call.operands, go_sem, List.mem_cons, List.not_mem_nil, forall_eq_or_imp, forall_eq, List.append_toArray, Option.toArray] at hA); (try simp only [go_sem, List.mem_cons, List.not_mem_nil, forall_eq_or_imp, forall_eq] at hQ); (first | (revert hA; intro hA)); (first | (revert hQ; intro hQ)); simp only [go_sem, hA, hQ, hN]; (repeat (refine ndI (by first | assumption) ?_)); exact eff_nw _ _ _ _)))); (simp only [St.eff, setO, hputs, go_sem])))))
  refine AWE.to (St.to.of_le (τ := ⟨[.any, .any, vi .i64 0, vi .i64 0, vi .i64 0, .ptr 5 0, vi .i64 0, .ptr 7 0, vi .i64 0, .any, .any, .any, .any, .any, .any, .any, .any, .any, .any, .any, .any, .any, .any, .any, .any, .any, .any, .any, .any, .any, .any, .any, .any, .any, .any, .any, .any, .any, .any, .any, .any, .any, .any, .any, .any, .any, .any, .any, .any, .any, .any, .any, .any, .any, .any, .any, .any, .any, .any, .any, .any, .any, .any, .any, .any, .any, .any, .any, .any, .any, .any, .any, .any, .any, .any, .any, .any, .any, .any, .any, .any, .any, .any, .any, .any, .any, .any, .any, .any, .any, .any, .any, .any, .any, .any, .any, .any, .any, .any], [(5, jc j3), (7, jc j1)]⟩) (St.le_of (by simp [leT]) (by simp [leH, hget]))) ?_
  refine AWE.ofRD ?_
  simp only [List.append]
  clear r7 nw mk la bk
  generalize j3 = J3 at *
  generalize j1 = J1 at *
  refine evC_draw (by kernel_rfl) (by kernel_rfl) (by simp [newNames, isNew, St.free, freeH, AV.refsL, AV.refs]) ?_
  intro R hR
  iterate 68 (first | ((with_reducible refine evD_nil ?_ ?_); kernel_rfl; (with_reducible refine hR _ ?_); clear hR R) | ((first | ((first | ((with_reducible apply evD_gcall); rfl; rfl; rfl; rfl; rfl)); ((first | (apply opF_callB (r5); rfl; rfl; rfl; rfl; exact Tryz.func24) | (apply opF_callB (sw); rfl; rfl; rfl; rfl; exact Tryz.func20)); kernel_rfl; rfl; (simp (disch := omega) only [go_sem, e1, e2, e3, e4, e5]; rfl); (first | simp [AV.inNL, AV.inN]))) | ((first | ((with_reducible apply evD_any); rfl; rfl) | ((with_reducible apply evD_gany); rfl; rfl; rfl; rfl; rfl)); (simp (disch := omega) only [rdE, rdOf, go_sem, e1, e2, e3, e4, e5]; rfl); (intro τ hA hQ hN; ((try simp only [agree, Op.operands, Call.operands, go_sem, e1, e2, e3, e4, e5, go_sem, List.mem_cons, List.not_mem_nil, forall_eq_or_imp, forall_eq, List.append_toArray, Option.toArray] at hA); (try simp only [go_sem, e1, e2, e3, e4, e5, List.mem_cons, List.not_mem_nil, forall_eq_or_imp, forall_eq] at hQ hN); (first | (revert hA; intro hA)); (first | (revert hQ; intro hQ)); (first | (revert hN; intro hN)); simp (disch := omega) only [go_sem, e1, e2, e3, e4, e5, go_sem, hA, hQ, hN]; (repeat (refine ndI (by first | assumption) ?_)); (first | apply eff_rd)))) | ((first | ((with_reducible apply evD_grd); rfl; rfl; rfl; rfl)); apply opF_index_ep; rfl; rfl; rfl; rfl; rfl; (focus (simp only [go_sem]; try rfl)); (first | omega); (first | (focus (simp [spl]; done))))); (simp (disch := omega) only [St.eff, setO, hputs, go_sem, e1, e2, e3, e4, e5])))
  refine hΨ _ ?_
  refine AWE.ofRet ?_
  (refine ⟨by simp, ⟨_, ?_, AV.le_refl _⟩, leH_get (by simp [leH, hget])⟩; simp only [Tryz.results5, resL, ldA, oneOf, go_sem])
end Go.Proofs.YtmidmaeihpldhaaGreat
namespace Go.Proofs.YtmidmaeihpldhaaGreat
open Go.RowKit
set_option maxRecDepth 20000
set_option maxHeartbeats 2000000
def w1 : List Ac := [⟨20, 7, 0, [], []⟩]
def w2 : List Ac := [⟨20, 4, 0, [], []⟩, ⟨21, 3, 0, [], []⟩]
def w3 : List Ac := [⟨20, 4, 0, [], []⟩, ⟨21, 3, 0, [], [⟨5, 9⟩]⟩]
theorem v1 : mintS [] 20 7 = (w1, 0) := by kernel_rfl
theorem v2 : moveS w1 20 21 3 = (w2, 0) := by kernel_rfl
theorem v3 : saveS w2 21 5 9 = (w3, 0) := by kernel_rfl
theorem v4 : totalS w3 = 7 := by kernel_rfl
theorem v5 : loadX (OfS w3 21) 5 = 9 := by kernel_rfl
theorem k0 : Okl [] := ⟨Nat.zero_le _, fun x h => by cases h⟩
theorem word_of {a b c d : Int} (ha : 0 ≤ a ∧ a ≤ 18446744073709551615) (hb : 0 ≤ b ∧ b ≤ 18446744073709551615) (hc : 0 ≤ c ∧ c ≤ 18446744073709551615) (hd : 0 ≤ d ∧ d ≤ 18446744073709551615) : ∃ n : Nat, n < WW ∧ l0 n = a ∧ l1 n = b ∧ l2 n = c ∧ l3 n = d := by
  refine ⟨a.toNat + 18446744073709551616 * (b.toNat + 18446744073709551616 * (c.toNat + 18446744073709551616 * d.toNat)), ?_, ?_⟩
  · show _ < 115792089237316195423570985008687907853269984665640564039457584007913129639936
    omega
  · obtain ⟨h0, h1, h2, h3⟩ := limbs_of (s0 := a.toNat) (s1 := b.toNat) (s2 := c.toNat) (s3 := d.toNat) rfl (by omega) (by omega) (by omega) (by omega)
    rw [h0, h1, h2, h3]
    exact ⟨Int.toNat_of_nonneg ha.1, Int.toNat_of_nonneg hb.1, Int.toNat_of_nonneg hc.1, Int.toNat_of_nonneg hd.1⟩
theorem decV_word : DecV Tryz.prog 72 4 wpv (fun n => n < WW) :=
  (decV_w4 Tryz.underlying72 (by kernel_rfl) Tryz.underlying57 (by kernel_rfl)).map fun x hx => by
    obtain ⟨n, hn, h0, h1, h2, h3⟩ := word_of hx.1 hx.2.1 hx.2.2.1 hx.2.2.2
    exact ⟨n, by unfold wpv; rw [h0, h1, h2, h3], hn⟩
theorem decV_addr : DecV Tryz.prog 58 1 (fun n : Int => [PV.v (.int .u64 n)]) U := (decV_u64 Tryz.underlying58 (by kernel_rfl)).map fun a ga => ⟨a, rfl, ga⟩
theorem decV_num : DecV Tryz.prog 57 1 (fun n : Int => [PV.v (.int .u64 n)]) U := (decV_u64 Tryz.underlying57 (by kernel_rfl)).map fun a ga => ⟨a, rfl, ga⟩
theorem decV_byte : DecV Tryz.prog 5 1 bpv (fun n => n < 256) := (decV_int Tryz.underlying5 (by kernel_rfl)).map fun a ga => ⟨a.toNat, by unfold bpv; rw [Int.toNat_of_nonneg (wf_u8 ga).1], by have := wf_u8 ga; omega⟩
theorem decV_bytes : DecV Tryz.prog 73 1 (fun l : List Nat => [PV.sl false 1 l.length (l.flatMap bpv)]) (fun l => l.length ≤ maxLen ∧ ∀ a ∈ l, a < 256) :=
  decV_slice Tryz.underlying73 (by kernel_rfl) decV_byte (by omega) bpv_len
theorem decV_pairP : DecV Tryz.prog 83 8 Pr.pv Pr.ok :=
  (decV_struct (sz := 4 + 4) Tryz.underlying83 (by kernel_rfl) (decF_cons decV_word rfl (decF_one decV_word rfl))).map fun x hx => ⟨⟨x.1, x.2⟩, rfl, hx⟩
theorem decV_pairs : DecV Tryz.prog 74 1 (fun l : List Pr => [PV.sl false 8 l.length (l.flatMap Pr.pv)]) (fun l => l.length ≤ maxLen ∧ ∀ a ∈ l, a.ok) :=
  decV_slice Tryz.underlying74 (by kernel_rfl) decV_pairP (by omega) pr_len
theorem decV_account : DecV Tryz.prog 76 8 Ac.pv Ac.ok :=
  (decV_struct (sz := 1 + (4 + (1 + (1 + 1)))) Tryz.underlying76 (by kernel_rfl) (decF_cons decV_addr rfl (decF_cons decV_word rfl (decF_cons decV_num rfl (decF_cons decV_bytes rfl (decF_one decV_pairs rfl)))))).map fun x hx => ⟨⟨x.1, x.2.1, x.2.2.1, x.2.2.2.1, x.2.2.2.2⟩, rfl, hx⟩
theorem decV_accounts : DecV Tryz.prog 22 1 (fun l : List Ac => [PV.sl false 8 l.length (l.flatMap Ac.pv)]) (fun l => l.length ≤ maxLen ∧ ∀ a ∈ l, a.ok) :=
  decV_slice Tryz.underlying22 (by kernel_rfl) decV_account (by omega) ac_len
end Go.Proofs.YtmidmaeihpldhaaGreat
namespace Go.Proofs.YtmidmaeihpldhaaGreat
open Go.RowKit
set_option maxRecDepth 20000
set_option maxHeartbeats 4000000
theorem decVH : DecV Tryz.prog 86 11 lg.Hd.pv lg.Hd.ok :=
  (decV_struct (sz := 1 + (4 + (4 + (1 + 1)))) Tryz.underlying86 (by kernel_rfl) (decF_cons decV_addr rfl (decF_cons decV_word rfl (decF_cons decV_word rfl (decF_cons decV_num rfl (decF_one decV_num rfl)))))).map fun x hx => ⟨⟨x.1, x.2.1, x.2.2.1, x.2.2.2.1, x.2.2.2.2⟩, rfl, hx⟩
theorem decVHs : DecV Tryz.prog 25 1 (fun l : List lg.Hd => [hdV l]) (fun l => l.length ≤ maxLen ∧ ∀ h ∈ l, h.ok) :=
  decV_slice Tryz.underlying25 (by kernel_rfl) decVH (by omega) lg.hd_len
theorem decVL : DecV Tryz.prog 27 1 (fun l : List lg.Hd => [hdV l]) (fun l => l.length ≤ maxLen ∧ ∀ h ∈ l, h.ok) :=
  decV_struct Tryz.underlying27 (by kernel_rfl) (decF_one decVHs rfl)
theorem decVS : DecV Tryz.prog 24 1 (fun l : List Ac => [acV l]) (fun l => l.length ≤ maxLen ∧ ∀ h ∈ l, h.ok) :=
  decV_struct Tryz.underlying24 (by kernel_rfl) (decF_one decV_accounts rfl)
theorem decVN : DecV Tryz.prog 89 6 nz.N6.pv nz.N6.ok :=
  (decV_triple (s0 := 1) (s1 := 4) (s2 := 1) Tryz.underlying89 (by kernel_rfl) (decV_u64 Tryz.underlying58 (by kernel_rfl)) (decV_w4 Tryz.underlying72 (by kernel_rfl) Tryz.underlying57 (by kernel_rfl)) (decV_u64 Tryz.underlying57 (by kernel_rfl)) rfl rfl rfl).map
    fun v ⟨h1, ⟨h2, h3, h4, h5⟩, h6⟩ => ⟨⟨v.1, v.2.1.1, v.2.1.2.1, v.2.1.2.2.1, v.2.1.2.2.2, v.2.2⟩, rfl, h1, h2, h3, h4, h5, h6⟩
theorem decVNs : DecV Tryz.prog 28 1 (fun l : List nz.N6 => [noV l]) (fun l => l.length ≤ maxLen ∧ ∀ n ∈ l, n.ok) :=
  decV_slice Tryz.underlying28 (by kernel_rfl) decVN (by omega) (fun _ => rfl)
theorem decVW : DecV Tryz.prog 30 3 Wl.pv Wl.raw :=
  (decV_struct (sz := 1 + (1 + 1)) Tryz.underlying30 (by kernel_rfl) (decF_cons decVS rfl (decF_cons decVL rfl (decF_one decVNs rfl)))).map fun x hx => ⟨⟨x.1, x.2.1, x.2.2⟩, rfl, hx.1, hx.2.1, hx.2.2⟩
end Go.Proofs.YtmidmaeihpldhaaGreat
namespace Go.Proofs.YtmidmaeihpldhaaGreat
open Go.RowKit
set_option maxRecDepth 20000
set_option maxHeartbeats 4000000
theorem decVSp : DecV Tryz.prog 92 5 ax.Sp.pv ax.Sp.ok :=
  (decV_struct (sz := 1 + 4) Tryz.underlying92 (by kernel_rfl) (decF_cons decV_addr rfl (decF_one decV_word rfl))).map fun x hx => ⟨⟨x.1, x.2⟩, rfl, hx⟩
theorem decVPg : DecV Tryz.prog 95 9 ax.Pg.pv ax.Pg.ok :=
  (decV_struct (sz := 5 + 4) Tryz.underlying95 (by kernel_rfl) (decF_cons decVSp rfl (decF_one decV_word rfl))).map fun x hx => ⟨⟨x.1, x.2⟩, rfl, hx⟩
theorem decVX : DecV Tryz.prog 35 3 (fun x : ax.Xs => [adV x.ad, spV x.sp, pgV x.pg]) XRaw :=
  (decV_struct (sz := 1 + (1 + 1)) Tryz.underlying35 (by kernel_rfl) (decF_cons (decV_slice Tryz.underlying31 (by kernel_rfl) decV_addr (by omega) (fun _ => rfl)) rfl (decF_cons (decV_slice Tryz.underlying32 (by kernel_rfl) decVSp (by omega) (fun _ => rfl)) rfl (decF_one (decV_slice Tryz.underlying33 (by kernel_rfl) decVPg (by omega) (fun _ => rfl)) rfl)))).map fun x hx => ⟨⟨x.1, x.2.1, x.2.2⟩, rfl, hx.1, hx.2.1, hx.2.2⟩
theorem decVP : DecV Tryz.prog 37 6 Pt.pv Pt.raw :=
  (decV_struct (sz := 3 + 3) Tryz.underlying37 (by kernel_rfl) (decF_cons decVW rfl (decF_one decVX rfl))).map fun x hx => ⟨⟨x.1, x.2⟩, rfl, hx.1, hx.2⟩
theorem decVJ : DecV Tryz.prog 40 7 Jn.pv Jn.raw :=
  (decV_struct (sz := 6 + 1) Tryz.underlying40 (by kernel_rfl) (decF_cons decVP rfl (decF_one (decV_slice Tryz.underlying38 (by kernel_rfl) decVP (by omega) pt_len) rfl))).map fun x hx => ⟨⟨x.1, x.2⟩, rfl, hx.1, hx.2⟩
end Go.Proofs.YtmidmaeihpldhaaGreat
namespace Go.Proofs.YtmidmaeihpldhaaGreat
open Go.RowKit
open Nat (reduceBEq)
set_option maxRecDepth 20000
set_option maxHeartbeats 4000000
abbrev jn0 (p : Pt) : AV := .agg [.c (acV p.w.S), .c (hdV p.w.L), .c (noV p.w.N), .c (adV p.x.ad), .c (spV p.x.sp), .c (pgV p.x.pg), nilC]
theorem jn0_le (p : Pt) : (jn0 p).le (jnA ⟨p, []⟩) := AV.le_agg ⟨AV.le_refl _, AV.le_refl _, AV.le_refl _, AV.le_refl _, AV.le_refl _, AV.le_refl _, AV.le_nil _ _, trivial⟩
theorem toldOk_fn (p : Pt) (hp : p.ok) : Fn Tryz.prog 12 [jnA ⟨p, []⟩, jn0 p, vi .i64 0, vi .i64 0] [] (vb true) [] := by
  have o : (⟨p, []⟩ : Jn).ok := ⟨hp, Nat.zero_le _, fun x hx => by cases hx⟩
  have s0 := rsameJ_fn ⟨p, []⟩ ⟨p, []⟩ o o
  rw [decide_eq_true rfl] at s0
  have s : Fn Tryz.prog 13 [jnA ⟨p, []⟩, jn0 p] [] (vb true) [] := s0.args ⟨AV.le_refl _, jn0_le p, trivial⟩
  (refine fn_of Tryz.func12 rfl (by rfl) ?_; simp only [Tryz.ntmps12, List.length_cons, List.length_nil, Nat.reduceAdd, Nat.reduceSub, List.replicate, List.cons_append, List.nil_append])
  (repeat (any_goals (first | ((with_reducible refine evL_one ?_ ?_); rfl; intro K hK; simp only [go_sem]; ((repeat (refine ndI (by first | assumption) ?_)); refine hK _ ?_; clear hK K)) | (with_reducible first | (refine evL_nil ?_; refine hR _ ?_; clear hR R) | ((first | refine evC_seq ?_); intro Ψ hΨ hΨ') | (refine evC_region ?_; intro R hR) | (refine hΨ _ ?_; clear hΨ hΨ' Ψ) | refine evC_skip ?_ | refine evC_ret ?_) | ((with_reducible apply evL_grd); rfl; rfl; rfl; all_goals (intro hb; first | (cases hb; done) | ((try simp only [Bool.not_true, Bool.not_false] at hb); (first | ((with_reducible intro K hK); (first | ((apply opA_callB (s); rfl; rfl; rfl; rfl; exact Tryz.func13); kernel_rfl; rfl; (simp only [go_sem]; rfl); (first | simp [AV.inNL, AV.inN])) | skip); simp only [go_sem]; ((repeat (refine ndI (by first | assumption) ?_)); refine hK _ ?_; clear hK K)))))) | ((with_reducible apply evC_cond); rfl; rfl; all_goals (intro hc; first | (cases hc; done) | (try simp only at hc))))))
  all_goals (refine ⟨by simp, ⟨_, ?_, AV.le_refl _⟩, leH_get (by simp [leH, hget])⟩; simp only [Tryz.results12, resL, ldA, oneOf, go_sem])
theorem nilJ_ok : nilJ.ok := ⟨⟨⟨⟨Nat.zero_le _, fun x h => by cases h⟩, ⟨Nat.zero_le _, fun x h => by cases h⟩, ⟨Nat.zero_le _, fun x h => by cases h⟩⟩, ⟨fun x h => (by cases h), fun x h => (by cases h), fun x h => (by cases h)⟩, ⟨Nat.zero_le _, Nat.zero_le _, Nat.zero_le _⟩⟩, ⟨Nat.zero_le _, fun x h => by cases h⟩⟩
theorem toldNo_fn (p : Pt) (e : Int) (he : e ≠ 0) : Fn Tryz.prog 12 [jnA nilJ, jn0 p, vi .i64 e, vi .i64 e] [] (vb true) [] := by
  have s0 := rsameJ_fn nilJ nilJ nilJ_ok nilJ_ok
  rw [decide_eq_true rfl] at s0
  have s : Fn Tryz.prog 13 [jnA nilJ, .agg nil7] [] (vb true) [] := s0.args ⟨AV.le_refl _, nil7_le, trivial⟩
  have k1 : (e != 0) = true := by simpa using he
  have k2 : (e == e) = true := by simp
  generalize nilJ = N at *
  (refine fn_of Tryz.func12 rfl (by rfl) ?_; simp only [Tryz.ntmps12, List.length_cons, List.length_nil, Nat.reduceAdd, Nat.reduceSub, List.replicate, List.cons_append, List.nil_append])
  (repeat (any_goals (first | ((with_reducible refine evL_one ?_ ?_); rfl; intro K hK; simp only [go_sem, k1, k2]; ((repeat (refine ndI (by first | assumption) ?_)); refine hK _ ?_; clear hK K)) | (with_reducible first | (refine evL_nil ?_; refine hR _ ?_; clear hR R) | ((first | refine evC_seq ?_); intro Ψ hΨ hΨ') | (refine evC_region ?_; intro R hR) | (refine hΨ _ ?_; clear hΨ hΨ' Ψ) | refine evC_ret ?_) | ((with_reducible apply evL_grd); rfl; rfl; rfl; all_goals (intro hb; first | (cases hb; done) | ((try simp only [Bool.not_true, Bool.not_false] at hb); (first | ((with_reducible intro K hK); (first | ((apply opA_callB (s); rfl; rfl; rfl; rfl; exact Tryz.func13); kernel_rfl; rfl; (simp only [go_sem, k1, k2]; rfl); (first | simp [AV.inNL, AV.inN])) | skip); simp only [go_sem, k1, k2]; ((repeat (refine ndI (by first | assumption) ?_)); refine hK _ ?_; clear hK K)))))) | ((with_reducible apply evC_cond); rfl; rfl; all_goals (intro hc; first | (cases hc; done) | (try simp only at hc))))))
  all_goals (refine ⟨by simp, ⟨_, ?_, AV.le_refl _⟩, leH_get (by simp [leH, hget])⟩; simp only [Tryz.results12, resL, ldA, oneOf, go_sem])
theorem okx_ad {l : List Int} (h : ∀ a ∈ l, U a) : ax.Xs.ok ⟨l, [], []⟩ := ⟨h, (fun s hs => by cases hs), fun p hp => by cases hp⟩
theorem newJ_fn (w : Wl) (hw : w.ok) (l : List Int) (hl : l.length ≤ 1000) (hu : ∀ a ∈ l, U a) : ∃ r : List Int, r.Pairwise (· < ·) ∧ (∀ x, x ∈ r ↔ x ∈ l) ∧ r.length ≤ l.length ∧ Fn Tryz.prog 22 [wlA w, ax.asl false l] [] (resJ (if rightW w then (if r.length ≤ 400 then (⟨⟨w, ⟨r, [], []⟩⟩, []⟩, 0) else (nilJ, 6)) else (nilJ, 200))) [] := by
  obtain ⟨r, h1, h2, h3, h4⟩ := ax.new_fn false l (by omega) hu
  refine ⟨r, h1, h2, h3, ?_⟩
  have f1 := checkW_fn w hw
  by_cases hc : rightW w = true
  case neg =>
    have hc2 : rightW w = false := by simpa using hc
    rw [hc2] at f1 ⊢
    simp only [Bool.false_eq_true, if_false] at f1 ⊢
    (refine fn_of Tryz.func22 rfl (by rfl) ?_; simp only [Tryz.ntmps22, List.length_cons, List.length_nil, Nat.reduceAdd, Nat.reduceSub, List.replicate, List.cons_append, List.nil_append])
    (repeat (any_goals (first | ((with_reducible refine evL_call ?_ ?_ ?_); rfl; rfl; intro K hK; ((apply opA_callB (f1); rfl; rfl; rfl; rfl; exact Tryz.func18); kernel_rfl; rfl; (simp only [go_sem]; rfl); (first | simp [AV.inNL, AV.inN])); (simp only [go_sem]; refine hK _ ?_; clear hK K)) | ((with_reducible refine evL_one ?_ ?_); rfl; intro K hK; simp only [go_sem]; ((repeat (refine ndI (by first | assumption) ?_)); refine hK _ ?_; clear hK K)) | (with_reducible first | (refine evL_nil ?_; refine hR _ ?_; clear hR R) | ((first | refine evC_seq ?_); intro Ψ hΨ hΨ') | (refine evC_region ?_; intro R hR) | (refine hΨ _ ?_; clear hΨ hΨ' Ψ) | refine evC_ret ?_) | ((with_reducible refine hΨ' _ _ ?_ ?_); (focus (simp; done)); clear hΨ hΨ' Ψ) | ((with_reducible apply evC_cond); rfl; rfl; all_goals (intro hc; first | (cases hc; done) | (try simp only at hc))))))
    all_goals exact ⟨by simp, ⟨_, rfl, AV.le_tupL ⟨nil7_le, AV.le_refl _, trivial⟩⟩, leH_get (by simp [leH, hget])⟩
  rw [if_pos hc] at f1 ⊢
  by_cases hq : r.length ≤ 400
  · rw [if_pos hq] at h4 ⊢
    have ow := own_fn ⟨w, ⟨r, [], []⟩⟩ ⟨hw, okx_ad fun a ha => hu a ((h2 a).1 ha), ⟨(by dsimp only; omega), Nat.zero_le _, Nat.zero_le _⟩⟩
    refine Fn.weaken (res := .tup [jn0 ⟨w, ⟨r, [], []⟩⟩, vi .i64 0]) (H1 := []) ?_ (AV.le_tupL ⟨jn0_le _, AV.le_refl _, trivial⟩) (fun r cs h => ⟨[], by rw [List.append_nil]; exact h⟩)
    (refine fn_of Tryz.func22 rfl (by rfl) ?_; simp only [Tryz.ntmps22, List.length_cons, List.length_nil, Nat.reduceAdd, Nat.reduceSub, List.replicate, List.cons_append, List.nil_append])
    (repeat (any_goals (first | ((with_reducible refine evL_call ?_ ?_ ?_); rfl; rfl; intro K hK; ((first | (apply opA_callB (f1); rfl; rfl; rfl; rfl; exact Tryz.func18) | (apply opA_callB (h4); rfl; rfl; rfl; rfl; exact Tryz.func62) | (apply opA_callB (ow); rfl; rfl; rfl; rfl; exact Tryz.func63)); kernel_rfl; rfl; (simp only [go_sem]; rfl); (first | simp [AV.inNL, AV.inN])); (simp only [go_sem]; refine hK _ ?_; clear hK K)) | ((with_reducible refine evL_one ?_ ?_); rfl; intro K hK; simp only [go_sem]; ((repeat (refine ndI (by first | assumption) ?_)); refine hK _ ?_; clear hK K)) | (with_reducible first | (refine evL_nil ?_; refine hR _ ?_; clear hR R) | ((first | refine evC_seq ?_); intro Ψ hΨ hΨ') | (refine evC_region ?_; intro R hR) | (refine hΨ _ ?_; clear hΨ hΨ' Ψ) | refine evC_skip ?_ | refine evC_ret ?_) | ((with_reducible apply evC_cond); rfl; rfl; all_goals (intro hc; first | (cases hc; done) | (try simp only at hc))))))
    all_goals (refine ⟨by simp, ⟨_, ?_, AV.le_refl _⟩, leH_get (by simp [leH, hget])⟩; simp only [Tryz.results22, resL, ldA, oneOf, go_sem])
  · rw [if_neg hq] at h4 ⊢
    (refine fn_of Tryz.func22 rfl (by rfl) ?_; simp only [Tryz.ntmps22, List.length_cons, List.length_nil, Nat.reduceAdd, Nat.reduceSub, List.replicate, List.cons_append, List.nil_append])
    (repeat (any_goals (first | ((with_reducible refine evL_call ?_ ?_ ?_); rfl; rfl; intro K hK; ((first | (apply opA_callB (f1); rfl; rfl; rfl; rfl; exact Tryz.func18) | (apply opA_callB (h4); rfl; rfl; rfl; rfl; exact Tryz.func62)); kernel_rfl; rfl; (simp only [go_sem]; rfl); (first | simp [AV.inNL, AV.inN])); (simp only [go_sem]; refine hK _ ?_; clear hK K)) | ((with_reducible refine evL_one ?_ ?_); rfl; intro K hK; simp only [go_sem]; ((repeat (refine ndI (by first | assumption) ?_)); refine hK _ ?_; clear hK K)) | (with_reducible first | (refine evL_nil ?_; refine hR _ ?_; clear hR R) | ((first | refine evC_seq ?_); intro Ψ hΨ hΨ') | (refine evC_region ?_; intro R hR) | (refine hΨ _ ?_; clear hΨ hΨ' Ψ) | refine evC_skip ?_ | refine evC_ret ?_) | ((with_reducible refine hΨ' _ _ ?_ ?_); (focus (simp; done)); clear hΨ hΨ' Ψ) | ((with_reducible apply evC_cond); rfl; rfl; all_goals (intro hc; first | (cases hc; done) | (try simp only at hc))))))
    all_goals exact ⟨by simp, ⟨_, rfl, AV.le_tupL ⟨nil7_le, AV.le_refl _, trivial⟩⟩, leH_get (by simp [leH, hget])⟩
theorem cutA_idem2 (x : Ac) : cutA (cutA x) = cutA x := by unfold cutA; simp only [List.take_take, Nat.min_self]
theorem cutW_idem2 (w : Wl) : cutW (cutW w) = cutW w := by
  unfold cutW
  simp only [← List.map_take, List.take_take, Nat.min_self, List.map_map]
  congr 1
  exact List.map_congr_left fun x _ => cutA_idem2 x
theorem cutX_idem2 (x : ax.Xs) : cutX (cutX x) = cutX x := by unfold cutX; simp only [List.take_take, Nat.min_self]
theorem cutP_idem2 (p : Pt) : cutP (cutP p) = cutP p := by unfold cutP; simp only [cutW_idem2, cutX_idem2]
theorem fewJ_idem2 (j : Jn) : fewJ (fewJ j) = fewJ j := by
  unfold fewJ
  simp only [← List.map_take, List.take_take, Nat.min_self, List.map_map, cutP_idem2]
  congr 1
  exact List.map_congr_left fun x _ => cutP_idem2 x
theorem cutP_raw2 {p : Pt} (h : p.ok) : p.raw :=
  ⟨⟨⟨Nat.le_trans h.w.s.1 (by decide), fun x hx => (h.w.s.2 x hx).1⟩, ⟨Nat.le_trans h.w.l.1 (by decide), h.w.l.2⟩, ⟨Nat.le_trans h.w.n.1 (by decide), h.w.n.2⟩⟩, ⟨⟨Nat.le_trans h.f.1 (by decide), h.x.1⟩, ⟨Nat.le_trans h.f.2.1 (by decide), h.x.2.1⟩, ⟨Nat.le_trans h.f.2.2 (by decide), h.x.2.2⟩⟩⟩
theorem raw_of2 {j : Jn} (h : j.ok) : j.raw := ⟨cutP_raw2 h.p, Nat.le_trans h.m.1 (by decide), fun p hp => cutP_raw2 (h.m.2 p hp)⟩
theorem may_walk (j k : Jn) (hj : j.raw) (hk : k.raw) (l : List Int) (hl : l.length ≤ maxLen) (ol : ∀ a ∈ l, U a) : Fn Tryz.prog 4 [jnA j, jnA k, ax.asl false l] [] (vb true) [] := by
  have wk := wakesJ_fn
  have c1 := few_fn j hj
  have c2 := few_fn k hk
  have hJ := fewJ_ok hj
  have hK := fewJ_ok hk
  have c3 := few_fn (fewJ j) (raw_of2 hJ)
  rw [fewJ_idem2] at c3
  have l8 : l.length < 9223372036854775808 := Nat.lt_succ_of_le hl
  have e1 : (if (500 : Int) < (l.length : Int) then (500 : Int) else (l.length : Int)) = ((min l.length 500 : Nat) : Int) := min_if l.length 500
  have e2 : (l.flatMap ax.apv).take (min l.length 500) = (l.take 500).flatMap ax.apv := by
    have := flat_take (f := ax.apv) ax.apv_len l (min l.length 500)
    rw [Nat.mul_one] at this
    rw [this, take_min]
  have e3 : (l.take 500).length = min l.length 500 := by rw [List.length_take, Nat.min_comm]
  rw [← e3] at e1 e2
  have hm : (l.take 500).length ≤ 500 := by rw [List.length_take]; omega
  have om : ∀ a ∈ l.take 500, U a := fun a ha => ol a (List.mem_of_mem_take ha)
  generalize fewJ j = J at *
  generalize fewJ k = K at *
  generalize l.take 500 = m at *
  have cl := ax.cloneA_val false m (by omega)
  have rj := rightJ_fn J hJ
  have rw' := rrightw_fn J.p.w hJ.p.w
  have ck := checkJ_fn J hJ
  have cw := checkW_fn J.p.w hJ.p.w
  have s1 := sameJ_fn J K hJ hK
  have s2 := rsameJ_fn J K hJ hK
  have s3 := sameJ_fn J J hJ hJ
  have s4 := samew_fn J.p.w K.p.w hJ.p.w hK.p.w
  have s5 := rsamew_fn J.p.w K.p.w hJ.p.w hK.p.w
  rw [decide_eq_true rfl] at s3
  obtain ⟨r, r1, r2, r3, nw⟩ := newJ_fn J.p.w hJ.p.w m (by omega) om
  have rn := ax.rnew_fn false m (by omega)
  rw [ax.res_uniq r1 r2] at rn
  have pok : (⟨J.p.w, ⟨r, [], []⟩⟩ : Pt).ok ∨ ¬ r.length ≤ 400 := by
    by_cases h4 : r.length ≤ 400
    · exact .inl ⟨hJ.p.w, okx_ad fun a ha => om a ((r2 a).1 ha), ⟨(by dsimp only; omega), Nat.zero_le _, Nat.zero_le _⟩⟩
    · exact .inr h4
  have b0 : ∀ b : Bool, (b != b) = false := fun b => by cases b <;> rfl
  generalize decide (J.p.w = K.p.w) = q5 at *
  generalize okJ J = q1 at *
  generalize decide (J = K) = q2 at *
  by_cases hc : rightW J.p.w = true
  case neg =>
    have hc2 : rightW J.p.w = false := by simpa using hc
    rw [hc2] at rw' cw nw
    simp only [Bool.false_eq_true, if_false] at cw nw
    have td := toldNo_fn ⟨J.p.w, ⟨r, [], []⟩⟩ 200 (by decide)
    generalize nilJ = N at *
    generalize decide (r.length ≤ 400) = q3 at *
    cases q1
    all_goals simp only [Bool.false_eq_true, if_false, if_true] at ck
    all_goals (refine fn_of Tryz.func4 rfl (by rfl) ?_; simp only [Tryz.ntmps4, List.length_cons, List.length_nil, Nat.reduceAdd, Nat.reduceSub, List.replicate, List.cons_append, List.nil_append])
    all_goals (have W := ndI e1 (ndI e2 b0); (repeat (any_goals (first | ((with_reducible refine evL_call ?_ ?_ ?_); rfl; rfl; intro K hK; ((first | (apply opA_callB (wk); rfl; rfl; rfl; rfl; exact Tryz.func5) | (apply opA_callB (rj); rfl; rfl; rfl; rfl; exact Tryz.func10) | (apply opA_callB (rw'); rfl; rfl; rfl; rfl; exact Tryz.func16) | (apply opA_callB (ck); rfl; rfl; rfl; rfl; exact Tryz.func17) | (apply opA_callB (nw); rfl; rfl; rfl; rfl; exact Tryz.func22) | (apply opA_callB (rn); rfl; rfl; rfl; rfl; exact Tryz.func23) | (apply opA_callB (td); rfl; rfl; rfl; rfl; exact Tryz.func12)); kernel_rfl; rfl; (simp (disch := omega) only [go_sem, W, Bool.false_and, Nat.mul_one]; rfl); (first | simp [AV.inNL, AV.inN])); (simp (disch := omega) only [go_sem, W, Bool.false_and, Nat.mul_one]; refine hK _ ?_; clear hK K)) | ((with_reducible refine evL_one ?_ ?_); rfl; intro K hK; simp (disch := omega) only [go_sem, W, Bool.false_and, Nat.mul_one]; ((repeat (refine ndI (by first | assumption | rfl) ?_)); refine hK _ ?_; clear hK K)) | (with_reducible first | (refine evL_nil ?_; refine hR _ ?_; clear hR R) | ((first | refine evC_seq ?_); intro Ψ hΨ hΨ') | (refine evC_region ?_; intro R hR) | (refine hΨ _ ?_; clear hΨ hΨ' Ψ) | refine evC_skip ?_ | refine evC_ret ?_) | ((with_reducible apply evL_grd); rfl; rfl; rfl; all_goals (intro hb; first | (cases hb; done) | ((try simp only [Bool.not_true, Bool.not_false] at hb); (first | ((with_reducible intro K hK); (first | ((apply opA_callB (cw); rfl; rfl; rfl; rfl; exact Tryz.func18); kernel_rfl; rfl; (simp (disch := omega) only [go_sem, W, Bool.false_and, Nat.mul_one]; rfl); (first | simp [AV.inNL, AV.inN])) | skip); simp (disch := omega) only [go_sem, W, Bool.false_and, Nat.mul_one]; ((repeat (refine ndI (by first | assumption | rfl) ?_)); refine hK _ ?_; clear hK K)) | ((fail_if_success (with_reducible intro _)); simp (disch := omega) only [go_sem, W, Bool.false_and, Nat.mul_one]))))) | ((with_reducible apply evC_cond); rfl; rfl; all_goals (intro hc; first | (cases hc; done) | (try simp only at hc))) | ((with_reducible refine evD_nil ?_ ?_); kernel_rfl; (with_reducible refine hR _ ?_); clear hR R) | ((first | ((first | ((with_reducible apply evD_fcall); rfl; rfl) | ((with_reducible apply evD_gcall); rfl; rfl; rfl; rfl; rfl)); (first | ((first | (apply opF_callB (cl); rfl; rfl; rfl; rfl; exact Tryz.func15) | (apply opF_callB (s2); rfl; rfl; rfl; rfl; exact Tryz.func13) | (apply opF_callB (s4); rfl; rfl; rfl; rfl; exact Tryz.func20) | (apply opF_callB (s5); rfl; rfl; rfl; rfl; exact Tryz.func21)); kernel_rfl; rfl; (simp (disch := omega) only [go_sem, W, Bool.false_and, Nat.mul_one]; rfl); (first | simp [AV.inNL, AV.inN])) | ((apply opF_callB (c1); rfl; rfl; rfl; rfl; exact Tryz.func6); kernel_rfl; rfl; (simp (disch := omega) only [go_sem, W, Bool.false_and, Nat.mul_one]; rfl); (first | simp [AV.inNL, AV.inN])) | ((apply opF_callB (c2); rfl; rfl; rfl; rfl; exact Tryz.func6); kernel_rfl; rfl; (simp (disch := omega) only [go_sem, W, Bool.false_and, Nat.mul_one]; rfl); (first | simp [AV.inNL, AV.inN])) | ((apply opF_callB (c3); rfl; rfl; rfl; rfl; exact Tryz.func6); kernel_rfl; rfl; (simp (disch := omega) only [go_sem, W, Bool.false_and, Nat.mul_one]; rfl); (first | simp [AV.inNL, AV.inN])) | ((apply opF_callB (s1); rfl; rfl; rfl; rfl; exact Tryz.func19); kernel_rfl; rfl; (simp (disch := omega) only [go_sem, W, Bool.false_and, Nat.mul_one]; rfl); (first | simp [AV.inNL, AV.inN])) | ((apply opF_callB (s3); rfl; rfl; rfl; rfl; exact Tryz.func19); kernel_rfl; rfl; (simp (disch := omega) only [go_sem, W, Bool.false_and, Nat.mul_one]; rfl); (first | simp [AV.inNL, AV.inN])))) | ((first | ((with_reducible apply evD_any); rfl; rfl) | ((with_reducible apply evD_gany); rfl; rfl; rfl; rfl; rfl)); (simp (disch := omega) only [rdE, rdOf, go_sem, W, Bool.false_and, Nat.mul_one]; rfl); (intro τ hA hQ hN; ((try simp only [agree, Op.operands, Call.operands, go_sem, W, Bool.false_and, Nat.mul_one, go_sem, List.mem_cons, List.not_mem_nil, forall_eq_or_imp, forall_eq, List.append_toArray, Option.toArray] at hA); (try simp only [go_sem, W, Bool.false_and, Nat.mul_one, List.mem_cons, List.not_mem_nil, forall_eq_or_imp, forall_eq] at hQ hN); (first | (revert hA; intro hA)); (first | (revert hQ; intro hQ)); (first | (revert hN; intro hN)); simp (disch := omega) only [go_sem, W, Bool.false_and, Nat.mul_one, go_sem, hA, hQ, hN]; (repeat (refine ndI (by first | assumption | omega | rfl) ?_)); (first | apply eff_rd | apply eff_st))))); (simp (disch := omega) only [St.eff, setO, hputs, go_sem, W, Bool.false_and, Nat.mul_one])) | ((with_reducible refine evC_draw ?_ ?_ ?_ ?_); kernel_rfl; kernel_rfl; (first | kernel_rfl); intro R hR)))))
    all_goals (refine ⟨by simp, ⟨_, ?_, AV.le_refl _⟩, leH_get (by simp [leH, hget])⟩; simp only [Tryz.results4, resL, ldA, oneOf, go_sem])
  rw [hc] at rw' cw nw
  simp only [if_true] at cw nw
  by_cases h4 : r.length ≤ 400
  · rw [if_pos h4] at nw
    rw [decide_eq_true h4] at rn
    have td := toldOk_fn ⟨J.p.w, ⟨r, [], []⟩⟩ (pok.resolve_right fun h => h h4)
    cases q1
    all_goals simp only [Bool.false_eq_true, if_false, if_true] at ck
    all_goals (refine fn_of Tryz.func4 rfl (by rfl) ?_; simp only [Tryz.ntmps4, List.length_cons, List.length_nil, Nat.reduceAdd, Nat.reduceSub, List.replicate, List.cons_append, List.nil_append])
    all_goals (have W := ndI e1 (ndI e2 b0); (repeat (any_goals (first | ((with_reducible refine evL_call ?_ ?_ ?_); rfl; rfl; intro K hK; ((first | (apply opA_callB (wk); rfl; rfl; rfl; rfl; exact Tryz.func5) | (apply opA_callB (rj); rfl; rfl; rfl; rfl; exact Tryz.func10) | (apply opA_callB (rw'); rfl; rfl; rfl; rfl; exact Tryz.func16) | (apply opA_callB (ck); rfl; rfl; rfl; rfl; exact Tryz.func17) | (apply opA_callB (nw); rfl; rfl; rfl; rfl; exact Tryz.func22) | (apply opA_callB (rn); rfl; rfl; rfl; rfl; exact Tryz.func23) | (apply opA_callB (td); rfl; rfl; rfl; rfl; exact Tryz.func12)); kernel_rfl; rfl; (simp (disch := omega) only [go_sem, W, Bool.false_and, Nat.mul_one]; rfl); (first | simp [AV.inNL, AV.inN])); (simp (disch := omega) only [go_sem, W, Bool.false_and, Nat.mul_one]; refine hK _ ?_; clear hK K)) | ((with_reducible refine evL_one ?_ ?_); rfl; intro K hK; simp (disch := omega) only [go_sem, W, Bool.false_and, Nat.mul_one]; ((repeat (refine ndI (by first | assumption | rfl) ?_)); refine hK _ ?_; clear hK K)) | (with_reducible first | (refine evL_nil ?_; refine hR _ ?_; clear hR R) | ((first | refine evC_seq ?_); intro Ψ hΨ hΨ') | (refine evC_region ?_; intro R hR) | (refine hΨ _ ?_; clear hΨ hΨ' Ψ) | refine evC_skip ?_ | refine evC_ret ?_) | ((with_reducible apply evL_grd); rfl; rfl; rfl; all_goals (intro hb; first | (cases hb; done) | ((try simp only [Bool.not_true, Bool.not_false] at hb); (first | ((with_reducible intro K hK); (first | ((apply opA_callB (cw); rfl; rfl; rfl; rfl; exact Tryz.func18); kernel_rfl; rfl; (simp (disch := omega) only [go_sem, W, Bool.false_and, Nat.mul_one]; rfl); (first | simp [AV.inNL, AV.inN])) | skip); simp (disch := omega) only [go_sem, W, Bool.false_and, Nat.mul_one]; ((repeat (refine ndI (by first | assumption | rfl) ?_)); refine hK _ ?_; clear hK K)))))) | ((with_reducible apply evC_cond); rfl; rfl; all_goals (intro hc; first | (cases hc; done) | (try simp only at hc))) | ((with_reducible refine evD_nil ?_ ?_); kernel_rfl; (with_reducible refine hR _ ?_); clear hR R) | ((first | ((first | ((with_reducible apply evD_fcall); rfl; rfl) | ((with_reducible apply evD_gcall); rfl; rfl; rfl; rfl; rfl)); (first | ((first | (apply opF_callB (cl); rfl; rfl; rfl; rfl; exact Tryz.func15) | (apply opF_callB (s2); rfl; rfl; rfl; rfl; exact Tryz.func13) | (apply opF_callB (s4); rfl; rfl; rfl; rfl; exact Tryz.func20) | (apply opF_callB (s5); rfl; rfl; rfl; rfl; exact Tryz.func21)); kernel_rfl; rfl; (simp (disch := omega) only [go_sem, W, Bool.false_and, Nat.mul_one]; rfl); (first | simp [AV.inNL, AV.inN])) | ((apply opF_callB (c1); rfl; rfl; rfl; rfl; exact Tryz.func6); kernel_rfl; rfl; (simp (disch := omega) only [go_sem, W, Bool.false_and, Nat.mul_one]; rfl); (first | simp [AV.inNL, AV.inN])) | ((apply opF_callB (c2); rfl; rfl; rfl; rfl; exact Tryz.func6); kernel_rfl; rfl; (simp (disch := omega) only [go_sem, W, Bool.false_and, Nat.mul_one]; rfl); (first | simp [AV.inNL, AV.inN])) | ((apply opF_callB (c3); rfl; rfl; rfl; rfl; exact Tryz.func6); kernel_rfl; rfl; (simp (disch := omega) only [go_sem, W, Bool.false_and, Nat.mul_one]; rfl); (first | simp [AV.inNL, AV.inN])) | ((apply opF_callB (s1); rfl; rfl; rfl; rfl; exact Tryz.func19); kernel_rfl; rfl; (simp (disch := omega) only [go_sem, W, Bool.false_and, Nat.mul_one]; rfl); (first | simp [AV.inNL, AV.inN])) | ((apply opF_callB (s3); rfl; rfl; rfl; rfl; exact Tryz.func19); kernel_rfl; rfl; (simp (disch := omega) only [go_sem, W, Bool.false_and, Nat.mul_one]; rfl); (first | simp [AV.inNL, AV.inN])))) | ((first | ((with_reducible apply evD_any); rfl; rfl) | ((with_reducible apply evD_gany); rfl; rfl; rfl; rfl; rfl)); (simp (disch := omega) only [rdE, rdOf, go_sem, W, Bool.false_and, Nat.mul_one]; rfl); (intro τ hA hQ hN; ((try simp only [agree, Op.operands, Call.operands, go_sem, W, Bool.false_and, Nat.mul_one, go_sem, List.mem_cons, List.not_mem_nil, forall_eq_or_imp, forall_eq, List.append_toArray, Option.toArray] at hA); (try simp only [go_sem, W, Bool.false_and, Nat.mul_one, List.mem_cons, List.not_mem_nil, forall_eq_or_imp, forall_eq] at hQ hN); (first | (revert hA; intro hA)); (first | (revert hQ; intro hQ)); (first | (revert hN; intro hN)); simp (disch := omega) only [go_sem, W, Bool.false_and, Nat.mul_one, go_sem, hA, hQ, hN]; (repeat (refine ndI (by first | assumption | omega | rfl) ?_)); (first | apply eff_rd | apply eff_st))))); (simp (disch := omega) only [St.eff, setO, hputs, go_sem, W, Bool.false_and, Nat.mul_one])) | ((with_reducible refine evC_draw ?_ ?_ ?_ ?_); kernel_rfl; kernel_rfl; (first | kernel_rfl); intro R hR)))))
    all_goals (refine ⟨by simp, ⟨_, ?_, AV.le_refl _⟩, leH_get (by simp [leH, hget])⟩; simp only [Tryz.results4, resL, ldA, oneOf, go_sem])
  · rw [if_neg h4] at nw
    rw [decide_eq_false h4] at rn
    have td := toldNo_fn ⟨J.p.w, ⟨r, [], []⟩⟩ 6 (by decide)
    generalize nilJ = N at *
    cases q1
    all_goals simp only [Bool.false_eq_true, if_false, if_true] at ck
    all_goals (refine fn_of Tryz.func4 rfl (by rfl) ?_; simp only [Tryz.ntmps4, List.length_cons, List.length_nil, Nat.reduceAdd, Nat.reduceSub, List.replicate, List.cons_append, List.nil_append])
    all_goals (have W := ndI e1 (ndI e2 b0); (repeat (any_goals (first | ((with_reducible refine evL_call ?_ ?_ ?_); rfl; rfl; intro K hK; ((first | (apply opA_callB (wk); rfl; rfl; rfl; rfl; exact Tryz.func5) | (apply opA_callB (rj); rfl; rfl; rfl; rfl; exact Tryz.func10) | (apply opA_callB (rw'); rfl; rfl; rfl; rfl; exact Tryz.func16) | (apply opA_callB (ck); rfl; rfl; rfl; rfl; exact Tryz.func17) | (apply opA_callB (nw); rfl; rfl; rfl; rfl; exact Tryz.func22) | (apply opA_callB (rn); rfl; rfl; rfl; rfl; exact Tryz.func23) | (apply opA_callB (td); rfl; rfl; rfl; rfl; exact Tryz.func12)); kernel_rfl; rfl; (simp (disch := omega) only [go_sem, W, Bool.false_and, Nat.mul_one]; rfl); (first | simp [AV.inNL, AV.inN])); (simp (disch := omega) only [go_sem, W, Bool.false_and, Nat.mul_one]; refine hK _ ?_; clear hK K)) | ((with_reducible refine evL_one ?_ ?_); rfl; intro K hK; simp (disch := omega) only [go_sem, W, Bool.false_and, Nat.mul_one]; ((repeat (refine ndI (by first | assumption | rfl) ?_)); refine hK _ ?_; clear hK K)) | (with_reducible first | (refine evL_nil ?_; refine hR _ ?_; clear hR R) | ((first | refine evC_seq ?_); intro Ψ hΨ hΨ') | (refine evC_region ?_; intro R hR) | (refine hΨ _ ?_; clear hΨ hΨ' Ψ) | refine evC_skip ?_ | refine evC_ret ?_) | ((with_reducible apply evL_grd); rfl; rfl; rfl; all_goals (intro hb; first | (cases hb; done) | ((try simp only [Bool.not_true, Bool.not_false] at hb); (first | ((with_reducible intro K hK); (first | ((apply opA_callB (cw); rfl; rfl; rfl; rfl; exact Tryz.func18); kernel_rfl; rfl; (simp (disch := omega) only [go_sem, W, Bool.false_and, Nat.mul_one]; rfl); (first | simp [AV.inNL, AV.inN])) | skip); simp (disch := omega) only [go_sem, W, Bool.false_and, Nat.mul_one]; ((repeat (refine ndI (by first | assumption | rfl) ?_)); refine hK _ ?_; clear hK K)))))) | ((with_reducible apply evC_cond); rfl; rfl; all_goals (intro hc; first | (cases hc; done) | (try simp only at hc))) | ((with_reducible refine evD_nil ?_ ?_); kernel_rfl; (with_reducible refine hR _ ?_); clear hR R) | ((first | ((first | ((with_reducible apply evD_fcall); rfl; rfl) | ((with_reducible apply evD_gcall); rfl; rfl; rfl; rfl; rfl)); (first | ((first | (apply opF_callB (cl); rfl; rfl; rfl; rfl; exact Tryz.func15) | (apply opF_callB (s2); rfl; rfl; rfl; rfl; exact Tryz.func13) | (apply opF_callB (s4); rfl; rfl; rfl; rfl; exact Tryz.func20) | (apply opF_callB (s5); rfl; rfl; rfl; rfl; exact Tryz.func21)); kernel_rfl; rfl; (simp (disch := omega) only [go_sem, W, Bool.false_and, Nat.mul_one]; rfl); (first | simp [AV.inNL, AV.inN])) | ((apply opF_callB (c1); rfl; rfl; rfl; rfl; exact Tryz.func6); kernel_rfl; rfl; (simp (disch := omega) only [go_sem, W, Bool.false_and, Nat.mul_one]; rfl); (first | simp [AV.inNL, AV.inN])) | ((apply opF_callB (c2); rfl; rfl; rfl; rfl; exact Tryz.func6); kernel_rfl; rfl; (simp (disch := omega) only [go_sem, W, Bool.false_and, Nat.mul_one]; rfl); (first | simp [AV.inNL, AV.inN])) | ((apply opF_callB (c3); rfl; rfl; rfl; rfl; exact Tryz.func6); kernel_rfl; rfl; (simp (disch := omega) only [go_sem, W, Bool.false_and, Nat.mul_one]; rfl); (first | simp [AV.inNL, AV.inN])) | ((apply opF_callB (s1); rfl; rfl; rfl; rfl; exact Tryz.func19); kernel_rfl; rfl; (simp (disch := omega) only [go_sem, W, Bool.false_and, Nat.mul_one]; rfl); (first | simp [AV.inNL, AV.inN])) | ((apply opF_callB (s3); rfl; rfl; rfl; rfl; exact Tryz.func19); kernel_rfl; rfl; (simp (disch := omega) only [go_sem, W, Bool.false_and, Nat.mul_one]; rfl); (first | simp [AV.inNL, AV.inN])))) | ((first | ((with_reducible apply evD_any); rfl; rfl) | ((with_reducible apply evD_gany); rfl; rfl; rfl; rfl; rfl)); (simp (disch := omega) only [rdE, rdOf, go_sem, W, Bool.false_and, Nat.mul_one]; rfl); (intro τ hA hQ hN; ((try simp only [agree, Op.operands, Call.operands, go_sem, W, Bool.false_and, Nat.mul_one, go_sem, List.mem_cons, List.not_mem_nil, forall_eq_or_imp, forall_eq, List.append_toArray, Option.toArray] at hA); (try simp only [go_sem, W, Bool.false_and, Nat.mul_one, List.mem_cons, List.not_mem_nil, forall_eq_or_imp, forall_eq] at hQ hN); (first | (revert hA; intro hA)); (first | (revert hQ; intro hQ)); (first | (revert hN; intro hN)); simp (disch := omega) only [go_sem, W, Bool.false_and, Nat.mul_one, go_sem, hA, hQ, hN]; (repeat (refine ndI (by first | assumption | omega | rfl) ?_)); (first | apply eff_rd | apply eff_st))))); (simp (disch := omega) only [St.eff, setO, hputs, go_sem, W, Bool.false_and, Nat.mul_one])) | ((with_reducible refine evC_draw ?_ ?_ ?_ ?_); kernel_rfl; kernel_rfl; (first | kernel_rfl); intro R hR)))))
    all_goals (refine ⟨by simp, ⟨_, ?_, AV.le_refl _⟩, leH_get (by simp [leH, hget])⟩; simp only [Tryz.results4, resL, ldA, oneOf, go_sem])
theorem decVAs : DecV Tryz.prog 31 1 (fun l : List Int => [.sl false 1 l.length (l.flatMap ax.apv)]) (fun l => l.length ≤ maxLen ∧ ∀ a ∈ l, U a) :=
  decV_slice Tryz.underlying31 (by kernel_rfl) decV_addr (by omega) ax.apv_len
theorem law_may {j k : Jn} {l : List Int} {v0 v1 v2 : Value} {W : World} (h0 : RV (fun _ => True) (fun _ => (0, 0, 0)) W v0 (.agg (j.pv.map .c))) (g0 : j.raw) (h1 : RV (fun _ => True) (fun _ => (0, 0, 0)) W v1 (.agg (k.pv.map .c))) (g1 : k.raw) (h2 : RV (fun _ => True) (fun _ => (0, 0, 0)) W v2 (ax.asl false l)) (g2 : l.length ≤ maxLen ∧ ∀ a ∈ l, U a) : Calls Tryz.prog 4 #[v0, v1, v2] W (RetT W true) := by
  refine Fn.law (may_walk j k g0 g1 l g2.1 g2.2) (vs := [_, _, _]) rfl fun i v x hi hx => ?_
  rcases i with _ | _ | _ | i
  · cases hi; cases hx; exact h0
  · cases hi; cases hx; exact h1
  · cases hi; cases hx; exact h2
  · simp at hi
end Go.Proofs.YtmidmaeihpldhaaGreat
namespace Go.Proofs.YtmidmaeihpldhaaGreat.journalMayDone
open Go.RowKit Go.ChangeShapes Go.WideShapes Go.ChangeAt

theorem own : ownKnob Tryz.prog.godebug = none := by kernel_rfl
theorem laidOut : laidOutB Tryz.prog = true := by kernel_rfl
theorem reads : ∀ t ∈ Tryz.f4.params.toList, Tryz.prog.readableRec t = true ∧ t < Tryz.prog.types.size := by
  rw [Tryz.params4]
  intro t ht
  simp only [List.mem_cons, List.not_mem_nil, or_false] at ht
  rcases ht with rfl | rfl | rfl
  · exact ⟨by kernel_rfl, of_decide_eq_true (by kernel_rfl)⟩
  · exact ⟨by kernel_rfl, of_decide_eq_true (by kernel_rfl)⟩
  · exact ⟨by kernel_rfl, of_decide_eq_true (by kernel_rfl)⟩

set_option maxRecDepth 100000 in
theorem lifted (os : Os) (started : os.Started) (H : Type) (enc : TypeId × Value → H) :
    ReturnsInHanded {} Tryz.checked os 4 .any (Rows.journalMaySpec.pre6 enc Tryz.prog Tryz.f4 Rows.journalMayRow.domain false) (Rows.journalMaySpec.post enc Tryz.prog Tryz.f4 false true false false) := by
  refine returnsInHanded_of_change (C := Tryz.checked) own started (by kernel_rfl) Tryz.func4
    (ChangeSpec.witness6 (enc := enc) (C := Tryz.checked) false ⟨#[], #[.agg #[.slice none 0 0, .slice none 0 0, .slice none 0 0, .slice none 0 0, .slice none 0 0, .slice none 0 0, .slice none 0 0], .agg #[.slice none 0 0, .slice none 0 0, .slice none 0 0, .slice none 0 0, .slice none 0 0, .slice none 0 0, .slice none 0 0], .slice none 0 0], []⟩ 8 (by kernel_rfl) (by kernel_rfl) (by kernel_rfl) (by kernel_rfl)) ?_
  intro W base args ds gs before hval0 hW hcnd _
  have hval : ∀ (j : Nat) t v, Tryz.f4.params[j]? = some t → args[j]? = some v → Value.okWide Tryz.prog W .any base t v := hval0
  refine law_post (P := Tryz.prog) laidOut rfl Tryz.underlying4 rfl reads (fun ds hds => by
    match ds, hds with
    | [d1, d2, d3], _ => rfl) hW ?_
  obtain ⟨p, q, hA0, hV, rfl, hfz, hnd⟩ := hW
  have hA : DataW.TrodAll enc Tryz.prog W 0 (fun _ => true) true Tryz.f4.params.toList args.toList ds p := hA0
  rw [Tryz.params4] at hA hval
  obtain ⟨v0, vs0, d0, ds0, p0, q0, hargs, rfl, rfl, h0, r0⟩ := trodAll_cons hA
  obtain ⟨v1, vs1, d1, ds1, p1, q1, rfl, rfl, rfl, h1, r1⟩ := trodAll_cons r0
  obtain ⟨v2, vs2, d2, ds2, p2, q2, rfl, rfl, rfl, h2, r2⟩ := trodAll_cons r1
  obtain ⟨rfl, rfl, rfl⟩ := trodAll_nil r2
  obtain rfl : args = #[v0, v1, v2] := by cases args; simp_all
  obtain ⟨cs0, rfl⟩ := okWide_struct Tryz.underlying40 (hval 0 40 v0 rfl rfl)
  obtain ⟨l0, hr0, hg0⟩ := open_VA decVJ h0 (fun _ => (0, 0, 0))
  obtain ⟨cs1, rfl⟩ := okWide_struct Tryz.underlying40 (hval 1 40 v1 rfl rfl)
  obtain ⟨l1, hr1, hg1⟩ := open_VA decVJ h1 (fun _ => (0, 0, 0))
  obtain ⟨a2, n2, c2, rfl⟩ := okWide_slice Tryz.underlying31 (hval 2 31 v2 rfl rfl)
  obtain ⟨l2, hr2, hg2⟩ := open_V decVAs rfl h2 (fun _ => (0, 0, 0))
  exact law_may hr0 hg0 hr1 hg1 hr2 hg2

theorem over : Rows.journalMayRow.holds Tryz.pinned (OpenSpec.ofChange Rows.journalMaySpec) :=
  OpenClaim.holds_of_wide 4 Tryz.f4 rfl rfl rfl rfl rfl rfl rfl ⟨rfl, rfl, rfl, rfl, rfl⟩ rfl rfl rfl rfl rfl (by kernel_rfl) Tryz.func4 (by kernel_rfl)
    (of_decide_eq_true (by kernel_rfl)) (by unfold Func.isWrapper; first | (rw [if_neg (by decide +kernel)]; exact ⟨rfl, rfl⟩))
    (fun os started H enc _ => lifted os started H enc)

theorem proved : Rows.JournalMaySaid := over
end Go.Proofs.YtmidmaeihpldhaaGreat.journalMayDone
