/-
  The difference of words.
-/
import Derived.Test.YtgdjkkapgghdbaaDoorWn
namespace Go.Proofs.YtgdjkkapgghdbaaDoor
open Go.RowKit
open Nat (reduceBEq)
set_option linter.unusedVariables false
set_option linter.unusedSimpArgs false
set_option maxRecDepth 20000
set_option maxHeartbeats 2000000
theorem sub64_fn (x y c : Int) (hx : 0 ≤ x) (hy : 0 ≤ y) (hy1 : y ≤ 18446744073709551615) (hc0 : 0 ≤ c) (hc : c ≤ 1) : Ext Tryd.prog 44 [.int .u64 x, .int .u64 y, .int .u64 c] (.tup [.c (.v (.int .u64 (sbI x y c))), .c (.v (.int .u64 (bwI x y c)))]) :=
  sub64_ext Tryd.func44 (by kernel_rfl) (by kernel_rfl) (by kernel_rfl) (by kernel_rfl) x y c hx hy hy1 hc0 hc
theorem bw01 (x y c : Int) : 0 ≤ bwI x y c ∧ bwI x y c ≤ 1 := by unfold bwI; split <;> omega
theorem carriedSub_fn (a b c d e f g h : Int) (u1 : U a) (u2 : U b) (u3 : U c) (u4 : U d) (u5 : U e) (u6 : U f) (u7 : U g) (u8 : U h) : Fn Tryd.prog 43 [w4 a b c d, w4 e f g h, .fn 44 []] []
    (.tup [w4 (sbI a e 0) (sbI b f (bwI a e 0)) (sbI c g (bwI b f (bwI a e 0))) (sbI d h (bwI c g (bwI b f (bwI a e 0)))), vb (bwI d h (bwI c g (bwI b f (bwI a e 0))) != 0)]) [] := by
  have c1 := bw01 a e 0
  have c2 := bw01 b f (bwI a e 0)
  have c3 := bw01 c g (bwI b f (bwI a e 0))
  (refine fn_of Tryd.func43 rfl (by rfl) ?_; simp only [Tryd.ntmps43, List.length_cons, List.length_nil, Nat.reduceAdd, Nat.reduceSub, List.replicate, List.cons_append, List.nil_append])
  (repeat (any_goals (first | ((with_reducible refine evL_call ?_ ?_ ?_); rfl; rfl; intro K hK; (first | (apply opA_ext (sub64_fn a e 0 u1.1 u5.1 u5.2 (Int.le_refl 0) (by decide)); rfl; rfl; rfl; rfl; (focus (simp (disch := omega) only [AV.ones, Option.map_some, go_sem, wrI, Int.reduceAdd]; done))) | (apply opA_ext (sub64_fn b f _ u2.1 u6.1 u6.2 c1.1 c1.2); rfl; rfl; rfl; rfl; (focus (simp (disch := omega) only [AV.ones, Option.map_some, go_sem, wrI, Int.reduceAdd]; done))) | (apply opA_ext (sub64_fn c g _ u3.1 u7.1 u7.2 c2.1 c2.2); rfl; rfl; rfl; rfl; (focus (simp (disch := omega) only [AV.ones, Option.map_some, go_sem, wrI, Int.reduceAdd]; done))) | (apply opA_ext (sub64_fn d h _ u4.1 u8.1 u8.2 c3.1 c3.2); rfl; rfl; rfl; rfl; (focus (simp (disch := omega) only [AV.ones, Option.map_some, go_sem, wrI, Int.reduceAdd]; done)))); (simp (disch := omega) only [go_sem, wrI, Int.reduceAdd]; refine hK _ ?_; clear hK K)) | ((with_reducible refine evL_one ?_ ?_); rfl; intro K hK; simp (disch := omega) only [go_sem, wrI, Int.reduceAdd]; ((repeat (refine ndI (by first | assumption | omega | rfl) ?_)); refine hK _ ?_; clear hK K)) | (with_reducible first | (refine evL_nil ?_; refine hR _ ?_; clear hR R) | ((first | refine evC_seq ?_ | refine evC_block ?_); intro Ψ hΨ hΨ') | (refine evC_region ?_; intro R hR) | (refine hΨ _ ?_; clear hΨ hΨ' Ψ) | refine evC_skip ?_ | refine evC_ret ?_ | refine evC_exit ?_) | ((with_reducible refine hΨ' _ _ ?_ ?_); (focus (simp; done)); clear hΨ hΨ' Ψ) | ((with_reducible apply evC_cond); rfl; rfl; all_goals (intro hc; first | (cases hc; done) | (try simp only at hc))) | (with_reducible refine evC_rounds 5 ?_) | ((with_reducible refine evR_succ ?_); intro Ψ hΨ hΨ') | ((with_reducible refine evD_nil ?_ ?_); kernel_rfl; (with_reducible refine hR _ ?_); clear hR R) | ((first | ((with_reducible apply evD_fcall); rfl; rfl; (first | (apply opF_ext (sub64_fn a e 0 u1.1 u5.1 u5.2 (Int.le_refl 0) (by decide)); rfl; rfl; rfl; rfl; (focus (simp (disch := omega) only [AV.ones, Option.map_some, go_sem, wrI, Int.reduceAdd]; done))) | (apply opF_ext (sub64_fn b f _ u2.1 u6.1 u6.2 c1.1 c1.2); rfl; rfl; rfl; rfl; (focus (simp (disch := omega) only [AV.ones, Option.map_some, go_sem, wrI, Int.reduceAdd]; done))) | (apply opF_ext (sub64_fn c g _ u3.1 u7.1 u7.2 c2.1 c2.2); rfl; rfl; rfl; rfl; (focus (simp (disch := omega) only [AV.ones, Option.map_some, go_sem, wrI, Int.reduceAdd]; done))) | (apply opF_ext (sub64_fn d h _ u4.1 u8.1 u8.2 c3.1 c3.2); rfl; rfl; rfl; rfl; (focus (simp (disch := omega) only [AV.ones, Option.map_some, go_sem, wrI, Int.reduceAdd]; done))))) | ((with_reducible apply evD_any); rfl; rfl; (simp (disch := omega) only [rdE, rdOf, go_sem, wrI, Int.reduceAdd]; rfl); (intro τ hA hQ hN; ((try simp only [agree, Op.operands, Call.operands, go_sem, wrI, Int.reduceAdd, go_sem, List.mem_cons, List.not_mem_nil, forall_eq_or_imp, forall_eq, List.append_toArray, Option.toArray] at hA); (try simp only [go_sem, wrI, Int.reduceAdd, List.mem_cons, List.not_mem_nil, forall_eq_or_imp, forall_eq] at hQ hN); (first | (revert hA; intro hA) | have hA := trivial); (first | (revert hQ; intro hQ) | have hQ := trivial); (first | (revert hN; intro hN) | have hN := trivial); simp (disch := omega) only [go_sem, wrI, Int.reduceAdd, go_sem, hA, hQ, hN]; (repeat (refine ndI (by first | assumption | omega | rfl) ?_)); (first | apply eff_rd | apply eff_st | apply eff_nw))))); (simp (disch := omega) only [St.eff, setO, hputs, go_sem, wrI, Int.reduceAdd])) | ((with_reducible refine evC_draw ?_ ?_ ?_ ?_); kernel_rfl; kernel_rfl; (first | kernel_rfl | simp [newNames, isNew, St.free, freeH, AV.refsL, AV.refs]); intro R hR))))
  all_goals (refine ⟨by simp, ⟨_, ?_, AV.le_refl _⟩, leH_get (by simp [leH, hget])⟩; simp only [Tryd.results43, resL, ldA, oneOf, go_sem])
theorem sub_nat {x y a0 a1 a2 a3 b0 b1 b2 b3 : Nat} (hxw : x < WW) (hyw : y < WW) (hx : x = a0 + 18446744073709551616 * (a1 + 18446744073709551616 * (a2 + 18446744073709551616 * a3))) (hy : y = b0 + 18446744073709551616 * (b1 + 18446744073709551616 * (b2 + 18446744073709551616 * b3)))
    {s0 s1 s2 s3 c1 c2 c3 c4 : Nat} (e0 : a0 + 18446744073709551616 * c1 = s0 + b0) (e1 : a1 + 18446744073709551616 * c2 = s1 + b1 + c1) (e2 : a2 + 18446744073709551616 * c3 = s2 + b2 + c2) (e3 : a3 + 18446744073709551616 * c4 = s3 + b3 + c3)
    (h0 : s0 < 18446744073709551616) (h1 : s1 < 18446744073709551616) (h2 : s2 < 18446744073709551616) (h3 : s3 < 18446744073709551616) :
    (x + WW - y) % WW = s0 + 18446744073709551616 * (s1 + 18446744073709551616 * (s2 + 18446744073709551616 * s3)) ∧ (x < y ↔ c4 ≠ 0) := by
  unfold WW at *
  omega
theorem sbI_nat {a b c : Nat} (hb : b < 18446744073709551616) (hc : c ≤ 1) : sbI a b c = (((a + 18446744073709551616 - b - c) % 18446744073709551616 : Nat) : Int) := by unfold sbI; omega
theorem bwI_nat {a b c : Nat} : bwI a b c = ((if a < b + c then 1 else 0 : Nat) : Int) := by unfold bwI; split <;> split <;> omega
theorem sub_fn (x y : Nat) (hx : x < WW) (hy : y < WW) : Fn Tryd.prog 31 [wN x, wN y] [] (.tup [wN ((x + WW - y) % WW), vb (decide (x < y))]) [] := by
  have h := carriedSub_fn (l0 x) (l1 x) (l2 x) (l3 x) (l0 y) (l1 y) (l2 y) (l3 y) (U0 x) (U1 x) (U2 x) (U3 x) (U0 y) (U1 y) (U2 y) (U3 y)
  obtain ⟨a, b, c, d, ex, ha, hb, hc, hd, e0, e1, e2, e3⟩ := split_w hx
  obtain ⟨a', b', c', d', ey, ha', hb', hc', hd', f0, f1, f2, f3⟩ := split_w hy
  rw [e0, e1, e2, e3, f0, f1, f2, f3] at h
  have z : (0 : Int) = ((0 : Nat) : Int) := rfl
  rw [z, bwI_nat] at h
  obtain ⟨c1, hc1⟩ : ∃ s : Nat, (if a < a' + 0 then 1 else 0) = s := ⟨_, rfl⟩
  have hc1' : c1 ≤ 1 := by rw [← hc1]; split <;> omega
  rw [hc1, bwI_nat] at h
  obtain ⟨c2, hc2⟩ : ∃ s : Nat, (if b < b' + c1 then 1 else 0) = s := ⟨_, rfl⟩
  have hc2' : c2 ≤ 1 := by rw [← hc2]; split <;> omega
  rw [hc2, bwI_nat] at h
  obtain ⟨c3, hc3⟩ : ∃ s : Nat, (if c < c' + c2 then 1 else 0) = s := ⟨_, rfl⟩
  have hc3' : c3 ≤ 1 := by rw [← hc3]; split <;> omega
  rw [hc3, bwI_nat] at h
  obtain ⟨c4, hc4⟩ : ∃ s : Nat, (if d < d' + c3 then 1 else 0) = s := ⟨_, rfl⟩
  have hc4' : c4 ≤ 1 := by rw [← hc4]; split <;> omega
  rw [hc4, sbI_nat ha' (by omega), sbI_nat hb' hc1', sbI_nat hc' hc2', sbI_nat hd' hc3'] at h
  obtain ⟨s0, hs0⟩ : ∃ s, (a + 18446744073709551616 - a' - 0) % 18446744073709551616 = s := ⟨_, rfl⟩
  obtain ⟨s1, hs1⟩ : ∃ s, (b + 18446744073709551616 - b' - c1) % 18446744073709551616 = s := ⟨_, rfl⟩
  obtain ⟨s2, hs2⟩ : ∃ s, (c + 18446744073709551616 - c' - c2) % 18446744073709551616 = s := ⟨_, rfl⟩
  obtain ⟨s3, hs3⟩ : ∃ s, (d + 18446744073709551616 - d' - c3) % 18446744073709551616 = s := ⟨_, rfl⟩
  rw [hs0, hs1, hs2, hs3] at h
  have k0 : s0 < 18446744073709551616 := by omega
  have k1 : s1 < 18446744073709551616 := by omega
  have k2 : s2 < 18446744073709551616 := by omega
  have k3 : s3 < 18446744073709551616 := by omega
  obtain ⟨g1, g2⟩ := sub_nat hx hy ex ey (s0 := s0) (c1 := c1) (s1 := s1) (c2 := c2) (s2 := s2) (c3 := c3) (s3 := s3) (c4 := c4) (by split at hc1 <;> omega) (by split at hc2 <;> omega) (by split at hc3 <;> omega) (by split at hc4 <;> omega) k0 k1 k2 k3
  obtain ⟨m0, m1, m2, m3⟩ := limbs_of g1 k0 k1 k2 k3
  rw [← m0, ← m1, ← m2, ← m3] at h
  have hq : (((c4 : Nat) : Int) != ((0 : Nat) : Int)) = decide (x < y) := by
    rw [Bool.eq_iff_iff]
    simp only [bne_iff_ne, ne_eq, decide_eq_true_eq]
    rw [g2]; omega
  rw [hq] at h
  rw [← e0, ← e1, ← e2, ← e3, ← f0, ← f1, ← f2, ← f3] at h
  obtain ⟨q, hq'⟩ : ∃ q, decide (x < y) = q := ⟨_, rfl⟩
  obtain ⟨n, hn⟩ : ∃ n, (x + WW - y) % WW = n := ⟨_, rfl⟩
  rw [hq', hn] at h ⊢
  (refine fn_of Tryd.func31 rfl (by rfl) ?_; simp only [Tryd.ntmps31, List.length_cons, List.length_nil, Nat.reduceAdd, Nat.reduceSub, List.replicate, List.cons_append, List.nil_append])
  (repeat (any_goals (first | ((with_reducible refine evL_call ?_ ?_ ?_); rfl; rfl; intro K hK; ((apply opA_callB (h); rfl; rfl; rfl; rfl; exact Tryd.func43); kernel_rfl; rfl; (focus ((simp only [go_sem]); (try rfl); done)); (first | rfl | simp [AV.inNL, AV.inN])); (simp only [go_sem]; refine hK _ ?_; clear hK K)) | ((with_reducible refine evL_one ?_ ?_); rfl; intro K hK; simp only [go_sem]; ((repeat (refine ndI (by first | assumption | omega | rfl) ?_)); refine hK _ ?_; clear hK K)) | (with_reducible first | (refine evL_nil ?_; refine hR _ ?_; clear hR R) | ((first | refine evC_seq ?_ | refine evC_block ?_); intro Ψ hΨ hΨ') | (refine evC_region ?_; intro R hR) | (refine hΨ _ ?_; clear hΨ hΨ' Ψ) | refine evC_skip ?_ | refine evC_ret ?_ | refine evC_exit ?_) | ((with_reducible refine hΨ' _ _ ?_ ?_); (focus (simp; done)); clear hΨ hΨ' Ψ) | ((with_reducible apply evC_cond); rfl; rfl; all_goals (intro hc; first | (cases hc; done) | (try simp only at hc))))))
  all_goals (refine ⟨by simp, ⟨_, ?_, AV.le_refl _⟩, leH_get (by simp [leH, hget])⟩; simp only [Tryd.results31, resL, ldA, oneOf, go_sem])
end Go.Proofs.YtgdjkkapgghdbaaDoor

