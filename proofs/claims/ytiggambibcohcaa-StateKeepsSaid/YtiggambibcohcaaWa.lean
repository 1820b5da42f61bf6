/-
  Words added; reckoned.
-/
import Derived.Test.YtiggambibcohcaaWs
namespace Go.Proofs.Ytiggambibcohcaa
open Go.RowKit
open Nat (reduceBEq)
set_option linter.unusedVariables false
set_option linter.unusedSimpArgs false
set_option maxRecDepth 20000
set_option maxHeartbeats 2000000
theorem add64_fn (x y c : Int) (hx : 0 ≤ x) (hy : 0 ≤ y) (hc0 : 0 ≤ c) (hc : c ≤ 1) : Ext Try.prog 52 [.int .u64 x, .int .u64 y, .int .u64 c] (.tup [.c (.v (.int .u64 (smI x y c))), .c (.v (.int .u64 (cyI x y c)))]) :=
  add64_ext Try.func52 (by kernel_rfl) (by kernel_rfl) (by kernel_rfl) (by kernel_rfl) x y c hx hy hc0 hc
theorem cy01 {x y c : Int} (hx : U x) (hy : U y) (h : 0 ≤ c ∧ c ≤ 1) : 0 ≤ cyI x y c ∧ cyI x y c ≤ 1 := by unfold U at hx hy; unfold cyI; omega
theorem carriedAdd_fn (a b c d e f g h : Int) (u1 : U a) (u2 : U b) (u3 : U c) (u4 : U d) (u5 : U e) (u6 : U f) (u7 : U g) (u8 : U h) : Fn Try.prog 51 [w4 a b c d, w4 e f g h, .fn 52 []] []
    (.tup [w4 (smI a e 0) (smI b f (cyI a e 0)) (smI c g (cyI b f (cyI a e 0))) (smI d h (cyI c g (cyI b f (cyI a e 0)))), vb (cyI d h (cyI c g (cyI b f (cyI a e 0))) != 0)]) [] := by
  have c1 := cy01 u1 u5 ⟨Int.le_refl 0, by decide⟩
  have c2 := cy01 u2 u6 c1
  have c3 := cy01 u3 u7 c2
  (refine fn_of Try.func51 rfl (by rfl) ?_; simp only [Try.ntmps51, List.length_cons, List.length_nil, Nat.reduceAdd, Nat.reduceSub, List.replicate, List.cons_append, List.nil_append])
  (repeat (any_goals (first | ((with_reducible refine evL_call ?_ ?_ ?_); rfl; rfl; intro K hK; (first | (apply opA_ext (add64_fn a e 0 u1.1 u5.1 (Int.le_refl 0) (by decide)); rfl; rfl; rfl; rfl; (focus (simp (disch := omega) only [AV.ones, Option.map_some, go_sem, wrI, Int.reduceAdd]; done))) | (apply opA_ext (add64_fn b f _ u2.1 u6.1 c1.1 c1.2); rfl; rfl; rfl; rfl; (focus (simp (disch := omega) only [AV.ones, Option.map_some, go_sem, wrI, Int.reduceAdd]; done))) | (apply opA_ext (add64_fn c g _ u3.1 u7.1 c2.1 c2.2); rfl; rfl; rfl; rfl; (focus (simp (disch := omega) only [AV.ones, Option.map_some, go_sem, wrI, Int.reduceAdd]; done))) | (apply opA_ext (add64_fn d h _ u4.1 u8.1 c3.1 c3.2); rfl; rfl; rfl; rfl; (focus (simp (disch := omega) only [AV.ones, Option.map_some, go_sem, wrI, Int.reduceAdd]; done)))); (simp (disch := omega) only [go_sem, wrI, Int.reduceAdd]; refine hK _ ?_; clear hK K)) | ((with_reducible refine evL_one ?_ ?_); rfl; intro K hK; simp (disch := omega) only [go_sem, wrI, Int.reduceAdd]; ((repeat (refine ndI (by first | assumption | omega | rfl) ?_)); refine hK _ ?_; clear hK K)) | (with_reducible first | (refine evL_nil ?_; refine hR _ ?_; clear hR R) | ((first | refine evC_seq ?_ | refine evC_block ?_); intro Ψ hΨ hΨ') | (refine evC_region ?_; intro R hR) | (refine hΨ _ ?_; clear hΨ hΨ' Ψ) | refine evC_skip ?_ | refine evC_ret ?_ | refine evC_exit ?_) | ((with_reducible refine hΨ' _ _ ?_ ?_); (focus (simp; done)); clear hΨ hΨ' Ψ) | ((with_reducible apply evC_cond); rfl; rfl; all_goals (intro hc; first | (cases hc; done) | (try simp only at hc))) | (with_reducible refine evC_rounds 5 ?_) | ((with_reducible refine evR_succ ?_); intro Ψ hΨ hΨ') | ((with_reducible refine evD_nil ?_ ?_); kernel_rfl; (with_reducible refine hR _ ?_); clear hR R) | ((first | ((with_reducible apply evD_fcall); rfl; rfl; (first | (apply opF_ext (add64_fn a e 0 u1.1 u5.1 (Int.le_refl 0) (by decide)); rfl; rfl; rfl; rfl; (focus (simp (disch := omega) only [AV.ones, Option.map_some, go_sem, wrI, Int.reduceAdd]; done))) | (apply opF_ext (add64_fn b f _ u2.1 u6.1 c1.1 c1.2); rfl; rfl; rfl; rfl; (focus (simp (disch := omega) only [AV.ones, Option.map_some, go_sem, wrI, Int.reduceAdd]; done))) | (apply opF_ext (add64_fn c g _ u3.1 u7.1 c2.1 c2.2); rfl; rfl; rfl; rfl; (focus (simp (disch := omega) only [AV.ones, Option.map_some, go_sem, wrI, Int.reduceAdd]; done))) | (apply opF_ext (add64_fn d h _ u4.1 u8.1 c3.1 c3.2); rfl; rfl; rfl; rfl; (focus (simp (disch := omega) only [AV.ones, Option.map_some, go_sem, wrI, Int.reduceAdd]; done))))) | ((with_reducible apply evD_any); rfl; rfl; (simp (disch := omega) only [rdE, rdOf, go_sem, wrI, Int.reduceAdd]; rfl); (intro τ hA hQ hN; ((try simp only [agree, Op.operands, Call.operands, go_sem, wrI, Int.reduceAdd, go_sem, List.mem_cons, List.not_mem_nil, forall_eq_or_imp, forall_eq, List.append_toArray, Option.toArray] at hA); (try simp only [go_sem, wrI, Int.reduceAdd, List.mem_cons, List.not_mem_nil, forall_eq_or_imp, forall_eq] at hQ hN); (first | (revert hA; intro hA) | have hA := trivial); (first | (revert hQ; intro hQ) | have hQ := trivial); (first | (revert hN; intro hN) | have hN := trivial); simp (disch := omega) only [go_sem, wrI, Int.reduceAdd, go_sem, hA, hQ, hN]; (repeat (refine ndI (by first | assumption | omega | rfl) ?_)); (first | apply eff_rd | apply eff_st | apply eff_nw))))); (simp (disch := omega) only [St.eff, setO, hputs, go_sem, wrI, Int.reduceAdd])) | ((with_reducible refine evC_draw ?_ ?_ ?_ ?_); kernel_rfl; kernel_rfl; (first | kernel_rfl | simp [newNames, isNew, St.free, freeH, AV.refsL, AV.refs]); intro R hR))))
  all_goals (refine ⟨by simp, ⟨_, ?_, AV.le_refl _⟩, leH_get (by simp [leH, hget])⟩; simp only [Try.results51, resL, ldA, oneOf, go_sem])
theorem add_nat {x y a0 a1 a2 a3 b0 b1 b2 b3 : Nat} (hx : x = a0 + 18446744073709551616 * (a1 + 18446744073709551616 * (a2 + 18446744073709551616 * a3))) (hy : y = b0 + 18446744073709551616 * (b1 + 18446744073709551616 * (b2 + 18446744073709551616 * b3)))
    {s0 s1 s2 s3 c1 c2 c3 c4 : Nat} (e0 : a0 + b0 = s0 + 18446744073709551616 * c1) (e1 : a1 + b1 + c1 = s1 + 18446744073709551616 * c2) (e2 : a2 + b2 + c2 = s2 + 18446744073709551616 * c3) (e3 : a3 + b3 + c3 = s3 + 18446744073709551616 * c4)
    (h0 : s0 < 18446744073709551616) (h1 : s1 < 18446744073709551616) (h2 : s2 < 18446744073709551616) (h3 : s3 < 18446744073709551616) :
    (x + y) % WW = s0 + 18446744073709551616 * (s1 + 18446744073709551616 * (s2 + 18446744073709551616 * s3)) ∧ (x + y) / WW = c4 := by
  unfold WW
  omega
theorem smI_nat {a b c : Nat} : smI a b c = (((a + b + c) % 18446744073709551616 : Nat) : Int) := by unfold smI; omega
theorem cyI_nat {a b c : Nat} : cyI a b c = (((a + b + c) / 18446744073709551616 : Nat) : Int) := by unfold cyI; omega
theorem add_fn (x y : Nat) (hx : x < WW) (hy : y < WW) : Fn Try.prog 22 [wN x, wN y] [] (.tup [wN ((x + y) % WW), vb (decide (WW ≤ x + y))]) [] := by
  have h := carriedAdd_fn (l0 x) (l1 x) (l2 x) (l3 x) (l0 y) (l1 y) (l2 y) (l3 y) (U0 x) (U1 x) (U2 x) (U3 x) (U0 y) (U1 y) (U2 y) (U3 y)
  obtain ⟨a, b, c, d, ex, ha, hb, hc, hd, e0, e1, e2, e3⟩ := split_w hx
  obtain ⟨a', b', c', d', ey, ha', hb', hc', hd', f0, f1, f2, f3⟩ := split_w hy
  rw [e0, e1, e2, e3, f0, f1, f2, f3] at h
  have z : (0 : Int) = ((0 : Nat) : Int) := rfl
  rw [z, smI_nat, cyI_nat, smI_nat, cyI_nat, smI_nat, cyI_nat, smI_nat, cyI_nat] at h
  obtain ⟨s0, hs0⟩ : ∃ s, (a + a' + 0) % 18446744073709551616 = s := ⟨_, rfl⟩
  obtain ⟨c1, hc1⟩ : ∃ s, (a + a' + 0) / 18446744073709551616 = s := ⟨_, rfl⟩
  rw [hs0, hc1] at h
  obtain ⟨s1, hs1⟩ : ∃ s, (b + b' + c1) % 18446744073709551616 = s := ⟨_, rfl⟩
  obtain ⟨c2, hc2⟩ : ∃ s, (b + b' + c1) / 18446744073709551616 = s := ⟨_, rfl⟩
  rw [hs1, hc2] at h
  obtain ⟨s2, hs2⟩ : ∃ s, (c + c' + c2) % 18446744073709551616 = s := ⟨_, rfl⟩
  obtain ⟨c3, hc3⟩ : ∃ s, (c + c' + c2) / 18446744073709551616 = s := ⟨_, rfl⟩
  rw [hs2, hc3] at h
  obtain ⟨s3, hs3⟩ : ∃ s, (d + d' + c3) % 18446744073709551616 = s := ⟨_, rfl⟩
  obtain ⟨c4, hc4⟩ : ∃ s, (d + d' + c3) / 18446744073709551616 = s := ⟨_, rfl⟩
  rw [hs3, hc4] at h
  have k0 : s0 < 18446744073709551616 := by omega
  have k1 : s1 < 18446744073709551616 := by omega
  have k2 : s2 < 18446744073709551616 := by omega
  have k3 : s3 < 18446744073709551616 := by omega
  obtain ⟨g1, g2⟩ := add_nat ex ey (s0 := s0) (c1 := c1) (s1 := s1) (c2 := c2) (s2 := s2) (c3 := c3) (s3 := s3) (c4 := c4) (by omega) (by omega) (by omega) (by omega) k0 k1 k2 k3
  obtain ⟨m0, m1, m2, m3⟩ := limbs_of g1 k0 k1 k2 k3
  rw [← m0, ← m1, ← m2, ← m3] at h
  have hq : (((c4 : Nat) : Int) != ((0 : Nat) : Int)) = decide (WW ≤ x + y) := by
    rw [Bool.eq_iff_iff]
    simp only [bne_iff_ne, ne_eq, decide_eq_true_eq]
    rw [← g2]
    constructor
    · intro h'
      rcases Nat.lt_or_ge (x + y) WW with h | h
      · exact absurd (by rw [Nat.div_eq_of_lt h]) h'
      · exact h
    · intro h' h''
      have : 0 < (x + y) / WW := Nat.div_pos h' (by decide)
      omega
  rw [hq] at h
  rw [← e0, ← e1, ← e2, ← e3, ← f0, ← f1, ← f2, ← f3] at h
  obtain ⟨q, hq'⟩ : ∃ q, decide (WW ≤ x + y) = q := ⟨_, rfl⟩
  obtain ⟨n, hn⟩ : ∃ n, (x + y) % WW = n := ⟨_, rfl⟩
  rw [hq', hn] at h ⊢
  (refine fn_of Try.func22 rfl (by rfl) ?_; simp only [Try.ntmps22, List.length_cons, List.length_nil, Nat.reduceAdd, Nat.reduceSub, List.replicate, List.cons_append, List.nil_append])
  (repeat (any_goals (first | ((with_reducible refine evL_call ?_ ?_ ?_); rfl; rfl; intro K hK; ((apply opA_callB (h); rfl; rfl; rfl; rfl; exact Try.func51); kernel_rfl; rfl; (simp only [go_sem]; rfl); (first | rfl | simp [AV.inNL, AV.inN])); (simp only [go_sem]; refine hK _ ?_; clear hK K)) | ((with_reducible refine evL_one ?_ ?_); rfl; intro K hK; simp only [go_sem]; ((repeat (refine ndI (by first | assumption | omega | rfl) ?_)); refine hK _ ?_; clear hK K)) | (with_reducible first | (refine evL_nil ?_; refine hR _ ?_; clear hR R) | ((first | refine evC_seq ?_ | refine evC_block ?_); intro Ψ hΨ hΨ') | (refine evC_region ?_; intro R hR) | (refine hΨ _ ?_; clear hΨ hΨ' Ψ) | refine evC_skip ?_ | refine evC_ret ?_ | refine evC_exit ?_) | ((with_reducible refine hΨ' _ _ ?_ ?_); (focus (simp; done)); clear hΨ hΨ' Ψ) | ((with_reducible apply evC_cond); rfl; rfl; all_goals (intro hc; first | (cases hc; done) | (try simp only at hc))))))
  all_goals (refine ⟨by simp, ⟨_, ?_, AV.le_refl _⟩, leH_get (by simp [leH, hget])⟩; simp only [Try.results22, resL, ldA, oneOf, go_sem])
end Go.Proofs.Ytiggambibcohcaa

