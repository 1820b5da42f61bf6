/-
  The layer does something.
-/
import Derived.Test.YtiggambibcohcaaSs
import Derived.Test.YtiggambibcohcaaAvW
import Derived.Test.YtiggambibcohcaaRv
namespace Go.Proofs.Ytiggambibcohcaa
open Go.RowKit
open Nat (reduceBEq)
set_option linter.unusedVariables false
set_option linter.unusedSimpArgs false
set_option maxRecDepth 20000
set_option maxHeartbeats 2000000
def w1 : List Ac := [⟨20, 7, 0, [], []⟩]
def w2 : List Ac := [⟨20, 4, 0, [], []⟩, ⟨21, 3, 0, [], []⟩]
def w3 : List Ac := [⟨20, 4, 0, [], []⟩, ⟨21, 3, 0, [], [⟨5, 9⟩]⟩]
theorem v1 : mintS [] 20 7 = (w1, 0) := by kernel_rfl
theorem v2 : moveS w1 20 21 3 = (w2, 0) := by kernel_rfl
theorem v3 : saveS w2 21 5 9 = (w3, 0) := by kernel_rfl
theorem v4 : totalS w3 = 7 := by kernel_rfl
theorem v5 : loadX (OfS w3 21) 5 = 9 := by kernel_rfl
theorem ok_small (a : Int) (b : Nat) (st : List Pr) (h1 : U a) (h2 : b < WW) (h3 : st.length ≤ 1000000) (h4 : ∀ p ∈ st, p.ok) : Okx ⟨a, b, 0, [], st⟩ :=
  ⟨⟨h1, h2, ⟨Int.le_refl 0, by show (0 : Int) ≤ _; decide⟩, ⟨Nat.zero_le _, fun c h => by cases h⟩, Nat.le_trans h3 (by decide), h4⟩, Nat.zero_le _, h3⟩
theorem u20 : U 20 := by unfold U; decide
theorem u21 : U 21 := by unfold U; decide
theorem k0 : Okl [] := ⟨Nat.zero_le _, fun x h => by cases h⟩
theorem k1w : Okl w1 := ⟨by decide, fun x h => by
  simp only [w1, List.mem_cons, List.not_mem_nil, or_false] at h
  subst h
  exact ok_small 20 7 [] u20 (by decide) (Nat.zero_le _) (fun p h => by cases h)⟩
theorem k2w : Okl w2 := ⟨by decide, fun x h => by
  simp only [w2, List.mem_cons, List.not_mem_nil, or_false] at h
  rcases h with rfl | rfl
  · exact ok_small 20 4 [] u20 (by decide) (Nat.zero_le _) (fun p h => by cases h)
  · exact ok_small 21 3 [] u21 (by decide) (Nat.zero_le _) (fun p h => by cases h)⟩
theorem k3w : Okl w3 := ⟨by decide, fun x h => by
  simp only [w3, List.mem_cons, List.not_mem_nil, or_false] at h
  rcases h with rfl | rfl
  · exact ok_small 20 4 [] u20 (by decide) (Nat.zero_le _) (fun p h => by cases h)
  · exact ok_small 21 3 [⟨5, 9⟩] u21 (by decide) (by decide) (fun p h => by
      simp only [List.mem_cons, List.not_mem_nil, or_false] at h
      subst h
      exact ⟨(by decide : 5 < WW), (by decide : 9 < WW)⟩)⟩
abbrev c40 (x : Int) : AV := .agg [vi .u64 x, vi .u64 0, vi .u64 0, vi .u64 0]
theorem wakes_fn : Fn Try.prog 9 [] [] (vb true) [] := by
  have g1 : Fn Try.prog 36 [.agg [.c (.v (.slice none 0 0))], vi .u64 20, c40 7] [] (resS (w1, 0)) [] := by
    have h := mint_fn false [] k0 20 u20 7 (by decide)
    rw [v1] at h
    exact h.args ⟨AV.le_agg ⟨AV.le_nil _ _, trivial⟩, AV.le_refl _, AV.le_of rfl, trivial⟩
  have g2 : Fn Try.prog 32 [stA false w1, vi .u64 20, vi .u64 21, c40 3] [] (resS (w2, 0)) [] := by
    have h := move_fn false w1 k1w 20 21 u20 u21 3 (by decide)
    rw [v2] at h
    exact h
  have g3 : Fn Try.prog 37 [stA false w2, vi .u64 21, .agg [vi .u64 5, vi .u64 0, vi .u64 0, vi .u64 0, vi .u64 9, vi .u64 0, vi .u64 0, vi .u64 0]] [] (resS (w3, 0)) [] := by
    have h := save_fn false w2 k2w 21 u21 5 9 (by decide) (by decide)
    rw [v3] at h
    exact h
  have g4 : Fn Try.prog 20 [stA false w3] [] (c40 7) [] := by
    have h := totalS_fn false w3 k3w
    rw [v4] at h
    exact h
  have g5 : Fn Try.prog 21 [stA false w3, vi .u64 21, c40 5] [] (c40 9) [] := by
    have h := load_fn false w3 k3w 21 u21 5 (by decide)
    rw [v5] at h
    exact h
  have e : ((w3.length : Int) == 2) = true := rfl
  generalize w1 = a1 at g1 g2
  generalize w2 = a2 at g2 g3
  generalize w3 = a3 at g3 g4 g5 e
  (refine fn_of Try.func9 rfl (by rfl) ?_; simp only [Try.ntmps9, List.length_cons, List.length_nil, Nat.reduceAdd, Nat.reduceSub, List.replicate, List.cons_append, List.nil_append])
  (repeat (any_goals (first | ((with_reducible refine evL_call ?_ ?_ ?_); rfl; rfl; intro K hK; ((first | (apply opA_callB (g1); rfl; rfl; rfl; rfl; exact Try.func36) | (apply opA_callB (g2); rfl; rfl; rfl; rfl; exact Try.func32) | (apply opA_callB (g3); rfl; rfl; rfl; rfl; exact Try.func37)); kernel_rfl; rfl; (simp only [go_sem, e]; rfl); (first | rfl | simp [AV.inNL, AV.inN])); (simp only [go_sem, e]; refine hK _ ?_; clear hK K)) | ((with_reducible refine evL_one ?_ ?_); rfl; intro K hK; simp only [go_sem, e]; ((repeat (refine ndI (by first | assumption | omega | rfl) ?_)); refine hK _ ?_; clear hK K)) | (with_reducible first | (refine evL_nil ?_; refine hR _ ?_; clear hR R) | ((first | refine evC_seq ?_ | refine evC_block ?_); intro Ψ hΨ hΨ') | (refine evC_region ?_; intro R hR) | (refine hΨ _ ?_; clear hΨ hΨ' Ψ) | refine evC_skip ?_ | refine evC_ret ?_ | refine evC_exit ?_) | ((with_reducible refine hΨ' _ _ ?_ ?_); (focus (simp; done)); clear hΨ hΨ' Ψ) | ((with_reducible apply evL_unmet); rfl; rfl; rfl; (try simp only [go_sem, e])) | ((with_reducible apply evL_grd); rfl; rfl; rfl; all_goals (intro hb; first | (cases hb; done) | ((try simp only [Bool.not_true, Bool.not_false] at hb); (first | ((with_reducible intro K hK); (first | ((first | (apply opA_callB (g4); rfl; rfl; rfl; rfl; exact Try.func20) | (apply opA_callB (g5); rfl; rfl; rfl; rfl; exact Try.func21)); kernel_rfl; rfl; (simp only [go_sem, e]; rfl); (first | rfl | simp [AV.inNL, AV.inN])) | skip); simp only [go_sem, e]; ((repeat (refine ndI (by first | assumption | omega | rfl) ?_)); refine hK _ ?_; clear hK K)) | ((fail_if_success (with_reducible intro _)); simp only [go_sem, e]))))) | ((with_reducible apply evC_cond); rfl; rfl; all_goals (intro hc; first | (cases hc; done) | (try simp only at hc))))))
  all_goals (refine ⟨by simp, ⟨_, ?_, AV.le_refl _⟩, leH_get (by simp [leH, hget])⟩; simp only [Try.results9, resL, ldA, oneOf, go_sem])
theorem word_of {a b c d : Int} (ha : 0 ≤ a ∧ a ≤ 18446744073709551615) (hb : 0 ≤ b ∧ b ≤ 18446744073709551615) (hc : 0 ≤ c ∧ c ≤ 18446744073709551615) (hd : 0 ≤ d ∧ d ≤ 18446744073709551615) : ∃ n : Nat, n < WW ∧ l0 n = a ∧ l1 n = b ∧ l2 n = c ∧ l3 n = d := by
  refine ⟨a.toNat + 18446744073709551616 * (b.toNat + 18446744073709551616 * (c.toNat + 18446744073709551616 * d.toNat)), ?_, ?_⟩
  · show _ < 115792089237316195423570985008687907853269984665640564039457584007913129639936
    omega
  · obtain ⟨h0, h1, h2, h3⟩ := limbs_of (s0 := a.toNat) (s1 := b.toNat) (s2 := c.toNat) (s3 := d.toNat) rfl (by omega) (by omega) (by omega) (by omega)
    rw [h0, h1, h2, h3]
    exact ⟨Int.toNat_of_nonneg ha.1, Int.toNat_of_nonneg hb.1, Int.toNat_of_nonneg hc.1, Int.toNat_of_nonneg hd.1⟩
theorem decV_word : DecV Try.prog 27 4 wpv (fun n => n < WW) :=
  (decV_w4 Try.underlying27 (by kernel_rfl) Try.underlying24 (by kernel_rfl)).map fun x hx => by
    obtain ⟨n, hn, h0, h1, h2, h3⟩ := word_of hx.1 hx.2.1 hx.2.2.1 hx.2.2.2
    exact ⟨n, by unfold wpv; rw [h0, h1, h2, h3], hn⟩
theorem decV_addr : DecV Try.prog 25 1 (fun n : Int => [PV.v (.int .u64 n)]) U := (decV_u64 Try.underlying25 (by kernel_rfl)).map fun a ga => ⟨a, rfl, ga⟩
theorem decV_num : DecV Try.prog 24 1 (fun n : Int => [PV.v (.int .u64 n)]) U := (decV_u64 Try.underlying24 (by kernel_rfl)).map fun a ga => ⟨a, rfl, ga⟩
theorem decV_byte : DecV Try.prog 5 1 bpv (fun n => n < 256) := (decV_int Try.underlying5 (by kernel_rfl)).map fun a ga => ⟨a.toNat, by unfold bpv; rw [Int.toNat_of_nonneg (wf_u8 ga).1], by have := wf_u8 ga; omega⟩
theorem decV_bytes : DecV Try.prog 28 1 (fun l : List Nat => [PV.sl false 1 l.length (l.flatMap bpv)]) (fun l => l.length ≤ maxLen ∧ ∀ a ∈ l, a < 256) :=
  decV_slice Try.underlying28 (by kernel_rfl) decV_byte (by omega) bpv_len
theorem decV_pairP : DecV Try.prog 42 8 Pr.pv Pr.ok :=
  (decV_struct (sz := 4 + 4) Try.underlying42 (by kernel_rfl) (decF_cons decV_word rfl (decF_one decV_word rfl))).map fun x hx => ⟨⟨x.1, x.2⟩, rfl, hx⟩
theorem decV_pairs : DecV Try.prog 29 1 (fun l : List Pr => [PV.sl false 8 l.length (l.flatMap Pr.pv)]) (fun l => l.length ≤ maxLen ∧ ∀ a ∈ l, a.ok) :=
  decV_slice Try.underlying29 (by kernel_rfl) decV_pairP (by omega) pr_len
theorem decV_account : DecV Try.prog 31 8 Ac.pv Ac.ok :=
  (decV_struct (sz := 1 + (4 + (1 + (1 + 1)))) Try.underlying31 (by kernel_rfl) (decF_cons decV_addr rfl (decF_cons decV_word rfl (decF_cons decV_num rfl (decF_cons decV_bytes rfl (decF_one decV_pairs rfl)))))).map fun x hx => ⟨⟨x.1, x.2.1, x.2.2.1, x.2.2.2.1, x.2.2.2.2⟩, rfl, hx⟩
theorem decV_accounts : DecV Try.prog 22 1 (fun l : List Ac => [PV.sl false 8 l.length (l.flatMap Ac.pv)]) (fun l => l.length ≤ maxLen ∧ ∀ a ∈ l, a.ok) :=
  decV_slice Try.underlying22 (by kernel_rfl) decV_account (by omega) ac_len
end Go.Proofs.Ytiggambibcohcaa

