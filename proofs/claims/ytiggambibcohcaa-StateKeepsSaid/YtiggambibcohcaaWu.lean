/-
  Words summed up; reckoned.
-/
import Derived.Test.YtiggambibcohcaaWa
namespace Go.Proofs.Ytiggambibcohcaa
open Go.RowKit
open Nat (reduceBEq)
set_option linter.unusedVariables false
set_option linter.unusedSimpArgs false
set_option maxRecDepth 20000
set_option maxHeartbeats 2000000
/-! words in rows -/
def wpv (x : Nat) : List PV := [.v (.int .u64 (l0 x)), .v (.int .u64 (l1 x)), .v (.int .u64 (l2 x)), .v (.int .u64 (l3 x))]
abbrev wsl (ex : Bool) (l : List Nat) : AV := .c (.sl ex 4 l.length (l.flatMap wpv))
theorem wpv_len (x : Nat) : (wpv x).length = 4 := rfl
theorem wsl_at {l : List Nat} {i : Nat} {y : Nat} (h : l[i]? = some y) : ((l.flatMap wpv).drop (i * 4)).take 4 = [.v (.int .u64 (l0 y)), .v (.int .u64 (l1 y)), .v (.int .u64 (l2 y)), .v (.int .u64 (l3 y))] := flat_at (f := wpv) wpv_len h
def rcW (l : List Nat) : List AV := (l.flatMap wpv).map .c
theorem rcW_len (l : List Nat) : (rcW l).length = l.length * 4 := by unfold rcW; rw [List.length_map, flat_length wpv_len]
theorem renL_rcW (ρ : Nat → Nat) (l : List Nat) : AV.renL ρ (rcW l) = rcW l := renL_map _ _
theorem inNL_rcW (N : List Nat) (l : List Nat) : AV.inNL N (rcW l) = true := inNL_map _ _
theorem sum_fn (ex : Bool) (l : List Nat) (hl : l.length ≤ 1000) (hw : ∀ x ∈ l, x < WW) : Fn Try.prog 78 [wsl ex l] [] (.tup [wN (l.sum % WW), vb (decide (WW ≤ l.sum))]) [] := by
  have hW : 0 < WW := by decide
  obtain ⟨tn, htn⟩ : ∃ n, l.sum % WW = n := ⟨_, rfl⟩
  obtain ⟨tq, htq⟩ : ∃ q, decide (WW ≤ l.sum) = q := ⟨_, rfl⟩
  rw [htn, htq]
  (refine fn_of Try.func78 rfl (by rfl) ?_; simp only [Try.ntmps78, List.length_cons, List.length_nil, Nat.reduceAdd, Nat.reduceSub, List.replicate, List.cons_append, List.nil_append])
  (repeat (any_goals (first | ((with_reducible refine evL_one ?_ ?_); rfl; intro K hK; simp only [go_sem]; ((repeat (refine ndI (by first | assumption | omega | rfl) ?_)); refine hK _ ?_; clear hK K)) | (with_reducible first | (refine evL_nil ?_; refine hR _ ?_; clear hR R) | ((first | refine evC_seq ?_ | refine evC_block ?_); intro Ψ hΨ hΨ') | (refine evC_region ?_; intro R hR) | (refine hΨ _ ?_; clear hΨ hΨ' Ψ) | refine evC_skip ?_ | refine evC_ret ?_ | refine evC_exit ?_) | ((with_reducible refine hΨ' _ _ ?_ ?_); (focus (simp; done)); clear hΨ hΨ' Ψ) | ((with_reducible apply evL_unmet); rfl; rfl; rfl; (try simp only [go_sem])) | ((with_reducible apply evL_grd); rfl; rfl; rfl; all_goals (intro hb; first | (cases hb; done) | ((try simp only [Bool.not_true, Bool.not_false] at hb); (first | ((with_reducible intro K hK); simp only [go_sem]; ((repeat (refine ndI (by first | assumption | omega | rfl) ?_)); refine hK _ ?_; clear hK K)) | ((fail_if_success (with_reducible intro _)); simp only [go_sem]))))) | ((with_reducible apply evC_cond); rfl; rfl; all_goals (intro hc; first | (cases hc; done) | (try simp only at hc))))))
  refine evC_loop (α := { p : Nat × Nat × Bool // p.1 ≤ l.length ∧ p.2.1 = (l.take p.1).sum % WW ∧ p.2.2 = decide (WW ≤ (l.take p.1).sum) }) (fun p => ⟨[wsl ex l, .any, .ptr 2 0, .any, .ptr 4 0, vb p.1.2.2, .any, .any, .any, .any, wsl ex l, vi .i64 l.length, vi .i64 p.1.1, .any, .any, .any, .any, .any, .any, .any, .any, .any, .any, .any, .any, .any, .any, .any, .any, .any], [(2, [vi .u64 0, vi .u64 0, vi .u64 0, vi .u64 0]), (4, [vi .u64 (l0 p.1.2.1), vi .u64 (l1 p.1.2.1), vi .u64 (l2 p.1.2.1), vi .u64 (l3 p.1.2.1)])]⟩) (fun p => l.length - p.1.1) ⟨(0, 0, false), Nat.zero_le _, by simp, by simp [WW]⟩ (St.le_of (by simp [leT]) (by simp [leH, hget, l0_zero, l1_zero, l2_zero, l3_zero])) ?_
  rintro ⟨⟨i, n, q⟩, hi, hn, hq⟩ Ψ hΨ hΨ'
  dsimp only at hi hn hq hΨ ⊢
  rcases Nat.lt_or_ge i l.length with hlt | hge
  · obtain ⟨y, hy⟩ : ∃ y, l[i]? = some y := ⟨l[i], List.getElem?_eq_getElem hlt⟩
    have k1 : (decide ((i : Int) < (l.length : Int))) = true := by simpa using hlt
    have k2 := wsl_at hy
    have k7 : (i : Int) + 1 = ((i + 1 : Nat) : Int) := by omega
    have hnw : n < WW := by rw [hn]; exact Nat.mod_lt _ hW
    have hyw := hw y (List.mem_of_getElem? hy)
    have ad := add_fn n y hnw hyw
    have hs : (l.take (i + 1)).sum = (l.take i).sum + y := by rw [List.take_add_one, hy]; simp
    have h1 : (n + y) % WW = (l.take (i + 1)).sum % WW := by rw [hs, hn, Nat.add_mod]; simp
    have h2 : (q || decide (WW ≤ n + y)) = decide (WW ≤ (l.take (i + 1)).sum) := by
      rw [Bool.eq_iff_iff, hq, hs]
      simp only [Bool.or_eq_true, decide_eq_true_eq]
      rcases Nat.lt_or_ge (l.take i).sum WW with h | h
      · rw [hn, Nat.mod_eq_of_lt h]; omega
      · omega
    obtain ⟨m, hm⟩ : ∃ m, (n + y) % WW = m := ⟨_, rfl⟩
    obtain ⟨b, hb⟩ : ∃ b, decide (WW ≤ n + y) = b := ⟨_, rfl⟩
    rw [hm, hb] at ad
    rw [hm] at h1
    rw [hb] at h2
    cases q with
    | true =>
      (have W := ndI k1 (ndI k2 (ndI k7 @wrI)); (repeat (any_goals (first | ((with_reducible refine evL_call ?_ ?_ ?_); rfl; rfl; intro K hK; ((apply opA_callB (ad); rfl; rfl; rfl; rfl; exact Try.func22); kernel_rfl; rfl; (simp (disch := omega) only [go_sem, W]; rfl); (first | rfl | simp [AV.inNL, AV.inN])); (simp (disch := omega) only [go_sem, W]; refine hK _ ?_; clear hK K)) | ((with_reducible refine evL_one ?_ ?_); rfl; intro K hK; simp (disch := omega) only [go_sem, W]; ((repeat (refine ndI (by first | assumption | omega | rfl) ?_)); refine hK _ ?_; clear hK K)) | (with_reducible first | (refine evL_nil ?_; refine hR _ ?_; clear hR R) | ((first | refine evC_seq ?_ | refine evC_block ?_); intro Ψ hΨ hΨ') | (refine evC_region ?_; intro R hR) | (refine hΨ _ ?_; clear hΨ hΨ' Ψ) | refine evC_skip ?_ | refine evC_ret ?_ | refine evC_exit ?_) | ((with_reducible refine hΨ' _ _ ?_ ?_); (focus (simp; done)); clear hΨ hΨ' Ψ) | ((with_reducible apply evL_unmet); rfl; rfl; rfl; (try simp (disch := omega) only [go_sem, W])) | ((with_reducible apply evL_grd); rfl; rfl; rfl; all_goals (intro hb; first | (cases hb; done) | ((try simp only [Bool.not_true, Bool.not_false] at hb); (first | ((with_reducible intro K hK); simp (disch := omega) only [go_sem, W]; ((repeat (refine ndI (by first | assumption | omega | rfl) ?_)); refine hK _ ?_; clear hK K)) | ((fail_if_success (with_reducible intro _)); simp (disch := omega) only [go_sem, W]))))) | ((with_reducible apply evC_cond); rfl; rfl; all_goals (intro hc; first | (cases hc; done) | (try simp only at hc)))))))
      exact hΨ _ ⟨(i + 1, m, true), hlt, h1, by simpa using h2⟩ (by simp only; omega) (St.le_of (by simp [leT]) (by simp [leH, hget]))
    | false =>
      (have W := ndI k1 (ndI k2 (ndI k7 @wrI)); (repeat (any_goals (first | ((with_reducible refine evL_call ?_ ?_ ?_); rfl; rfl; intro K hK; ((apply opA_callB (ad); rfl; rfl; rfl; rfl; exact Try.func22); kernel_rfl; rfl; (simp (disch := omega) only [go_sem, W]; rfl); (first | rfl | simp [AV.inNL, AV.inN])); (simp (disch := omega) only [go_sem, W]; refine hK _ ?_; clear hK K)) | ((with_reducible refine evL_one ?_ ?_); rfl; intro K hK; simp (disch := omega) only [go_sem, W]; ((repeat (refine ndI (by first | assumption | omega | rfl) ?_)); refine hK _ ?_; clear hK K)) | (with_reducible first | (refine evL_nil ?_; refine hR _ ?_; clear hR R) | ((first | refine evC_seq ?_ | refine evC_block ?_); intro Ψ hΨ hΨ') | (refine evC_region ?_; intro R hR) | (refine hΨ _ ?_; clear hΨ hΨ' Ψ) | refine evC_skip ?_ | refine evC_ret ?_ | refine evC_exit ?_) | ((with_reducible refine hΨ' _ _ ?_ ?_); (focus (simp; done)); clear hΨ hΨ' Ψ) | ((with_reducible apply evL_unmet); rfl; rfl; rfl; (try simp (disch := omega) only [go_sem, W])) | ((with_reducible apply evL_grd); rfl; rfl; rfl; all_goals (intro hb; first | (cases hb; done) | ((try simp only [Bool.not_true, Bool.not_false] at hb); (first | ((with_reducible intro K hK); simp (disch := omega) only [go_sem, W]; ((repeat (refine ndI (by first | assumption | omega | rfl) ?_)); refine hK _ ?_; clear hK K)) | ((fail_if_success (with_reducible intro _)); simp (disch := omega) only [go_sem, W]))))) | ((with_reducible apply evC_cond); rfl; rfl; all_goals (intro hc; first | (cases hc; done) | (try simp only at hc)))))))
      exact hΨ _ ⟨(i + 1, m, b), hlt, h1, by simpa using h2⟩ (by simp only; omega) (St.le_of (by simp [leT]) (by simp [leH, hget]))
  · have k1 : (decide ((i : Int) < (l.length : Int))) = false := by simpa using hge
    have e : l.take i = l := List.take_of_length_le hge
    rw [e, htn] at hn
    rw [e, htq] at hq
    rw [hn, hq]
    (repeat (any_goals (first | ((with_reducible refine evL_one ?_ ?_); rfl; intro K hK; simp only [go_sem, k1]; ((repeat (refine ndI (by first | assumption | omega | rfl) ?_)); refine hK _ ?_; clear hK K)) | (with_reducible first | (refine evL_nil ?_; refine hR _ ?_; clear hR R) | ((first | refine evC_seq ?_ | refine evC_block ?_); intro Ψ hΨ hΨ') | (refine evC_region ?_; intro R hR) | (refine hΨ _ ?_; clear hΨ hΨ' Ψ) | refine evC_skip ?_ | refine evC_ret ?_ | refine evC_exit ?_) | ((with_reducible refine hΨ' _ _ ?_ ?_); (focus (simp; done)); clear hΨ hΨ' Ψ) | ((with_reducible apply evL_unmet); rfl; rfl; rfl; (try simp only [go_sem, k1])) | ((with_reducible apply evL_grd); rfl; rfl; rfl; all_goals (intro hb; first | (cases hb; done) | ((try simp only [Bool.not_true, Bool.not_false] at hb); (first | ((with_reducible intro K hK); simp only [go_sem, k1]; ((repeat (refine ndI (by first | assumption | omega | rfl) ?_)); refine hK _ ?_; clear hK K)) | ((fail_if_success (with_reducible intro _)); simp only [go_sem, k1]))))) | ((with_reducible apply evC_cond); rfl; rfl; all_goals (intro hc; first | (cases hc; done) | (try simp only at hc))))))
    all_goals (refine ⟨by simp, ⟨_, ?_, AV.le_refl _⟩, leH_get (by simp [leH, hget])⟩; simp only [Try.results78, resL, ldA, oneOf, go_sem])
end Go.Proofs.Ytiggambibcohcaa

