/-
  Which ledgers may be; an address's row; reckoned.
-/
import Derived.Test.YtmibmodibicibaaLc
namespace Go.Proofs.Ytmibmodibicibaa
open Go.RowKit
open Nat (reduceBEq)
set_option linter.unusedVariables false
set_option linter.unusedSimpArgs false
set_option maxRecDepth 20000
set_option maxHeartbeats 2000000
def lastA (l : List Hd) : Nat → Int
  | 0 => 0
  | i + 1 => match l[i]? with | some y => y.a | none => 0
def okR (l : List Hd) (i : Nat) : Bool := match l[i]? with | some y => rightH y && decide (lastA l i < y.a) | none => false
def okU (l : List Hd) : Nat → Bool
  | 0 => true
  | i + 1 => okU l i && okR l i
def okL (l : List Hd) : Bool := decide (l.length ≤ 24) && (okU l l.length && decide (tot l < WW))
theorem okU_false {l : List Hd} {i n : Nat} (h : okR l i = false) (hi : i < n) : okU l n = false := by
  induction n with
  | zero => omega
  | succ n ih =>
    unfold okU
    rcases Nat.lt_or_ge i n with h1 | h1
    · rw [ih h1]; rfl
    · obtain rfl : i = n := by omega
      rw [h, Bool.and_false]
theorem check_fn (ex : Bool) (l : List Hd) (hl : l.length ≤ maxLen) (ok : ∀ h ∈ l, h.ok) : Fn Try.prog 12 [lg ex l] [] (vi .i64 (if okL l then 0 else 170)) [] := by
  unfold maxLen at hl
  by_cases h24 : l.length ≤ 24
  · have e0 : (decide ((l.length : Int) > 24)) = false := by simp; omega
    have al := all_nil ex l (by omega) ok
    have hq : (decide (WW ≤ tot l)) = !decide (tot l < WW) := by
      rw [Bool.eq_iff_iff]; simp
    rw [hq] at al
    have hres : okL l = (okU l l.length && decide (tot l < WW)) := by unfold okL; rw [decide_eq_true h24, Bool.true_and]
    rw [hres]
    obtain ⟨tn, htn⟩ : ∃ n, tot l % WW = n := ⟨_, rfl⟩
    obtain ⟨tq, htq⟩ : ∃ q, decide (tot l < WW) = q := ⟨_, rfl⟩
    obtain ⟨tu, htu⟩ : ∃ q, okU l l.length = q := ⟨_, rfl⟩
    rw [htn, htq] at al
    rw [htq, htu]
    (refine fn_of Try.func12 rfl (by rfl) ?_; simp only [Try.ntmps12, List.length_cons, List.length_nil, Nat.reduceAdd, Nat.reduceSub, List.replicate, List.cons_append, List.nil_append])
    (repeat (any_goals (first | ((with_reducible refine evL_one ?_ ?_); rfl; intro K hK; simp only [go_sem, e0]; ((repeat (refine ndI (by first | assumption | omega | rfl) ?_)); refine hK _ ?_; clear hK K)) | (with_reducible first | (refine evL_nil ?_; refine hR _ ?_; clear hR R) | ((first | refine evC_seq ?_ | refine evC_block ?_); intro Ψ hΨ hΨ') | (refine evC_region ?_; intro R hR) | (refine hΨ _ ?_; clear hΨ hΨ' Ψ) | refine evC_skip ?_ | refine evC_ret ?_ | refine evC_exit ?_) | ((with_reducible refine hΨ' _ _ ?_ ?_); (focus (simp; done)); clear hΨ hΨ' Ψ) | ((with_reducible apply evL_unmet); rfl; rfl; rfl; (try simp only [go_sem, e0])) | ((with_reducible apply evL_grd); rfl; rfl; rfl; all_goals (intro hb; first | (cases hb; done) | ((try simp only [Bool.not_true, Bool.not_false] at hb); (first | ((with_reducible intro K hK); simp only [go_sem, e0]; ((repeat (refine ndI (by first | assumption | omega | rfl) ?_)); refine hK _ ?_; clear hK K)) | ((fail_if_success (with_reducible intro _)); simp only [go_sem, e0]))))) | ((with_reducible apply evC_cond); rfl; rfl; all_goals (intro hc; first | (cases hc; done) | (try simp only at hc))))))
    refine evC_loop (α := { i : Nat // i ≤ l.length ∧ okU l i = true }) (fun p => ⟨[.any, .ptr 1 0, .any, vi .u64 (lastA l p.1), .any, .any, .any, .any, .any, .any, .any, .any, .any, hsl ex l, vi .i64 l.length, vi .i64 p.1, .any, .any, .any, .any, .any, .any, .any, .any, .any, .any, .any, .any, .any, .any, .any, .any, .any, .any, .any, .any, .any], [(1, [hsl ex l])]⟩) (fun p => l.length - p.1) ⟨0, Nat.zero_le _, rfl⟩ (St.le_of (by simp [leT, lastA]) (by simp [leH, hget])) ?_
    rintro ⟨i, hi, hu⟩ Ψ hΨ hΨ'
    dsimp only at hi hu hΨ ⊢
    rcases Nat.lt_or_ge i l.length with hlt | hge
    · obtain ⟨y, hy⟩ : ∃ y, l[i]? = some y := ⟨l[i], List.getElem?_eq_getElem hlt⟩
      have k1 : (decide ((i : Int) < (l.length : Int))) = true := by simpa using hlt
      have k2 := hsl_at hy
      have k7 : (i : Int) + 1 = ((i + 1 : Nat) : Int) := by omega
      obtain ⟨_, op, os, _, _⟩ := ok y (List.mem_of_getElem? hy)
      have rf := right_fn y.a y.p y.s y.d y.f op os
      have hR : okR l i = (rightH y && decide (lastA l i < y.a)) := by unfold okR; rw [hy]
      have hnx : lastA l (i + 1) = y.a := by simp only [lastA, hy]
      have hnu : okR l i = true → okU l (i + 1) = true := fun h => by unfold okU; rw [hu, h]; rfl
      have hno : okR l i = false → tu = false := fun h => by rw [← htu]; exact okU_false h hlt
      rw [show (⟨y.a, y.p, y.s, y.d, y.f⟩ : Hd) = y from rfl] at rf
      rw [hR] at hnu hno
      generalize rightH y = rq at rf hnu hno
      have hle : (decide (lastA l i < y.a)) = !decide (y.a ≤ lastA l i) := by
        rw [Bool.eq_iff_iff]; simp
      rw [hle] at hnu hno
      obtain ⟨lq, hlb⟩ : ∃ lq, decide (y.a ≤ lastA l i) = lq := ⟨_, rfl⟩
      rw [hlb] at hnu hno
      clear hR hle
      cases rq with
      | false =>
        (have W := ndI k1 (ndI k2 (ndI k7 @wrI)); (repeat (any_goals (first | ((with_reducible refine evL_call ?_ ?_ ?_); rfl; rfl; intro K hK; ((apply opA_callB (rf); rfl; rfl; rfl; rfl; exact Try.func30); kernel_rfl; rfl; (simp (disch := omega) only [go_sem, W, hlb]; rfl); (first | rfl | simp [AV.inNL, AV.inN])); (simp (disch := omega) only [go_sem, W, hlb]; refine hK _ ?_; clear hK K)) | ((with_reducible refine evL_one ?_ ?_); rfl; intro K hK; simp (disch := omega) only [go_sem, W, hlb]; ((repeat (refine ndI (by first | assumption | omega | rfl) ?_)); refine hK _ ?_; clear hK K)) | (with_reducible first | (refine evL_nil ?_; refine hR _ ?_; clear hR R) | ((first | refine evC_seq ?_ | refine evC_block ?_); intro Ψ hΨ hΨ') | (refine evC_region ?_; intro R hR) | (refine hΨ _ ?_; clear hΨ hΨ' Ψ) | refine evC_skip ?_ | refine evC_ret ?_ | refine evC_exit ?_) | ((with_reducible refine hΨ' _ _ ?_ ?_); (focus (simp; done)); clear hΨ hΨ' Ψ) | ((with_reducible apply evL_unmet); rfl; rfl; rfl; (try simp (disch := omega) only [go_sem, W, hlb])) | ((with_reducible apply evL_grd); rfl; rfl; rfl; all_goals (intro hb; first | (cases hb; done) | ((try simp only [Bool.not_true, Bool.not_false] at hb); (first | ((with_reducible intro K hK); simp (disch := omega) only [go_sem, W, hlb]; ((repeat (refine ndI (by first | assumption | omega | rfl) ?_)); refine hK _ ?_; clear hK K)) | ((fail_if_success (with_reducible intro _)); simp (disch := omega) only [go_sem, W, hlb]))))) | ((with_reducible apply evC_cond); rfl; rfl; all_goals (intro hc; first | (cases hc; done) | (try simp only at hc)))))))
        all_goals (refine ⟨by simp, ⟨_, ?_, AV.le_refl _⟩, leH_get (by simp [leH, hget])⟩; simp only [Try.results12, resL, ldA, oneOf, go_sem])
        all_goals rw [hno rfl]
        all_goals rfl
      | true =>
        cases lq with
        | true =>
          (have W := ndI k1 (ndI k2 (ndI k7 @wrI)); (repeat (any_goals (first | ((with_reducible refine evL_call ?_ ?_ ?_); rfl; rfl; intro K hK; ((apply opA_callB (rf); rfl; rfl; rfl; rfl; exact Try.func30); kernel_rfl; rfl; (simp (disch := omega) only [go_sem, W, hlb]; rfl); (first | rfl | simp [AV.inNL, AV.inN])); (simp (disch := omega) only [go_sem, W, hlb]; refine hK _ ?_; clear hK K)) | ((with_reducible refine evL_one ?_ ?_); rfl; intro K hK; simp (disch := omega) only [go_sem, W, hlb]; ((repeat (refine ndI (by first | assumption | omega | rfl) ?_)); refine hK _ ?_; clear hK K)) | (with_reducible first | (refine evL_nil ?_; refine hR _ ?_; clear hR R) | ((first | refine evC_seq ?_ | refine evC_block ?_); intro Ψ hΨ hΨ') | (refine evC_region ?_; intro R hR) | (refine hΨ _ ?_; clear hΨ hΨ' Ψ) | refine evC_skip ?_ | refine evC_ret ?_ | refine evC_exit ?_) | ((with_reducible refine hΨ' _ _ ?_ ?_); (focus (simp; done)); clear hΨ hΨ' Ψ) | ((with_reducible apply evL_unmet); rfl; rfl; rfl; (try simp (disch := omega) only [go_sem, W, hlb])) | ((with_reducible apply evL_grd); rfl; rfl; rfl; all_goals (intro hb; first | (cases hb; done) | ((try simp only [Bool.not_true, Bool.not_false] at hb); (first | ((with_reducible intro K hK); simp (disch := omega) only [go_sem, W, hlb]; ((repeat (refine ndI (by first | assumption | omega | rfl) ?_)); refine hK _ ?_; clear hK K)) | ((fail_if_success (with_reducible intro _)); simp (disch := omega) only [go_sem, W, hlb]))))) | ((with_reducible apply evC_cond); rfl; rfl; all_goals (intro hc; first | (cases hc; done) | (try simp only at hc)))))))
          all_goals (refine ⟨by simp, ⟨_, ?_, AV.le_refl _⟩, leH_get (by simp [leH, hget])⟩; simp only [Try.results12, resL, ldA, oneOf, go_sem])
          all_goals rw [hno rfl]
          all_goals rfl
        | false =>
          (have W := ndI k1 (ndI k2 (ndI k7 @wrI)); (repeat (any_goals (first | ((with_reducible refine evL_call ?_ ?_ ?_); rfl; rfl; intro K hK; ((apply opA_callB (rf); rfl; rfl; rfl; rfl; exact Try.func30); kernel_rfl; rfl; (simp (disch := omega) only [go_sem, W, hlb]; rfl); (first | rfl | simp [AV.inNL, AV.inN])); (simp (disch := omega) only [go_sem, W, hlb]; refine hK _ ?_; clear hK K)) | ((with_reducible refine evL_one ?_ ?_); rfl; intro K hK; simp (disch := omega) only [go_sem, W, hlb]; ((repeat (refine ndI (by first | assumption | omega | rfl) ?_)); refine hK _ ?_; clear hK K)) | (with_reducible first | (refine evL_nil ?_; refine hR _ ?_; clear hR R) | ((first | refine evC_seq ?_ | refine evC_block ?_); intro Ψ hΨ hΨ') | (refine evC_region ?_; intro R hR) | (refine hΨ _ ?_; clear hΨ hΨ' Ψ) | refine evC_skip ?_ | refine evC_ret ?_ | refine evC_exit ?_) | ((with_reducible refine hΨ' _ _ ?_ ?_); (focus (simp; done)); clear hΨ hΨ' Ψ) | ((with_reducible apply evL_unmet); rfl; rfl; rfl; (try simp (disch := omega) only [go_sem, W, hlb])) | ((with_reducible apply evL_grd); rfl; rfl; rfl; all_goals (intro hb; first | (cases hb; done) | ((try simp only [Bool.not_true, Bool.not_false] at hb); (first | ((with_reducible intro K hK); simp (disch := omega) only [go_sem, W, hlb]; ((repeat (refine ndI (by first | assumption | omega | rfl) ?_)); refine hK _ ?_; clear hK K)) | ((fail_if_success (with_reducible intro _)); simp (disch := omega) only [go_sem, W, hlb]))))) | ((with_reducible apply evC_cond); rfl; rfl; all_goals (intro hc; first | (cases hc; done) | (try simp only at hc)))))))
          exact hΨ _ ⟨i + 1, hlt, hnu rfl⟩ (by simp only; omega) (St.le_of (by simp [leT, hnx]) (by simp [leH, hget]))
    · have k1 : (decide ((i : Int) < (l.length : Int))) = false := by simpa using hge
      have htu' : tu = true := by rw [← htu, ← hu]; congr 1; omega
      (repeat (any_goals (first | ((with_reducible refine evL_call ?_ ?_ ?_); rfl; rfl; intro K hK; ((apply opA_callB (al); rfl; rfl; rfl; rfl; exact Try.func31); kernel_rfl; rfl; (simp only [go_sem, k1]; rfl); (first | rfl | simp [AV.inNL, AV.inN])); (simp only [go_sem, k1]; refine hK _ ?_; clear hK K)) | ((with_reducible refine evL_one ?_ ?_); rfl; intro K hK; simp only [go_sem, k1]; ((repeat (refine ndI (by first | assumption | omega | rfl) ?_)); refine hK _ ?_; clear hK K)) | (with_reducible first | (refine evL_nil ?_; refine hR _ ?_; clear hR R) | ((first | refine evC_seq ?_ | refine evC_block ?_); intro Ψ hΨ hΨ') | (refine evC_region ?_; intro R hR) | (refine hΨ _ ?_; clear hΨ hΨ' Ψ) | refine evC_skip ?_ | refine evC_ret ?_ | refine evC_exit ?_) | ((with_reducible refine hΨ' _ _ ?_ ?_); (focus (simp; done)); clear hΨ hΨ' Ψ) | ((with_reducible apply evL_unmet); rfl; rfl; rfl; (try simp only [go_sem, k1])) | ((with_reducible apply evL_grd); rfl; rfl; rfl; all_goals (intro hb; first | (cases hb; done) | ((try simp only [Bool.not_true, Bool.not_false] at hb); (first | ((with_reducible intro K hK); simp only [go_sem, k1]; ((repeat (refine ndI (by first | assumption | omega | rfl) ?_)); refine hK _ ?_; clear hK K)) | ((fail_if_success (with_reducible intro _)); simp only [go_sem, k1]))))) | ((with_reducible apply evC_cond); rfl; rfl; all_goals (intro hc; first | (cases hc; done) | (try simp only at hc))))))
      all_goals (refine ⟨by simp, ⟨_, ?_, AV.le_refl _⟩, leH_get (by simp [leH, hget])⟩; simp only [Try.results12, resL, ldA, oneOf, go_sem])
      all_goals rw [htu']
      all_goals simp_all
  · have e0 : (decide ((l.length : Int) > 24)) = true := by simp; omega
    have hres : okL l = false := by unfold okL; rw [decide_eq_false h24]; rfl
    rw [hres]
    (refine fn_of Try.func12 rfl (by rfl) ?_; simp only [Try.ntmps12, List.length_cons, List.length_nil, Nat.reduceAdd, Nat.reduceSub, List.replicate, List.cons_append, List.nil_append])
    (repeat (any_goals (first | ((with_reducible refine evL_one ?_ ?_); rfl; intro K hK; simp only [go_sem, e0]; ((repeat (refine ndI (by first | assumption | omega | rfl) ?_)); refine hK _ ?_; clear hK K)) | (with_reducible first | (refine evL_nil ?_; refine hR _ ?_; clear hR R) | ((first | refine evC_seq ?_ | refine evC_block ?_); intro Ψ hΨ hΨ') | (refine evC_region ?_; intro R hR) | (refine hΨ _ ?_; clear hΨ hΨ' Ψ) | refine evC_skip ?_ | refine evC_ret ?_ | refine evC_exit ?_) | ((with_reducible refine hΨ' _ _ ?_ ?_); (focus (simp; done)); clear hΨ hΨ' Ψ) | ((with_reducible apply evL_unmet); rfl; rfl; rfl; (try simp only [go_sem, e0])) | ((with_reducible apply evL_grd); rfl; rfl; rfl; all_goals (intro hb; first | (cases hb; done) | ((try simp only [Bool.not_true, Bool.not_false] at hb); (first | ((with_reducible intro K hK); simp only [go_sem, e0]; ((repeat (refine ndI (by first | assumption | omega | rfl) ?_)); refine hK _ ?_; clear hK K)) | ((fail_if_success (with_reducible intro _)); simp only [go_sem, e0]))))) | ((with_reducible apply evC_cond); rfl; rfl; all_goals (intro hc; first | (cases hc; done) | (try simp only at hc))))))
    all_goals (refine ⟨by simp, ⟨_, ?_, AV.le_refl _⟩, leH_get (by simp [leH, hget])⟩; simp only [Try.results12, resL, ldA, oneOf, go_sem])
    all_goals rfl
end Go.Proofs.Ytmibmodibicibaa
