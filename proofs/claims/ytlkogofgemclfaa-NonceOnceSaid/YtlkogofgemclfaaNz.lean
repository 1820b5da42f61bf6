/-
  What comes of nonces by the document, reckoned.
-/
import Derived.Test.YtlkogofgemclfaaPs
import Derived.Test.YtlkogofgemclfaaNs
namespace Go.Proofs.Ytlkogofgemclfaa
open Go.RowKit
open Nat (reduceBEq)
set_option linter.unusedVariables false
set_option linter.unusedSimpArgs false
set_option maxRecDepth 20000
set_option maxHeartbeats 2000000
def insR (o : N6) : List N6 → Bool → List N6
  | [], laid => if laid then [] else [o]
  | n :: l, laid => if mtK o.a o.b o.c o.d o.e n then insR o l laid else if !laid && decide (o.rk < n.rk) then o :: n :: insR o l true else n :: insR o l laid
theorem refuse0_fn (ex : Bool) (l : List N6) (hl : l.length ≤ 4611686018427387904) (b c d s : Int) : Fn Try.prog 14 [nsl ex l, vi .u64 0, w4 s b c d] [] (.tup [.c (.v (.slice none 0 0)), vi .i64 2]) [] := by
  (refine fn_of Try.func14 rfl (by rfl) ?_; simp only [Try.ntmps14, List.length_cons, List.length_nil, Nat.reduceAdd, Nat.reduceSub, List.replicate, List.cons_append, List.nil_append])
  (repeat (any_goals (first | ((with_reducible refine evL_call ?_ ?_ ?_); rfl; rfl; intro K hK; ((first | (apply opA_callB (refsplit_fn s b c d); rfl; rfl; rfl; rfl; exact Try.func17) | (apply opA_callB (refnext_fn ex l hl 0 b c d 0); rfl; rfl; rfl; rfl; exact Try.func31)); kernel_rfl; rfl; (simp only [go_sem, bne_self_eq_false, eq_self]; rfl); (first | rfl | simp [AV.inNL, AV.inN])); (simp only [go_sem, bne_self_eq_false, eq_self]; refine hK _ ?_; clear hK K)) | ((with_reducible refine evL_one ?_ ?_); rfl; intro K hK; simp only [go_sem, bne_self_eq_false, eq_self]; ((repeat (refine ndI (by first | assumption | omega | rfl) ?_)); refine hK _ ?_; clear hK K)) | (with_reducible first | (refine evL_nil ?_; refine hR _ ?_; clear hR R) | ((first | refine evC_seq ?_ | refine evC_block ?_); intro Ψ hΨ hΨ') | (refine evC_region ?_; intro R hR) | (refine hΨ _ ?_; clear hΨ hΨ' Ψ) | refine evC_skip ?_ | refine evC_ret ?_ | refine evC_exit ?_) | ((with_reducible refine hΨ' _ _ ?_ ?_); (focus (simp; done)); clear hΨ hΨ' Ψ) | ((with_reducible apply evL_unmet); rfl; rfl; rfl; (try simp only [go_sem, bne_self_eq_false, eq_self])) | ((with_reducible apply evL_grd); rfl; rfl; rfl; all_goals (intro hb; first | (cases hb; done) | ((try simp only [Bool.not_true, Bool.not_false] at hb); (first | ((with_reducible intro K hK); simp only [go_sem, bne_self_eq_false, eq_self]; ((repeat (refine ndI (by first | assumption | omega | rfl) ?_)); refine hK _ ?_; clear hK K)) | ((fail_if_success (with_reducible intro _)); simp only [go_sem, bne_self_eq_false, eq_self]))))) | ((with_reducible apply evC_cond); rfl; rfl; all_goals (intro hc; first | (cases hc; done) | (try simp only at hc))))))
  all_goals (refine ⟨by simp, ⟨_, ?_, AV.le_refl _⟩, leH_get (by simp [leH, hget])⟩; simp only [Try.results14, resL, ldA, oneOf, go_sem])
theorem refuse1_fn (ex : Bool) (l : List N6) (hl : l.length ≤ 4611686018427387904) (a b c d s : Int) (ha : (a == 0) = false) (hs : (s != nextL l a b c d 0) = true) : Fn Try.prog 14 [nsl ex l, vi .u64 a, w4 s b c d] [] (.tup [.c (.v (.slice none 0 0)), vi .i64 181]) [] := by
  (refine fn_of Try.func14 rfl (by rfl) ?_; simp only [Try.ntmps14, List.length_cons, List.length_nil, Nat.reduceAdd, Nat.reduceSub, List.replicate, List.cons_append, List.nil_append])
  (repeat (any_goals (first | ((with_reducible refine evL_call ?_ ?_ ?_); rfl; rfl; intro K hK; ((first | (apply opA_callB (refsplit_fn s b c d); rfl; rfl; rfl; rfl; exact Try.func17) | (apply opA_callB (refnext_fn ex l hl a b c d 0); rfl; rfl; rfl; rfl; exact Try.func31)); kernel_rfl; rfl; (simp only [go_sem, ha, hs, bne_self_eq_false, eq_self]; rfl); (first | rfl | simp [AV.inNL, AV.inN])); (simp only [go_sem, ha, hs, bne_self_eq_false, eq_self]; refine hK _ ?_; clear hK K)) | ((with_reducible refine evL_one ?_ ?_); rfl; intro K hK; simp only [go_sem, ha, hs, bne_self_eq_false, eq_self]; ((repeat (refine ndI (by first | assumption | omega | rfl) ?_)); refine hK _ ?_; clear hK K)) | (with_reducible first | (refine evL_nil ?_; refine hR _ ?_; clear hR R) | ((first | refine evC_seq ?_ | refine evC_block ?_); intro Ψ hΨ hΨ') | (refine evC_region ?_; intro R hR) | (refine hΨ _ ?_; clear hΨ hΨ' Ψ) | refine evC_skip ?_ | refine evC_ret ?_ | refine evC_exit ?_) | ((with_reducible refine hΨ' _ _ ?_ ?_); (focus (simp; done)); clear hΨ hΨ' Ψ) | ((with_reducible apply evL_unmet); rfl; rfl; rfl; (try simp only [go_sem, ha, hs, bne_self_eq_false, eq_self])) | ((with_reducible apply evL_grd); rfl; rfl; rfl; all_goals (intro hb; first | (cases hb; done) | ((try simp only [Bool.not_true, Bool.not_false] at hb); (first | ((with_reducible intro K hK); simp only [go_sem, ha, hs, bne_self_eq_false, eq_self]; ((repeat (refine ndI (by first | assumption | omega | rfl) ?_)); refine hK _ ?_; clear hK K)) | ((fail_if_success (with_reducible intro _)); simp only [go_sem, ha, hs, bne_self_eq_false, eq_self]))))) | ((with_reducible apply evC_cond); rfl; rfl; all_goals (intro hc; first | (cases hc; done) | (try simp only at hc))))))
  all_goals (refine ⟨by simp, ⟨_, ?_, AV.le_refl _⟩, leH_get (by simp [leH, hget])⟩; simp only [Try.results14, resL, ldA, oneOf, go_sem])
theorem refuse2_fn (ex : Bool) (l : List N6) (hl : l.length ≤ 4611686018427387904) (a b c d s : Int) (ha : (a == 0) = false) (hs : nextL l a b c d 0 = s) (h : s = 18446744073709551615 ∨ s = 0 ∧ (l.length : Int) = 48) : Fn Try.prog 14 [nsl ex l, vi .u64 a, w4 s b c d] [] (.tup [.c (.v (.slice none 0 0)), vi .i64 6]) [] := by
  have hn := refnext_fn ex l hl a b c d 0
  rw [hs] at hn
  rcases h with rfl | ⟨rfl, h⟩
  · (refine fn_of Try.func14 rfl (by rfl) ?_; simp only [Try.ntmps14, List.length_cons, List.length_nil, Nat.reduceAdd, Nat.reduceSub, List.replicate, List.cons_append, List.nil_append])
    (repeat (any_goals (first | ((with_reducible refine evL_call ?_ ?_ ?_); rfl; rfl; intro K hK; ((first | (apply opA_callB (refsplit_fn _ b c d); rfl; rfl; rfl; rfl; exact Try.func17) | (apply opA_callB (hn); rfl; rfl; rfl; rfl; exact Try.func31)); kernel_rfl; rfl; (simp only [go_sem, ha, bne_self_eq_false, eq_self, Int.reduceBEq]; rfl); (first | rfl | simp [AV.inNL, AV.inN])); (simp only [go_sem, ha, bne_self_eq_false, eq_self, Int.reduceBEq]; refine hK _ ?_; clear hK K)) | ((with_reducible refine evL_one ?_ ?_); rfl; intro K hK; simp only [go_sem, ha, bne_self_eq_false, eq_self, Int.reduceBEq]; ((repeat (refine ndI (by first | assumption | omega | rfl) ?_)); refine hK _ ?_; clear hK K)) | (with_reducible first | (refine evL_nil ?_; refine hR _ ?_; clear hR R) | ((first | refine evC_seq ?_ | refine evC_block ?_); intro Ψ hΨ hΨ') | (refine evC_region ?_; intro R hR) | (refine hΨ _ ?_; clear hΨ hΨ' Ψ) | refine evC_skip ?_ | refine evC_ret ?_ | refine evC_exit ?_) | ((with_reducible refine hΨ' _ _ ?_ ?_); (focus (simp; done)); clear hΨ hΨ' Ψ) | ((with_reducible apply evL_unmet); rfl; rfl; rfl; (try simp only [go_sem, ha, bne_self_eq_false, eq_self, Int.reduceBEq])) | ((with_reducible apply evL_grd); rfl; rfl; rfl; all_goals (intro hb; first | (cases hb; done) | ((try simp only [Bool.not_true, Bool.not_false] at hb); (first | ((with_reducible intro K hK); simp only [go_sem, ha, bne_self_eq_false, eq_self, Int.reduceBEq]; ((repeat (refine ndI (by first | assumption | omega | rfl) ?_)); refine hK _ ?_; clear hK K)) | ((fail_if_success (with_reducible intro _)); simp only [go_sem, ha, bne_self_eq_false, eq_self, Int.reduceBEq]))))) | ((with_reducible apply evC_cond); rfl; rfl; all_goals (intro hc; first | (cases hc; done) | (try simp only at hc))))))
    all_goals (refine ⟨by simp, ⟨_, ?_, AV.le_refl _⟩, leH_get (by simp [leH, hget])⟩; simp only [Try.results14, resL, ldA, oneOf, go_sem])
  · (refine fn_of Try.func14 rfl (by rfl) ?_; simp only [Try.ntmps14, List.length_cons, List.length_nil, Nat.reduceAdd, Nat.reduceSub, List.replicate, List.cons_append, List.nil_append])
    (repeat (any_goals (first | ((with_reducible refine evL_call ?_ ?_ ?_); rfl; rfl; intro K hK; ((first | (apply opA_callB (refsplit_fn _ b c d); rfl; rfl; rfl; rfl; exact Try.func17) | (apply opA_callB (hn); rfl; rfl; rfl; rfl; exact Try.func31)); kernel_rfl; rfl; (simp only [go_sem, ha, h, bne_self_eq_false, eq_self, Int.reduceBEq]; rfl); (first | rfl | simp [AV.inNL, AV.inN])); (simp only [go_sem, ha, h, bne_self_eq_false, eq_self, Int.reduceBEq]; refine hK _ ?_; clear hK K)) | ((with_reducible refine evL_one ?_ ?_); rfl; intro K hK; simp only [go_sem, ha, h, bne_self_eq_false, eq_self, Int.reduceBEq]; ((repeat (refine ndI (by first | assumption | omega | rfl) ?_)); refine hK _ ?_; clear hK K)) | (with_reducible first | (refine evL_nil ?_; refine hR _ ?_; clear hR R) | ((first | refine evC_seq ?_ | refine evC_block ?_); intro Ψ hΨ hΨ') | (refine evC_region ?_; intro R hR) | (refine hΨ _ ?_; clear hΨ hΨ' Ψ) | refine evC_skip ?_ | refine evC_ret ?_ | refine evC_exit ?_) | ((with_reducible refine hΨ' _ _ ?_ ?_); (focus (simp; done)); clear hΨ hΨ' Ψ) | ((with_reducible apply evL_unmet); rfl; rfl; rfl; (try simp only [go_sem, ha, h, bne_self_eq_false, eq_self, Int.reduceBEq])) | ((with_reducible apply evL_grd); rfl; rfl; rfl; all_goals (intro hb; first | (cases hb; done) | ((try simp only [Bool.not_true, Bool.not_false] at hb); (first | ((with_reducible intro K hK); simp only [go_sem, ha, h, bne_self_eq_false, eq_self, Int.reduceBEq]; ((repeat (refine ndI (by first | assumption | omega | rfl) ?_)); refine hK _ ?_; clear hK K)) | ((fail_if_success (with_reducible intro _)); simp only [go_sem, ha, h, bne_self_eq_false, eq_self, Int.reduceBEq]))))) | ((with_reducible apply evC_cond); rfl; rfl; all_goals (intro hc; first | (cases hc; done) | (try simp only at hc))))))
    all_goals (refine ⟨by simp, ⟨_, ?_, AV.le_refl _⟩, leH_get (by simp [leH, hget])⟩; simp only [Try.results14, resL, ldA, oneOf, go_sem])
/-- at the loop's head: what is laid so far stands in the row r -/
abbrev stA (ex : Bool) (l : List N6) (a b c d s : Int) (r : Nat) (out : List N6) (laid : Bool) (i : Nat) : St := ⟨[nsl ex l, vi .u64 a, .any, .any, .any, .any, .any, .any, .ptr 8 0, .any, .any, .ptr 11 0, .row r 38 6 out.length, vb laid, .any, .any, .any, .any, .any, .any, .any, .any, .any, .any, .any, .any, .any, .any, .any, .any, .any, .any, .any, .any, .any, .any, .any, .any, .any, .any, .any, .any, .any, .any, .any, .any, .any, .any, .any, nsl ex l, vi .i64 l.length, vi .i64 i, .any, .any, .any, .any, .any, .any, .any, .any, .any, .any, .any, .any, .any, .any, .any, .any, .any, .any, .any, .any, .any, .any, .any, .any, .any, .any, .any, .any, .any, .any, .any, .any, .any, .any, .any, .any], [(8, [vi .u64 b, vi .u64 c, vi .u64 d, vi .u64 0]), (11, [vi .u64 a, vi .u64 b, vi .u64 c, vi .u64 d, vi .u64 0, vi .u64 (s + 1)]), (r, rcN out)]⟩
theorem stA_rn2 (ex : Bool) (l : List N6) (a b c d s : Int) (out : List N6) (laid : Bool) (i : Nat) : (stA ex l a b c d s 500 out laid i).to (stA ex l a b c d s 86 out laid i) := by
  have h := St.to.rn (σ := stA ex l a b c d s 500 out laid i) (fun r => if r = 500 then 86 else r) (fun r => if r = 86 then 500 else r) [8, 11, 500] (by simp [AV.inNL, AV.inN]) (by simp) (by simp [inH, AV.inNL, AV.inN]) (by simp) (by simp)
  simpa [AV.renL, AV.ren, renH] using h
theorem stA_rn (ex : Bool) (l : List N6) (a b c d s : Int) (out : List N6) (laid : Bool) (i : Nat) : (stA ex l a b c d s 79 out laid i).to (stA ex l a b c d s 500 out laid i) := by
  have h := St.to.rn (σ := stA ex l a b c d s 79 out laid i) (fun r => if r = 79 then 500 else r) (fun r => if r = 500 then 79 else r) [8, 11, 79] (by simp [AV.inNL, AV.inN]) (by simp) (by simp [inH, AV.inNL, AV.inN]) (by simp) (by simp)
  simpa [AV.renL, AV.ren, renH] using h
theorem insR_m {o y : N6} {l : List N6} {laid : Bool} (h : mtK o.a o.b o.c o.d o.e y) : insR o (y :: l) laid = insR o l laid := by
  rw [insR, if_pos h]
theorem insR_i {o y : N6} {l : List N6} (h : ¬ mtK o.a o.b o.c o.d o.e y) (hq : decide (o.rk < y.rk) = true) : insR o (y :: l) false = o :: y :: insR o l true := by
  rw [insR, if_neg h, if_pos (by simp [hq])]
theorem insR_k {o y : N6} {l : List N6} {laid : Bool} (h : ¬ mtK o.a o.b o.c o.d o.e y) (hq : laid = true ∨ decide (o.rk < y.rk) = false) : insR o (y :: l) laid = y :: insR o l laid := by
  rw [insR, if_neg h, if_neg (by rcases hq with hq | hq <;> simp [hq])]
theorem refuse3_fn (ex : Bool) (l : List N6) (hl : l.length ≤ 1000) (ok : ∀ n ∈ l, n.ok) (a b c d s : Int) (u0 : U a) (u1 : U b) (u2 : U c) (u3 : U d) (us : U s) (ha : (a == 0) = false) (hs : nextL l a b c d 0 = s) (h : s < 18446744073709551615) (h' : ¬ (s = 0 ∧ (l.length : Int) = 48)) :
    Fn Try.prog 14 [nsl ex l, vi .u64 a, w4 s b c d] [] (.tup [.row 86 38 6 (insR ⟨a, b, c, d, 0, s + 1⟩ l false).length, vi .i64 0]) [(86, rcN (insR ⟨a, b, c, d, 0, s + 1⟩ l false))] := by
  have hn := refnext_fn ex l (by omega) a b c d 0
  rw [hs] at hn
  obtain ⟨o, ho⟩ : ∃ o : N6, o = ⟨a, b, c, d, 0, s + 1⟩ := ⟨_, rfl⟩
  have oo : o.ok := by subst ho; exact ⟨u0, u1, u2, u3, ⟨Int.le_refl 0, by show (0 : Int) ≤ _; decide⟩, ⟨by have := us.1; show (0 : Int) ≤ s + 1; omega, by show s + 1 ≤ _; omega⟩⟩
  rw [← ho]
  have e1 : (s == 18446744073709551615) = false := by simp; omega
  have e2 : (s == 0 && ((l.length : Int) == 48)) = false := by
    cases hb : (s == 0 && ((l.length : Int) == 48)) with
    | false => rfl
    | true => simp only [Bool.and_eq_true, beq_iff_eq] at hb; exact absurd hb h'
  obtain ⟨tot, ht⟩ : ∃ t, insR o l false = t := ⟨_, rfl⟩
  rw [ht]
  have hw : IntKind.u64.wrap (s + 1) = s + 1 := wrU (by have := us.1; omega) (by omega)
  (refine fn_of Try.func14 rfl (by rfl) ?_; simp only [Try.ntmps14, List.length_cons, List.length_nil, Nat.reduceAdd, Nat.reduceSub, List.replicate, List.cons_append, List.nil_append])
  (repeat (any_goals (first | ((with_reducible refine evL_call ?_ ?_ ?_); rfl; rfl; intro K hK; ((first | (apply opA_callB (refsplit_fn s b c d); rfl; rfl; rfl; rfl; exact Try.func17) | (apply opA_callB (hn); rfl; rfl; rfl; rfl; exact Try.func31)); kernel_rfl; rfl; (simp only [go_sem, ha, e1, hw, bne_self_eq_false, eq_self, Int.reduceBEq]; rfl); (first | rfl | simp [AV.inNL, AV.inN])); (simp only [go_sem, ha, e1, hw, bne_self_eq_false, eq_self, Int.reduceBEq]; refine hK _ ?_; clear hK K)) | ((with_reducible refine evL_one ?_ ?_); rfl; intro K hK; simp only [go_sem, ha, e1, hw, bne_self_eq_false, eq_self, Int.reduceBEq]; ((repeat (refine ndI (by first | assumption | omega | rfl) ?_)); refine hK _ ?_; clear hK K)) | (with_reducible first | (refine evL_nil ?_; refine hR _ ?_; clear hR R) | ((first | refine evC_seq ?_ | refine evC_block ?_); intro Ψ hΨ hΨ') | (refine evC_region ?_; intro R hR) | (refine hΨ _ ?_; clear hΨ hΨ' Ψ) | refine evC_skip ?_ | refine evC_ret ?_ | refine evC_exit ?_) | ((with_reducible refine hΨ' _ _ ?_ ?_); (focus (simp; done)); clear hΨ hΨ' Ψ) | ((with_reducible apply evL_unmet); rfl; rfl; rfl; (try simp only [go_sem, ha, e1, hw, bne_self_eq_false, eq_self, Int.reduceBEq])) | ((with_reducible apply evL_grd); rfl; rfl; rfl; all_goals (intro hb; first | (cases hb; done) | ((try simp only [Bool.not_true, Bool.not_false] at hb); (first | ((with_reducible intro K hK); simp only [go_sem, ha, e1, hw, bne_self_eq_false, eq_self, Int.reduceBEq]; ((repeat (refine ndI (by first | assumption | omega | rfl) ?_)); refine hK _ ?_; clear hK K)) | ((fail_if_success (with_reducible intro _)); simp only [go_sem, ha, e1, hw, bne_self_eq_false, eq_self, Int.reduceBEq]))))) | ((with_reducible apply evC_cond); rfl; rfl; all_goals (intro hc; first | (cases hc; done) | (try simp only at hc))))))
  · rename_i hs0 _ _ _
    simp only [beq_iff_eq] at *
    exact absurd ⟨by assumption, by assumption⟩ h'
  all_goals
    refine evC_loopT (α := { p : Nat × List N6 × Bool // p.1 ≤ l.length ∧ p.2.1.length ≤ 2 * p.1 ∧ p.2.1 ++ insR o (l.drop p.1) p.2.2 = tot }) (fun p => stA ex l a b c d s 500 p.1.2.1 p.1.2.2 p.1.1) (fun p => l.length - p.1.1) ⟨(0, [], false), Nat.zero_le _, by simp, by simpa using ht⟩ ?_ ?_
    · refine St.to.trans (St.to.of_le (τ := ⟨[nsl ex l, vi .u64 a, .any, .any, .any, .any, .any, .any, .ptr 8 0, .any, .any, .ptr 11 0, .c (.v (.slice none 0 0)), vb false, .any, .any, .any, .any, .any, .any, .any, .any, .any, .any, .any, .any, .any, .any, .any, .any, .any, .any, .any, .any, .any, .any, .any, .any, .any, .any, .any, .any, .any, .any, .any, .any, .any, .any, .any, nsl ex l, vi .i64 l.length, vi .i64 0, .any, .any, .any, .any, .any, .any, .any, .any, .any, .any, .any, .any, .any, .any, .any, .any, .any, .any, .any, .any, .any, .any, .any, .any, .any, .any, .any, .any, .any, .any, .any, .any, .any, .any, .any, .any], [(8, [vi .u64 b, vi .u64 c, vi .u64 d, vi .u64 0]), (11, [vi .u64 a, vi .u64 b, vi .u64 c, vi .u64 d, vi .u64 0, vi .u64 (s + 1)])]⟩) (St.le_of (by simp [leT]) (by simp [leH, hget]))) ?_
      refine St.to.trans (St.to.nilrow 12 500 38 6 rfl (by simp) (by simp [St.free, freeH, AV.refsL, AV.refs]) (by decide)) (St.to.of_le (St.le_of (by simp [leT]) (by simp [leH, hget, hput, rcN])))
    rintro ⟨⟨i, out, laid⟩, hi, hout, hinv⟩ Ψ hΨ hΨ'
    dsimp only [stA] at hi hout hinv hΨ ⊢
    rcases Nat.lt_or_ge i l.length with hlt | hge
    · obtain ⟨y, hy⟩ : ∃ y, l[i]? = some y := ⟨l[i], List.getElem?_eq_getElem hlt⟩
      have k1 : (decide ((i : Int) < (l.length : Int))) = true := by simpa using hlt
      have k2 := nsl_at hy
      have k4 := rcN_len out
      have k7 : (i : Int) + 1 = ((i + 1 : Nat) : Int) := by omega
      have oy := ok y (List.mem_of_getElem? hy)
      have hdr : l.drop i = y :: l.drop (i + 1) := by
        obtain ⟨_, rfl⟩ := List.getElem?_eq_some_iff.1 hy
        exact List.drop_eq_getElem_cons hlt
      rw [hdr] at hinv
      obtain ⟨q, hqq⟩ : ∃ q, decide (o.rk < y.rk) = q := ⟨_, rfl⟩
      have hbf : Fn Try.prog 36 [n6 a b c d 0 (s + 1), n6 y.a y.b y.c y.d y.e y.x] [] (vb q) [] := by
        subst ho
        have h := before_fn a b c d 0 (s + 1) y.a y.b y.c y.d y.e y.x oo oy
        rw [show decide (rk a b c d 0 < rk y.a y.b y.c y.d y.e) = q from hqq] at h
        exact h
      (have W := ndI k1 (ndI k2 (ndI k4 (ndI k7 (ndI @wrI @refsL_map)))); (repeat (any_goals (first | ((with_reducible refine evL_one ?_ ?_); rfl; intro K hK; simp (disch := omega) only [go_sem, W, refsL_app, AV.refsL, AV.refs, List.length_append, List.length_cons, List.length_nil, Bool.or_false]; ((repeat (refine ndI (by first | assumption | omega | rfl) ?_)); refine hK _ ?_; clear hK K)) | (with_reducible first | (refine evL_nil ?_; refine hR _ ?_; clear hR R) | ((first | refine evC_seq ?_ | refine evC_block ?_); intro Ψ hΨ hΨ') | (refine evC_region ?_; intro R hR) | (refine hΨ _ ?_; clear hΨ hΨ' Ψ) | refine evC_skip ?_ | refine evC_ret ?_ | refine evC_exit ?_) | ((with_reducible refine hΨ' _ _ ?_ ?_); (focus (simp; done)); clear hΨ hΨ' Ψ) | ((with_reducible apply evL_unmet); rfl; rfl; rfl; (try simp (disch := omega) only [go_sem, W, refsL_app, AV.refsL, AV.refs, List.length_append, List.length_cons, List.length_nil, Bool.or_false])) | ((with_reducible apply evL_grd); rfl; rfl; rfl; all_goals (intro hb; first | (cases hb; done) | ((try simp only [Bool.not_true, Bool.not_false] at hb); (first | ((with_reducible intro K hK); (first | ((apply opA_callB (hbf); rfl; rfl; rfl; rfl; exact Try.func36); kernel_rfl; rfl; (simp (disch := omega) only [go_sem, W, refsL_app, AV.refsL, AV.refs, List.length_append, List.length_cons, List.length_nil, Bool.or_false]; rfl); (first | rfl | simp [AV.inNL, AV.inN])) | skip); simp (disch := omega) only [go_sem, W, refsL_app, AV.refsL, AV.refs, List.length_append, List.length_cons, List.length_nil, Bool.or_false]; ((repeat (refine ndI (by first | assumption | omega | rfl) ?_)); refine hK _ ?_; clear hK K)) | ((fail_if_success (with_reducible intro _)); simp (disch := omega) only [go_sem, W, refsL_app, AV.refsL, AV.refs, List.length_append, List.length_cons, List.length_nil, Bool.or_false]))))) | ((with_reducible apply evC_cond); rfl; rfl; all_goals (intro hc; first | (cases hc; done) | (try simp only at hc)))))))
      · have m1 : (y.a == a) = true := ‹_›
        have m2 : (y.b == b && (y.c == c && (y.d == d && y.e == 0))) = true := ‹_›
        simp only [beq_iff_eq, Bool.and_eq_true] at m1 m2
        have hm : mtK o.a o.b o.c o.d o.e y := by subst ho; exact ⟨m1, m2.1, m2.2.1, m2.2.2.1, m2.2.2.2⟩
        rw [insR_m hm] at hinv
        exact hΨ _ ⟨(i + 1, out, laid), hlt, by simp only; omega, hinv⟩ (by simp only; omega) (St.to.of_le (St.le_of (by simp [leT]) (by simp [leH, hget])))
      · have m2 : (y.b == b && (y.c == c && (y.d == d && y.e == 0))) = false := ‹_›
        have hm : ¬ mtK o.a o.b o.c o.d o.e y := by
          subst ho
          rintro ⟨_, h2, h3, h4, h5⟩
          dsimp only at h2 h3 h4 h5
          simp [h2, h3, h4, h5] at m2
        have hl : laid = false := by have h : (!laid) = true := ‹_›; simpa using h
        have hqt : q = true := ‹_›
        subst hl hqt
        rw [insR_i hm hqq] at hinv
        refine hΨ _ ⟨(i + 1, out ++ [o, y], true), hlt, by simp; omega, by rw [← hinv]; simp⟩ (by simp only; omega) (St.to.trans (St.to.of_le (τ := stA ex l a b c d s 79 (out ++ [o, y]) true (i + 1)) (St.le_of (by subst ho; simp [leT]) (by subst ho; simp [leH, hget, rcN, N6.pv]))) (stA_rn ex l a b c d s _ _ _))
      · have m2 : (y.b == b && (y.c == c && (y.d == d && y.e == 0))) = false := ‹_›
        have hm : ¬ mtK o.a o.b o.c o.d o.e y := by
          subst ho
          rintro ⟨_, h2, h3, h4, h5⟩
          dsimp only at h2 h3 h4 h5
          simp [h2, h3, h4, h5] at m2
        have hk : laid = true ∨ decide (o.rk < y.rk) = false := by have h : q = false := ‹_›; exact .inr (by rw [hqq, h])
        rw [insR_k hm hk] at hinv
        refine hΨ _ ⟨(i + 1, out ++ [y], laid), hlt, by simp; omega, by rw [← hinv]; simp⟩ (by simp only; omega) (St.to.trans (St.to.of_le (τ := stA ex l a b c d s 79 (out ++ [y]) laid (i + 1)) (St.le_of (by simp [leT]) (by simp [leH, hget, rcN, N6.pv]))) (stA_rn ex l a b c d s _ _ _))
      · have m2 : (y.b == b && (y.c == c && (y.d == d && y.e == 0))) = false := ‹_›
        have hm : ¬ mtK o.a o.b o.c o.d o.e y := by
          subst ho
          rintro ⟨_, h2, h3, h4, h5⟩
          dsimp only at h2 h3 h4 h5
          simp [h2, h3, h4, h5] at m2
        have hk : laid = true ∨ decide (o.rk < y.rk) = false := by have h : (!laid) = false := ‹_›; exact .inl (by simpa using h)
        rw [insR_k hm hk] at hinv
        refine hΨ _ ⟨(i + 1, out ++ [y], laid), hlt, by simp; omega, by rw [← hinv]; simp⟩ (by simp only; omega) (St.to.trans (St.to.of_le (τ := stA ex l a b c d s 79 (out ++ [y]) laid (i + 1)) (St.le_of (by simp [leT]) (by simp [leH, hget, rcN, N6.pv]))) (stA_rn ex l a b c d s _ _ _))
      · have m1 : (y.a == a) = false := ‹_›
        have hm : ¬ mtK o.a o.b o.c o.d o.e y := by
          subst ho
          rintro ⟨h1, _⟩
          dsimp only at h1
          simp [h1] at m1
        have hl : laid = false := by have h : (!laid) = true := ‹_›; simpa using h
        have hqt : q = true := ‹_›
        subst hl hqt
        rw [insR_i hm hqq] at hinv
        refine hΨ _ ⟨(i + 1, out ++ [o, y], true), hlt, by simp; omega, by rw [← hinv]; simp⟩ (by simp only; omega) (St.to.trans (St.to.of_le (τ := stA ex l a b c d s 79 (out ++ [o, y]) true (i + 1)) (St.le_of (by subst ho; simp [leT]) (by subst ho; simp [leH, hget, rcN, N6.pv]))) (stA_rn ex l a b c d s _ _ _))
      · have m1 : (y.a == a) = false := ‹_›
        have hm : ¬ mtK o.a o.b o.c o.d o.e y := by
          subst ho
          rintro ⟨h1, _⟩
          dsimp only at h1
          simp [h1] at m1
        have hk : laid = true ∨ decide (o.rk < y.rk) = false := by have h : q = false := ‹_›; exact .inr (by rw [hqq, h])
        rw [insR_k hm hk] at hinv
        refine hΨ _ ⟨(i + 1, out ++ [y], laid), hlt, by simp; omega, by rw [← hinv]; simp⟩ (by simp only; omega) (St.to.trans (St.to.of_le (τ := stA ex l a b c d s 79 (out ++ [y]) laid (i + 1)) (St.le_of (by simp [leT]) (by simp [leH, hget, rcN, N6.pv]))) (stA_rn ex l a b c d s _ _ _))
      · have m1 : (y.a == a) = false := ‹_›
        have hm : ¬ mtK o.a o.b o.c o.d o.e y := by
          subst ho
          rintro ⟨h1, _⟩
          dsimp only at h1
          simp [h1] at m1
        have hk : laid = true ∨ decide (o.rk < y.rk) = false := by have h : (!laid) = false := ‹_›; exact .inl (by simpa using h)
        rw [insR_k hm hk] at hinv
        refine hΨ _ ⟨(i + 1, out ++ [y], laid), hlt, by simp; omega, by rw [← hinv]; simp⟩ (by simp only; omega) (St.to.trans (St.to.of_le (τ := stA ex l a b c d s 79 (out ++ [y]) laid (i + 1)) (St.le_of (by simp [leT]) (by simp [leH, hget, rcN, N6.pv]))) (stA_rn ex l a b c d s _ _ _))
    · have k1 : (decide ((i : Int) < (l.length : Int))) = false := by simpa using hge
      have k4 := rcN_len out
      rw [List.drop_eq_nil_of_le hge] at hinv
      cases laid with
      | true =>
        have hto : tot = out := by simpa [insR] using hinv.symm
        ((with_reducible refine evC_seq ?_); intro Ψ hΨ hΨ')
        (with_reducible refine evC_region ?_; intro R hR)
        refine evL_to rfl (stA_rn2 ex l a b c d s out true i) ?_
        (repeat (any_goals (first | ((with_reducible refine evL_one ?_ ?_); rfl; intro K hK; simp only [go_sem, k1]; ((repeat (refine ndI (by first | assumption | omega | rfl) ?_)); refine hK _ ?_; clear hK K)) | (with_reducible first | (refine evL_nil ?_; refine hR _ ?_; clear hR R) | ((first | refine evC_seq ?_ | refine evC_block ?_); intro Ψ hΨ hΨ') | (refine evC_region ?_; intro R hR) | (refine hΨ _ ?_; clear hΨ hΨ' Ψ) | refine evC_skip ?_ | refine evC_ret ?_ | refine evC_exit ?_) | ((with_reducible refine hΨ' _ _ ?_ ?_); (focus (simp; done)); clear hΨ hΨ' Ψ) | ((with_reducible apply evL_unmet); rfl; rfl; rfl; (try simp only [go_sem, k1])) | ((with_reducible apply evL_grd); rfl; rfl; rfl; all_goals (intro hb; first | (cases hb; done) | ((try simp only [Bool.not_true, Bool.not_false] at hb); (first | ((with_reducible intro K hK); simp only [go_sem, k1]; ((repeat (refine ndI (by first | assumption | omega | rfl) ?_)); refine hK _ ?_; clear hK K)) | ((fail_if_success (with_reducible intro _)); simp only [go_sem, k1]))))) | ((with_reducible apply evC_cond); rfl; rfl; all_goals (intro hc; first | (cases hc; done) | (try simp only at hc))))))
        all_goals exact ⟨by simp, ⟨_, rfl, AV.le_of (by simp [hto, oneOf])⟩, leH_get (by subst ho; simp [leH, hget, rcN, N6.pv, hto])⟩
      | false =>
        have hto : tot = out ++ [o] := by simpa [insR] using hinv.symm
        (have W := ndI k1 (ndI k4 @refsL_map); (repeat (any_goals (first | ((with_reducible refine evL_one ?_ ?_); rfl; intro K hK; simp (disch := omega) only [go_sem, W, refsL_app, AV.refsL, AV.refs, List.length_append, List.length_cons, List.length_nil, Bool.or_false]; ((repeat (refine ndI (by first | assumption | omega | rfl) ?_)); refine hK _ ?_; clear hK K)) | (with_reducible first | (refine evL_nil ?_; refine hR _ ?_; clear hR R) | ((first | refine evC_seq ?_ | refine evC_block ?_); intro Ψ hΨ hΨ') | (refine evC_region ?_; intro R hR) | (refine hΨ _ ?_; clear hΨ hΨ' Ψ) | refine evC_skip ?_ | refine evC_ret ?_ | refine evC_exit ?_) | ((with_reducible refine hΨ' _ _ ?_ ?_); (focus (simp; done)); clear hΨ hΨ' Ψ) | ((with_reducible apply evL_unmet); rfl; rfl; rfl; (try simp (disch := omega) only [go_sem, W, refsL_app, AV.refsL, AV.refs, List.length_append, List.length_cons, List.length_nil, Bool.or_false])) | ((with_reducible apply evL_grd); rfl; rfl; rfl; all_goals (intro hb; first | (cases hb; done) | ((try simp only [Bool.not_true, Bool.not_false] at hb); (first | ((with_reducible intro K hK); simp (disch := omega) only [go_sem, W, refsL_app, AV.refsL, AV.refs, List.length_append, List.length_cons, List.length_nil, Bool.or_false]; ((repeat (refine ndI (by first | assumption | omega | rfl) ?_)); refine hK _ ?_; clear hK K)) | ((fail_if_success (with_reducible intro _)); simp (disch := omega) only [go_sem, W, refsL_app, AV.refsL, AV.refs, List.length_append, List.length_cons, List.length_nil, Bool.or_false]))))) | ((with_reducible apply evC_cond); rfl; rfl; all_goals (intro hc; first | (cases hc; done) | (try simp only at hc)))))))
        all_goals exact ⟨by simp, ⟨_, rfl, AV.le_of (by simp [hto, oneOf])⟩, leH_get (by subst ho; simp [leH, hget, rcN, N6.pv, hto])⟩
theorem refuse_ok (ex : Bool) (l : List N6) (hl : l.length ≤ 1000) (ok : ∀ n ∈ l, n.ok) (a b c d s : Int) (u0 : U a) (u1 : U b) (u2 : U c) (u3 : U d) (us : U s) (ha : (a == 0) = false) (hs : nextL l a b c d 0 = s) (h : s < 18446744073709551615) (h' : ¬ (s = 0 ∧ (l.length : Int) = 48)) :
    Fn Try.prog 14 [nsl ex l, vi .u64 a, w4 s b c d] [] (.tup [nsl false (insR ⟨a, b, c, d, 0, s + 1⟩ l false), vi .i64 0]) [] := by
  have h1 := (refuse3_fn ex l hl ok a b c d s u0 u1 u2 u3 us ha hs h h').frzG
  simpa [AV.frz, AV.frzL, flat_length pv_len] using h1
end Go.Proofs.Ytlkogofgemclfaa
