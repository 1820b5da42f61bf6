/-
  Which rows may be; all that is held; reckoned.
-/
import Derived.Test.YtmibmodibicibaaLs
namespace Go.Proofs.Ytmibmodibicibaa
open Go.RowKit
open Nat (reduceBEq)
set_option linter.unusedVariables false
set_option linter.unusedSimpArgs false
set_option maxRecDepth 20000
set_option maxHeartbeats 2000000
theorem none_fn (x : Nat) (hx : x < WW) : Fn Try.prog 43 [wN x] [] (vb (decide (x = 0))) [] := by
  have h := wN_zero hx
  obtain ⟨q, hq⟩ : ∃ q, decide (x = 0) = q := ⟨_, rfl⟩
  rw [hq] at h ⊢
  (refine fn_of Try.func43 rfl (by rfl) ?_; simp only [Try.ntmps43, List.length_cons, List.length_nil, Nat.reduceAdd, Nat.reduceSub, List.replicate, List.cons_append, List.nil_append])
  (repeat (any_goals (first | ((with_reducible refine evL_one ?_ ?_); rfl; intro K hK; simp only [go_sem, h]; ((repeat (refine ndI (by first | assumption | omega | rfl) ?_)); refine hK _ ?_; clear hK K)) | (with_reducible first | (refine evL_nil ?_; refine hR _ ?_; clear hR R) | ((first | refine evC_seq ?_ | refine evC_block ?_); intro Ψ hΨ hΨ') | (refine evC_region ?_; intro R hR) | (refine hΨ _ ?_; clear hΨ hΨ' Ψ) | refine evC_skip ?_ | refine evC_ret ?_ | refine evC_exit ?_) | ((with_reducible refine hΨ' _ _ ?_ ?_); (focus (simp; done)); clear hΨ hΨ' Ψ) | ((with_reducible apply evC_cond); rfl; rfl; all_goals (intro hc; first | (cases hc; done) | (try simp only at hc))))))
  all_goals (refine ⟨by simp, ⟨_, ?_, AV.le_refl _⟩, leH_get (by simp [leH, hget])⟩; simp only [Try.results43, resL, ldA, oneOf, go_sem])
theorem empty_fn (a : Int) (p s : Nat) (d f : Int) (hp : p < WW) (hs : s < WW) : Fn Try.prog 54 [h11 a p s d f] [] (vb (decide (p = 0) && decide (s = 0))) [] := by
  have h1 := none_fn p hp
  have h2 := none_fn s hs
  generalize decide (p = 0) = q1 at h1
  generalize decide (s = 0) = q2 at h2
  cases q1 with
  | true =>
    (refine fn_of Try.func54 rfl (by rfl) ?_; simp only [Try.ntmps54, List.length_cons, List.length_nil, Nat.reduceAdd, Nat.reduceSub, List.replicate, List.cons_append, List.nil_append])
    (repeat (any_goals (first | ((with_reducible refine evL_call ?_ ?_ ?_); rfl; rfl; intro K hK; (first | ((apply opA_callB (h1); rfl; rfl; rfl; rfl; exact Try.func43); kernel_rfl; rfl; (simp only [go_sem]; rfl); (first | rfl | simp [AV.inNL, AV.inN])) | ((apply opA_callB (h2); rfl; rfl; rfl; rfl; exact Try.func43); kernel_rfl; rfl; (simp only [go_sem]; rfl); (first | rfl | simp [AV.inNL, AV.inN]))); (simp only [go_sem]; refine hK _ ?_; clear hK K)) | ((with_reducible refine evL_one ?_ ?_); rfl; intro K hK; simp only [go_sem]; ((repeat (refine ndI (by first | assumption | omega | rfl) ?_)); refine hK _ ?_; clear hK K)) | (with_reducible first | (refine evL_nil ?_; refine hR _ ?_; clear hR R) | ((first | refine evC_seq ?_ | refine evC_block ?_); intro Ψ hΨ hΨ') | (refine evC_region ?_; intro R hR) | (refine hΨ _ ?_; clear hΨ hΨ' Ψ) | refine evC_skip ?_ | refine evC_ret ?_ | refine evC_exit ?_) | ((with_reducible refine hΨ' _ _ ?_ ?_); (focus (simp; done)); clear hΨ hΨ' Ψ) | ((with_reducible apply evL_unmet); rfl; rfl; rfl; (try simp only [go_sem])) | ((with_reducible apply evL_grd); rfl; rfl; rfl; all_goals (intro hb; first | (cases hb; done) | ((try simp only [Bool.not_true, Bool.not_false] at hb); (first | ((with_reducible intro K hK); (first | ((apply opA_callB (h2); rfl; rfl; rfl; rfl; exact Try.func43); kernel_rfl; rfl; (simp only [go_sem]; rfl); (first | rfl | simp [AV.inNL, AV.inN])) | skip); simp only [go_sem]; ((repeat (refine ndI (by first | assumption | omega | rfl) ?_)); refine hK _ ?_; clear hK K)) | ((fail_if_success (with_reducible intro _)); simp only [go_sem]))))) | ((with_reducible apply evC_cond); rfl; rfl; all_goals (intro hc; first | (cases hc; done) | (try simp only at hc))))))
    all_goals (refine ⟨by simp, ⟨_, ?_, AV.le_refl _⟩, leH_get (by simp [leH, hget])⟩; simp only [Try.results54, resL, ldA, oneOf, go_sem])
  | false =>
    (refine fn_of Try.func54 rfl (by rfl) ?_; simp only [Try.ntmps54, List.length_cons, List.length_nil, Nat.reduceAdd, Nat.reduceSub, List.replicate, List.cons_append, List.nil_append])
    (repeat (any_goals (first | ((with_reducible refine evL_call ?_ ?_ ?_); rfl; rfl; intro K hK; ((apply opA_callB (h1); rfl; rfl; rfl; rfl; exact Try.func43); kernel_rfl; rfl; (simp only [go_sem]; rfl); (first | rfl | simp [AV.inNL, AV.inN])); (simp only [go_sem]; refine hK _ ?_; clear hK K)) | ((with_reducible refine evL_one ?_ ?_); rfl; intro K hK; simp only [go_sem]; ((repeat (refine ndI (by first | assumption | omega | rfl) ?_)); refine hK _ ?_; clear hK K)) | (with_reducible first | (refine evL_nil ?_; refine hR _ ?_; clear hR R) | ((first | refine evC_seq ?_ | refine evC_block ?_); intro Ψ hΨ hΨ') | (refine evC_region ?_; intro R hR) | (refine hΨ _ ?_; clear hΨ hΨ' Ψ) | refine evC_skip ?_ | refine evC_ret ?_ | refine evC_exit ?_) | ((with_reducible refine hΨ' _ _ ?_ ?_); (focus (simp; done)); clear hΨ hΨ' Ψ) | ((with_reducible apply evL_unmet); rfl; rfl; rfl; (try simp only [go_sem])) | ((with_reducible apply evL_grd); rfl; rfl; rfl; all_goals (intro hb; first | (cases hb; done) | ((try simp only [Bool.not_true, Bool.not_false] at hb); (first | ((with_reducible intro K hK); simp only [go_sem]; ((repeat (refine ndI (by first | assumption | omega | rfl) ?_)); refine hK _ ?_; clear hK K)) | ((fail_if_success (with_reducible intro _)); simp only [go_sem]))))) | ((with_reducible apply evC_cond); rfl; rfl; all_goals (intro hc; first | (cases hc; done) | (try simp only at hc))))))
    all_goals (refine ⟨by simp, ⟨_, ?_, AV.le_refl _⟩, leH_get (by simp [leH, hget])⟩; simp only [Try.results54, resL, ldA, oneOf, go_sem])
    all_goals rw [Bool.false_and]
def rightH (h : Hd) : Bool := (h.a != 0) && (decide (h.d ≤ 1073741824) && (decide (h.f ≤ 1100585369600) && (!(decide (h.p = 0) && decide (h.s = 0)) && (((h.d == 0) == decide (h.s = 0)) && ((h.f == 0) || !decide (h.s = 0))))))
theorem right_fn (a : Int) (p s : Nat) (d f : Int) (hp : p < WW) (hs : s < WW) : Fn Try.prog 30 [h11 a p s d f] [] (vb (rightH ⟨a, p, s, d, f⟩)) [] := by
  have h1 := empty_fn a p s d f hp hs
  have h2 := none_fn s hs
  unfold rightH
  dsimp only
  generalize decide (p = 0) = q1 at h1
  generalize decide (s = 0) = q2 at h1 h2
  (refine fn_of Try.func30 rfl (by rfl) ?_; simp only [Try.ntmps30, List.length_cons, List.length_nil, Nat.reduceAdd, Nat.reduceSub, List.replicate, List.cons_append, List.nil_append])
  (repeat (any_goals (first | ((with_reducible refine evL_one ?_ ?_); rfl; intro K hK; simp only [go_sem]; ((repeat (refine ndI (by first | assumption | omega | rfl) ?_)); refine hK _ ?_; clear hK K)) | (with_reducible first | (refine evL_nil ?_; refine hR _ ?_; clear hR R) | ((first | refine evC_seq ?_ | refine evC_block ?_); intro Ψ hΨ hΨ') | (refine evC_region ?_; intro R hR) | (refine hΨ _ ?_; clear hΨ hΨ' Ψ) | refine evC_skip ?_ | refine evC_ret ?_ | refine evC_exit ?_) | ((with_reducible refine hΨ' _ _ ?_ ?_); (focus (simp; done)); clear hΨ hΨ' Ψ) | ((with_reducible apply evL_unmet); rfl; rfl; rfl; (try simp only [go_sem])) | ((with_reducible apply evL_grd); rfl; rfl; rfl; all_goals (intro hb; first | (cases hb; done) | ((try simp only [Bool.not_true, Bool.not_false] at hb); (first | ((with_reducible intro K hK); (first | ((apply opA_callB (h1); rfl; rfl; rfl; rfl; exact Try.func54); kernel_rfl; rfl; (simp only [go_sem]; rfl); (first | rfl | simp [AV.inNL, AV.inN])) | skip); simp only [go_sem]; ((repeat (refine ndI (by first | assumption | omega | rfl) ?_)); refine hK _ ?_; clear hK K)) | ((fail_if_success (with_reducible intro _)); simp only [go_sem]))))) | ((with_reducible apply evC_cond); rfl; rfl; all_goals (intro hc; first | (cases hc; done) | (try simp only at hc))) | ((with_reducible refine evD_nil ?_ ?_); kernel_rfl; (with_reducible refine hR _ ?_); clear hR R) | ((first | ((with_reducible apply evD_skip); rfl; rfl; rfl; rfl) | ((with_reducible apply evD_unmet); rfl; rfl; rfl) | ((first | ((with_reducible apply evD_fcall); rfl; rfl) | ((with_reducible apply evD_gcall); rfl; rfl; rfl; rfl; rfl)); ((apply opF_callB (h2); rfl; rfl; rfl; rfl; exact Try.func43); kernel_rfl; rfl; (simp only [go_sem]; rfl); (first | rfl | simp [AV.inNL, AV.inN]))) | ((first | ((with_reducible apply evD_any); rfl; rfl) | ((with_reducible apply evD_gany); rfl; rfl; rfl; rfl; rfl)); (simp only [rdE, rdOf, go_sem]; rfl); (intro τ hA hQ hN; ((try simp only [agree, Op.operands, Call.operands, go_sem, List.mem_cons, List.not_mem_nil, forall_eq_or_imp, forall_eq, List.append_toArray, Option.toArray] at hA); (try simp only [go_sem, List.mem_cons, List.not_mem_nil, forall_eq_or_imp, forall_eq] at hQ hN); (first | (revert hA; intro hA) | have hA := trivial); (first | (revert hQ; intro hQ) | have hQ := trivial); (first | (revert hN; intro hN) | have hN := trivial); simp only [go_sem, hA, hQ, hN]; (repeat (refine ndI (by first | assumption | omega | rfl) ?_)); (first | apply eff_rd | apply eff_st | apply eff_nw))))); (simp only [St.eff, setO, hputs, go_sem])) | ((with_reducible apply evD_split); rfl; rfl; rfl; all_goals intro hb; all_goals (simp only [St.eff, setO, hputs, go_sem])) | ((with_reducible refine evC_draw ?_ ?_ ?_ ?_); kernel_rfl; kernel_rfl; (first | kernel_rfl | simp [newNames, isNew, St.free, freeH, AV.refsL, AV.refs]); intro R hR))))
  all_goals (refine ⟨by simp, ⟨_, ?_, AV.le_refl _⟩, leH_get (by simp [leH, hget])⟩; simp only [Try.results30, resL, ldA, oneOf, go_sem])
  all_goals clear h1 h2
  all_goals (cases q1 <;> cases q2 <;> simp_all)
  all_goals omega
/-- all that is held -/
def tot (l : List Hd) : Nat := (l.map fun h => h.p + h.s).sum
def wds (l : List Hd) : List Nat := l.flatMap fun h => [h.p, h.s]
theorem wds_sum (l : List Hd) : (wds l).sum = tot l := by
  induction l with
  | nil => rfl
  | cons h l ih => simp only [wds, tot, List.flatMap_cons, List.map_cons, List.sum_cons, List.sum_append, List.sum_nil] at *; omega
theorem wds_len (l : List Hd) : (wds l).length = l.length * 2 := by
  induction l with
  | nil => rfl
  | cons h l ih => simp only [wds, List.flatMap_cons, List.length_append, List.length_cons, List.length_nil] at *; omega
theorem wds_lt {l : List Hd} (ok : ∀ h ∈ l, h.ok) : ∀ x ∈ wds l, x < WW := fun x hx => by
  unfold wds at hx
  rw [List.mem_flatMap] at hx
  obtain ⟨h, hh, hx⟩ := hx
  simp only [List.mem_cons, List.not_mem_nil, or_false] at hx
  rcases hx with rfl | rfl
  · exact (ok h hh).2.1
  · exact (ok h hh).2.2.1
theorem rcW_snoc2 (l : List Nat) (x y : Nat) : rcW (l ++ [x, y]) = rcW l ++ [vi .u64 (l0 x), vi .u64 (l1 x), vi .u64 (l2 x), vi .u64 (l3 x), vi .u64 (l0 y), vi .u64 (l1 y), vi .u64 (l2 y), vi .u64 (l3 y)] := by
  simp [rcW, wpv]
theorem wds_snoc {l : List Hd} {i : Nat} {y : Hd} (hy : l[i]? = some y) : wds (l.take (i + 1)) = wds (l.take i) ++ [y.p, y.s] := by
  unfold wds
  rw [List.take_add_one, hy]
  simp
abbrev stAl (ex : Bool) (l : List Hd) (r : Nat) (out : List Nat) (i : Nat) : St := ⟨[.any, .row r 31 4 out.length, .ptr 2 0, .any, .ptr 4 0, .any, .any, .any, .any, hsl ex l, vi .i64 l.length, vi .i64 i, .any, .any, .any, .any, .any, .any, .any, .any, .any, .any, .any, .any, .any, .any, .any], [(2, [hsl ex l]), (4, [vi .u64 0, vi .u64 0, vi .u64 0, vi .u64 0]), (r, rcW out)]⟩
theorem stAl_rn (ex : Bool) (l : List Hd) (out : List Nat) (i : Nat) : (stAl ex l 21 out i).to (stAl ex l 500 out i) := by
  have h := St.to.rn (σ := stAl ex l 21 out i) (fun r => if r = 21 then 500 else r) (fun r => if r = 500 then 21 else r) [2, 4, 21] (by simp [AV.inNL, AV.inN]) (by simp) (by simp [inH, AV.inNL, AV.inN, inNL_rcW]) (by simp) (by simp)
  simpa [AV.renL, AV.ren, renH, renL_rcW] using h
theorem all_nil (ex : Bool) (l : List Hd) (hl : l.length ≤ 400) (ok : ∀ h ∈ l, h.ok) : Fn Try.prog 31 [lg ex l, nilS] [] (.tup [wN (tot l % WW), vb (decide (WW ≤ tot l))]) [] := by
  have hsum := sum_fn false (wds l) (by rw [wds_len]; omega) (wds_lt ok)
  rw [wds_sum] at hsum
  obtain ⟨tn, htn⟩ : ∃ n, tot l % WW = n := ⟨_, rfl⟩
  obtain ⟨tq, htq⟩ : ∃ q, decide (WW ≤ tot l) = q := ⟨_, rfl⟩
  rw [htn, htq] at hsum ⊢
  (refine fn_of Try.func31 rfl (by rfl) ?_; simp only [Try.ntmps31, List.length_cons, List.length_nil, Nat.reduceAdd, Nat.reduceSub, List.replicate, List.cons_append, List.nil_append])
  (repeat (any_goals (first | ((with_reducible refine evL_one ?_ ?_); rfl; intro K hK; simp only [go_sem]; ((repeat (refine ndI (by first | assumption | omega | rfl) ?_)); refine hK _ ?_; clear hK K)) | (with_reducible first | (refine evL_nil ?_; refine hR _ ?_; clear hR R) | ((first | refine evC_seq ?_ | refine evC_block ?_); intro Ψ hΨ hΨ') | (refine evC_region ?_; intro R hR) | (refine hΨ _ ?_; clear hΨ hΨ' Ψ) | refine evC_skip ?_ | refine evC_ret ?_ | refine evC_exit ?_) | ((with_reducible refine hΨ' _ _ ?_ ?_); (focus (simp; done)); clear hΨ hΨ' Ψ) | ((with_reducible apply evC_cond); rfl; rfl; all_goals (intro hc; first | (cases hc; done) | (try simp only at hc))))))
  refine evC_uptoT l.length (fun i => stAl ex l 500 (wds (l.take i)) i) ?_ ?_
  · refine St.to.trans (St.to.of_le (τ := ⟨[.any, .c (.v (.slice none 0 0)), .ptr 2 0, .any, .ptr 4 0, .any, .any, .any, .any, hsl ex l, vi .i64 l.length, vi .i64 0, .any, .any, .any, .any, .any, .any, .any, .any, .any, .any, .any, .any, .any, .any, .any], [(2, [hsl ex l]), (4, [vi .u64 0, vi .u64 0, vi .u64 0, vi .u64 0])]⟩) (St.le_of (by simp [leT]) (by simp [leH, hget]))) ?_
    refine St.to.trans (St.to.nilrow 1 500 31 4 rfl (by simp) (by simp [St.free, freeH, AV.refsL, AV.refs]) (by decide)) (St.to.of_le (St.le_of (by simp [leT, wds]) (by simp [leH, hget, hput, rcW, wds])))
  intro i hi Ψ hΨ hΨ'
  dsimp only [stAl] at hΨ ⊢
  rcases Nat.lt_or_ge i l.length with hlt | hge
  · obtain ⟨y, hy⟩ : ∃ y, l[i]? = some y := ⟨l[i], List.getElem?_eq_getElem hlt⟩
    have k1 : (decide ((i : Int) < (l.length : Int))) = true := by simpa using hlt
    have k2 := hsl_at hy
    have k7 : (i : Int) + 1 = ((i + 1 : Nat) : Int) := by omega
    have k5 := wds_len (l.take i)
    have k6 : (l.take i).length ≤ 400 := by simp; omega
    have hs := wds_snoc hy
    rw [hs] at hΨ
    generalize wds (l.take i) = out at k5 hΨ ⊢
    have k4 := rcW_len out
    have k9 : ∀ r, AV.refsL r (rcW out) = false := fun r => refsL_map r _
    (have W := ndI k1 (ndI k2 (ndI k4 (ndI k7 (ndI k9 (ndI @wrI @refsL_map))))); (repeat (any_goals (first | ((with_reducible refine evL_one ?_ ?_); rfl; intro K hK; simp (disch := omega) only [go_sem, W, refsL_app, AV.refsL, AV.refs, List.length_append, List.length_cons, List.length_nil, Bool.or_false]; ((repeat (refine ndI (by first | assumption | omega | rfl) ?_)); refine hK _ ?_; clear hK K)) | (with_reducible first | (refine evL_nil ?_; refine hR _ ?_; clear hR R) | ((first | refine evC_seq ?_ | refine evC_block ?_); intro Ψ hΨ hΨ') | (refine evC_region ?_; intro R hR) | (refine hΨ _ ?_; clear hΨ hΨ' Ψ) | refine evC_skip ?_ | refine evC_ret ?_ | refine evC_exit ?_) | ((with_reducible refine hΨ' _ _ ?_ ?_); (focus (simp; done)); clear hΨ hΨ' Ψ) | ((with_reducible apply evC_cond); rfl; rfl; all_goals (intro hc; first | (cases hc; done) | (try simp only at hc)))))))
    exact hΨ _ hlt (St.to.trans (St.to.of_le (τ := stAl ex l 21 (out ++ [y.p, y.s]) (i + 1)) (St.le_of (by simp [leT]) (by simp [leH, hget, rcW_snoc2]))) (stAl_rn ex l _ _))
  · have k1 : (decide ((i : Int) < (l.length : Int))) = false := by simpa using hge
    have e : l.take i = l := List.take_of_length_le hge
    rw [e]
    have k4 := rcW_len (wds l)
    have k5 : unC (rcW (wds l)) = some ((wds l).flatMap wpv) := unC_map _
    (have W := ndI k1 (ndI k4 k5); (repeat (any_goals (first | ((with_reducible refine evL_call ?_ ?_ ?_); rfl; rfl; intro K hK; ((apply opA_callv (hsum); rfl; rfl; rfl; rfl; exact Try.func55); kernel_rfl; rfl; (focus ((simp (disch := omega) only [AV.viewL, AV.view, viewRow, unC, Option.map_some, go_sem, W, flat_length wpv_len]); (try rfl))); rfl); (simp (disch := omega) only [go_sem, W, flat_length wpv_len]; refine hK _ ?_; clear hK K)) | ((with_reducible refine evL_one ?_ ?_); rfl; intro K hK; simp (disch := omega) only [go_sem, W, flat_length wpv_len]; ((repeat (refine ndI (by first | assumption | omega | rfl) ?_)); refine hK _ ?_; clear hK K)) | (with_reducible first | (refine evL_nil ?_; refine hR _ ?_; clear hR R) | ((first | refine evC_seq ?_ | refine evC_block ?_); intro Ψ hΨ hΨ') | (refine evC_region ?_; intro R hR) | (refine hΨ _ ?_; clear hΨ hΨ' Ψ) | refine evC_skip ?_ | refine evC_ret ?_ | refine evC_exit ?_) | ((with_reducible refine hΨ' _ _ ?_ ?_); (focus (simp; done)); clear hΨ hΨ' Ψ) | ((with_reducible apply evC_cond); rfl; rfl; all_goals (intro hc; first | (cases hc; done) | (try simp only at hc)))))))
    all_goals (refine ⟨by simp, ⟨_, ?_, AV.le_refl _⟩, leH_get (by simp [leH, hget])⟩; simp only [Try.results31, resL, ldA, oneOf, go_sem])
/-- so, with one word more ahead -/
theorem all_one (ex : Bool) (l : List Hd) (hl : l.length ≤ 400) (ok : ∀ h ∈ l, h.ok) (n : Nat) (hn : n < WW) : Fn Try.prog 31 [lg ex l, wsl true [n]] [] (.tup [wN ((n + tot l) % WW), vb (decide (WW ≤ n + tot l))]) [] := by
  have hsum := sum_fn false (n :: wds l) (by rw [List.length_cons, wds_len]; omega) (fun x hx => by
    rcases List.mem_cons.1 hx with rfl | hx
    · exact hn
    · exact wds_lt ok x hx)
  have hsum0 := sum_fn true [n] (by simp) (fun x hx => by simp at hx; rw [hx]; exact hn)
  rw [List.sum_cons, wds_sum] at hsum
  rw [List.sum_cons, List.sum_nil, Nat.add_zero] at hsum0
  obtain ⟨tn, htn⟩ : ∃ m, (n + tot l) % WW = m := ⟨_, rfl⟩
  obtain ⟨tq, htq⟩ : ∃ q, decide (WW ≤ n + tot l) = q := ⟨_, rfl⟩
  rw [htn, htq] at hsum ⊢
  (refine fn_of Try.func31 rfl (by rfl) ?_; simp only [Try.ntmps31, List.length_cons, List.length_nil, Nat.reduceAdd, Nat.reduceSub, List.replicate, List.cons_append, List.nil_append])
  (repeat (any_goals (first | ((with_reducible refine evL_one ?_ ?_); rfl; intro K hK; simp only [go_sem]; ((repeat (refine ndI (by first | assumption | omega | rfl) ?_)); refine hK _ ?_; clear hK K)) | (with_reducible first | (refine evL_nil ?_; refine hR _ ?_; clear hR R) | ((first | refine evC_seq ?_ | refine evC_block ?_); intro Ψ hΨ hΨ') | (refine evC_region ?_; intro R hR) | (refine hΨ _ ?_; clear hΨ hΨ' Ψ) | refine evC_skip ?_ | refine evC_ret ?_ | refine evC_exit ?_) | ((with_reducible refine hΨ' _ _ ?_ ?_); (focus (simp; done)); clear hΨ hΨ' Ψ) | ((with_reducible apply evC_cond); rfl; rfl; all_goals (intro hc; first | (cases hc; done) | (try simp only at hc))))))
  refine evC_uptoT l.length (fun i => if i = 0 then ⟨[.any, wsl true [n], .ptr 2 0, .any, .ptr 4 0, .any, .any, .any, .any, hsl ex l, vi .i64 l.length, vi .i64 0, .any, .any, .any, .any, .any, .any, .any, .any, .any, .any, .any, .any, .any, .any, .any], [(2, [hsl ex l]), (4, [vi .u64 0, vi .u64 0, vi .u64 0, vi .u64 0])]⟩ else stAl ex l 500 (n :: wds (l.take i)) i) ?_ ?_
  · rw [if_pos rfl]
    exact St.to.of_le (St.le_of (by simp [leT]) (by simp [leH, hget]))
  intro i hi Ψ hΨ hΨ'
  rw [if_neg (Nat.succ_ne_zero i)] at hΨ
  dsimp only [stAl] at hΨ ⊢
  rcases Nat.lt_or_ge i l.length with hlt | hge
  · obtain ⟨y, hy⟩ : ∃ y, l[i]? = some y := ⟨l[i], List.getElem?_eq_getElem hlt⟩
    have k1 : (decide ((i : Int) < (l.length : Int))) = true := by simpa using hlt
    have k2 := hsl_at hy
    have k7 : (i : Int) + 1 = ((i + 1 : Nat) : Int) := by omega
    have hs := wds_snoc hy
    rw [hs] at hΨ
    rcases Nat.eq_zero_or_pos i with rfl | hi0
    · rw [if_pos rfl]
      have k10 : (decide ((0 : Int) < (l.length : Int))) = true := by simpa using hlt
      have k11 := k2
      rw [Nat.zero_mul, List.drop_zero] at k11
      (have W := ndI k10 (ndI k11 (ndI @wrI @refsL_map)); (repeat (any_goals (first | ((with_reducible refine evL_one ?_ ?_); rfl; intro K hK; simp (disch := omega) only [go_sem, W, refsL_app, AV.refsL, AV.refs, List.length_append, List.length_cons, List.length_nil, Bool.or_false]; ((repeat (refine ndI (by first | assumption | omega | rfl) ?_)); refine hK _ ?_; clear hK K)) | ((with_reducible refine evL_op ?_ ?_); rfl; intro K hK; apply opA_append_tight; rfl; rfl; rfl; (focus (simp only [go_sem]; try rfl)); (first | omega | (dsimp only; omega) | (simp (disch := omega) only [Option.isSome_some, Option.isSome_none]; omega) | (simp; omega) | (focus (simp; done))); (first | omega | (dsimp only; omega) | (simp (disch := omega) only [Option.isSome_some, Option.isSome_none]; omega) | (simp; omega) | (focus (simp; done))); rfl; rfl; (first | omega | (dsimp only; omega) | (simp (disch := omega) only [Option.isSome_some, Option.isSome_none]; omega) | (simp; omega) | (focus (simp; done))); (first | omega | (simp (disch := omega) only [go_sem, W, refsL_app, AV.refsL, AV.refs, List.length_append, List.length_cons, List.length_nil, Bool.or_false, spl, List.length_append, List.length_map, List.length_take, List.length_drop, List.length_replicate]; omega) | (simp [spl]; omega) | (focus (simp [spl]; done))); (first | omega | (dsimp only; omega) | (simp (disch := omega) only [Option.isSome_some, Option.isSome_none]; omega) | (simp; omega) | (focus (simp; done))); rfl; (first | rfl | (simp [St.free, freeH, AV.refs, AV.refsL])); (first | omega | (dsimp only; omega) | (simp (disch := omega) only [Option.isSome_some, Option.isSome_none]; omega) | (simp; omega) | (focus (simp; done))); (first | rfl | (simp [St.free, freeH, AV.refs, AV.refsL])); (simp (disch := omega) only [go_sem, W, refsL_app, AV.refsL, AV.refs, List.length_append, List.length_cons, List.length_nil, Bool.or_false]; refine hK _ ?_; clear hK K)) | (with_reducible first | (refine evL_nil ?_; refine hR _ ?_; clear hR R) | ((first | refine evC_seq ?_ | refine evC_block ?_); intro Ψ hΨ hΨ') | (refine evC_region ?_; intro R hR) | (refine hΨ _ ?_; clear hΨ hΨ' Ψ) | refine evC_skip ?_ | refine evC_ret ?_ | refine evC_exit ?_) | ((with_reducible refine hΨ' _ _ ?_ ?_); (focus (simp; done)); clear hΨ hΨ' Ψ) | ((with_reducible apply evC_cond); rfl; rfl; all_goals (intro hc; first | (cases hc; done) | (try simp only at hc)))))))
      (repeat (any_goals (first | ((with_reducible refine evL_one ?_ ?_); rfl; intro K hK; simp (disch := omega) only [go_sem, k7, wrI]; ((repeat (refine ndI (by first | assumption | omega | rfl) ?_)); refine hK _ ?_; clear hK K)) | (with_reducible first | (refine evL_nil ?_; refine hR _ ?_; clear hR R) | ((first | refine evC_seq ?_ | refine evC_block ?_); intro Ψ hΨ hΨ') | (refine evC_region ?_; intro R hR) | (refine hΨ _ ?_; clear hΨ hΨ' Ψ) | refine evC_skip ?_ | refine evC_ret ?_ | refine evC_exit ?_) | ((with_reducible refine hΨ' _ _ ?_ ?_); (focus (simp; done)); clear hΨ hΨ' Ψ) | ((with_reducible apply evC_cond); rfl; rfl; all_goals (intro hc; first | (cases hc; done) | (try simp only at hc))))))
      have h2 : wds (List.take 0 l) = [] := rfl
      rw [h2, List.nil_append] at hΨ
      exact hΨ _ hlt (St.to.trans (St.to.of_le (τ := stAl ex l 21 ([n] ++ [y.p, y.s]) 1) (St.le_of (by simp [leT]) (by simp [leH, hget, rcW, wpv]))) (stAl_rn ex l _ _))
    · rw [if_neg (by omega)]
      have k5 := wds_len (l.take i)
      have k6 : (l.take i).length ≤ 400 := by simp; omega
      generalize wds (l.take i) = out at k5 hΨ ⊢
      have k4 := rcW_len (n :: out)
      have k3 : (n :: out).length = out.length + 1 := rfl
      have k9 : ∀ r, AV.refsL r (rcW (n :: out)) = false := fun r => refsL_map r _
      rw [← List.cons_append] at hΨ
      generalize n :: out = out' at k4 k3 k9 hΨ ⊢
      (have W := ndI k1 (ndI k2 (ndI k4 (ndI k7 (ndI k9 (ndI @wrI @refsL_map))))); (repeat (any_goals (first | ((with_reducible refine evL_one ?_ ?_); rfl; intro K hK; simp (disch := omega) only [go_sem, W, refsL_app, AV.refsL, AV.refs, List.length_append, List.length_cons, List.length_nil, Bool.or_false]; ((repeat (refine ndI (by first | assumption | omega | rfl) ?_)); refine hK _ ?_; clear hK K)) | (with_reducible first | (refine evL_nil ?_; refine hR _ ?_; clear hR R) | ((first | refine evC_seq ?_ | refine evC_block ?_); intro Ψ hΨ hΨ') | (refine evC_region ?_; intro R hR) | (refine hΨ _ ?_; clear hΨ hΨ' Ψ) | refine evC_skip ?_ | refine evC_ret ?_ | refine evC_exit ?_) | ((with_reducible refine hΨ' _ _ ?_ ?_); (focus (simp; done)); clear hΨ hΨ' Ψ) | ((with_reducible apply evC_cond); rfl; rfl; all_goals (intro hc; first | (cases hc; done) | (try simp only at hc)))))))
      exact hΨ _ hlt (St.to.trans (St.to.of_le (τ := stAl ex l 21 (out' ++ [y.p, y.s]) (i + 1)) (St.le_of (by simp [leT]) (by simp [leH, hget, rcW_snoc2]))) (stAl_rn ex l _ _))
  · have k1 : (decide ((i : Int) < (l.length : Int))) = false := by simpa using hge
    have e : l.take i = l := List.take_of_length_le hge
    rw [e]
    rcases Nat.eq_zero_or_pos i with rfl | hi0
    · rw [if_pos rfl]
      have hl0 : l = [] := List.eq_nil_of_length_eq_zero (by omega)
      have k10 : (decide ((0 : Int) < (l.length : Int))) = false := by rw [hl0]; rfl
      have ht : tot l = 0 := by rw [hl0]; rfl
      rw [ht, Nat.add_zero] at htn htq
      rw [htn, htq] at hsum0
      (repeat (any_goals (first | ((with_reducible refine evL_call ?_ ?_ ?_); rfl; rfl; intro K hK; ((apply opA_callB (hsum0); rfl; rfl; rfl; rfl; exact Try.func55); kernel_rfl; rfl; (simp only [go_sem, k10]; rfl); (first | rfl | simp [AV.inNL, AV.inN])); (simp only [go_sem, k10]; refine hK _ ?_; clear hK K)) | ((with_reducible refine evL_one ?_ ?_); rfl; intro K hK; simp only [go_sem, k10]; ((repeat (refine ndI (by first | assumption | omega | rfl) ?_)); refine hK _ ?_; clear hK K)) | (with_reducible first | (refine evL_nil ?_; refine hR _ ?_; clear hR R) | ((first | refine evC_seq ?_ | refine evC_block ?_); intro Ψ hΨ hΨ') | (refine evC_region ?_; intro R hR) | (refine hΨ _ ?_; clear hΨ hΨ' Ψ) | refine evC_skip ?_ | refine evC_ret ?_ | refine evC_exit ?_) | ((with_reducible refine hΨ' _ _ ?_ ?_); (focus (simp; done)); clear hΨ hΨ' Ψ) | ((with_reducible apply evC_cond); rfl; rfl; all_goals (intro hc; first | (cases hc; done) | (try simp only at hc))))))
      all_goals (refine ⟨by simp, ⟨_, ?_, AV.le_refl _⟩, leH_get (by simp [leH, hget])⟩; simp only [Try.results31, resL, ldA, oneOf, go_sem])
    · rw [if_neg (by omega)]
      have k4 := rcW_len (n :: wds l)
      have k5 : unC (rcW (n :: wds l)) = some ((n :: wds l).flatMap wpv) := unC_map _
      generalize n :: wds l = out' at k4 k5 hsum
      (have W := ndI k1 (ndI k4 k5); (repeat (any_goals (first | ((with_reducible refine evL_call ?_ ?_ ?_); rfl; rfl; intro K hK; ((apply opA_callv (hsum); rfl; rfl; rfl; rfl; exact Try.func55); kernel_rfl; rfl; (focus ((simp (disch := omega) only [AV.viewL, AV.view, viewRow, unC, Option.map_some, go_sem, W, flat_length wpv_len]); (try rfl))); rfl); (simp (disch := omega) only [go_sem, W, flat_length wpv_len]; refine hK _ ?_; clear hK K)) | ((with_reducible refine evL_one ?_ ?_); rfl; intro K hK; simp (disch := omega) only [go_sem, W, flat_length wpv_len]; ((repeat (refine ndI (by first | assumption | omega | rfl) ?_)); refine hK _ ?_; clear hK K)) | (with_reducible first | (refine evL_nil ?_; refine hR _ ?_; clear hR R) | ((first | refine evC_seq ?_ | refine evC_block ?_); intro Ψ hΨ hΨ') | (refine evC_region ?_; intro R hR) | (refine hΨ _ ?_; clear hΨ hΨ' Ψ) | refine evC_skip ?_ | refine evC_ret ?_ | refine evC_exit ?_) | ((with_reducible refine hΨ' _ _ ?_ ?_); (focus (simp; done)); clear hΨ hΨ' Ψ) | ((with_reducible apply evC_cond); rfl; rfl; all_goals (intro hc; first | (cases hc; done) | (try simp only at hc)))))))
      all_goals (refine ⟨by simp, ⟨_, ?_, AV.le_refl _⟩, leH_get (by simp [leH, hget])⟩; simp only [Try.results31, resL, ldA, oneOf, go_sem])
end Go.Proofs.Ytmibmodibicibaa
