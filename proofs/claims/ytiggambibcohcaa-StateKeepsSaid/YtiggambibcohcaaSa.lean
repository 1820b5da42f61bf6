/-
  Accounts by value; which may be; reckoned.
-/
import Derived.Test.YtiggambibcohcaaWu
import Derived.Test.YtiggambibcohcaaWc
import Derived.Test.YtiggambibcohcaaAvW
namespace Go.Proofs.Ytiggambibcohcaa
open Go.RowKit
open Nat (reduceBEq)
set_option linter.unusedVariables false
set_option linter.unusedSimpArgs false
set_option maxRecDepth 20000
set_option maxHeartbeats 2000000
structure Pr where
  k : Nat
  v : Nat
def Pr.ok (p : Pr) : Prop := p.k < WW ∧ p.v < WW
def Pr.pv (p : Pr) : List PV := [.v (.int .u64 (l0 p.k)), .v (.int .u64 (l1 p.k)), .v (.int .u64 (l2 p.k)), .v (.int .u64 (l3 p.k)), .v (.int .u64 (l0 p.v)), .v (.int .u64 (l1 p.v)), .v (.int .u64 (l2 p.v)), .v (.int .u64 (l3 p.v))]
theorem pr_len (p : Pr) : p.pv.length = 8 := rfl
def bpv (b : Nat) : List PV := [.v (.int .u8 (b : Int))]
theorem bpv_len (b : Nat) : (bpv b).length = 1 := rfl
abbrev bsV (l : List Nat) : PV := .sl false 1 l.length (l.flatMap bpv)
abbrev psV (l : List Pr) : PV := .sl false 8 l.length (l.flatMap Pr.pv)
structure Ac where
  a : Int
  b : Nat
  n : Int
  code : List Nat
  store : List Pr
def Ac.ok (x : Ac) : Prop := U x.a ∧ x.b < WW ∧ U x.n ∧ (x.code.length ≤ maxLen ∧ ∀ c ∈ x.code, c < 256) ∧ x.store.length ≤ maxLen ∧ ∀ p ∈ x.store, p.ok
def Ac.pv (x : Ac) : List PV := [.v (.int .u64 x.a), .v (.int .u64 (l0 x.b)), .v (.int .u64 (l1 x.b)), .v (.int .u64 (l2 x.b)), .v (.int .u64 (l3 x.b)), .v (.int .u64 x.n), bsV x.code, psV x.store]
theorem ac_len (x : Ac) : x.pv.length = 8 := rfl
abbrev ac8 (a : Int) (b : Nat) (n : Int) (c s : PV) : List AV := [vi .u64 a, vi .u64 (l0 b), vi .u64 (l1 b), vi .u64 (l2 b), vi .u64 (l3 b), vi .u64 n, .c c, .c s]
abbrev acA (x : Ac) : AV := .agg (ac8 x.a x.b x.n (bsV x.code) (psV x.store))
abbrev acS (ex : Bool) (l : List Ac) : AV := .c (.sl ex 8 l.length (l.flatMap Ac.pv))
abbrev stA (ex : Bool) (l : List Ac) : AV := .agg [acS ex l]
theorem ps_at {l : List Pr} {i : Nat} {y : Pr} (h : l[i]? = some y) : ((l.flatMap Pr.pv).drop (i * 8)).take 8 = [.v (.int .u64 (l0 y.k)), .v (.int .u64 (l1 y.k)), .v (.int .u64 (l2 y.k)), .v (.int .u64 (l3 y.k)), .v (.int .u64 (l0 y.v)), .v (.int .u64 (l1 y.v)), .v (.int .u64 (l2 y.v)), .v (.int .u64 (l3 y.v))] := flat_at (f := Pr.pv) pr_len h
theorem ac_at {l : List Ac} {i : Nat} {y : Ac} (h : l[i]? = some y) : ((l.flatMap Ac.pv).drop (i * 8)).take 8 = [.v (.int .u64 y.a), .v (.int .u64 (l0 y.b)), .v (.int .u64 (l1 y.b)), .v (.int .u64 (l2 y.b)), .v (.int .u64 (l3 y.b)), .v (.int .u64 y.n), bsV y.code, psV y.store] := flat_at (f := Ac.pv) ac_len h
def okP (st : List Pr) (j : Nat) : Bool := match st[j]? with
  | none => true
  | some p => decide (p.v ≠ 0) && (decide (j = 0) || match st[j - 1]? with
    | some q => decide (q.k < p.k)
    | none => true)
def okTo (st : List Pr) : Nat → Bool
  | 0 => true
  | i + 1 => okTo st i && okP st i
def okAc (x : Ac) : Bool := decide (x.a ≠ 0) && decide (x.code.length ≤ 200) && decide (x.store.length ≤ 24) && okTo x.store x.store.length
theorem okP_zero {st : List Pr} {p : Pr} (h : st[0]? = some p) : okP st 0 = decide (p.v ≠ 0) := by
  unfold okP; rw [h]; simp
theorem okP_succ {st : List Pr} {j : Nat} {q p : Pr} (hq : st[j]? = some q) (hp : st[j + 1]? = some p) : okP st (j + 1) = (decide (p.v ≠ 0) && decide (q.k < p.k)) := by
  unfold okP; rw [hp]; simp [hq]
theorem zero_dec {x : Nat} (hx : x < WW) : (l0 x == 0 && (l1 x == 0 && (l2 x == 0 && l3 x == 0))) = !decide (x ≠ 0) := by
  rw [wN_zero hx]
  by_cases h : x = 0 <;> simp [h]
theorem check_no (x : Ac) (hl : x.store.length ≤ maxLen) (hc : x.code.length ≤ maxLen) (h0 : (decide (x.a ≠ 0) && decide (x.code.length ≤ 200) && decide (x.store.length ≤ 24)) = false) : Fn Try.prog 12 [acA x] [] (vi .i64 161) [] := by
  obtain ⟨a, b, n, code, store⟩ := x
  dsimp only at hl hc h0
  obtain ⟨p1, e1⟩ : ∃ p, decide (a ≠ 0) = p := ⟨_, rfl⟩
  obtain ⟨p2, e2⟩ : ∃ p, decide (code.length ≤ 200) = p := ⟨_, rfl⟩
  obtain ⟨p3, e3⟩ : ∃ p, decide (store.length ≤ 24) = p := ⟨_, rfl⟩
  have f1 : (a != 0) = p1 := by rw [← e1]; by_cases h : a = 0 <;> simp [h]
  have f2 : decide ((code.length : Int) ≤ 200) = p2 := by rw [← e2]; exact decide_eq_decide.2 (by omega)
  have f3 : decide ((store.length : Int) ≤ 24) = p3 := by rw [← e3]; exact decide_eq_decide.2 (by omega)
  rw [e1, e2, e3] at h0
  clear e1 e2 e3
  have hlv : store.length < 9223372036854775808 := Nat.lt_succ_of_le hl
  (refine fn_of Try.func12 rfl (by rfl) ?_; simp only [Try.ntmps12, List.length_cons, List.length_nil, Nat.reduceAdd, Nat.reduceSub, List.replicate, List.cons_append, List.nil_append])
  (have W := ndI f1 (ndI f2 f3); (repeat (any_goals (first | ((with_reducible refine evL_one ?_ ?_); rfl; intro K hK; simp only [go_sem, W]; ((repeat (refine ndI (by first | assumption | omega | rfl) ?_)); refine hK _ ?_; clear hK K)) | (with_reducible first | (refine evL_nil ?_; refine hR _ ?_; clear hR R) | ((first | refine evC_seq ?_ | refine evC_block ?_); intro Ψ hΨ hΨ') | (refine evC_region ?_; intro R hR) | (refine hΨ _ ?_; clear hΨ hΨ' Ψ) | refine evC_skip ?_ | refine evC_ret ?_ | refine evC_exit ?_) | ((with_reducible refine hΨ' _ _ ?_ ?_); (focus (simp; done)); clear hΨ hΨ' Ψ) | ((with_reducible apply evL_unmet); rfl; rfl; rfl; (try simp only [go_sem, W])) | ((with_reducible apply evL_grd); rfl; rfl; rfl; all_goals (intro hb; first | (cases hb; done) | ((try simp only [Bool.not_true, Bool.not_false] at hb); (first | ((with_reducible intro K hK); simp only [go_sem, W]; ((repeat (refine ndI (by first | assumption | omega | rfl) ?_)); refine hK _ ?_; clear hK K)) | ((fail_if_success (with_reducible intro _)); simp only [go_sem, W]))))) | ((with_reducible apply evC_cond); rfl; rfl; all_goals (intro hc; first | (cases hc; done) | (try simp only at hc))) | ((with_reducible refine evD_nil ?_ ?_); kernel_rfl; (with_reducible refine hR _ ?_); clear hR R) | ((first | ((with_reducible apply evD_skip); rfl; rfl; rfl; rfl) | ((with_reducible apply evD_unmet); rfl; rfl; rfl) | ((first | ((with_reducible apply evD_any); rfl; rfl) | ((with_reducible apply evD_gany); rfl; rfl; rfl; rfl; rfl)); (simp only [rdE, rdOf, go_sem, W]; rfl); (intro τ hA hQ hN; ((try simp only [agree, Op.operands, Call.operands, go_sem, W, go_sem, List.mem_cons, List.not_mem_nil, forall_eq_or_imp, forall_eq, List.append_toArray, Option.toArray] at hA); (try simp only [go_sem, W, List.mem_cons, List.not_mem_nil, forall_eq_or_imp, forall_eq] at hQ hN); (first | (revert hA; intro hA) | have hA := trivial); (first | (revert hQ; intro hQ) | have hQ := trivial); (first | (revert hN; intro hN) | have hN := trivial); simp only [go_sem, W, go_sem, hA, hQ, hN]; (repeat (refine ndI (by first | assumption | omega | rfl) ?_)); (first | apply eff_rd | apply eff_st | apply eff_nw))))); (simp only [St.eff, setO, hputs, go_sem, W])) | ((with_reducible apply evD_split); rfl; rfl; rfl; all_goals intro hb; all_goals (simp only [St.eff, setO, hputs, go_sem, W])) | ((with_reducible refine evC_draw ?_ ?_ ?_ ?_); kernel_rfl; kernel_rfl; (first | kernel_rfl | simp [newNames, isNew, St.free, freeH, AV.refsL, AV.refs]); intro R hR)))))
  all_goals refine evC_upto store.length (fun i => ⟨[.any, .ptr 1 0, vi .i64 0, vb false, .any, .any, .any, .any, .any, .any, .any, .any, .any, .any, .any, .any, .any, .any, .any, .any, .any, .any, .c (psV store), vi .i64 store.length, vi .i64 (i : Int), .any, .any, .any, .any, .any, .any, .any, .any, .any, .any, .any, .any, .any, .any, .any, .any, .any, .any, .any, .any, .any, .any, .any, .any, .any, .any, .any, .any, .any, .any, .any], [(1, ac8 a b n (bsV code) (psV store))]⟩) (St.le_of (by simp_all [leT]) (by simp [leH, hget])) ?_
  all_goals intro i hi Ψ hΨ hΨ'
  all_goals (try dsimp only at hΨ ⊢)
  all_goals rcases Nat.lt_or_ge i store.length with hlt | hge
  all_goals first
    | (have k1 : (decide ((i : Int) < (store.length : Int))) = true := decide_eq_true (by omega))
    | (have k1 : (decide ((i : Int) < (store.length : Int))) = false := decide_eq_false (by omega))
  all_goals first
    | (have hx := hlt
       obtain ⟨p, hp⟩ : ∃ p, store[i]? = some p := ⟨_, List.getElem?_eq_getElem hx⟩
       have k2 := ps_at hp)
    | (have k2 := True.intro)
  all_goals have k7 : (i : Int) + 1 = ((i + 1 : Nat) : Int) := by omega
  all_goals (have W := ndI k1 (ndI k2 (ndI k7 @wrI)); (repeat (any_goals (first | ((with_reducible refine evL_one ?_ ?_); rfl; intro K hK; simp (disch := omega) only [go_sem, W]; ((repeat (refine ndI (by first | assumption | omega | rfl) ?_)); refine hK _ ?_; clear hK K)) | (with_reducible first | (refine evL_nil ?_; refine hR _ ?_; clear hR R) | ((first | refine evC_seq ?_ | refine evC_block ?_); intro Ψ hΨ hΨ') | (refine evC_region ?_; intro R hR) | (refine hΨ _ ?_; clear hΨ hΨ' Ψ) | refine evC_skip ?_ | refine evC_ret ?_ | refine evC_exit ?_) | ((with_reducible refine hΨ' _ _ ?_ ?_); (focus (simp; done)); clear hΨ hΨ' Ψ) | ((with_reducible apply evL_unmet); rfl; rfl; rfl; (try simp (disch := omega) only [go_sem, W])) | ((with_reducible apply evL_grd); rfl; rfl; rfl; all_goals (intro hb; first | (cases hb; done) | ((try simp only [Bool.not_true, Bool.not_false] at hb); (first | ((with_reducible intro K hK); simp (disch := omega) only [go_sem, W]; ((repeat (refine ndI (by first | assumption | omega | rfl) ?_)); refine hK _ ?_; clear hK K)) | ((fail_if_success (with_reducible intro _)); simp (disch := omega) only [go_sem, W]))))) | ((with_reducible apply evC_cond); rfl; rfl; all_goals (intro hc; first | (cases hc; done) | (try simp only at hc))) | ((with_reducible refine evD_nil ?_ ?_); kernel_rfl; (with_reducible refine hR _ ?_); clear hR R) | ((first | ((with_reducible apply evD_skip); rfl; rfl; rfl; rfl) | ((with_reducible apply evD_unmet); rfl; rfl; rfl) | ((first | ((with_reducible apply evD_any); rfl; rfl) | ((with_reducible apply evD_gany); rfl; rfl; rfl; rfl; rfl)); (simp (disch := omega) only [rdE, rdOf, go_sem, W]; rfl); (intro τ hA hQ hN; ((try simp only [agree, Op.operands, Call.operands, go_sem, W, go_sem, List.mem_cons, List.not_mem_nil, forall_eq_or_imp, forall_eq, List.append_toArray, Option.toArray] at hA); (try simp only [go_sem, W, List.mem_cons, List.not_mem_nil, forall_eq_or_imp, forall_eq] at hQ hN); (first | (revert hA; intro hA) | have hA := trivial); (first | (revert hQ; intro hQ) | have hQ := trivial); (first | (revert hN; intro hN) | have hN := trivial); simp (disch := omega) only [go_sem, W, go_sem, hA, hQ, hN]; (repeat (refine ndI (by first | assumption | omega | rfl) ?_)); (first | apply eff_rd | apply eff_st | apply eff_nw))))); (simp (disch := omega) only [St.eff, setO, hputs, go_sem, W])) | ((with_reducible apply evD_split); rfl; rfl; rfl; all_goals intro hb; all_goals (simp (disch := omega) only [St.eff, setO, hputs, go_sem, W])) | ((with_reducible refine evC_draw ?_ ?_ ?_ ?_); kernel_rfl; kernel_rfl; (first | kernel_rfl | simp [newNames, isNew, St.free, freeH, AV.refsL, AV.refs]); intro R hR)))))
  all_goals first | exact hΨ _ hlt (St.le_of (by simp [leT]) (by simp [leH, hget])) | (refine ⟨by simp, ⟨_, ?_, AV.le_refl _⟩, leH_get (by simp [leH, hget])⟩; simp only [Try.results12, resL, ldA, oneOf, go_sem])
theorem check_yes (x : Ac) (hs : ∀ p ∈ x.store, p.ok) (h0 : (decide (x.a ≠ 0) && decide (x.code.length ≤ 200) && decide (x.store.length ≤ 24)) = true) : Fn Try.prog 12 [acA x] [] (vi .i64 (if okTo x.store x.store.length then 0 else 161)) [] := by
  obtain ⟨a, b, n, code, store⟩ := x
  dsimp only at hs h0 ⊢
  simp only [Bool.and_eq_true, decide_eq_true_eq] at h0
  obtain ⟨⟨h1, h2⟩, h3⟩ := h0
  have f1 : (a != 0) = true := by simp [h1]
  have f2 : decide ((code.length : Int) ≤ 200) = true := decide_eq_true (by omega)
  have f3 : decide ((store.length : Int) ≤ 24) = true := decide_eq_true (by omega)
  obtain ⟨rr, hrr⟩ : ∃ r, okTo store store.length = r := ⟨_, rfl⟩
  rw [hrr]
  (refine fn_of Try.func12 rfl (by rfl) ?_; simp only [Try.ntmps12, List.length_cons, List.length_nil, Nat.reduceAdd, Nat.reduceSub, List.replicate, List.cons_append, List.nil_append])
  (have W := ndI f1 (ndI f2 f3); (repeat (any_goals (first | ((with_reducible refine evL_one ?_ ?_); rfl; intro K hK; simp only [go_sem, W]; ((repeat (refine ndI (by first | assumption | omega | rfl) ?_)); refine hK _ ?_; clear hK K)) | (with_reducible first | (refine evL_nil ?_; refine hR _ ?_; clear hR R) | ((first | refine evC_seq ?_ | refine evC_block ?_); intro Ψ hΨ hΨ') | (refine evC_region ?_; intro R hR) | (refine hΨ _ ?_; clear hΨ hΨ' Ψ) | refine evC_skip ?_ | refine evC_ret ?_ | refine evC_exit ?_) | ((with_reducible refine hΨ' _ _ ?_ ?_); (focus (simp; done)); clear hΨ hΨ' Ψ) | ((with_reducible apply evL_unmet); rfl; rfl; rfl; (try simp only [go_sem, W])) | ((with_reducible apply evL_grd); rfl; rfl; rfl; all_goals (intro hb; first | (cases hb; done) | ((try simp only [Bool.not_true, Bool.not_false] at hb); (first | ((with_reducible intro K hK); simp only [go_sem, W]; ((repeat (refine ndI (by first | assumption | omega | rfl) ?_)); refine hK _ ?_; clear hK K)) | ((fail_if_success (with_reducible intro _)); simp only [go_sem, W]))))) | ((with_reducible apply evC_cond); rfl; rfl; all_goals (intro hc; first | (cases hc; done) | (try simp only at hc))) | ((with_reducible refine evD_nil ?_ ?_); kernel_rfl; (with_reducible refine hR _ ?_); clear hR R) | ((first | ((with_reducible apply evD_skip); rfl; rfl; rfl; rfl) | ((with_reducible apply evD_unmet); rfl; rfl; rfl) | ((first | ((with_reducible apply evD_any); rfl; rfl) | ((with_reducible apply evD_gany); rfl; rfl; rfl; rfl; rfl)); (simp only [rdE, rdOf, go_sem, W]; rfl); (intro τ hA hQ hN; ((try simp only [agree, Op.operands, Call.operands, go_sem, W, go_sem, List.mem_cons, List.not_mem_nil, forall_eq_or_imp, forall_eq, List.append_toArray, Option.toArray] at hA); (try simp only [go_sem, W, List.mem_cons, List.not_mem_nil, forall_eq_or_imp, forall_eq] at hQ hN); (first | (revert hA; intro hA) | have hA := trivial); (first | (revert hQ; intro hQ) | have hQ := trivial); (first | (revert hN; intro hN) | have hN := trivial); simp only [go_sem, W, go_sem, hA, hQ, hN]; (repeat (refine ndI (by first | assumption | omega | rfl) ?_)); (first | apply eff_rd | apply eff_st | apply eff_nw))))); (simp only [St.eff, setO, hputs, go_sem, W])) | ((with_reducible apply evD_split); rfl; rfl; rfl; all_goals intro hb; all_goals (simp only [St.eff, setO, hputs, go_sem, W])) | ((with_reducible refine evC_draw ?_ ?_ ?_ ?_); kernel_rfl; kernel_rfl; (first | kernel_rfl | simp [newNames, isNew, St.free, freeH, AV.refsL, AV.refs]); intro R hR)))))
  refine evC_upto store.length (fun i => ⟨[.any, .ptr 1 0, vi .i64 0, vb (okTo store i), .any, .any, .any, .any, .any, .any, .any, .any, .any, .any, .any, .any, .any, .any, .any, .any, .any, .any, .c (psV store), vi .i64 store.length, vi .i64 (i : Int), .any, .any, .any, .any, .any, .any, .any, .any, .any, .any, .any, .any, .any, .any, .any, .any, .any, .any, .any, .any, .any, .any, .any, .any, .any, .any, .any, .any, .any, .any, .any], [(1, ac8 a b n (bsV code) (psV store))]⟩) (St.le_of (by simp [leT, okTo]) (by simp [leH, hget])) ?_
  intro i hi Ψ hΨ hΨ'
  (try dsimp only at hΨ ⊢)
  have k7 : (i : Int) + 1 = ((i + 1 : Nat) : Int) := by omega
  rcases Nat.lt_or_ge i store.length with hlt | hge
  · obtain ⟨p, hp⟩ : ∃ p, store[i]? = some p := ⟨_, List.getElem?_eq_getElem hlt⟩
    have k1 : (decide ((i : Int) < (store.length : Int))) = true := decide_eq_true (by omega)
    have k2 := ps_at hp
    have hv := zero_dec (hs p (List.mem_of_getElem? hp)).2
    obtain ⟨q1, hq1⟩ : ∃ q, decide (p.v ≠ 0) = q := ⟨_, rfl⟩
    rw [hq1] at hv
    have hnx : okTo store (i + 1) = (okTo store i && okP store i) := rfl
    rw [hnx] at hΨ
    generalize okTo store i = g at hΨ ⊢
    rcases Nat.eq_zero_or_pos i with h0 | h0
    · have n3 : ((i : Int) == 0) = true := by rw [h0]; rfl
      have hok : okP store i = q1 := by
        rw [h0] at hp ⊢
        rw [okP_zero hp, hq1]
      rw [hok] at hΨ
      cases g <;> cases q1
      all_goals simp only [Bool.not_true, Bool.not_false] at hv
      all_goals (have W := ndI k1 (ndI k2 (ndI k7 (ndI n3 @wrI))); (repeat (any_goals (first | ((with_reducible refine evL_one ?_ ?_); rfl; intro K hK; simp (disch := omega) only [go_sem, W, hv]; ((repeat (refine ndI (by first | assumption | omega | rfl) ?_)); refine hK _ ?_; clear hK K)) | (with_reducible first | (refine evL_nil ?_; refine hR _ ?_; clear hR R) | ((first | refine evC_seq ?_ | refine evC_block ?_); intro Ψ hΨ hΨ') | (refine evC_region ?_; intro R hR) | (refine hΨ _ ?_; clear hΨ hΨ' Ψ) | refine evC_skip ?_ | refine evC_ret ?_ | refine evC_exit ?_) | ((with_reducible refine hΨ' _ _ ?_ ?_); (focus (simp; done)); clear hΨ hΨ' Ψ) | ((with_reducible apply evL_unmet); rfl; rfl; rfl; (try simp (disch := omega) only [go_sem, W, hv])) | ((with_reducible apply evL_grd); rfl; rfl; rfl; all_goals (intro hb; first | (cases hb; done) | ((try simp only [Bool.not_true, Bool.not_false] at hb); (first | ((with_reducible intro K hK); simp (disch := omega) only [go_sem, W, hv]; ((repeat (refine ndI (by first | assumption | omega | rfl) ?_)); refine hK _ ?_; clear hK K)) | ((fail_if_success (with_reducible intro _)); simp (disch := omega) only [go_sem, W, hv]))))) | ((with_reducible apply evC_cond); rfl; rfl; all_goals (intro hc; first | (cases hc; done) | (try simp only at hc))) | ((with_reducible refine evD_nil ?_ ?_); kernel_rfl; (with_reducible refine hR _ ?_); clear hR R) | ((first | ((with_reducible apply evD_skip); rfl; rfl; rfl; rfl) | ((with_reducible apply evD_unmet); rfl; rfl; rfl) | ((first | ((with_reducible apply evD_any); rfl; rfl) | ((with_reducible apply evD_gany); rfl; rfl; rfl; rfl; rfl)); (simp (disch := omega) only [rdE, rdOf, go_sem, W, hv]; rfl); (intro τ hA hQ hN; ((try simp only [agree, Op.operands, Call.operands, go_sem, W, hv, go_sem, List.mem_cons, List.not_mem_nil, forall_eq_or_imp, forall_eq, List.append_toArray, Option.toArray] at hA); (try simp only [go_sem, W, hv, List.mem_cons, List.not_mem_nil, forall_eq_or_imp, forall_eq] at hQ hN); (first | (revert hA; intro hA) | have hA := trivial); (first | (revert hQ; intro hQ) | have hQ := trivial); (first | (revert hN; intro hN) | have hN := trivial); simp (disch := omega) only [go_sem, W, hv, go_sem, hA, hQ, hN]; (repeat (refine ndI (by first | assumption | omega | rfl) ?_)); (first | apply eff_rd | apply eff_st | apply eff_nw))))); (simp (disch := omega) only [St.eff, setO, hputs, go_sem, W, hv])) | ((with_reducible apply evD_split); rfl; rfl; rfl; all_goals intro hb; all_goals (simp (disch := omega) only [St.eff, setO, hputs, go_sem, W, hv])) | ((with_reducible refine evC_draw ?_ ?_ ?_ ?_); kernel_rfl; kernel_rfl; (first | kernel_rfl | simp [newNames, isNew, St.free, freeH, AV.refsL, AV.refs]); intro R hR)))))
      all_goals exact hΨ _ hlt (St.le_of (by simp [leT]) (by simp [leH, hget]))
    · obtain ⟨j, hj⟩ : ∃ j, i = j + 1 := ⟨i - 1, by omega⟩
      obtain ⟨q, hq⟩ : ∃ q, store[j]? = some q := ⟨_, List.getElem?_eq_getElem (by omega)⟩
      have n3 : ((i : Int) == 0) = false := by rw [beq_eq_false_iff_ne]; omega
      have n4 := ps_at hq
      have n5 : (i : Int) - 1 = (j : Int) := by omega
      have hjl : j < store.length := by omega
      have cm := cmp_fn q.k p.k (hs q (List.mem_of_getElem? hq)).1 (hs p (List.mem_of_getElem? hp)).1
      obtain ⟨q2, hq2⟩ : ∃ c, decide (q.k < p.k) = c := ⟨_, rfl⟩
      have hok : okP store i = (q1 && q2) := by
        rw [hj] at hp ⊢
        rw [okP_succ hq hp, hq1, hq2]
      rw [hok] at hΨ
      obtain ⟨cv, hcv, hcd⟩ : ∃ cv : Int, (if q.k < p.k then -1 else if p.k < q.k then 1 else 0 : Int) = cv ∧ decide (cv < 0) = q2 := by
        refine ⟨_, rfl, ?_⟩
        rw [← hq2]
        by_cases h : q.k < p.k
        · rw [if_pos h, decide_eq_true h]; rfl
        · rw [if_neg h, decide_eq_false h]; split <;> rfl
      rw [hcv] at cm
      cases g <;> cases q1 <;> cases q2
      all_goals simp only [Bool.not_true, Bool.not_false] at hv
      all_goals (have W := ndI k1 (ndI k2 (ndI k7 (ndI n3 (ndI n4 (ndI n5 @wrI))))); (repeat (any_goals (first | ((with_reducible refine evL_one ?_ ?_); rfl; intro K hK; simp (disch := omega) only [go_sem, W, hv, hcd]; ((repeat (refine ndI (by first | assumption | omega | rfl) ?_)); refine hK _ ?_; clear hK K)) | (with_reducible first | (refine evL_nil ?_; refine hR _ ?_; clear hR R) | ((first | refine evC_seq ?_ | refine evC_block ?_); intro Ψ hΨ hΨ') | (refine evC_region ?_; intro R hR) | (refine hΨ _ ?_; clear hΨ hΨ' Ψ) | refine evC_skip ?_ | refine evC_ret ?_ | refine evC_exit ?_) | ((with_reducible refine hΨ' _ _ ?_ ?_); (focus (simp; done)); clear hΨ hΨ' Ψ) | ((with_reducible apply evL_unmet); rfl; rfl; rfl; (try simp (disch := omega) only [go_sem, W, hv, hcd])) | ((with_reducible apply evL_grd); rfl; rfl; rfl; all_goals (intro hb; first | (cases hb; done) | ((try simp only [Bool.not_true, Bool.not_false] at hb); (first | ((with_reducible intro K hK); simp (disch := omega) only [go_sem, W, hv, hcd]; ((repeat (refine ndI (by first | assumption | omega | rfl) ?_)); refine hK _ ?_; clear hK K)) | ((fail_if_success (with_reducible intro _)); simp (disch := omega) only [go_sem, W, hv, hcd]))))) | ((with_reducible apply evC_cond); rfl; rfl; all_goals (intro hc; first | (cases hc; done) | (try simp only at hc))) | ((with_reducible refine evD_nil ?_ ?_); kernel_rfl; (with_reducible refine hR _ ?_); clear hR R) | ((first | ((with_reducible apply evD_skip); rfl; rfl; rfl; rfl) | ((with_reducible apply evD_unmet); rfl; rfl; rfl) | ((first | ((with_reducible apply evD_fcall); rfl; rfl) | ((with_reducible apply evD_gcall); rfl; rfl; rfl; rfl; rfl)); ((apply opF_callB (cm); rfl; rfl; rfl; rfl; exact Try.func33); kernel_rfl; rfl; (simp (disch := omega) only [go_sem, W, hv, hcd]; rfl); (first | rfl | simp [AV.inNL, AV.inN]))) | ((first | ((with_reducible apply evD_any); rfl; rfl) | ((with_reducible apply evD_gany); rfl; rfl; rfl; rfl; rfl)); (simp (disch := omega) only [rdE, rdOf, go_sem, W, hv, hcd]; rfl); (intro τ hA hQ hN; ((try simp only [agree, Op.operands, Call.operands, go_sem, W, hv, hcd, go_sem, List.mem_cons, List.not_mem_nil, forall_eq_or_imp, forall_eq, List.append_toArray, Option.toArray] at hA); (try simp only [go_sem, W, hv, hcd, List.mem_cons, List.not_mem_nil, forall_eq_or_imp, forall_eq] at hQ hN); (first | (revert hA; intro hA) | have hA := trivial); (first | (revert hQ; intro hQ) | have hQ := trivial); (first | (revert hN; intro hN) | have hN := trivial); simp (disch := omega) only [go_sem, W, hv, hcd, go_sem, hA, hQ, hN]; (repeat (refine ndI (by first | assumption | omega | rfl) ?_)); (first | apply eff_rd | apply eff_st | apply eff_nw))))); (simp (disch := omega) only [St.eff, setO, hputs, go_sem, W, hv, hcd])) | ((with_reducible apply evD_split); rfl; rfl; rfl; all_goals intro hb; all_goals (simp (disch := omega) only [St.eff, setO, hputs, go_sem, W, hv, hcd])) | ((with_reducible refine evC_draw ?_ ?_ ?_ ?_); kernel_rfl; kernel_rfl; (first | kernel_rfl | simp [newNames, isNew, St.free, freeH, AV.refsL, AV.refs]); intro R hR)))))
      all_goals exact hΨ _ hlt (St.le_of (by simp [leT]) (by simp [leH, hget]))
  · have k1 : (decide ((i : Int) < (store.length : Int))) = false := decide_eq_false (by omega)
    have e : i = store.length := by omega
    rw [e, hrr]
    rw [e] at k1
    (repeat (any_goals (first | ((with_reducible refine evL_one ?_ ?_); rfl; intro K hK; simp only [go_sem, k1]; ((repeat (refine ndI (by first | assumption | omega | rfl) ?_)); refine hK _ ?_; clear hK K)) | (with_reducible first | (refine evL_nil ?_; refine hR _ ?_; clear hR R) | ((first | refine evC_seq ?_ | refine evC_block ?_); intro Ψ hΨ hΨ') | (refine evC_region ?_; intro R hR) | (refine hΨ _ ?_; clear hΨ hΨ' Ψ) | refine evC_skip ?_ | refine evC_ret ?_ | refine evC_exit ?_) | ((with_reducible refine hΨ' _ _ ?_ ?_); (focus (simp; done)); clear hΨ hΨ' Ψ) | ((with_reducible apply evL_unmet); rfl; rfl; rfl; (try simp only [go_sem, k1])) | ((with_reducible apply evL_grd); rfl; rfl; rfl; all_goals (intro hb; first | (cases hb; done) | ((try simp only [Bool.not_true, Bool.not_false] at hb); (first | ((with_reducible intro K hK); simp only [go_sem, k1]; ((repeat (refine ndI (by first | assumption | omega | rfl) ?_)); refine hK _ ?_; clear hK K)) | ((fail_if_success (with_reducible intro _)); simp only [go_sem, k1]))))) | ((with_reducible apply evC_cond); rfl; rfl; all_goals (intro hc; first | (cases hc; done) | (try simp only at hc))) | ((with_reducible refine evD_nil ?_ ?_); kernel_rfl; (with_reducible refine hR _ ?_); clear hR R) | ((first | ((with_reducible apply evD_skip); rfl; rfl; rfl; rfl) | ((with_reducible apply evD_unmet); rfl; rfl; rfl) | ((first | ((with_reducible apply evD_any); rfl; rfl) | ((with_reducible apply evD_gany); rfl; rfl; rfl; rfl; rfl)); (simp only [rdE, rdOf, go_sem, k1]; rfl); (intro τ hA hQ hN; ((try simp only [agree, Op.operands, Call.operands, go_sem, k1, go_sem, List.mem_cons, List.not_mem_nil, forall_eq_or_imp, forall_eq, List.append_toArray, Option.toArray] at hA); (try simp only [go_sem, k1, List.mem_cons, List.not_mem_nil, forall_eq_or_imp, forall_eq] at hQ hN); (first | (revert hA; intro hA) | have hA := trivial); (first | (revert hQ; intro hQ) | have hQ := trivial); (first | (revert hN; intro hN) | have hN := trivial); simp only [go_sem, k1, go_sem, hA, hQ, hN]; (repeat (refine ndI (by first | assumption | omega | rfl) ?_)); (first | apply eff_rd | apply eff_st | apply eff_nw))))); (simp only [St.eff, setO, hputs, go_sem, k1])) | ((with_reducible apply evD_split); rfl; rfl; rfl; all_goals intro hb; all_goals (simp only [St.eff, setO, hputs, go_sem, k1])) | ((with_reducible refine evC_draw ?_ ?_ ?_ ?_); kernel_rfl; kernel_rfl; (first | kernel_rfl | simp [newNames, isNew, St.free, freeH, AV.refsL, AV.refs]); intro R hR))))
    all_goals simp only [Bool.not_eq_true', Bool.not_eq_false'] at hc
    all_goals rw [hc]
    all_goals (refine ⟨by simp, ⟨_, ?_, AV.le_refl _⟩, leH_get (by simp [leH, hget])⟩; simp only [Try.results12, resL, ldA, oneOf, go_sem])
theorem check_fn (x : Ac) (hs : ∀ p ∈ x.store, p.ok) (hl : x.store.length ≤ maxLen) (hc : x.code.length ≤ maxLen) : Fn Try.prog 12 [acA x] [] (vi .i64 (if okAc x then 0 else 161)) [] := by
  unfold okAc
  obtain ⟨c, h0⟩ : ∃ c, (decide (x.a ≠ 0) && decide (x.code.length ≤ 200) && decide (x.store.length ≤ 24)) = c := ⟨_, rfl⟩
  rw [h0]
  cases c
  · rw [Bool.false_and]
    exact check_no x hl hc h0
  · rw [Bool.true_and]
    exact check_yes x hs h0
def emptyA (x : Ac) : Bool := decide (x.b = 0) && decide (x.n = 0) && decide (x.code.length + x.store.length = 0)
theorem empty_fn (x : Ac) (hb : x.b < WW) (hl : x.store.length ≤ maxLen) (hc : x.code.length ≤ maxLen) (h : x.code.length + x.store.length ≤ maxLen) : Fn Try.prog 48 [acA x] [] (vb (emptyA x)) [] := by
  obtain ⟨a, b, n, code, store⟩ := x
  dsimp only at hb hl hc h
  unfold emptyA
  dsimp only
  have f1 := wN_zero hb
  obtain ⟨p1, e1⟩ : ∃ p, decide (b = 0) = p := ⟨_, rfl⟩
  obtain ⟨p2, e2⟩ : ∃ p, decide (n = 0) = p := ⟨_, rfl⟩
  obtain ⟨p3, e3⟩ : ∃ p, decide (code.length + store.length = 0) = p := ⟨_, rfl⟩
  have f2 : (n == 0) = p2 := by rw [← e2, Bool.eq_iff_iff]; simp
  have f3 : ((code.length : Int) + (store.length : Int)) = ((code.length + store.length : Nat) : Int) := by omega
  have f4 : (((code.length + store.length : Nat) : Int) == 0) = p3 := by
    rw [← e3, Bool.eq_iff_iff, beq_iff_eq, decide_eq_true_eq]; omega
  have hm : code.length + store.length < 9223372036854775808 := Nat.lt_succ_of_le h
  rw [e1] at f1
  rw [e1, e2, e3]
  clear e1 e2 e3
  generalize code.length + store.length = m at f3 f4 hm
  cases p1 <;> cases p2 <;> cases p3
  all_goals (refine fn_of Try.func48 rfl (by rfl) ?_; simp only [Try.ntmps48, List.length_cons, List.length_nil, Nat.reduceAdd, Nat.reduceSub, List.replicate, List.cons_append, List.nil_append])
  all_goals (have W := ndI f1 (ndI f2 (ndI f3 (ndI f4 @wrI))); (repeat (any_goals (first | ((with_reducible refine evL_one ?_ ?_); rfl; intro K hK; simp (disch := omega) only [go_sem, W]; ((repeat (refine ndI (by first | assumption | omega | rfl) ?_)); refine hK _ ?_; clear hK K)) | (with_reducible first | (refine evL_nil ?_; refine hR _ ?_; clear hR R) | ((first | refine evC_seq ?_ | refine evC_block ?_); intro Ψ hΨ hΨ') | (refine evC_region ?_; intro R hR) | (refine hΨ _ ?_; clear hΨ hΨ' Ψ) | refine evC_skip ?_ | refine evC_ret ?_ | refine evC_exit ?_) | ((with_reducible refine hΨ' _ _ ?_ ?_); (focus (simp; done)); clear hΨ hΨ' Ψ) | ((with_reducible apply evL_unmet); rfl; rfl; rfl; (try simp (disch := omega) only [go_sem, W])) | ((with_reducible apply evL_grd); rfl; rfl; rfl; all_goals (intro hb; first | (cases hb; done) | ((try simp only [Bool.not_true, Bool.not_false] at hb); (first | ((with_reducible intro K hK); simp (disch := omega) only [go_sem, W]; ((repeat (refine ndI (by first | assumption | omega | rfl) ?_)); refine hK _ ?_; clear hK K)) | ((fail_if_success (with_reducible intro _)); simp (disch := omega) only [go_sem, W]))))) | ((with_reducible apply evC_cond); rfl; rfl; all_goals (intro hc; first | (cases hc; done) | (try simp only at hc)))))))
  all_goals (refine ⟨by simp, ⟨_, ?_, AV.le_refl _⟩, leH_get (by simp [leH, hget])⟩; simp only [Try.results48, resL, ldA, oneOf, go_sem])
  all_goals rfl
end Go.Proofs.Ytiggambibcohcaa

