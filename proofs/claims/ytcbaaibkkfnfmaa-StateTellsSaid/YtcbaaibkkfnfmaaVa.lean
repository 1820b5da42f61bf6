/-
  What the document has of states: how many, sums, emptiness, what is found; reckoned.
-/
import Derived.Test.YtcbaaibkkfnfmaaRe
import Derived.Test.YtcbaaibkkfnfmaaSb
import Derived.Test.YtcbaaibkkfnfmaaUa
namespace Go.Proofs.Ytcbaaibkkfnfmaa
open Go.RowKit
open Nat (reduceBEq)
set_option linter.unusedVariables false
set_option linter.unusedSimpArgs false
set_option maxRecDepth 20000
set_option maxHeartbeats 2000000
theorem rmany_fn (ex : Bool) (L : List Ac) (hL : L.length ≤ maxLen) : Fn Try.prog 25 [acS ex L] [] (vi .i64 (manyL L : Nat)) [] := by
  unfold manyL
  (refine fn_of Try.func25 rfl (by rfl) ?_; simp only [Try.ntmps25, List.length_cons, List.length_nil, Nat.reduceAdd, Nat.reduceSub, List.replicate, List.cons_append, List.nil_append])
  (repeat (any_goals (first | ((with_reducible refine evL_one ?_ ?_); rfl; intro K hK; simp only [go_sem]; ((repeat (refine And.intro (by first | assumption | omega | rfl) ?_)); (with_reducible refine hK _ ?_); clear hK K)) | ((with_reducible refine evL_nil ?_); (with_reducible refine hR _ ?_); clear hR R) | ((with_reducible first | refine evC_seq ?_ | refine evC_block ?_); intro Ψ hΨ hΨ') | ((with_reducible refine evC_region ?_); intro R hR) | ((with_reducible refine hΨ _ ?_); clear hΨ hΨ' Ψ) | ((with_reducible refine hΨ' _ _ ?_ ?_); (focus (first | ((intro hx; cases hx); done) | ((intro j hj; cases hj); done) | (intro j hj; cases hj; (decide); done))); clear hΨ hΨ' Ψ) | (with_reducible first | refine evC_skip ?_ | refine evC_ret ?_ | refine evC_exit ?_) | ((with_reducible apply evC_cond); rfl; rfl; all_goals (intro hc; first | (exact absurd hc (by decide)) | (try simp only at hc))))))
  refine evC_upto L.length (fun i => ⟨[.any, .any, .any, vi .i64 (((L.take i).filter fun x => decide (16 ≤ x.a)).length : Nat), .any, .any, acS ex L, vi .i64 L.length, vi .i64 (i : Int), .any, .any, .any, .any, .any, .any, .any, .any, .any, .any], []⟩) (St.le_of (by simp [leT]) (by simp [leH, hget])) ?_
  intro i hi Ψ hΨ hΨ'
  (try dsimp only at hΨ ⊢)
  have k8 : L.length < 9223372036854775808 := Nat.lt_succ_of_le hL
  rcases Nat.lt_or_ge i L.length with hlt | hge
  · obtain ⟨x, hx⟩ : ∃ x, L[i]? = some x := ⟨_, List.getElem?_eq_getElem hlt⟩
    have k1 : (decide ((i : Int) < (L.length : Int))) = true := decide_eq_true (by omega)
    have k2 := ac_at hx
    have k7 : (i : Int) + 1 = ((i + 1 : Nat) : Int) := by omega
    have k3 : ((L.take (i + 1)).filter fun x => decide (16 ≤ x.a)) = ((L.take i).filter fun x => decide (16 ≤ x.a)) ++ (if decide (16 ≤ x.a) then [x] else []) := by
      rw [List.take_add_one, hx, List.filter_append]; simp [List.filter_cons]
    have k5 : ((L.take i).filter fun x => decide (16 ≤ x.a)).length ≤ i := Nat.le_trans (List.length_filter_le _ _) (by rw [List.length_take]; omega)
    rw [k3, List.length_append] at hΨ
    generalize ((L.take i).filter fun x => decide (16 ≤ x.a)).length = c at hΨ k5 ⊢
    have k6 : (c : Int) + 1 = ((c + 1 : Nat) : Int) := by omega
    cases hq : decide (16 ≤ x.a)
    all_goals rw [hq] at hΨ
    all_goals (repeat (any_goals (first | ((with_reducible refine evL_one ?_ ?_); rfl; intro K hK; simp (disch := omega) only [go_sem, k1, k2, k6, k7, hq, wrI, go_sem]; ((repeat (refine And.intro (by first | assumption | omega | rfl) ?_)); (with_reducible refine hK _ ?_); clear hK K)) | ((with_reducible refine evL_nil ?_); (with_reducible refine hR _ ?_); clear hR R) | ((with_reducible first | refine evC_seq ?_ | refine evC_block ?_); intro Ψ hΨ hΨ') | ((with_reducible refine evC_region ?_); intro R hR) | ((with_reducible refine hΨ _ ?_); clear hΨ hΨ' Ψ) | ((with_reducible refine hΨ' _ _ ?_ ?_); (focus (first | ((intro hx; cases hx); done) | ((intro j hj; cases hj); done) | (intro j hj; cases hj; (decide); done))); clear hΨ hΨ' Ψ) | (with_reducible first | refine evC_skip ?_ | refine evC_ret ?_ | refine evC_exit ?_) | ((with_reducible apply evC_cond); rfl; rfl; all_goals (intro hc; first | (exact absurd hc (by decide)) | (try simp only at hc))))))
    all_goals exact hΨ _ hlt (St.le_of (by simp [leT]) (by simp [leH, hget]))
  · have k1 : (decide ((i : Int) < (L.length : Int))) = false := decide_eq_false (by omega)
    rw [List.take_of_length_le hge]
    (repeat (any_goals (first | ((with_reducible refine evL_one ?_ ?_); rfl; intro K hK; simp only [go_sem, k1, go_sem]; ((repeat (refine And.intro (by first | assumption | omega | rfl) ?_)); (with_reducible refine hK _ ?_); clear hK K)) | ((with_reducible refine evL_nil ?_); (with_reducible refine hR _ ?_); clear hR R) | ((with_reducible first | refine evC_seq ?_ | refine evC_block ?_); intro Ψ hΨ hΨ') | ((with_reducible refine evC_region ?_); intro R hR) | ((with_reducible refine hΨ _ ?_); clear hΨ hΨ' Ψ) | ((with_reducible refine hΨ' _ _ ?_ ?_); (focus (first | ((intro hx; cases hx); done) | ((intro j hj; cases hj); done) | (intro j hj; cases hj; (decide); done))); clear hΨ hΨ' Ψ) | (with_reducible first | refine evC_skip ?_ | refine evC_ret ?_ | refine evC_exit ?_) | ((with_reducible apply evC_cond); rfl; rfl; all_goals (intro hc; first | (exact absurd hc (by decide)) | (try simp only at hc))))))
    all_goals (refine ⟨by simp, ⟨_, ?_, AV.le_refl _⟩, leH_get (by simp [leH, hget])⟩; simp only [Try.results25, resL, ldA, oneOf, go_sem])
abbrev stO (ex : Bool) (L : List Ac) (r : Nat) (out : List Nat) (i : Int) : St := ⟨[.any, .any, .ptr 2 0, vb false, .row r 36 4 out.length, .any, .any, acS ex L, vi .i64 L.length, vi .i64 i, .any, .any, .any, .any, .any, .any, .any, .any, .any, .any, .any, .any, .any], [(2, [vi .u64 0, vi .u64 0, vi .u64 0, vi .u64 0]), (r, rcW out)]⟩
theorem stO_rn (ex : Bool) (L : List Ac) (out : List Nat) (i : Int) : (stO ex L 17 out i).to (stO ex L 500 out i) := by
  refine (St.to.rn (fun r => if r = 17 then 500 else r) (fun r => if r = 500 then 17 else r) [2, 17] (by simp [AV.inNL, AV.inN]) (by simp) (by simp [inH, AV.inNL, AV.inN, inNL_rcW]) (by simp) (by simp)).trans (St.to.of_le (St.le_of (by simp [leT, AV.renL, AV.ren]) (by simp [leH, hget, renH, AV.renL, AV.ren, renL_rcW])))
theorem rtotal_fn (ex : Bool) (L : List Ac) (hL : L.length ≤ 1000) (ok : ∀ x ∈ L, x.b < WW) : Fn Try.prog 10 [acS ex L] [] (.tup [wN ((L.map Ac.b).sum % WW), vb (decide (WW ≤ (L.map Ac.b).sum))]) [] := by
  have sm := refsum_fn false (L.map Ac.b) (by rw [List.length_map]; exact hL) (fun x hx => by obtain ⟨y, hy, rfl⟩ := List.mem_map.1 hx; exact ok y hy)
  obtain ⟨tn, htn⟩ : ∃ n, (L.map Ac.b).sum % WW = n := ⟨_, rfl⟩
  obtain ⟨tq, htq⟩ : ∃ q, decide (WW ≤ (L.map Ac.b).sum) = q := ⟨_, rfl⟩
  rw [htn, htq] at sm ⊢
  (refine fn_of Try.func10 rfl (by rfl) ?_; simp only [Try.ntmps10, List.length_cons, List.length_nil, Nat.reduceAdd, Nat.reduceSub, List.replicate, List.cons_append, List.nil_append])
  (repeat (any_goals (first | ((with_reducible refine evL_one ?_ ?_); rfl; intro K hK; simp only [go_sem]; ((repeat (refine And.intro (by first | assumption | omega | rfl) ?_)); (with_reducible refine hK _ ?_); clear hK K)) | ((with_reducible refine evL_nil ?_); (with_reducible refine hR _ ?_); clear hR R) | ((with_reducible first | refine evC_seq ?_ | refine evC_block ?_); intro Ψ hΨ hΨ') | ((with_reducible refine evC_region ?_); intro R hR) | ((with_reducible refine hΨ _ ?_); clear hΨ hΨ' Ψ) | ((with_reducible refine hΨ' _ _ ?_ ?_); (focus (first | ((intro hx; cases hx); done) | ((intro j hj; cases hj); done) | (intro j hj; cases hj; (decide); done))); clear hΨ hΨ' Ψ) | (with_reducible first | refine evC_skip ?_ | refine evC_ret ?_ | refine evC_exit ?_) | ((with_reducible apply evC_cond); rfl; rfl; all_goals (intro hc; first | (exact absurd hc (by decide)) | (try simp only at hc))))))
  refine evC_uptoT L.length (fun i => stO ex L 500 ((L.take i).map Ac.b) i) ?_ ?_
  · refine (St.to.nilrow 4 500 36 4 rfl (by simp) (by simp [St.free, freeH, AV.refs, AV.refsL]) (by omega)).trans (St.to.of_le (St.le_of (by simp [leT]) (by simp [leH, hget, hput, rcW])))
  · intro i hi Ψ hΨ hΨ'
    have k8 : L.length < 9223372036854775808 := by omega
    have ln : ((L.take i).map Ac.b).length ≤ 1000 := by rw [List.length_map, List.length_take]; omega
    rcases Nat.lt_or_ge i L.length with hlt | hge
    · obtain ⟨x, hx⟩ : ∃ x, L[i]? = some x := ⟨_, List.getElem?_eq_getElem hlt⟩
      have k1 : (decide ((i : Int) < (L.length : Int))) = true := decide_eq_true (by omega)
      have k2 := ac_at hx
      have k7 : (i : Int) + 1 = ((i + 1 : Nat) : Int) := by omega
      have k3 : (L.take (i + 1)).map Ac.b = (L.take i).map Ac.b ++ [x.b] := by rw [List.take_add_one, hx, List.map_append]; rfl
      (try dsimp only at hΨ ⊢)
      rw [k3] at hΨ
      generalize (L.take i).map Ac.b = out at hΨ ln ⊢
      have e1 := rcW_len out
      have e2 : rcW (out ++ [x.b]) = rcW out ++ (wpv x.b).map .c := by unfold rcW; rw [List.flatMap_append]; simp [List.flatMap_cons]
      have e3 : ∀ r, AV.refsL r (rcW out) = false := fun r => refsL_map r _
      (repeat (any_goals (first | ((with_reducible refine evL_one ?_ ?_); rfl; intro K hK; simp (disch := omega) only [go_sem, k1, k2, k7, e1, e3, wrI, go_sem]; ((repeat (refine And.intro (by first | assumption | omega | rfl) ?_)); (with_reducible refine hK _ ?_); clear hK K)) | ((with_reducible refine evL_nil ?_); (with_reducible refine hR _ ?_); clear hR R) | ((with_reducible first | refine evC_seq ?_ | refine evC_block ?_); intro Ψ hΨ hΨ') | ((with_reducible refine evC_region ?_); intro R hR) | ((with_reducible refine hΨ _ ?_); clear hΨ hΨ' Ψ) | ((with_reducible refine hΨ' _ _ ?_ ?_); (focus (first | ((intro hx; cases hx); done) | ((intro j hj; cases hj); done) | (intro j hj; cases hj; (decide); done))); clear hΨ hΨ' Ψ) | (with_reducible first | refine evC_skip ?_ | refine evC_ret ?_ | refine evC_exit ?_) | ((with_reducible apply evC_cond); rfl; rfl; all_goals (intro hc; first | (exact absurd hc (by decide)) | (try simp only at hc))))))
      all_goals exact hΨ _ hlt (St.to.trans (St.to.of_le (τ := stO ex L 17 (out ++ [x.b]) ((i + 1 : Nat) : Int)) (St.le_of (by simp [leT]) (by simp [leH, hget, e2, wpv]))) (stO_rn ex L _ _))
    · have k1 : (decide ((i : Int) < (L.length : Int))) = false := decide_eq_false (by omega)
      rw [List.take_of_length_le hge]
      (try dsimp only)
      (repeat (any_goals (first | ((with_reducible refine evL_one ?_ ?_); rfl; intro K hK; simp only [go_sem, k1, go_sem]; ((repeat (refine And.intro (by first | assumption | omega | rfl) ?_)); (with_reducible refine hK _ ?_); clear hK K)) | ((with_reducible refine evL_nil ?_); (with_reducible refine hR _ ?_); clear hR R) | ((with_reducible first | refine evC_seq ?_ | refine evC_block ?_); intro Ψ hΨ hΨ') | ((with_reducible refine evC_region ?_); intro R hR) | ((with_reducible refine hΨ _ ?_); clear hΨ hΨ' Ψ) | ((with_reducible refine hΨ' _ _ ?_ ?_); (focus (first | ((intro hx; cases hx); done) | ((intro j hj; cases hj); done) | (intro j hj; cases hj; (decide); done))); clear hΨ hΨ' Ψ) | (with_reducible first | refine evC_skip ?_ | refine evC_ret ?_ | refine evC_exit ?_) | ((with_reducible apply evC_cond); rfl; rfl; all_goals (intro hc; first | (exact absurd hc (by decide)) | (try simp only at hc))))))
      refine evL_to rfl (St.to.frz 500 (pcs := (L.map Ac.b).flatMap wpv) (by simp [hget, rcW])) ?_
      have el : ((L.map Ac.b).flatMap wpv).length = (L.map Ac.b).length * 4 := flat_length wpv_len _
      simp only [St.frz, AV.frzL, AV.frz, frzH, el, if_true, eq_self, ↓reduceIte, Nat.reduceEqDiff]
      (repeat (any_goals (first | ((with_reducible refine evL_call ?_ ?_ ?_); rfl; rfl; intro K hK; ((apply opA_callB (sm); rfl; rfl; rfl; rfl; exact Try.func35); kernel_rfl; rfl; (simp only [go_sem]; rfl); (simp only [AV.inNL, AV.inN, inNL_map, Bool.and_true])); (simp only [go_sem]; (with_reducible refine hK _ ?_); clear hK K)) | ((with_reducible refine evL_one ?_ ?_); rfl; intro K hK; simp only [go_sem]; ((repeat (refine And.intro (by first | assumption | omega | rfl) ?_)); (with_reducible refine hK _ ?_); clear hK K)) | ((with_reducible refine evL_nil ?_); (with_reducible refine hR _ ?_); clear hR R) | ((with_reducible first | refine evC_seq ?_ | refine evC_block ?_); intro Ψ hΨ hΨ') | ((with_reducible refine evC_region ?_); intro R hR) | ((with_reducible refine hΨ _ ?_); clear hΨ hΨ' Ψ) | ((with_reducible refine hΨ' _ _ ?_ ?_); (focus (first | ((intro hx; cases hx); done) | ((intro j hj; cases hj); done) | (intro j hj; cases hj; (decide); done))); clear hΨ hΨ' Ψ) | (with_reducible first | refine evC_skip ?_ | refine evC_ret ?_ | refine evC_exit ?_) | ((with_reducible apply evC_cond); rfl; rfl; all_goals (intro hc; first | (exact absurd hc (by decide)) | (try simp only at hc))))))
      all_goals (refine ⟨by simp, ⟨_, ?_, AV.le_refl _⟩, leH_get (by simp [leH, hget])⟩; simp only [Try.results10, resL, ldA, oneOf, go_sem])
end Go.Proofs.Ytcbaaibkkfnfmaa

