/-
  What is done to a ledger, by the code: each deed, walked.
-/
import Derived.Test.YtmibmodibicibaaLk
namespace Go.Proofs.Ytmibmodibicibaa
open Go.RowKit
open Nat (reduceBEq)
set_option linter.unusedVariables false
set_option linter.unusedSimpArgs false
set_option maxRecDepth 20000
set_option maxHeartbeats 2000000
theorem dep_no (ex : Bool) (l : List Hd) (hl : l.length ≤ maxLen) (ok : ∀ h ∈ l, h.ok) (a : Int) (ua : U a) (n : Nat) (hn : n < WW) (hE : (gate l a (fitsE l a n) == 0) = false) : Fn Try.prog 19 [lg ex l, vi .u64 a, wN n] [] (.tup [lgN, vi .i64 (gate l a (fitsE l a n))]) [] := by
  have fo := findH_ok ok ua
  have W : Fn Try.prog 39 [lg ex l, vi .u64 a, .fn 40 [.ptr 1101 0]] [(1101, (cW n))] (.tup [lgN, vi .i64 (gate l a (fitsE l a n))]) [(1101, (cW n))] := by
    refine with1_gate ex l hl ok a 40 _ Try.func40 (by kernel_rfl) (by kernel_rfl) [.v (.int .u64 (l0 n)), .v (.int .u64 (l1 n)), .v (.int .u64 (l2 n)), .v (.int .u64 (l3 n))] (findH l a).a (((findH l a).p + n) % WW) ((findH l a).s) ((findH l a).d) ((findH l a).f) (fitsE l a n) hE (fun hl4 he => ?_)
    · have := dep1_fn ex l hl4 ok (findH l a).a (findH l a).p (findH l a).s (findH l a).d (findH l a).f n fo.2.1 hn
      rw [show fitsE l (findH l a).a n = fitsE l a n by rw [findH_a]] at this
      exact this
  generalize gate l a (fitsE l a n) = E at W ⊢
  (refine fn_of Try.func19 rfl (by rfl) ?_; simp only [Try.ntmps19, List.length_cons, List.length_nil, Nat.reduceAdd, Nat.reduceSub, List.replicate, List.cons_append, List.nil_append])
  (repeat (any_goals (first | ((with_reducible refine evL_call ?_ ?_ ?_); rfl; rfl; intro K hK; (apply opA_callR (W) (fun r => if r = 1101 then 5 else r); rfl; rfl; rfl; rfl; exact Try.func39; kernel_rfl; rfl; rfl; (intro r hr q hq h; simp only [List.map_cons, List.map_nil, List.cons_append, List.nil_append, List.mem_cons, List.not_mem_nil, or_false] at hr hq; (try dsimp only at h); first | omega | (rcases hr with rfl | rfl | rfl <;> rcases hq with rfl | rfl | rfl <;> simp at h ⊢) | (rcases hr with rfl | rfl <;> rcases hq with rfl | rfl <;> simp at h ⊢) | ((repeat' split at h) <;> omega)); (simp only [argsOk, argOk, AV.ren, AV.renL, renL_map, List.mem_cons, List.not_mem_nil, forall_eq_or_imp, forall_eq, newOk, List.contains_cons, List.contains_nil, AV.refsL, AV.refs, refsL_map, AV.inN, AV.inNL, inH, inNL_map, go_sem])); (simp only [hputs, hdels, renH, AV.ren, AV.renL, renL_map, go_sem]; refine hK _ ?_; clear hK K)) | ((with_reducible refine evL_one ?_ ?_); rfl; intro K hK; simp only [go_sem]; ((repeat (refine ndI (by first | assumption | omega | rfl) ?_)); refine hK _ ?_; clear hK K)) | (with_reducible first | (refine evL_nil ?_; refine hR _ ?_; clear hR R) | ((first | refine evC_seq ?_ | refine evC_block ?_); intro Ψ hΨ hΨ') | (refine evC_region ?_; intro R hR) | (refine hΨ _ ?_; clear hΨ hΨ' Ψ) | refine evC_skip ?_ | refine evC_ret ?_ | refine evC_exit ?_) | ((with_reducible refine hΨ' _ _ ?_ ?_); (focus (simp; done)); clear hΨ hΨ' Ψ) | ((with_reducible apply evC_cond); rfl; rfl; all_goals (intro hc; first | (cases hc; done) | (try simp only at hc))))))
  all_goals (refine ⟨by simp, ⟨_, ?_, AV.le_refl _⟩, leH_get (by simp [leH, hget])⟩; simp only [Try.results19, resL, ldA, oneOf, go_sem])
theorem dep_ok (ex : Bool) (l : List Hd) (hl : l.length ≤ maxLen) (ok : ∀ h ∈ l, h.ok) (a : Int) (ua : U a) (n : Nat) (hn : n < WW) (hE : gate l a (fitsE l a n) = 0) : Fn Try.prog 19 [lg ex l, vi .u64 a, wN n] [] (.tup [.agg [.row 44 39 11 (putL l (depH (findH l a) n)).length], vi .i64 0]) [(44, rcH (putL l (depH (findH l a) n)))] := by
  have fo := findH_ok ok ua
  obtain ⟨hk, ha, he⟩ := gate_zero hE
  have hl4 : l.length ≤ 400 := Nat.le_trans (okL_len hk) (by decide)
  have W : Fn Try.prog 39 [lg ex l, vi .u64 a, .fn 40 [.ptr 1101 0]] [(1101, (cW n))] (.tup [.agg [.row 44 39 11 (putL l (depH (findH l a) n)).length], vi .i64 0]) [(1101, (cW n)), (44, rcH (putL l (depH (findH l a) n)))] := by
    refine with1_ok ex l hl4 ok hk a ha 40 _ Try.func40 (by kernel_rfl) (by kernel_rfl) [.v (.int .u64 (l0 n)), .v (.int .u64 (l1 n)), .v (.int .u64 (l2 n)), .v (.int .u64 (l3 n))] [.v (.int .u64 (l0 n)), .v (.int .u64 (l1 n)), .v (.int .u64 (l2 n)), .v (.int .u64 (l3 n))] (findH l a).a (((findH l a).p + n) % WW) ((findH l a).s) ((findH l a).d) ((findH l a).f) (Nat.mod_lt _ (by decide)) fo.2.2.1 ?_
    · have := dep1_fn ex l hl4 ok (findH l a).a (findH l a).p (findH l a).s (findH l a).d (findH l a).f n fo.2.1 hn
      rw [show fitsE l (findH l a).a n = fitsE l a n by rw [findH_a], he] at this
      exact this
  generalize putL l (depH (findH l a) n) = m at W ⊢
  (refine fn_of Try.func19 rfl (by rfl) ?_; simp only [Try.ntmps19, List.length_cons, List.length_nil, Nat.reduceAdd, Nat.reduceSub, List.replicate, List.cons_append, List.nil_append])
  (repeat (any_goals (first | ((with_reducible refine evL_call ?_ ?_ ?_); rfl; rfl; intro K hK; (apply opA_callR (W) (fun r => if r = 1101 then 5 else r); rfl; rfl; rfl; rfl; exact Try.func39; kernel_rfl; rfl; rfl; (intro r hr q hq h; simp only [List.map_cons, List.map_nil, List.cons_append, List.nil_append, List.mem_cons, List.not_mem_nil, or_false] at hr hq; (try dsimp only at h); first | omega | (rcases hr with rfl | rfl | rfl <;> rcases hq with rfl | rfl | rfl <;> simp at h ⊢) | (rcases hr with rfl | rfl <;> rcases hq with rfl | rfl <;> simp at h ⊢) | ((repeat' split at h) <;> omega)); (simp only [argsOk, argOk, AV.ren, AV.renL, renL_map, List.mem_cons, List.not_mem_nil, forall_eq_or_imp, forall_eq, newOk, List.contains_cons, List.contains_nil, AV.refsL, AV.refs, refsL_map, AV.inN, AV.inNL, inH, inNL_map, go_sem])); (simp only [hputs, hdels, renH, AV.ren, AV.renL, renL_map, go_sem]; refine hK _ ?_; clear hK K)) | ((with_reducible refine evL_one ?_ ?_); rfl; intro K hK; simp only [go_sem]; ((repeat (refine ndI (by first | assumption | omega | rfl) ?_)); refine hK _ ?_; clear hK K)) | (with_reducible first | (refine evL_nil ?_; refine hR _ ?_; clear hR R) | ((first | refine evC_seq ?_ | refine evC_block ?_); intro Ψ hΨ hΨ') | (refine evC_region ?_; intro R hR) | (refine hΨ _ ?_; clear hΨ hΨ' Ψ) | refine evC_skip ?_ | refine evC_ret ?_ | refine evC_exit ?_) | ((with_reducible refine hΨ' _ _ ?_ ?_); (focus (simp; done)); clear hΨ hΨ' Ψ) | ((with_reducible apply evC_cond); rfl; rfl; all_goals (intro hc; first | (cases hc; done) | (try simp only at hc))))))
  all_goals (refine ⟨by simp, ⟨_, ?_, AV.le_refl _⟩, leH_get (by simp [leH, hget])⟩; simp only [Try.results19, resL, ldA, oneOf, go_sem])
theorem wdr_no (ex : Bool) (l : List Hd) (hl : l.length ≤ maxLen) (ok : ∀ h ∈ l, h.ok) (a : Int) (ua : U a) (n : Nat) (hn : n < WW) (hE : (gate l a (wdrE (findH l a) n) == 0) = false) : Fn Try.prog 21 [lg ex l, vi .u64 a, wN n] [] (.tup [lgN, vi .i64 (gate l a (wdrE (findH l a) n))]) [] := by
  have fo := findH_ok ok ua
  have W : Fn Try.prog 39 [lg ex l, vi .u64 a, .fn 44 [.ptr 1101 0]] [(1101, (cW n))] (.tup [lgN, vi .i64 (gate l a (wdrE (findH l a) n))]) [(1101, (cW n))] := by
    refine with1_gate ex l hl ok a 44 _ Try.func44 (by kernel_rfl) (by kernel_rfl) [.v (.int .u64 (l0 n)), .v (.int .u64 (l1 n)), .v (.int .u64 (l2 n)), .v (.int .u64 (l3 n))] (findH l a).a ((findH l a).p) ((findH l a).s) ((findH l a).d) ((findH l a).f) (wdrE (findH l a) n) hE (fun hl4 he => ?_)
    · have h1 : (findH l a).p < n := by
        unfold wdrE at he
        by_cases h1 : (findH l a).p < n
        · exact h1
        · rw [if_neg h1] at he; cases he
      rw [show wdrE (findH l a) n = 162 from if_pos h1]
      exact wdr1_no ex l (findH l a).a (findH l a).p (findH l a).s (findH l a).d (findH l a).f n fo.2.1 hn h1
  generalize gate l a (wdrE (findH l a) n) = E at W ⊢
  (refine fn_of Try.func21 rfl (by rfl) ?_; simp only [Try.ntmps21, List.length_cons, List.length_nil, Nat.reduceAdd, Nat.reduceSub, List.replicate, List.cons_append, List.nil_append])
  (repeat (any_goals (first | ((with_reducible refine evL_call ?_ ?_ ?_); rfl; rfl; intro K hK; (apply opA_callR (W) (fun r => if r = 1101 then 5 else r); rfl; rfl; rfl; rfl; exact Try.func39; kernel_rfl; rfl; rfl; (intro r hr q hq h; simp only [List.map_cons, List.map_nil, List.cons_append, List.nil_append, List.mem_cons, List.not_mem_nil, or_false] at hr hq; (try dsimp only at h); first | omega | (rcases hr with rfl | rfl | rfl <;> rcases hq with rfl | rfl | rfl <;> simp at h ⊢) | (rcases hr with rfl | rfl <;> rcases hq with rfl | rfl <;> simp at h ⊢) | ((repeat' split at h) <;> omega)); (simp only [argsOk, argOk, AV.ren, AV.renL, renL_map, List.mem_cons, List.not_mem_nil, forall_eq_or_imp, forall_eq, newOk, List.contains_cons, List.contains_nil, AV.refsL, AV.refs, refsL_map, AV.inN, AV.inNL, inH, inNL_map, go_sem])); (simp only [hputs, hdels, renH, AV.ren, AV.renL, renL_map, go_sem]; refine hK _ ?_; clear hK K)) | ((with_reducible refine evL_one ?_ ?_); rfl; intro K hK; simp only [go_sem]; ((repeat (refine ndI (by first | assumption | omega | rfl) ?_)); refine hK _ ?_; clear hK K)) | (with_reducible first | (refine evL_nil ?_; refine hR _ ?_; clear hR R) | ((first | refine evC_seq ?_ | refine evC_block ?_); intro Ψ hΨ hΨ') | (refine evC_region ?_; intro R hR) | (refine hΨ _ ?_; clear hΨ hΨ' Ψ) | refine evC_skip ?_ | refine evC_ret ?_ | refine evC_exit ?_) | ((with_reducible refine hΨ' _ _ ?_ ?_); (focus (simp; done)); clear hΨ hΨ' Ψ) | ((with_reducible apply evC_cond); rfl; rfl; all_goals (intro hc; first | (cases hc; done) | (try simp only at hc))))))
  all_goals (refine ⟨by simp, ⟨_, ?_, AV.le_refl _⟩, leH_get (by simp [leH, hget])⟩; simp only [Try.results21, resL, ldA, oneOf, go_sem])
theorem wdr_ok (ex : Bool) (l : List Hd) (hl : l.length ≤ maxLen) (ok : ∀ h ∈ l, h.ok) (a : Int) (ua : U a) (n : Nat) (hn : n < WW) (hE : gate l a (wdrE (findH l a) n) = 0) : Fn Try.prog 21 [lg ex l, vi .u64 a, wN n] [] (.tup [.agg [.row 44 39 11 (putL l (wdrH (findH l a) n)).length], vi .i64 0]) [(44, rcH (putL l (wdrH (findH l a) n)))] := by
  have fo := findH_ok ok ua
  obtain ⟨hk, ha, he⟩ := gate_zero hE
  have hl4 : l.length ≤ 400 := Nat.le_trans (okL_len hk) (by decide)
  have W : Fn Try.prog 39 [lg ex l, vi .u64 a, .fn 44 [.ptr 1101 0]] [(1101, (cW n))] (.tup [.agg [.row 44 39 11 (putL l (wdrH (findH l a) n)).length], vi .i64 0]) [(1101, (cW n)), (44, rcH (putL l (wdrH (findH l a) n)))] := by
    refine with1_ok ex l hl4 ok hk a ha 44 _ Try.func44 (by kernel_rfl) (by kernel_rfl) [.v (.int .u64 (l0 n)), .v (.int .u64 (l1 n)), .v (.int .u64 (l2 n)), .v (.int .u64 (l3 n))] [.v (.int .u64 (l0 n)), .v (.int .u64 (l1 n)), .v (.int .u64 (l2 n)), .v (.int .u64 (l3 n))] (findH l a).a ((findH l a).p - n) ((findH l a).s) ((findH l a).d) ((findH l a).f) (Nat.lt_of_le_of_lt (Nat.sub_le _ _) fo.2.1) fo.2.2.1 ?_
    · have h1 : ¬ (findH l a).p < n := by
        intro h1
        unfold wdrE at he
        rw [if_pos h1] at he; cases he
      exact wdr1_ok ex l (findH l a).a (findH l a).p (findH l a).s (findH l a).d (findH l a).f n fo.2.1 hn h1
  generalize putL l (wdrH (findH l a) n) = m at W ⊢
  (refine fn_of Try.func21 rfl (by rfl) ?_; simp only [Try.ntmps21, List.length_cons, List.length_nil, Nat.reduceAdd, Nat.reduceSub, List.replicate, List.cons_append, List.nil_append])
  (repeat (any_goals (first | ((with_reducible refine evL_call ?_ ?_ ?_); rfl; rfl; intro K hK; (apply opA_callR (W) (fun r => if r = 1101 then 5 else r); rfl; rfl; rfl; rfl; exact Try.func39; kernel_rfl; rfl; rfl; (intro r hr q hq h; simp only [List.map_cons, List.map_nil, List.cons_append, List.nil_append, List.mem_cons, List.not_mem_nil, or_false] at hr hq; (try dsimp only at h); first | omega | (rcases hr with rfl | rfl | rfl <;> rcases hq with rfl | rfl | rfl <;> simp at h ⊢) | (rcases hr with rfl | rfl <;> rcases hq with rfl | rfl <;> simp at h ⊢) | ((repeat' split at h) <;> omega)); (simp only [argsOk, argOk, AV.ren, AV.renL, renL_map, List.mem_cons, List.not_mem_nil, forall_eq_or_imp, forall_eq, newOk, List.contains_cons, List.contains_nil, AV.refsL, AV.refs, refsL_map, AV.inN, AV.inNL, inH, inNL_map, go_sem])); (simp only [hputs, hdels, renH, AV.ren, AV.renL, renL_map, go_sem]; refine hK _ ?_; clear hK K)) | ((with_reducible refine evL_one ?_ ?_); rfl; intro K hK; simp only [go_sem]; ((repeat (refine ndI (by first | assumption | omega | rfl) ?_)); refine hK _ ?_; clear hK K)) | (with_reducible first | (refine evL_nil ?_; refine hR _ ?_; clear hR R) | ((first | refine evC_seq ?_ | refine evC_block ?_); intro Ψ hΨ hΨ') | (refine evC_region ?_; intro R hR) | (refine hΨ _ ?_; clear hΨ hΨ' Ψ) | refine evC_skip ?_ | refine evC_ret ?_ | refine evC_exit ?_) | ((with_reducible refine hΨ' _ _ ?_ ?_); (focus (simp; done)); clear hΨ hΨ' Ψ) | ((with_reducible apply evC_cond); rfl; rfl; all_goals (intro hc; first | (cases hc; done) | (try simp only at hc))))))
  all_goals (refine ⟨by simp, ⟨_, ?_, AV.le_refl _⟩, leH_get (by simp [leH, hget])⟩; simp only [Try.results21, resL, ldA, oneOf, go_sem])
theorem bond_no (ex : Bool) (l : List Hd) (hl : l.length ≤ maxLen) (ok : ∀ h ∈ l, h.ok) (a : Int) (ua : U a) (n : Nat) (y : Int) (hn : n < WW) (hE : (gate l a (bondE l a (findH l a) n y) == 0) = false) : Fn Try.prog 20 [lg ex l, vi .u64 a, wN n, vi .u64 y] [] (.tup [lgN, vi .i64 (gate l a (bondE l a (findH l a) n y))]) [] := by
  have fo := findH_ok ok ua
  have W : Fn Try.prog 39 [lg ex l, vi .u64 a, .fn 42 [.ptr 1101 0, .ptr 1102 0]] [(1101, [vi .u64 y]), (1102, (cW n))] (.tup [lgN, vi .i64 (gate l a (bondE l a (findH l a) n y))]) [(1101, [vi .u64 y]), (1102, (cW n))] := by
    cases h1 : dly (findH l a).d y with
    | true =>
      refine with2_gate ex l hl ok a 42 _ Try.func42 (by kernel_rfl) (by kernel_rfl) [.v (.int .u64 y)] [.v (.int .u64 (l0 n)), .v (.int .u64 (l1 n)), .v (.int .u64 (l2 n)), .v (.int .u64 (l3 n))] (findH l a).a ((findH l a).p) ((findH l a).s) ((findH l a).d) ((findH l a).f) (bondE l a (findH l a) n y) hE (fun hl4 he => ?_)
      rw [show bondE l a (findH l a) n y = 2 from if_pos h1]
      exact bond1_arg ex l (findH l a).a (findH l a).p (findH l a).s (findH l a).d (findH l a).f n y h1
    | false =>
      cases h2 : (decide ((findH l a).s = 0) && decide (n = 0)) with
      | true =>
        refine with2_gate ex l hl ok a 42 _ Try.func42 (by kernel_rfl) (by kernel_rfl) [.v (.int .u64 y)] [.v (.int .u64 (l0 n)), .v (.int .u64 (l1 n)), .v (.int .u64 (l2 n)), .v (.int .u64 (l3 n))] (findH l a).a ((findH l a).p) ((findH l a).s) ((findH l a).d) ((findH l a).f) (bondE l a (findH l a) n y) hE (fun hl4 he => ?_)
        rw [show bondE l a (findH l a) n y = 172 by unfold bondE; rw [if_neg (by rw [h1]; decide), if_pos h2]]
        exact bond1_none ex l (findH l a).a (findH l a).p (findH l a).s (findH l a).d (findH l a).f n y fo.2.2.1 hn h1 h2
      | false =>
        refine with2_gate ex l hl ok a 42 _ Try.func42 (by kernel_rfl) (by kernel_rfl) [.v (.int .u64 y)] [.v (.int .u64 (l0 n)), .v (.int .u64 (l1 n)), .v (.int .u64 (l2 n)), .v (.int .u64 (l3 n))] (findH l a).a ((findH l a).p) (((findH l a).s + n) % WW) (y) (0) (bondE l a (findH l a) n y) hE (fun hl4 he => ?_)
        rw [show bondE l a (findH l a) n y = fitsE l (findH l a).a n by unfold bondE; rw [if_neg (by rw [h1]; decide), if_neg (by rw [h2]; decide), findH_a]]
        exact bond1_ok ex l hl4 ok (findH l a).a (findH l a).p (findH l a).s (findH l a).d (findH l a).f n y fo.2.2.1 hn h1 h2
  generalize gate l a (bondE l a (findH l a) n y) = E at W ⊢
  (refine fn_of Try.func20 rfl (by rfl) ?_; simp only [Try.ntmps20, List.length_cons, List.length_nil, Nat.reduceAdd, Nat.reduceSub, List.replicate, List.cons_append, List.nil_append])
  (repeat (any_goals (first | ((with_reducible refine evL_call ?_ ?_ ?_); rfl; rfl; intro K hK; (apply opA_callR (W) (fun r => if r = 1101 then 7 else if r = 1102 then 6 else r); rfl; rfl; rfl; rfl; exact Try.func39; kernel_rfl; rfl; rfl; (intro r hr q hq h; simp only [List.map_cons, List.map_nil, List.cons_append, List.nil_append, List.mem_cons, List.not_mem_nil, or_false] at hr hq; (try dsimp only at h); first | omega | (rcases hr with rfl | rfl | rfl <;> rcases hq with rfl | rfl | rfl <;> simp at h ⊢) | (rcases hr with rfl | rfl <;> rcases hq with rfl | rfl <;> simp at h ⊢) | ((repeat' split at h) <;> omega)); (simp only [argsOk, argOk, AV.ren, AV.renL, renL_map, List.mem_cons, List.not_mem_nil, forall_eq_or_imp, forall_eq, newOk, List.contains_cons, List.contains_nil, AV.refsL, AV.refs, refsL_map, AV.inN, AV.inNL, inH, inNL_map, go_sem])); (simp only [hputs, hdels, renH, AV.ren, AV.renL, renL_map, go_sem]; refine hK _ ?_; clear hK K)) | ((with_reducible refine evL_one ?_ ?_); rfl; intro K hK; simp only [go_sem]; ((repeat (refine ndI (by first | assumption | omega | rfl) ?_)); refine hK _ ?_; clear hK K)) | (with_reducible first | (refine evL_nil ?_; refine hR _ ?_; clear hR R) | ((first | refine evC_seq ?_ | refine evC_block ?_); intro Ψ hΨ hΨ') | (refine evC_region ?_; intro R hR) | (refine hΨ _ ?_; clear hΨ hΨ' Ψ) | refine evC_skip ?_ | refine evC_ret ?_ | refine evC_exit ?_) | ((with_reducible refine hΨ' _ _ ?_ ?_); (focus (simp; done)); clear hΨ hΨ' Ψ) | ((with_reducible apply evC_cond); rfl; rfl; all_goals (intro hc; first | (cases hc; done) | (try simp only at hc))))))
  all_goals (refine ⟨by simp, ⟨_, ?_, AV.le_refl _⟩, leH_get (by simp [leH, hget])⟩; simp only [Try.results20, resL, ldA, oneOf, go_sem])
theorem bond_ok (ex : Bool) (l : List Hd) (hl : l.length ≤ maxLen) (ok : ∀ h ∈ l, h.ok) (a : Int) (ua : U a) (n : Nat) (y : Int) (hn : n < WW) (hE : gate l a (bondE l a (findH l a) n y) = 0) : Fn Try.prog 20 [lg ex l, vi .u64 a, wN n, vi .u64 y] [] (.tup [.agg [.row 44 39 11 (putL l (bondH (findH l a) n y)).length], vi .i64 0]) [(44, rcH (putL l (bondH (findH l a) n y)))] := by
  have fo := findH_ok ok ua
  obtain ⟨hk, ha, he⟩ := gate_zero hE
  have hl4 : l.length ≤ 400 := Nat.le_trans (okL_len hk) (by decide)
  have W : Fn Try.prog 39 [lg ex l, vi .u64 a, .fn 42 [.ptr 1101 0, .ptr 1102 0]] [(1101, [vi .u64 y]), (1102, (cW n))] (.tup [.agg [.row 44 39 11 (putL l (bondH (findH l a) n y)).length], vi .i64 0]) [(1101, [vi .u64 y]), (1102, (cW n)), (44, rcH (putL l (bondH (findH l a) n y)))] := by
    refine with2_ok ex l hl4 ok hk a ha 42 _ Try.func42 (by kernel_rfl) (by kernel_rfl) [.v (.int .u64 y)] [.v (.int .u64 (l0 n)), .v (.int .u64 (l1 n)), .v (.int .u64 (l2 n)), .v (.int .u64 (l3 n))] [.v (.int .u64 y)] [.v (.int .u64 (l0 n)), .v (.int .u64 (l1 n)), .v (.int .u64 (l2 n)), .v (.int .u64 (l3 n))] (findH l a).a ((findH l a).p) (((findH l a).s + n) % WW) (y) (0) fo.2.1 (Nat.mod_lt _ (by decide)) ?_
    · unfold bondE at he
      cases h1 : dly (findH l a).d y with
      | true => rw [if_pos h1] at he; cases he
      | false =>
        rw [if_neg (by rw [h1]; decide)] at he
        cases h2 : (decide ((findH l a).s = 0) && decide (n = 0)) with
        | true => rw [if_pos h2] at he; cases he
        | false =>
          rw [if_neg (by rw [h2]; decide)] at he
          have := bond1_ok ex l hl4 ok (findH l a).a (findH l a).p (findH l a).s (findH l a).d (findH l a).f n y fo.2.2.1 hn h1 h2
          rw [show fitsE l (findH l a).a n = fitsE l a n by rw [findH_a], he] at this
          exact this
  generalize putL l (bondH (findH l a) n y) = m at W ⊢
  (refine fn_of Try.func20 rfl (by rfl) ?_; simp only [Try.ntmps20, List.length_cons, List.length_nil, Nat.reduceAdd, Nat.reduceSub, List.replicate, List.cons_append, List.nil_append])
  (repeat (any_goals (first | ((with_reducible refine evL_call ?_ ?_ ?_); rfl; rfl; intro K hK; (apply opA_callR (W) (fun r => if r = 1101 then 7 else if r = 1102 then 6 else r); rfl; rfl; rfl; rfl; exact Try.func39; kernel_rfl; rfl; rfl; (intro r hr q hq h; simp only [List.map_cons, List.map_nil, List.cons_append, List.nil_append, List.mem_cons, List.not_mem_nil, or_false] at hr hq; (try dsimp only at h); first | omega | (rcases hr with rfl | rfl | rfl <;> rcases hq with rfl | rfl | rfl <;> simp at h ⊢) | (rcases hr with rfl | rfl <;> rcases hq with rfl | rfl <;> simp at h ⊢) | ((repeat' split at h) <;> omega)); (simp only [argsOk, argOk, AV.ren, AV.renL, renL_map, List.mem_cons, List.not_mem_nil, forall_eq_or_imp, forall_eq, newOk, List.contains_cons, List.contains_nil, AV.refsL, AV.refs, refsL_map, AV.inN, AV.inNL, inH, inNL_map, go_sem])); (simp only [hputs, hdels, renH, AV.ren, AV.renL, renL_map, go_sem]; refine hK _ ?_; clear hK K)) | ((with_reducible refine evL_one ?_ ?_); rfl; intro K hK; simp only [go_sem]; ((repeat (refine ndI (by first | assumption | omega | rfl) ?_)); refine hK _ ?_; clear hK K)) | (with_reducible first | (refine evL_nil ?_; refine hR _ ?_; clear hR R) | ((first | refine evC_seq ?_ | refine evC_block ?_); intro Ψ hΨ hΨ') | (refine evC_region ?_; intro R hR) | (refine hΨ _ ?_; clear hΨ hΨ' Ψ) | refine evC_skip ?_ | refine evC_ret ?_ | refine evC_exit ?_) | ((with_reducible refine hΨ' _ _ ?_ ?_); (focus (simp; done)); clear hΨ hΨ' Ψ) | ((with_reducible apply evC_cond); rfl; rfl; all_goals (intro hc; first | (cases hc; done) | (try simp only at hc))))))
  all_goals (refine ⟨by simp, ⟨_, ?_, AV.le_refl _⟩, leH_get (by simp [leH, hget])⟩; simp only [Try.results20, resL, ldA, oneOf, go_sem])
theorem unl_no (ex : Bool) (l : List Hd) (hl : l.length ≤ maxLen) (ok : ∀ h ∈ l, h.ok) (a : Int) (ua : U a) (y : Int) (hy : U y) (hE : (gate l a (unlE (findH l a) y) == 0) = false) : Fn Try.prog 22 [lg ex l, vi .u64 a, vi .u64 y] [] (.tup [lgN, vi .i64 (gate l a (unlE (findH l a) y))]) [] := by
  have fo := findH_ok ok ua
  have W : Fn Try.prog 39 [lg ex l, vi .u64 a, .fn 45 [.ptr 1101 0]] [(1101, [vi .u64 y])] (.tup [lgN, vi .i64 (gate l a (unlE (findH l a) y))]) [(1101, [vi .u64 y])] := by
    refine with1_gate ex l hl ok a 45 _ Try.func45 (by kernel_rfl) (by kernel_rfl) [.v (.int .u64 y)] (findH l a).a ((findH l a).p) ((findH l a).s) ((findH l a).d) ((findH l a).f) (unlE (findH l a) y) hE (fun hl4 he => ?_)
    · unfold unlE at he ⊢
      by_cases h1 : y > 1099511627776
      · rw [if_pos h1]
        exact unl1_late ex l (findH l a).a (findH l a).p (findH l a).s (findH l a).d (findH l a).f y h1
      · rw [if_neg h1] at he ⊢
        cases h2 : (!decide ((findH l a).s = 0) && ((findH l a).f == 0)) with
        | false =>
          rw [if_pos rfl]
          exact unl1_no ex l (findH l a).a (findH l a).p (findH l a).s (findH l a).d (findH l a).f y fo.2.2.1 h1 h2
        | true => rw [h2, if_neg (by decide)] at he; cases he
  generalize gate l a (unlE (findH l a) y) = E at W ⊢
  (refine fn_of Try.func22 rfl (by rfl) ?_; simp only [Try.ntmps22, List.length_cons, List.length_nil, Nat.reduceAdd, Nat.reduceSub, List.replicate, List.cons_append, List.nil_append])
  (repeat (any_goals (first | ((with_reducible refine evL_call ?_ ?_ ?_); rfl; rfl; intro K hK; (apply opA_callR (W) (fun r => if r = 1101 then 5 else r); rfl; rfl; rfl; rfl; exact Try.func39; kernel_rfl; rfl; rfl; (intro r hr q hq h; simp only [List.map_cons, List.map_nil, List.cons_append, List.nil_append, List.mem_cons, List.not_mem_nil, or_false] at hr hq; (try dsimp only at h); first | omega | (rcases hr with rfl | rfl | rfl <;> rcases hq with rfl | rfl | rfl <;> simp at h ⊢) | (rcases hr with rfl | rfl <;> rcases hq with rfl | rfl <;> simp at h ⊢) | ((repeat' split at h) <;> omega)); (simp only [argsOk, argOk, AV.ren, AV.renL, renL_map, List.mem_cons, List.not_mem_nil, forall_eq_or_imp, forall_eq, newOk, List.contains_cons, List.contains_nil, AV.refsL, AV.refs, refsL_map, AV.inN, AV.inNL, inH, inNL_map, go_sem])); (simp only [hputs, hdels, renH, AV.ren, AV.renL, renL_map, go_sem]; refine hK _ ?_; clear hK K)) | ((with_reducible refine evL_one ?_ ?_); rfl; intro K hK; simp only [go_sem]; ((repeat (refine ndI (by first | assumption | omega | rfl) ?_)); refine hK _ ?_; clear hK K)) | (with_reducible first | (refine evL_nil ?_; refine hR _ ?_; clear hR R) | ((first | refine evC_seq ?_ | refine evC_block ?_); intro Ψ hΨ hΨ') | (refine evC_region ?_; intro R hR) | (refine hΨ _ ?_; clear hΨ hΨ' Ψ) | refine evC_skip ?_ | refine evC_ret ?_ | refine evC_exit ?_) | ((with_reducible refine hΨ' _ _ ?_ ?_); (focus (simp; done)); clear hΨ hΨ' Ψ) | ((with_reducible apply evC_cond); rfl; rfl; all_goals (intro hc; first | (cases hc; done) | (try simp only at hc))))))
  all_goals (refine ⟨by simp, ⟨_, ?_, AV.le_refl _⟩, leH_get (by simp [leH, hget])⟩; simp only [Try.results22, resL, ldA, oneOf, go_sem])
theorem unl_ok (ex : Bool) (l : List Hd) (hl : l.length ≤ maxLen) (ok : ∀ h ∈ l, h.ok) (a : Int) (ua : U a) (y : Int) (hy : U y) (hE : gate l a (unlE (findH l a) y) = 0) : Fn Try.prog 22 [lg ex l, vi .u64 a, vi .u64 y] [] (.tup [.agg [.row 44 39 11 (putL l (unlH (findH l a) y)).length], vi .i64 0]) [(44, rcH (putL l (unlH (findH l a) y)))] := by
  have fo := findH_ok ok ua
  obtain ⟨hk, ha, he⟩ := gate_zero hE
  have hl4 : l.length ≤ 400 := Nat.le_trans (okL_len hk) (by decide)
  have W : Fn Try.prog 39 [lg ex l, vi .u64 a, .fn 45 [.ptr 1101 0]] [(1101, [vi .u64 y])] (.tup [.agg [.row 44 39 11 (putL l (unlH (findH l a) y)).length], vi .i64 0]) [(1101, [vi .u64 y]), (44, rcH (putL l (unlH (findH l a) y)))] := by
    refine with1_ok ex l hl4 ok hk a ha 45 _ Try.func45 (by kernel_rfl) (by kernel_rfl) [.v (.int .u64 y)] [.v (.int .u64 y)] (findH l a).a ((findH l a).p) ((findH l a).s) ((findH l a).d) ((y + (findH l a).d)) fo.2.1 fo.2.2.1 ?_
    · unfold unlE at he
      by_cases h1 : y > 1099511627776
      · rw [if_pos h1] at he; cases he
      · rw [if_neg h1] at he
        cases h2 : (!decide ((findH l a).s = 0) && ((findH l a).f == 0)) with
        | false => rw [h2, if_pos rfl] at he; cases he
        | true => exact unl1_ok ex l (findH l a).a (findH l a).p (findH l a).s (findH l a).d (findH l a).f y fo.2.2.1 h1 h2 hy.1 fo.2.2.2.1.1 (findH_d hk a)
  generalize putL l (unlH (findH l a) y) = m at W ⊢
  (refine fn_of Try.func22 rfl (by rfl) ?_; simp only [Try.ntmps22, List.length_cons, List.length_nil, Nat.reduceAdd, Nat.reduceSub, List.replicate, List.cons_append, List.nil_append])
  (repeat (any_goals (first | ((with_reducible refine evL_call ?_ ?_ ?_); rfl; rfl; intro K hK; (apply opA_callR (W) (fun r => if r = 1101 then 5 else r); rfl; rfl; rfl; rfl; exact Try.func39; kernel_rfl; rfl; rfl; (intro r hr q hq h; simp only [List.map_cons, List.map_nil, List.cons_append, List.nil_append, List.mem_cons, List.not_mem_nil, or_false] at hr hq; (try dsimp only at h); first | omega | (rcases hr with rfl | rfl | rfl <;> rcases hq with rfl | rfl | rfl <;> simp at h ⊢) | (rcases hr with rfl | rfl <;> rcases hq with rfl | rfl <;> simp at h ⊢) | ((repeat' split at h) <;> omega)); (simp only [argsOk, argOk, AV.ren, AV.renL, renL_map, List.mem_cons, List.not_mem_nil, forall_eq_or_imp, forall_eq, newOk, List.contains_cons, List.contains_nil, AV.refsL, AV.refs, refsL_map, AV.inN, AV.inNL, inH, inNL_map, go_sem])); (simp only [hputs, hdels, renH, AV.ren, AV.renL, renL_map, go_sem]; refine hK _ ?_; clear hK K)) | ((with_reducible refine evL_one ?_ ?_); rfl; intro K hK; simp only [go_sem]; ((repeat (refine ndI (by first | assumption | omega | rfl) ?_)); refine hK _ ?_; clear hK K)) | (with_reducible first | (refine evL_nil ?_; refine hR _ ?_; clear hR R) | ((first | refine evC_seq ?_ | refine evC_block ?_); intro Ψ hΨ hΨ') | (refine evC_region ?_; intro R hR) | (refine hΨ _ ?_; clear hΨ hΨ' Ψ) | refine evC_skip ?_ | refine evC_ret ?_ | refine evC_exit ?_) | ((with_reducible refine hΨ' _ _ ?_ ?_); (focus (simp; done)); clear hΨ hΨ' Ψ) | ((with_reducible apply evC_cond); rfl; rfl; all_goals (intro hc; first | (cases hc; done) | (try simp only at hc))))))
  all_goals (refine ⟨by simp, ⟨_, ?_, AV.le_refl _⟩, leH_get (by simp [leH, hget])⟩; simp only [Try.results22, resL, ldA, oneOf, go_sem])
theorem rel_no (ex : Bool) (l : List Hd) (hl : l.length ≤ maxLen) (ok : ∀ h ∈ l, h.ok) (a : Int) (ua : U a) (y : Int) (hE : (gate l a (relE (findH l a) y) == 0) = false) : Fn Try.prog 23 [lg ex l, vi .u64 a, vi .u64 y] [] (.tup [lgN, wN 0, vi .i64 (gate l a (relE (findH l a) y))]) [] := by
  have fo := findH_ok ok ua
  have W : Fn Try.prog 39 [lg ex l, vi .u64 a, .fn 46 [.ptr 1101 0, .ptr 1102 0]] [(1101, [vi .u64 y]), (1102, (cW 0))] (.tup [lgN, vi .i64 (gate l a (relE (findH l a) y))]) [(1101, [vi .u64 y]), (1102, (cW 0))] := by
    refine with2_gate ex l hl ok a 46 _ Try.func46 (by kernel_rfl) (by kernel_rfl) [.v (.int .u64 y)] [.v (.int .u64 (l0 0)), .v (.int .u64 (l1 0)), .v (.int .u64 (l2 0)), .v (.int .u64 (l3 0))] (findH l a).a ((findH l a).p) ((findH l a).s) ((findH l a).d) ((findH l a).f) (relE (findH l a) y) hE (fun hl4 he => ?_)
    · unfold relE at he ⊢
      by_cases h1 : y > 1099511627776
      · rw [if_pos h1]
        exact rel1_late ex l (findH l a).a (findH l a).p (findH l a).s (findH l a).d (findH l a).f y h1
      · rw [if_neg h1] at he ⊢
        by_cases h2 : (findH l a).s = 0
        · rw [if_pos h2]
          exact rel1_none ex l (findH l a).a (findH l a).p (findH l a).s (findH l a).d (findH l a).f y fo.2.2.1 h1 h2
        · rw [if_neg h2] at he ⊢
          by_cases h3 : (findH l a).f = 0 ∨ y < (findH l a).f
          · rw [if_pos h3]
            exact rel1_lock ex l (findH l a).a (findH l a).p (findH l a).s (findH l a).d (findH l a).f y fo.2.2.1 h1 h2 h3
          · rw [if_neg h3] at he; cases he
  simp only [cW, l0_zero, l1_zero, l2_zero, l3_zero] at W
  generalize gate l a (relE (findH l a) y) = E at W ⊢
  simp only [wN, w4, l0_zero, l1_zero, l2_zero, l3_zero]
  (refine fn_of Try.func23 rfl (by rfl) ?_; simp only [Try.ntmps23, List.length_cons, List.length_nil, Nat.reduceAdd, Nat.reduceSub, List.replicate, List.cons_append, List.nil_append])
  (repeat (any_goals (first | ((with_reducible refine evL_call ?_ ?_ ?_); rfl; rfl; intro K hK; (apply opA_callR (W) (fun r => if r = 1101 then 5 else if r = 1102 then 9 else r); rfl; rfl; rfl; rfl; exact Try.func39; kernel_rfl; rfl; rfl; (intro r hr q hq h; simp only [List.map_cons, List.map_nil, List.cons_append, List.nil_append, List.mem_cons, List.not_mem_nil, or_false] at hr hq; (try dsimp only at h); first | omega | (rcases hr with rfl | rfl | rfl <;> rcases hq with rfl | rfl | rfl <;> simp at h ⊢) | (rcases hr with rfl | rfl <;> rcases hq with rfl | rfl <;> simp at h ⊢) | ((repeat' split at h) <;> omega)); (simp only [argsOk, argOk, AV.ren, AV.renL, renL_map, List.mem_cons, List.not_mem_nil, forall_eq_or_imp, forall_eq, newOk, List.contains_cons, List.contains_nil, AV.refsL, AV.refs, refsL_map, AV.inN, AV.inNL, inH, inNL_map, go_sem])); (simp only [hputs, hdels, renH, AV.ren, AV.renL, renL_map, go_sem]; refine hK _ ?_; clear hK K)) | ((with_reducible refine evL_one ?_ ?_); rfl; intro K hK; simp only [go_sem]; ((repeat (refine ndI (by first | assumption | omega | rfl) ?_)); refine hK _ ?_; clear hK K)) | (with_reducible first | (refine evL_nil ?_; refine hR _ ?_; clear hR R) | ((first | refine evC_seq ?_ | refine evC_block ?_); intro Ψ hΨ hΨ') | (refine evC_region ?_; intro R hR) | (refine hΨ _ ?_; clear hΨ hΨ' Ψ) | refine evC_skip ?_ | refine evC_ret ?_ | refine evC_exit ?_) | ((with_reducible refine hΨ' _ _ ?_ ?_); (focus (simp; done)); clear hΨ hΨ' Ψ) | ((with_reducible apply evC_cond); rfl; rfl; all_goals (intro hc; first | (cases hc; done) | (try simp only at hc))) | ((with_reducible refine evD_nil ?_ ?_); kernel_rfl; (with_reducible refine hR _ ?_); clear hR R) | (((with_reducible apply evD_any); rfl; rfl; (simp only [rdE, rdOf, go_sem]; rfl); (intro τ hA hQ hN; ((try simp only [agree, Op.operands, Call.operands, go_sem, List.mem_cons, List.not_mem_nil, forall_eq_or_imp, forall_eq, List.append_toArray, Option.toArray] at hA); (try simp only [go_sem, List.mem_cons, List.not_mem_nil, forall_eq_or_imp, forall_eq] at hQ hN); (first | (revert hA; intro hA) | have hA := trivial); (first | (revert hQ; intro hQ) | have hQ := trivial); (first | (revert hN; intro hN) | have hN := trivial); simp only [go_sem, hA, hQ, hN]; (repeat (refine ndI (by first | assumption | omega | rfl) ?_)); (first | apply eff_rd | apply eff_st | apply eff_nw)))); (simp only [St.eff, setO, hputs, go_sem])) | ((with_reducible refine evC_draw ?_ ?_ ?_ ?_); kernel_rfl; kernel_rfl; (first | kernel_rfl | simp [newNames, isNew, St.free, freeH, AV.refsL, AV.refs]); intro R hR))))
  all_goals (refine ⟨by simp, ⟨_, ?_, AV.le_refl _⟩, leH_get (by simp [leH, hget])⟩; simp only [Try.results23, resL, ldA, oneOf, go_sem])
theorem rel_ok (ex : Bool) (l : List Hd) (hl : l.length ≤ maxLen) (ok : ∀ h ∈ l, h.ok) (a : Int) (ua : U a) (y : Int) (hE : gate l a (relE (findH l a) y) = 0) : Fn Try.prog 23 [lg ex l, vi .u64 a, vi .u64 y] [] (.tup [.agg [.row 44 39 11 (putL l (relH (findH l a))).length], wN (findH l a).s, vi .i64 0]) [(44, rcH (putL l (relH (findH l a))))] := by
  have fo := findH_ok ok ua
  obtain ⟨hk, ha, he⟩ := gate_zero hE
  have hl4 : l.length ≤ 400 := Nat.le_trans (okL_len hk) (by decide)
  have W : Fn Try.prog 39 [lg ex l, vi .u64 a, .fn 46 [.ptr 1101 0, .ptr 1102 0]] [(1101, [vi .u64 y]), (1102, (cW 0))] (.tup [.agg [.row 44 39 11 (putL l (relH (findH l a))).length], vi .i64 0]) [(1101, [vi .u64 y]), (1102, (cW (findH l a).s)), (44, rcH (putL l (relH (findH l a))))] := by
    refine with2_ok ex l hl4 ok hk a ha 46 _ Try.func46 (by kernel_rfl) (by kernel_rfl) [.v (.int .u64 y)] [.v (.int .u64 (l0 0)), .v (.int .u64 (l1 0)), .v (.int .u64 (l2 0)), .v (.int .u64 (l3 0))] [.v (.int .u64 y)] [.v (.int .u64 (l0 (findH l a).s)), .v (.int .u64 (l1 (findH l a).s)), .v (.int .u64 (l2 (findH l a).s)), .v (.int .u64 (l3 (findH l a).s))] (findH l a).a ((findH l a).p) (0) (0) (0) fo.2.1 (by decide) ?_
    · unfold relE at he
      by_cases h1 : y > 1099511627776
      · rw [if_pos h1] at he; cases he
      · rw [if_neg h1] at he
        by_cases h2 : (findH l a).s = 0
        · rw [if_pos h2] at he; cases he
        · rw [if_neg h2] at he
          by_cases h3 : (findH l a).f = 0 ∨ y < (findH l a).f
          · rw [if_pos h3] at he; cases he
          · exact rel1_ok ex l (findH l a).a (findH l a).p (findH l a).s (findH l a).d (findH l a).f y fo.2.2.1 h1 h2 (fun h => h3 (.inl h)) (fun h => h3 (.inr h))
  simp only [cW, l0_zero, l1_zero, l2_zero, l3_zero] at W
  generalize putL l (relH (findH l a)) = m at W ⊢
  generalize (findH l a).s = was at W ⊢
  (refine fn_of Try.func23 rfl (by rfl) ?_; simp only [Try.ntmps23, List.length_cons, List.length_nil, Nat.reduceAdd, Nat.reduceSub, List.replicate, List.cons_append, List.nil_append])
  (repeat (any_goals (first | ((with_reducible refine evL_call ?_ ?_ ?_); rfl; rfl; intro K hK; (apply opA_callR (W) (fun r => if r = 1101 then 5 else if r = 1102 then 9 else r); rfl; rfl; rfl; rfl; exact Try.func39; kernel_rfl; rfl; rfl; (intro r hr q hq h; simp only [List.map_cons, List.map_nil, List.cons_append, List.nil_append, List.mem_cons, List.not_mem_nil, or_false] at hr hq; (try dsimp only at h); first | omega | (rcases hr with rfl | rfl | rfl <;> rcases hq with rfl | rfl | rfl <;> simp at h ⊢) | (rcases hr with rfl | rfl <;> rcases hq with rfl | rfl <;> simp at h ⊢) | ((repeat' split at h) <;> omega)); (simp only [argsOk, argOk, AV.ren, AV.renL, renL_map, List.mem_cons, List.not_mem_nil, forall_eq_or_imp, forall_eq, newOk, List.contains_cons, List.contains_nil, AV.refsL, AV.refs, refsL_map, AV.inN, AV.inNL, inH, inNL_map, go_sem])); (simp only [hputs, hdels, renH, AV.ren, AV.renL, renL_map, go_sem]; refine hK _ ?_; clear hK K)) | ((with_reducible refine evL_one ?_ ?_); rfl; intro K hK; simp only [go_sem]; ((repeat (refine ndI (by first | assumption | omega | rfl) ?_)); refine hK _ ?_; clear hK K)) | (with_reducible first | (refine evL_nil ?_; refine hR _ ?_; clear hR R) | ((first | refine evC_seq ?_ | refine evC_block ?_); intro Ψ hΨ hΨ') | (refine evC_region ?_; intro R hR) | (refine hΨ _ ?_; clear hΨ hΨ' Ψ) | refine evC_skip ?_ | refine evC_ret ?_ | refine evC_exit ?_) | ((with_reducible refine hΨ' _ _ ?_ ?_); (focus (simp; done)); clear hΨ hΨ' Ψ) | ((with_reducible apply evC_cond); rfl; rfl; all_goals (intro hc; first | (cases hc; done) | (try simp only at hc))) | ((with_reducible refine evD_nil ?_ ?_); kernel_rfl; (with_reducible refine hR _ ?_); clear hR R) | (((with_reducible apply evD_any); rfl; rfl; (simp only [rdE, rdOf, go_sem]; rfl); (intro τ hA hQ hN; ((try simp only [agree, Op.operands, Call.operands, go_sem, List.mem_cons, List.not_mem_nil, forall_eq_or_imp, forall_eq, List.append_toArray, Option.toArray] at hA); (try simp only [go_sem, List.mem_cons, List.not_mem_nil, forall_eq_or_imp, forall_eq] at hQ hN); (first | (revert hA; intro hA) | have hA := trivial); (first | (revert hQ; intro hQ) | have hQ := trivial); (first | (revert hN; intro hN) | have hN := trivial); simp only [go_sem, hA, hQ, hN]; (repeat (refine ndI (by first | assumption | omega | rfl) ?_)); (first | apply eff_rd | apply eff_st | apply eff_nw)))); (simp only [St.eff, setO, hputs, go_sem])) | ((with_reducible refine evC_draw ?_ ?_ ?_ ?_); kernel_rfl; kernel_rfl; (first | kernel_rfl | simp [newNames, isNew, St.free, freeH, AV.refsL, AV.refs]); intro R hR))))
  all_goals (refine ⟨by simp, ⟨_, ?_, AV.le_refl _⟩, leH_get (by simp [leH, hget])⟩; simp only [Try.results23, resL, ldA, oneOf, go_sem])
end Go.Proofs.Ytmibmodibicibaa
