/-
  Padded, HasSuffix, HasPrefix: reckoned; what comes of Ahead and Behind is what the document says.
-/
import Derived.Test.YtagkcmoloceheaaDoorZc
namespace Go.Proofs.YtagkcmoloceheaaDoor
open Go.RowKit
open Nat (reduceBEq)
set_option linter.unusedVariables false
set_option linter.unusedSimpArgs false
set_option maxRecDepth 20000
set_option maxHeartbeats 2000000
theorem wrI {x : Int} (h1 : -9223372036854775808 ≤ x) (h2 : x ≤ 9223372036854775807) : IntKind.i64.wrap x = x := by
  unfold IntKind.wrap; simp [IntKind.bits, IntKind.signed]; omega
theorem upv_drop (l : List UInt8) (k : Nat) : (l.flatMap upv).drop k = (l.drop k).flatMap upv := by
  rw [upv_map, upv_map]; unfold u8s; rw [List.map_map, List.map_map, List.map_drop]
theorem upv_take (l : List UInt8) (k : Nat) : (l.flatMap upv).take k = (l.take k).flatMap upv := by
  rw [upv_map, upv_map]; unfold u8s; rw [List.map_map, List.map_map, List.map_take]
theorem upv_flen (l : List UInt8) : (l.flatMap upv).length = l.length := by rw [flat_length upv_len, Nat.mul_one]
theorem upv_app (l m : List UInt8) : (l ++ m).flatMap upv = l.flatMap upv ++ m.flatMap upv := List.flatMap_append
theorem hasSuffix_fn (l p m : List UInt8) (h : l = p ++ m) (hl : l.length ≤ 1000000) : Fn Tryd.prog 18 [usl false l, usl false m] [] (vb true) [] := by
  have be := bequal_fn false false m m
  rw [decide_eq_true rfl] at be
  have hlen : l.length = p.length + m.length := by rw [h, List.length_append]
  have e1 : (l.flatMap upv).drop p.length = m.flatMap upv := by rw [upv_drop, h, List.drop_left]
  have e2 : (l.length : Int) - (m.length : Int) = (p.length : Int) := by omega
  have e3 : (m.flatMap upv).take m.length = m.flatMap upv := List.take_of_length_le (by rw [upv_flen]; omega)
  have e4 : l.length - p.length = m.length := by omega
  have k1 : decide ((l.length : Int) ≥ (m.length : Int)) = true := decide_eq_true (by omega)
  (refine fn_of Tryd.func18 rfl (by rfl) ?_; simp only [Tryd.ntmps18, List.length_cons, List.length_nil, Nat.reduceAdd, Nat.reduceSub, List.replicate, List.cons_append, List.nil_append])
  (have W := ndI k1 (ndI e1 (ndI e2 (ndI e3 (ndI e4 @wrI)))); (repeat (any_goals (first | ((with_reducible refine evL_one ?_ ?_); rfl; intro K hK; simp (disch := omega) only [go_sem, W, Nat.mul_one]; ((repeat (refine ndI (by first | assumption | omega | rfl) ?_)); refine hK _ ?_; clear hK K)) | ((with_reducible refine evL_one ?_ ?_); rfl; intro K hK; simp (disch := omega) only [go_sem, W, Nat.mul_one]; apply opA_cut_nil; rfl; rfl; rfl; rfl; (focus (simp (disch := omega) only [go_sem]; try rfl)); rfl; (simp (disch := omega) only [go_sem, W, Nat.mul_one]; (with_reducible refine hK _ ?_); clear hK K)) | ((with_reducible refine evL_one ?_ ?_); rfl; intro K hK; (try simp (disch := omega) only [go_sem, W, Nat.mul_one]); (repeat (refine ndI (by first | assumption | omega | rfl) ?_)); refine opA_slice_row rfl rfl rfl rfl rfl ?_ rfl rfl rfl rfl ?_ ?_ ?_; (focus (simp only [go_sem]; try rfl)); (intro h; first | rfl | cases h); (first | omega | (dsimp only; omega) | (simp (disch := omega) only [Option.isSome_some, Option.isSome_none]; omega) | (simp; omega) | (focus (simp; done))); (intro q hq1 hq2; (simp (disch := omega) only [go_sem, W, Nat.mul_one]; refine hK _ ?_; clear hK K))) | ((with_reducible refine evL_one ?_ ?_); rfl; intro K hK; (try simp (disch := omega) only [go_sem, W, Nat.mul_one]); (repeat (refine ndI (by first | assumption | omega | rfl) ?_)); refine opA_slice_cut rfl rfl rfl rfl rfl ?_ rfl rfl rfl rfl ?_ ?_ ?_; (focus (simp only [go_sem]; try rfl)); (intro h; first | rfl | cases h); (first | omega | (dsimp only; omega) | (simp (disch := omega) only [Option.isSome_some, Option.isSome_none]; omega) | (simp; omega) | (focus (simp; done))); (simp (disch := omega) only [go_sem, W, Nat.mul_one]; refine hK _ ?_; clear hK K)) | (with_reducible first | (refine evL_nil ?_; refine hR _ ?_; clear hR R) | ((first | refine evC_seq ?_ | refine evC_block ?_); intro Ψ hΨ hΨ') | (refine evC_region ?_; intro R hR) | (refine hΨ _ ?_; clear hΨ hΨ' Ψ) | refine evC_skip ?_ | refine evC_ret ?_ | refine evC_exit ?_) | ((with_reducible refine hΨ' _ _ ?_ ?_); (focus (simp; done)); clear hΨ hΨ' Ψ) | ((with_reducible apply evL_unmet); rfl; rfl; rfl; (try simp (disch := omega) only [go_sem, W, Nat.mul_one])) | ((with_reducible apply evL_grd); rfl; rfl; rfl; all_goals (intro hb; first | (cases hb; done) | ((try simp only [Bool.not_true, Bool.not_false] at hb); (first | ((with_reducible intro K hK); (first | ((apply opA_callB (be); rfl; rfl; rfl; rfl; exact Tryd.func19); kernel_rfl; rfl; (simp (disch := omega) only [go_sem, W, Nat.mul_one]; rfl); (first | rfl | simp [AV.inNL, AV.inN])) | skip); simp (disch := omega) only [go_sem, W, Nat.mul_one]; ((repeat (refine ndI (by first | assumption | omega | rfl) ?_)); refine hK _ ?_; clear hK K)) | ((fail_if_success (with_reducible intro _)); simp (disch := omega) only [go_sem, W, Nat.mul_one]))))) | ((with_reducible apply evC_cond); rfl; rfl; all_goals (intro hc; first | (cases hc; done) | (try simp only at hc)))))))
  all_goals (refine ⟨by simp, ⟨_, ?_, AV.le_refl _⟩, leH_get (by simp [leH, hget])⟩; simp only [Tryd.results18, resL, ldA, oneOf, go_sem])
theorem hasPrefix_fn (l m q : List UInt8) (h : l = m ++ q) (hl : l.length ≤ 1000000) : Fn Tryd.prog 20 [usl false l, usl false m] [] (vb true) [] := by
  have be := bequal_fn false false m m
  rw [decide_eq_true rfl] at be
  have hlen : l.length = m.length + q.length := by rw [h, List.length_append]
  have e1 : (l.flatMap upv).take m.length = m.flatMap upv := by rw [upv_take, h, List.take_left]
  have k1 : decide ((l.length : Int) ≥ (m.length : Int)) = true := decide_eq_true (by omega)
  (refine fn_of Tryd.func20 rfl (by rfl) ?_; simp only [Tryd.ntmps20, List.length_cons, List.length_nil, Nat.reduceAdd, Nat.reduceSub, List.replicate, List.cons_append, List.nil_append])
  (repeat (any_goals (first | ((with_reducible refine evL_one ?_ ?_); rfl; intro K hK; simp (disch := omega) only [go_sem, k1, e1, Nat.mul_one, Nat.sub_zero]; ((repeat (refine ndI (by first | assumption | omega | rfl) ?_)); refine hK _ ?_; clear hK K)) | ((with_reducible refine evL_one ?_ ?_); rfl; intro K hK; simp (disch := omega) only [go_sem, k1, e1, Nat.mul_one, Nat.sub_zero]; apply opA_cut_nil; rfl; rfl; rfl; rfl; (focus (simp (disch := omega) only [go_sem]; try rfl)); rfl; (simp (disch := omega) only [go_sem, k1, e1, Nat.mul_one, Nat.sub_zero]; (with_reducible refine hK _ ?_); clear hK K)) | ((with_reducible refine evL_one ?_ ?_); rfl; intro K hK; (try simp (disch := omega) only [go_sem, k1, e1, Nat.mul_one, Nat.sub_zero]); (repeat (refine ndI (by first | assumption | omega | rfl) ?_)); refine opA_slice_row rfl rfl rfl rfl rfl ?_ rfl rfl rfl rfl ?_ ?_ ?_; (focus (simp only [go_sem]; try rfl)); (intro h; first | rfl | cases h); (first | omega | (dsimp only; omega) | (simp (disch := omega) only [Option.isSome_some, Option.isSome_none]; omega) | (simp; omega) | (focus (simp; done))); (intro q hq1 hq2; (simp (disch := omega) only [go_sem, k1, e1, Nat.mul_one, Nat.sub_zero]; refine hK _ ?_; clear hK K))) | ((with_reducible refine evL_one ?_ ?_); rfl; intro K hK; (try simp (disch := omega) only [go_sem, k1, e1, Nat.mul_one, Nat.sub_zero]); (repeat (refine ndI (by first | assumption | omega | rfl) ?_)); refine opA_slice_cut rfl rfl rfl rfl rfl ?_ rfl rfl rfl rfl ?_ ?_ ?_; (focus (simp only [go_sem]; try rfl)); (intro h; first | rfl | cases h); (first | omega | (dsimp only; omega) | (simp (disch := omega) only [Option.isSome_some, Option.isSome_none]; omega) | (simp; omega) | (focus (simp; done))); (simp (disch := omega) only [go_sem, k1, e1, Nat.mul_one, Nat.sub_zero]; refine hK _ ?_; clear hK K)) | (with_reducible first | (refine evL_nil ?_; refine hR _ ?_; clear hR R) | ((first | refine evC_seq ?_ | refine evC_block ?_); intro Ψ hΨ hΨ') | (refine evC_region ?_; intro R hR) | (refine hΨ _ ?_; clear hΨ hΨ' Ψ) | refine evC_skip ?_ | refine evC_ret ?_ | refine evC_exit ?_) | ((with_reducible refine hΨ' _ _ ?_ ?_); (focus (simp; done)); clear hΨ hΨ' Ψ) | ((with_reducible apply evL_unmet); rfl; rfl; rfl; (try simp (disch := omega) only [go_sem, k1, e1, Nat.mul_one, Nat.sub_zero])) | ((with_reducible apply evL_grd); rfl; rfl; rfl; all_goals (intro hb; first | (cases hb; done) | ((try simp only [Bool.not_true, Bool.not_false] at hb); (first | ((with_reducible intro K hK); (first | ((apply opA_callB (be); rfl; rfl; rfl; rfl; exact Tryd.func19); kernel_rfl; rfl; (simp (disch := omega) only [go_sem, k1, e1, Nat.mul_one, Nat.sub_zero]; rfl); (first | rfl | simp [AV.inNL, AV.inN])) | skip); simp (disch := omega) only [go_sem, k1, e1, Nat.mul_one, Nat.sub_zero]; ((repeat (refine ndI (by first | assumption | omega | rfl) ?_)); refine hK _ ?_; clear hK K)) | ((fail_if_success (with_reducible intro _)); simp (disch := omega) only [go_sem, k1, e1, Nat.mul_one, Nat.sub_zero]))))) | ((with_reducible apply evC_cond); rfl; rfl; all_goals (intro hc; first | (cases hc; done) | (try simp only at hc))))))
  all_goals (refine ⟨by simp, ⟨_, ?_, AV.le_refl _⟩, leH_get (by simp [leH, hget])⟩; simp only [Tryd.results20, resL, ldA, oneOf, go_sem])
def zerosL (n : Nat) : List UInt8 := List.replicate n 0
def padR (l : List UInt8) (N : Int) (ahead : Bool) : List UInt8 × Int := if N < l.length then ([], 2) else if N > 4096 then ([], 3) else (if ahead then zerosL (N.toNat - l.length) ++ l else l ++ zerosL (N.toNat - l.length), 0)
theorem u8z (n : Nat) : (AV.c (.sl false 1 n (List.replicate n (.v (.int .u8 0))))) = usl false (zerosL n) := by
  unfold usl zerosL
  rw [List.length_replicate, upv_map]
  unfold u8s
  rw [List.map_replicate, List.map_replicate]
  rfl
theorem padded_fn (l : List UInt8) (hl : l.length ≤ 1000000) (N : Int) (hN : -9223372036854775808 ≤ N ∧ N ≤ 9223372036854775807) (ahead : Bool) : Fn Tryd.prog 15 [usl false l, vi .i64 N, vb ahead] [] (.tup [usl false (padR l N ahead).1, vi .i64 (padR l N ahead).2]) [] := by
  have l8 : l.length < 9223372036854775808 := by omega
  unfold padR
  by_cases h1 : N < l.length
  · rw [if_pos h1]
    have k1 : decide (N < (l.length : Int)) = true := decide_eq_true h1
    (refine fn_of Tryd.func15 rfl (by rfl) ?_; simp only [Tryd.ntmps15, List.length_cons, List.length_nil, Nat.reduceAdd, Nat.reduceSub, List.replicate, List.cons_append, List.nil_append])
    (repeat (any_goals (first | ((with_reducible refine evL_one ?_ ?_); rfl; intro K hK; simp (disch := omega) only [go_sem, k1]; ((repeat (refine ndI (by first | assumption | omega | rfl) ?_)); refine hK _ ?_; clear hK K)) | (with_reducible first | (refine evL_nil ?_; refine hR _ ?_; clear hR R) | ((first | refine evC_seq ?_ | refine evC_block ?_); intro Ψ hΨ hΨ') | (refine evC_region ?_; intro R hR) | (refine hΨ _ ?_; clear hΨ hΨ' Ψ) | refine evC_skip ?_ | refine evC_ret ?_ | refine evC_exit ?_) | ((with_reducible refine hΨ' _ _ ?_ ?_); (focus (simp; done)); clear hΨ hΨ' Ψ) | ((with_reducible apply evC_cond); rfl; rfl; all_goals (intro hc; first | (cases hc; done) | (try simp only at hc))))))
    all_goals exact ⟨by simp, ⟨_, rfl, AV.le_tupL ⟨AV.le_nil _ _, AV.le_refl _, trivial⟩⟩, leH_get (by simp [leH, hget])⟩
  · rw [if_neg h1]
    have k1 : decide (N < (l.length : Int)) = false := decide_eq_false h1
    by_cases h2 : N > 4096
    · rw [if_pos h2]
      have k2 : decide (N > 4096) = true := decide_eq_true h2
      (refine fn_of Tryd.func15 rfl (by rfl) ?_; simp only [Tryd.ntmps15, List.length_cons, List.length_nil, Nat.reduceAdd, Nat.reduceSub, List.replicate, List.cons_append, List.nil_append])
      (repeat (any_goals (first | ((with_reducible refine evL_one ?_ ?_); rfl; intro K hK; simp (disch := omega) only [go_sem, k1, k2]; ((repeat (refine ndI (by first | assumption | omega | rfl) ?_)); refine hK _ ?_; clear hK K)) | (with_reducible first | (refine evL_nil ?_; refine hR _ ?_; clear hR R) | ((first | refine evC_seq ?_ | refine evC_block ?_); intro Ψ hΨ hΨ') | (refine evC_region ?_; intro R hR) | (refine hΨ _ ?_; clear hΨ hΨ' Ψ) | refine evC_skip ?_ | refine evC_ret ?_ | refine evC_exit ?_) | ((with_reducible refine hΨ' _ _ ?_ ?_); (focus (simp; done)); clear hΨ hΨ' Ψ) | ((with_reducible apply evC_cond); rfl; rfl; all_goals (intro hc; first | (cases hc; done) | (try simp only at hc))))))
      all_goals exact ⟨by simp, ⟨_, rfl, AV.le_tupL ⟨AV.le_nil _ _, AV.le_refl _, trivial⟩⟩, leH_get (by simp [leH, hget])⟩
    · rw [if_neg h2]
      have k2 : decide (N > 4096) = false := decide_eq_false h2
      obtain ⟨d, hd⟩ : ∃ d : Nat, d = N.toNat - l.length := ⟨_, rfl⟩
      rw [← hd]
      have hdn : N - (l.length : Int) = (d : Int) := by omega
      have hd4 : d ≤ 4096 := by omega
      have zl : (zerosL d).length = d := by unfold zerosL; rw [List.length_replicate]
      have b1 := both_fn false false (zerosL d) l (by rw [zl]; omega)
      have b2 := both_fn false false l (zerosL d) (by rw [zl]; omega)
      have z1 := u8z d
      cases ahead
      · simp only [Bool.false_eq_true, if_false]
        (refine fn_of Tryd.func15 rfl (by rfl) ?_; simp only [Tryd.ntmps15, List.length_cons, List.length_nil, Nat.reduceAdd, Nat.reduceSub, List.replicate, List.cons_append, List.nil_append])
        (have W := ndI k1 (ndI k2 @wrI); (repeat (any_goals (first | ((with_reducible refine evL_one ?_ ?_); rfl; intro K hK; simp (disch := omega) only [go_sem, W, hdn]; ((repeat (refine ndI (by first | assumption | omega | rfl) ?_)); refine hK _ ?_; clear hK K)) | (with_reducible first | (refine evL_nil ?_; refine hR _ ?_; clear hR R) | ((first | refine evC_seq ?_ | refine evC_block ?_); intro Ψ hΨ hΨ') | (refine evC_region ?_; intro R hR) | (refine hΨ _ ?_; clear hΨ hΨ' Ψ) | refine evC_skip ?_ | refine evC_ret ?_ | refine evC_exit ?_) | ((with_reducible refine hΨ' _ _ ?_ ?_); (focus (simp; done)); clear hΨ hΨ' Ψ) | ((with_reducible apply evC_cond); rfl; rfl; all_goals (intro hc; first | (cases hc; done) | (try simp only at hc)))))))
        refine evL_op rfl fun K hK => ?_
        refine opA_makeV (n := d) (z := .int .u8 0) rfl rfl rfl (by simp only [go_sem]; rfl) (by kernel_rfl) rfl rfl rfl rfl rfl rfl (by omega) (by unfold maxLen; omega) rfl rfl (by decide) ?_
        rw [z1]
        simp only [go_sem]
        refine hK _ ?_
        clear hK K
        (repeat (any_goals (first | ((with_reducible refine evL_call ?_ ?_ ?_); rfl; rfl; intro K hK; ((apply opA_callB (b2); rfl; rfl; rfl; rfl; exact Tryd.func28); kernel_rfl; rfl; (simp only [go_sem]; rfl); (first | rfl | simp [AV.inNL, AV.inN])); (simp only [go_sem]; refine hK _ ?_; clear hK K)) | ((with_reducible refine evL_one ?_ ?_); rfl; intro K hK; simp only [go_sem]; ((repeat (refine ndI (by first | assumption | omega | rfl) ?_)); refine hK _ ?_; clear hK K)) | (with_reducible first | (refine evL_nil ?_; refine hR _ ?_; clear hR R) | ((first | refine evC_seq ?_ | refine evC_block ?_); intro Ψ hΨ hΨ') | (refine evC_region ?_; intro R hR) | (refine hΨ _ ?_; clear hΨ hΨ' Ψ) | refine evC_skip ?_ | refine evC_ret ?_ | refine evC_exit ?_) | ((with_reducible refine hΨ' _ _ ?_ ?_); (focus (simp; done)); clear hΨ hΨ' Ψ) | ((with_reducible apply evC_cond); rfl; rfl; all_goals (intro hc; first | (cases hc; done) | (try simp only at hc))))))
        all_goals (refine ⟨by simp, ⟨_, ?_, AV.le_refl _⟩, leH_get (by simp [leH, hget])⟩; simp only [Tryd.results15, resL, ldA, oneOf, go_sem])
      · simp only [if_true]
        (refine fn_of Tryd.func15 rfl (by rfl) ?_; simp only [Tryd.ntmps15, List.length_cons, List.length_nil, Nat.reduceAdd, Nat.reduceSub, List.replicate, List.cons_append, List.nil_append])
        (have W := ndI k1 (ndI k2 @wrI); (repeat (any_goals (first | ((with_reducible refine evL_one ?_ ?_); rfl; intro K hK; simp (disch := omega) only [go_sem, W, hdn]; ((repeat (refine ndI (by first | assumption | omega | rfl) ?_)); refine hK _ ?_; clear hK K)) | (with_reducible first | (refine evL_nil ?_; refine hR _ ?_; clear hR R) | ((first | refine evC_seq ?_ | refine evC_block ?_); intro Ψ hΨ hΨ') | (refine evC_region ?_; intro R hR) | (refine hΨ _ ?_; clear hΨ hΨ' Ψ) | refine evC_skip ?_ | refine evC_ret ?_ | refine evC_exit ?_) | ((with_reducible refine hΨ' _ _ ?_ ?_); (focus (simp; done)); clear hΨ hΨ' Ψ) | ((with_reducible apply evC_cond); rfl; rfl; all_goals (intro hc; first | (cases hc; done) | (try simp only at hc)))))))
        refine evL_op rfl fun K hK => ?_
        refine opA_makeV (n := d) (z := .int .u8 0) rfl rfl rfl (by simp only [go_sem]; rfl) (by kernel_rfl) rfl rfl rfl rfl rfl rfl (by omega) (by unfold maxLen; omega) rfl rfl (by decide) ?_
        rw [z1]
        simp only [go_sem]
        refine hK _ ?_
        clear hK K
        (repeat (any_goals (first | ((with_reducible refine evL_call ?_ ?_ ?_); rfl; rfl; intro K hK; ((apply opA_callB (b1); rfl; rfl; rfl; rfl; exact Tryd.func28); kernel_rfl; rfl; (simp only [go_sem]; rfl); (first | rfl | simp [AV.inNL, AV.inN])); (simp only [go_sem]; refine hK _ ?_; clear hK K)) | ((with_reducible refine evL_one ?_ ?_); rfl; intro K hK; simp only [go_sem]; ((repeat (refine ndI (by first | assumption | omega | rfl) ?_)); refine hK _ ?_; clear hK K)) | (with_reducible first | (refine evL_nil ?_; refine hR _ ?_; clear hR R) | ((first | refine evC_seq ?_ | refine evC_block ?_); intro Ψ hΨ hΨ') | (refine evC_region ?_; intro R hR) | (refine hΨ _ ?_; clear hΨ hΨ' Ψ) | refine evC_skip ?_ | refine evC_ret ?_ | refine evC_exit ?_) | ((with_reducible refine hΨ' _ _ ?_ ?_); (focus (simp; done)); clear hΨ hΨ' Ψ) | ((with_reducible apply evC_cond); rfl; rfl; all_goals (intro hc; first | (cases hc; done) | (try simp only at hc))))))
        all_goals (refine ⟨by simp, ⟨_, ?_, AV.le_refl _⟩, leH_get (by simp [leH, hget])⟩; simp only [Tryd.results15, resL, ldA, oneOf, go_sem])
theorem withinS_pos {N : Int} (h0 : 0 ≤ N) : withinS N = if N > 4096 then 3 else 0 := by unfold withinS; rw [if_neg (by omega)]
theorem ahead_padR (l : List UInt8) (N : Int) : aheadE l N = padR l N true := by
  unfold aheadE padE padR
  by_cases h1 : N < l.length
  · rw [if_pos h1, if_pos h1]
  · rw [if_neg h1, if_neg h1]
    unfold madeS
    rw [withinS_pos (by omega)]
    by_cases h2 : N > 4096
    · rw [if_pos h2, if_neg (by decide), if_pos h2]
    · rw [if_neg h2, if_pos rfl, if_neg h2, if_pos rfl, show (N - (l.length : Int)).toNat = N.toNat - l.length by omega, splice_end _ _ (by omega)]
      rfl
theorem behind_padR (l : List UInt8) (N : Int) : behindE l N = padR l N false := by
  unfold behindE padE padR
  by_cases h1 : N < l.length
  · rw [if_pos h1, if_pos h1]
  · rw [if_neg h1, if_neg h1]
    unfold madeS
    rw [withinS_pos (by omega)]
    by_cases h2 : N > 4096
    · rw [if_pos h2, if_neg (by decide), if_pos h2]
    · rw [if_neg h2, if_pos rfl, if_neg h2, if_neg (by decide)]
      unfold splice zerosL
      simp
theorem padR_neg (l : List UInt8) (N : Int) (a : Bool) (h : N < 0) : padR l N a = ([], 2) := by unfold padR; rw [if_pos (by omega)]
theorem ahead2_fn (l : List UInt8) (N : Int) (hN : N ≤ 9223372036854775807) : Fn Tryd.prog 13 [usl false l, vi .i64 N] [] (.tup [.row 500 5 1 (padR l N true).1.length, vi .i64 (padR l N true).2]) [(500, rcU (padR l N true).1)] := by
  have h := ahead_fn false l N hN
  rwa [ahead_padR] at h
theorem behind2_fn (l : List UInt8) (N : Int) : Fn Tryd.prog 14 [usl false l, vi .i64 N] [] (.tup [.row 500 5 1 (padR l N false).1.length, vi .i64 (padR l N false).2]) [(500, rcU (padR l N false).1)] := by
  have h := behind_fn false l N
  rwa [behind_padR] at h
end Go.Proofs.YtagkcmoloceheaaDoor
