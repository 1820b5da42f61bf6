/-
  Rows of bits: a word's bits, the word of bits, sums of bits; reckoned.
-/
import Derived.Test.YtmibmodibicibaaRa
namespace Go.Proofs.Ytmibmodibicibaa
open Go.RowKit
open Nat (reduceBEq)
set_option linter.unusedVariables false
set_option linter.unusedSimpArgs false
set_option maxRecDepth 20000
set_option maxHeartbeats 2000000
def ipv (n : Nat) : List PV := [.v (.int .i64 (n : Int))]
theorem ipv_len (n : Nat) : (ipv n).length = 1 := rfl
abbrev isl (ex : Bool) (l : List Nat) : AV := .c (.sl ex 1 l.length (l.flatMap ipv))
def rcI (l : List Nat) : List AV := (l.flatMap ipv).map .c
theorem rcI_len (l : List Nat) : (rcI l).length = l.length * 1 := by unfold rcI; rw [List.length_map, flat_length ipv_len]
theorem refsL_rcI (d : Nat) (l : List Nat) : AV.refsL d (rcI l) = false := by unfold rcI; exact refsL_map _ _
theorem isl_at {l : List Nat} {i : Nat} {y : Nat} (h : l[i]? = some y) : ((l.flatMap ipv).drop i).take 1 = [.v (.int .i64 (y : Int))] := by
  have h2 := flat_at (f := ipv) ipv_len h
  rw [Nat.mul_one] at h2
  exact h2
def bitsL (z k : Nat) : List Nat := (List.range k).map (bitN z)
theorem bitsL_len (z k : Nat) : (bitsL z k).length = k := by simp [bitsL]
theorem bitsL_at {z k i : Nat} (h : i < k) : (bitsL z k)[i]? = some (bitN z i) := by simp [bitsL, h]
theorem bitsL_succ (z k : Nat) : bitsL z (k + 1) = bitsL z k ++ [bitN z k] := by simp [bitsL, List.range_succ]
theorem bitN_lt (x n : Nat) : bitN x n < 2 := Nat.mod_lt _ (by decide)
/-! a word's bits -/
abbrev stI (x : Nat) (r : Nat) (out : List Nat) (i : Int) : St := ⟨[.any, vi .i64 256, .ptr 2 0, .any, .any, .row r 3 1 out.length, .any, vi .i64 256, vi .i64 i, .any, .any, .any, .any, .any, .any, .any, .any, .any, .any], [(2, [vi .u64 (l0 x), vi .u64 (l1 x), vi .u64 (l2 x), vi .u64 (l3 x)]), (r, rcI out)]⟩
theorem stI_rn (x : Nat) (out : List Nat) (i : Int) : (stI x 16 out i).to (stI x 500 out i) := by
  have h := St.to.rn (σ := stI x 16 out i) (fun r => if r = 16 then 500 else r) (fun r => if r = 500 then 16 else r) [2, 16] (by simp [AV.inNL, AV.inN]) (by simp) (by simp [inH, AV.inNL, AV.inN, rcI]) (by simp) (by simp)
  simpa [AV.renL, AV.ren, renH, rcI, stI] using h
theorem bits_row (x : Nat) (hx : x < WW) : Fn Try.prog 59 [wN x, vi .i64 256] [] (.row 500 3 1 256) [(500, rcI (bitsL x 256))] := by
  (refine fn_of Try.func59 rfl (by rfl) ?_; simp only [Try.ntmps59, List.length_cons, List.length_nil, Nat.reduceAdd, Nat.reduceSub, List.replicate, List.cons_append, List.nil_append])
  (repeat (any_goals (first | ((with_reducible refine evL_one ?_ ?_); rfl; intro K hK; simp only [go_sem]; ((repeat (refine ndI (by first | assumption | omega | rfl) ?_)); refine hK _ ?_; clear hK K)) | (with_reducible first | (refine evL_nil ?_; refine hR _ ?_; clear hR R) | ((first | refine evC_seq ?_ | refine evC_block ?_); intro Ψ hΨ hΨ') | (refine evC_region ?_; intro R hR) | (refine hΨ _ ?_; clear hΨ hΨ' Ψ) | refine evC_skip ?_ | refine evC_ret ?_ | refine evC_exit ?_) | ((with_reducible refine hΨ' _ _ ?_ ?_); (focus (simp; done)); clear hΨ hΨ' Ψ) | ((with_reducible apply evC_cond); rfl; rfl; all_goals (intro hc; first | (cases hc; done) | (try simp only at hc))))))
  refine evC_uptoT 256 (fun i => stI x 500 (bitsL x i) (i : Int)) ?_ ?_
  · refine St.to.trans (St.to.of_le (τ := ⟨[.any, vi .i64 256, .ptr 2 0, .any, .any, .c (.v (.slice none 0 0)), .any, vi .i64 256, vi .i64 0, .any, .any, .any, .any, .any, .any, .any, .any, .any, .any], [(2, [vi .u64 (l0 x), vi .u64 (l1 x), vi .u64 (l2 x), vi .u64 (l3 x)])]⟩) (St.le_of (by simp [leT]) (by simp [leH, hget]))) ?_
    refine St.to.trans (St.to.nilrow 5 500 3 1 rfl (by simp) (by simp [St.free, freeH, AV.refsL, AV.refs]) (by decide)) (St.to.of_le (St.le_of (by simp [leT, bitsL]) (by simp [leH, hget, hput, rcI, bitsL])))
  intro i hi Ψ hΨ hΨ'
  dsimp only [stI] at hΨ ⊢
  rcases Nat.lt_or_ge i 256 with hlt | hge
  · have k1 : (decide ((i : Int) < 256)) = true := by simp; omega
    have k7 : (i : Int) + 1 = ((i + 1 : Nat) : Int) := by omega
    have bt := bitN_fn x hx i (by omega)
    have ht := bitsL_succ x i
    have hol := bitsL_len x i
    rw [ht] at hΨ
    generalize bitsL x i = out at hΨ hol ⊢
    have k2 := rcI_len out
    (have W := ndI k1 (ndI k2 (ndI k7 (ndI @wrI @refsL_map))); (repeat (any_goals (first | ((with_reducible refine evL_call ?_ ?_ ?_); rfl; rfl; intro K hK; ((apply opA_callB (bt); rfl; rfl; rfl; rfl; exact Try.func61); kernel_rfl; rfl; (simp (disch := omega) only [go_sem, W, refsL_rcI, refsL_app, AV.refsL, AV.refs, List.length_append, List.length_cons, List.length_nil, Bool.or_false]; rfl); (first | rfl | simp [AV.inNL, AV.inN])); (simp (disch := omega) only [go_sem, W, refsL_rcI, refsL_app, AV.refsL, AV.refs, List.length_append, List.length_cons, List.length_nil, Bool.or_false]; refine hK _ ?_; clear hK K)) | ((with_reducible refine evL_one ?_ ?_); rfl; intro K hK; simp (disch := omega) only [go_sem, W, refsL_rcI, refsL_app, AV.refsL, AV.refs, List.length_append, List.length_cons, List.length_nil, Bool.or_false]; ((repeat (refine ndI (by first | assumption | omega | rfl) ?_)); refine hK _ ?_; clear hK K)) | (with_reducible first | (refine evL_nil ?_; refine hR _ ?_; clear hR R) | ((first | refine evC_seq ?_ | refine evC_block ?_); intro Ψ hΨ hΨ') | (refine evC_region ?_; intro R hR) | (refine hΨ _ ?_; clear hΨ hΨ' Ψ) | refine evC_skip ?_ | refine evC_ret ?_ | refine evC_exit ?_) | ((with_reducible refine hΨ' _ _ ?_ ?_); (focus (simp; done)); clear hΨ hΨ' Ψ) | ((with_reducible apply evC_cond); rfl; rfl; all_goals (intro hc; first | (cases hc; done) | (try simp only at hc)))))))
    all_goals exact hΨ _ hlt (St.to.trans (St.to.of_le (τ := stI x 16 (out ++ [bitN x i]) ((i + 1 : Nat) : Int)) (St.le_of (by simp [leT]) (by simp [leH, hget, rcI, ipv]))) (stI_rn x _ _))
  · have k1 : (decide ((i : Int) < 256)) = false := by simp; omega
    obtain rfl : i = 256 := by omega
    rw [bitsL_len]
    (repeat (any_goals (first | ((with_reducible refine evL_one ?_ ?_); rfl; intro K hK; simp only [go_sem, k1]; ((repeat (refine ndI (by first | assumption | omega | rfl) ?_)); refine hK _ ?_; clear hK K)) | (with_reducible first | (refine evL_nil ?_; refine hR _ ?_; clear hR R) | ((first | refine evC_seq ?_ | refine evC_block ?_); intro Ψ hΨ hΨ') | (refine evC_region ?_; intro R hR) | (refine hΨ _ ?_; clear hΨ hΨ' Ψ) | refine evC_skip ?_ | refine evC_ret ?_ | refine evC_exit ?_) | ((with_reducible refine hΨ' _ _ ?_ ?_); (focus (simp; done)); clear hΨ hΨ' Ψ) | ((with_reducible apply evC_cond); rfl; rfl; all_goals (intro hc; first | (cases hc; done) | (try simp only at hc))))))
    all_goals (refine ⟨by simp, ⟨_, ?_, AV.le_refl _⟩, leH_get (by simp [leH, hget])⟩; simp only [Try.results59, resL, ldA, oneOf, go_sem])
theorem frzI {f : FuncId} {args : List AV} {d e n : Nat} {l : List Nat} (hn : l.length = n) (h : Fn Try.prog f args [] (.row d e 1 n) [(d, rcI l)]) : Fn Try.prog f args [] (isl false l) [] := by
  subst hn
  have h := Fn.frzG (d := d) (pcs := l.flatMap ipv) h
  simp only [AV.frz, beq_self_eq_true, if_true] at h
  rw [if_pos (flat_length ipv_len l).symm] at h
  exact h
theorem bits_fn (x : Nat) (hx : x < WW) : Fn Try.prog 59 [wN x, vi .i64 256] [] (isl false (bitsL x 256)) [] := frzI (bitsL_len x 256) (bits_row x hx)
/-! sums, bit by bit -/
def cyN (x y i : Nat) : Nat := (x % 2 ^ i + y % 2 ^ i) / 2 ^ i
theorem cyN_le (x y i : Nat) : cyN x y i ≤ 1 := by
  unfold cyN
  have hp : 0 < 2 ^ i := Nat.pos_of_ne_zero (by simp)
  have h1 := Nat.mod_lt x hp
  have h2 := Nat.mod_lt y hp
  have := Nat.div_lt_of_lt_mul (m := x % 2 ^ i + y % 2 ^ i) (n := 2 ^ i) (k := 2) (by omega)
  omega
theorem add_step (x y i : Nat) : bitN x i + bitN y i + cyN x y i = 2 * cyN x y (i + 1) + bitN (x + y) i := by
  have hp : 0 < 2 ^ i := Nat.pos_of_ne_zero (by simp)
  have e1 : cyN x y (i + 1) = (cyN x y i + (bitN x i + bitN y i)) / 2 := by
    unfold cyN bitN
    rw [Nat.mod_pow_succ, Nat.mod_pow_succ, Nat.pow_succ, ← Nat.div_div_eq_div_mul]
    rw [show x % 2 ^ i + 2 ^ i * (x / 2 ^ i % 2) + (y % 2 ^ i + 2 ^ i * (y / 2 ^ i % 2)) = (x % 2 ^ i + y % 2 ^ i) + 2 ^ i * (x / 2 ^ i % 2 + y / 2 ^ i % 2) by rw [Nat.mul_add]; omega]
    rw [Nat.add_mul_div_left _ _ hp]
  have e2 : (x + y) / 2 ^ i = x / 2 ^ i + y / 2 ^ i + cyN x y i := by
    unfold cyN
    have hx := Nat.div_add_mod x (2 ^ i)
    have hy := Nat.div_add_mod y (2 ^ i)
    conv => lhs; rw [← hx, ← hy]
    rw [show 2 ^ i * (x / 2 ^ i) + x % 2 ^ i + (2 ^ i * (y / 2 ^ i) + y % 2 ^ i) = (x % 2 ^ i + y % 2 ^ i) + 2 ^ i * (x / 2 ^ i + y / 2 ^ i) by rw [Nat.mul_add]; omega]
    rw [Nat.add_mul_div_left _ _ hp]
    omega
  rw [e1]
  unfold bitN
  rw [e2]
  omega
abbrev stD (e1 e2 : Bool) (x y : Nat) (r : Nat) (out : List Nat) (i : Nat) : St := ⟨[isl e1 (bitsL x 256), isl e2 (bitsL y 256), .any, .any, .any, .row r 3 1 out.length, vi .i64 (cyN x y i : Nat), .any, .any, .any, vi .i64 256, vi .i64 i, .any, .any, .any, .any, .any, .any, .any, .any, .any, .any, .any, .any, .any, .any, .any, .any, .any, .any, .any, .any, .any, .any, .any, .any, .any], [(r, rcI out)]⟩
theorem stD_rn (e1 e2 : Bool) (x y : Nat) (out : List Nat) (i : Nat) : (stD e1 e2 x y 29 out i).to (stD e1 e2 x y 500 out i) := by
  have h := St.to.rn (σ := stD e1 e2 x y 29 out i) (fun r => if r = 29 then 500 else r) (fun r => if r = 500 then 29 else r) [29] (by simp [AV.inNL, AV.inN]) (by simp) (by simp [inH, AV.inNL, AV.inN, rcI]) (by simp) (by simp)
  simpa [AV.renL, AV.ren, renH, rcI, stD] using h
theorem add_row (e1 e2 : Bool) (x y : Nat) (hx : x < WW) (hy : y < WW) : Fn Try.prog 58 [isl e1 (bitsL x 256), isl e2 (bitsL y 256)] [] (.row 36 3 1 257) [(36, rcI (bitsL (x + y) 257))] := by
  have e256 : (((bitsL x 256).length : Nat) : Int) = 256 := by rw [bitsL_len]; rfl
  obtain ⟨tot, htot⟩ : ∃ t, bitsL (x + y) 257 = t := ⟨_, rfl⟩
  rw [htot]
  (refine fn_of Try.func58 rfl (by rfl) ?_; simp only [Try.ntmps58, List.length_cons, List.length_nil, Nat.reduceAdd, Nat.reduceSub, List.replicate, List.cons_append, List.nil_append])
  (repeat (any_goals (first | ((with_reducible refine evL_one ?_ ?_); rfl; intro K hK; simp only [go_sem, e256]; ((repeat (refine ndI (by first | assumption | omega | rfl) ?_)); refine hK _ ?_; clear hK K)) | (with_reducible first | (refine evL_nil ?_; refine hR _ ?_; clear hR R) | ((first | refine evC_seq ?_ | refine evC_block ?_); intro Ψ hΨ hΨ') | (refine evC_region ?_; intro R hR) | (refine hΨ _ ?_; clear hΨ hΨ' Ψ) | refine evC_skip ?_ | refine evC_ret ?_ | refine evC_exit ?_) | ((with_reducible refine hΨ' _ _ ?_ ?_); (focus (simp; done)); clear hΨ hΨ' Ψ) | ((with_reducible apply evC_cond); rfl; rfl; all_goals (intro hc; first | (cases hc; done) | (try simp only at hc))) | ((with_reducible refine evD_nil ?_ ?_); kernel_rfl; (with_reducible refine hR _ ?_); clear hR R) | (((with_reducible apply evD_any); rfl; rfl; (simp only [rdE, rdOf, go_sem, e256]; rfl); (intro τ hA hQ hN; ((try simp only [agree, Op.operands, Call.operands, go_sem, e256, go_sem, List.mem_cons, List.not_mem_nil, forall_eq_or_imp, forall_eq, List.append_toArray, Option.toArray] at hA); (try simp only [go_sem, e256, List.mem_cons, List.not_mem_nil, forall_eq_or_imp, forall_eq] at hQ hN); (first | (revert hA; intro hA) | have hA := trivial); (first | (revert hQ; intro hQ) | have hQ := trivial); (first | (revert hN; intro hN) | have hN := trivial); simp only [go_sem, e256, go_sem, hA, hQ, hN]; (repeat (refine ndI (by first | assumption | omega | rfl) ?_)); (first | apply eff_rd | apply eff_st | apply eff_nw)))); (simp only [St.eff, setO, hputs, go_sem, e256])) | ((with_reducible refine evC_draw ?_ ?_ ?_ ?_); kernel_rfl; kernel_rfl; (first | kernel_rfl | simp [newNames, isNew, St.free, freeH, AV.refsL, AV.refs]); intro R hR))))
  refine evC_uptoT 256 (fun i => stD e1 e2 x y 500 (bitsL (x + y) i) i) ?_ ?_
  · refine St.to.trans (St.to.of_le (τ := ⟨[isl e1 (bitsL x 256), isl e2 (bitsL y 256), .any, .any, .any, .c (.v (.slice none 0 0)), vi .i64 0, .any, .any, .any, vi .i64 256, vi .i64 0, .any, .any, .any, .any, .any, .any, .any, .any, .any, .any, .any, .any, .any, .any, .any, .any, .any, .any, .any, .any, .any, .any, .any, .any, .any], []⟩) (St.le_of (by simp [leT]) (by simp [leH, hget]))) ?_
    refine St.to.trans (St.to.nilrow 5 500 3 1 rfl (by simp) (by simp [St.free, freeH, AV.refsL, AV.refs]) (by decide)) (St.to.of_le (St.le_of (by simp [leT, bitsL, cyN]) (by simp [leH, hget, hput, rcI, bitsL])))
  intro i hi Ψ hΨ hΨ'
  dsimp only [stD] at hΨ ⊢
  have ht := bitsL_succ (x + y) i
  have hol := bitsL_len (x + y) i
  rcases Nat.lt_or_ge i 256 with hlt | hge
  · have k1 : (decide ((i : Int) < 256)) = true := by simp; omega
    have k7 : (i : Int) + 1 = ((i + 1 : Nat) : Int) := by omega
    have g1 := isl_at (bitsL_at (z := x) hlt)
    have g2 := isl_at (bitsL_at (z := y) hlt)
    have il1 : i < (bitsL x 256).length := by rw [bitsL_len]; exact hlt
    have il2 : i < (bitsL y 256).length := by rw [bitsL_len]; exact hlt
    have st := add_step x y i
    have b1 := bitN_lt x i
    have b2 := bitN_lt y i
    have b3 := bitN_lt (x + y) i
    have b4 := cyN_le x y i
    rw [ht] at hΨ
    generalize bitsL (x + y) i = out at hΨ hol ⊢
    have k2 := rcI_len out
    generalize bitN x i = p at st b1 g1
    generalize bitN y i = q at st b2 g2
    generalize bitN (x + y) i = s at st b3 hΨ
    generalize cyN x y i = c at st b4 ⊢
    have hΨ2 : ∀ σ' : St, i + 1 ≤ 256 → σ'.to (stD e1 e2 x y 29 (out ++ [s]) (i + 1)) → Ψ .normal σ' := fun σ' h1 h2 => hΨ σ' h1 (h2.trans (stD_rn e1 e2 x y _ _))
    dsimp only [stD] at hΨ2
    generalize cyN x y (i + 1) = c2 at st hΨ2
    have k3 : ((p : Int) + (q : Int)) = ((p + q : Nat) : Int) := by omega
    have k4 : (((p + q : Nat) : Int) + (c : Int)) = ((p + q + c : Nat) : Int) := by omega
    have k5 : (((p + q + c : Nat) : Int)).tmod 2 = (s : Int) := by
      show (((p + q + c) % 2 : Nat) : Int) = _
      omega
    have k6 : (((p + q + c : Nat) : Int)).tdiv 2 = (c2 : Int) := by
      show (((p + q + c) / 2 : Nat) : Int) = _
      omega
    have k8 : p + q + c ≤ 3 := by omega
    (have W := ndI k1 (ndI k2 (ndI k3 (ndI k4 (ndI k5 (ndI k6 (ndI k7 (ndI g1 (ndI g2 (ndI @wrI @refsL_map))))))))); (repeat (any_goals (first | ((with_reducible refine evL_one ?_ ?_); rfl; intro K hK; simp (disch := omega) only [go_sem, W, Nat.mul_one, Int.reduceEq, refsL_rcI, refsL_app, AV.refsL, AV.refs, List.length_append, List.length_cons, List.length_nil, Bool.or_false]; ((repeat (refine ndI (by first | assumption | omega | rfl) ?_)); refine hK _ ?_; clear hK K)) | (with_reducible first | (refine evL_nil ?_; refine hR _ ?_; clear hR R) | ((first | refine evC_seq ?_ | refine evC_block ?_); intro Ψ hΨ hΨ') | (refine evC_region ?_; intro R hR) | (refine hΨ _ ?_; clear hΨ hΨ' Ψ) | refine evC_skip ?_ | refine evC_ret ?_ | refine evC_exit ?_) | ((with_reducible refine hΨ' _ _ ?_ ?_); (focus (simp; done)); clear hΨ hΨ' Ψ) | ((with_reducible apply evC_cond); rfl; rfl; all_goals (intro hc; first | (cases hc; done) | (try simp only at hc))) | ((with_reducible refine evD_nil ?_ ?_); kernel_rfl; (with_reducible refine hR _ ?_); clear hR R) | (((with_reducible apply evD_any); rfl; rfl; (simp (disch := omega) only [rdE, rdOf, go_sem, W, Nat.mul_one, Int.reduceEq, refsL_rcI, refsL_app, AV.refsL, AV.refs, List.length_append, List.length_cons, List.length_nil, Bool.or_false]; rfl); (intro τ hA hQ hN; ((try simp only [agree, Op.operands, Call.operands, go_sem, W, Nat.mul_one, Int.reduceEq, refsL_rcI, refsL_app, AV.refsL, AV.refs, List.length_append, List.length_cons, List.length_nil, Bool.or_false, go_sem, List.mem_cons, List.not_mem_nil, forall_eq_or_imp, forall_eq, List.append_toArray, Option.toArray] at hA); (try simp only [go_sem, W, Nat.mul_one, Int.reduceEq, refsL_rcI, refsL_app, AV.refsL, AV.refs, List.length_append, List.length_cons, List.length_nil, Bool.or_false, List.mem_cons, List.not_mem_nil, forall_eq_or_imp, forall_eq] at hQ hN); (first | (revert hA; intro hA) | have hA := trivial); (first | (revert hQ; intro hQ) | have hQ := trivial); (first | (revert hN; intro hN) | have hN := trivial); simp (disch := omega) only [go_sem, W, Nat.mul_one, Int.reduceEq, refsL_rcI, refsL_app, AV.refsL, AV.refs, List.length_append, List.length_cons, List.length_nil, Bool.or_false, go_sem, hA, hQ, hN]; (repeat (refine ndI (by first | assumption | omega | rfl) ?_)); (first | apply eff_rd | apply eff_st | apply eff_nw)))); (simp (disch := omega) only [St.eff, setO, hputs, go_sem, W, Nat.mul_one, Int.reduceEq, refsL_rcI, refsL_app, AV.refsL, AV.refs, List.length_append, List.length_cons, List.length_nil, Bool.or_false])) | ((with_reducible refine evC_draw ?_ ?_ ?_ ?_); kernel_rfl; kernel_rfl; (first | kernel_rfl | simp [newNames, isNew, St.free, freeH, AV.refsL, AV.refs]); intro R hR)))))
    all_goals exact hΨ2 _ hlt (St.to.of_le (St.le_of (by simp [leT]) (by simp [leH, hget, rcI, ipv])))
  · have k1 : (decide ((i : Int) < 256)) = false := by simp; omega
    obtain rfl : i = 256 := by omega
    have hcy : cyN x y 256 = bitN (x + y) 256 := by
      unfold cyN bitN
      rw [Nat.mod_eq_of_lt (show x < 2 ^ 256 from hx), Nat.mod_eq_of_lt (show y < 2 ^ 256 from hy)]
      have : (x + y) / 2 ^ 256 < 2 := Nat.div_lt_of_lt_mul (by have : x < 2 ^ 256 := hx; have : y < 2 ^ 256 := hy; omega)
      omega
    rw [hcy]
    have hr : rcI tot = rcI (bitsL (x + y) 256) ++ [vi .i64 (bitN (x + y) 256 : Nat)] := by
      rw [← htot, ht]
      simp [rcI, ipv]
    generalize bitsL (x + y) 256 = out at hol hr ⊢
    have k2 := rcI_len out
    generalize bitN (x + y) 256 = s at hr ⊢
    (have W := ndI k1 (ndI k2 (ndI @wrI @refsL_map)); (repeat (any_goals (first | ((with_reducible refine evL_one ?_ ?_); rfl; intro K hK; simp (disch := omega) only [go_sem, W, hol, Nat.mul_one, refsL_rcI, refsL_app, AV.refsL, AV.refs, List.length_append, List.length_cons, List.length_nil, Bool.or_false]; ((repeat (refine ndI (by first | assumption | omega | rfl) ?_)); refine hK _ ?_; clear hK K)) | (with_reducible first | (refine evL_nil ?_; refine hR _ ?_; clear hR R) | ((first | refine evC_seq ?_ | refine evC_block ?_); intro Ψ hΨ hΨ') | (refine evC_region ?_; intro R hR) | (refine hΨ _ ?_; clear hΨ hΨ' Ψ) | refine evC_skip ?_ | refine evC_ret ?_ | refine evC_exit ?_) | ((with_reducible refine hΨ' _ _ ?_ ?_); (focus (simp; done)); clear hΨ hΨ' Ψ) | ((with_reducible apply evC_cond); rfl; rfl; all_goals (intro hc; first | (cases hc; done) | (try simp only at hc))) | ((with_reducible refine evD_nil ?_ ?_); kernel_rfl; (with_reducible refine hR _ ?_); clear hR R) | (((with_reducible apply evD_any); rfl; rfl; (simp (disch := omega) only [rdE, rdOf, go_sem, W, hol, Nat.mul_one, refsL_rcI, refsL_app, AV.refsL, AV.refs, List.length_append, List.length_cons, List.length_nil, Bool.or_false]; rfl); (intro τ hA hQ hN; ((try simp only [agree, Op.operands, Call.operands, go_sem, W, hol, Nat.mul_one, refsL_rcI, refsL_app, AV.refsL, AV.refs, List.length_append, List.length_cons, List.length_nil, Bool.or_false, go_sem, List.mem_cons, List.not_mem_nil, forall_eq_or_imp, forall_eq, List.append_toArray, Option.toArray] at hA); (try simp only [go_sem, W, hol, Nat.mul_one, refsL_rcI, refsL_app, AV.refsL, AV.refs, List.length_append, List.length_cons, List.length_nil, Bool.or_false, List.mem_cons, List.not_mem_nil, forall_eq_or_imp, forall_eq] at hQ hN); (first | (revert hA; intro hA) | have hA := trivial); (first | (revert hQ; intro hQ) | have hQ := trivial); (first | (revert hN; intro hN) | have hN := trivial); simp (disch := omega) only [go_sem, W, hol, Nat.mul_one, refsL_rcI, refsL_app, AV.refsL, AV.refs, List.length_append, List.length_cons, List.length_nil, Bool.or_false, go_sem, hA, hQ, hN]; (repeat (refine ndI (by first | assumption | omega | rfl) ?_)); (first | apply eff_rd | apply eff_st | apply eff_nw)))); (simp (disch := omega) only [St.eff, setO, hputs, go_sem, W, hol, Nat.mul_one, refsL_rcI, refsL_app, AV.refsL, AV.refs, List.length_append, List.length_cons, List.length_nil, Bool.or_false])) | ((with_reducible refine evC_draw ?_ ?_ ?_ ?_); kernel_rfl; kernel_rfl; (first | kernel_rfl | simp [newNames, isNew, St.free, freeH, AV.refsL, AV.refs]); intro R hR)))))
    all_goals rw [hr]
    all_goals (refine ⟨by simp, ⟨_, ?_, AV.le_refl _⟩, leH_get (by simp [leH, hget])⟩; simp only [Try.results58, resL, ldA, oneOf, go_sem])
theorem addb_fn (e1 e2 : Bool) (x y : Nat) (hx : x < WW) (hy : y < WW) : Fn Try.prog 58 [isl e1 (bitsL x 256), isl e2 (bitsL y 256)] [] (isl false (bitsL (x + y) 257)) [] := frzI (bitsL_len _ _) (add_row e1 e2 x y hx hy)
end Go.Proofs.Ytmibmodibicibaa
