/-
  From the library's sorting of a row, told by its worlds, to a contract of the reckoning. No program in sight.
-/
import Derived.Test.YtmidmaeihpldhaaGreatRa
import Derived.Test.YtmidmaeihpldhaaGreatLc
import Derived.Test.YtmidmaeihpldhaaGreatTc
import Derived.Test.YtmidmaeihpldhaaGreatAvI
import Derived.Shelf.SlSortCmp.NoneTotal
set_option linter.unusedSimpArgs false
set_option linter.unusedVariables false
namespace Go.Proofs.YtmidmaeihpldhaaGreat
open Go.RowKit
open Nat (reduceBEq)
set_option maxRecDepth 20000
set_option maxHeartbeats 2000000
def ipv (n : Nat) : List PV := [.v (.int .i64 (n : Int))]
theorem ipv_len (n : Nat) : (ipv n).length = 1 := rfl
abbrev isl (ex : Bool) (l : List Nat) : AV := .c (.sl ex 1 l.length (l.flatMap ipv))
def rcI (l : List Nat) : List AV := (l.flatMap ipv).map .c
theorem rcI_len (l : List Nat) : (rcI l).length = l.length * 1 := by unfold rcI; rw [List.length_map, flat_length ipv_len]
theorem refsL_rcI (d : Nat) (l : List Nat) : AV.refsL d (rcI l) = false := by unfold rcI; exact refsL_map _ _
theorem isl_at {l : List Nat} {i : Nat} {y : Nat} (h : l[i]? = some y) : ((l.flatMap ipv).drop i).take 1 = [.v (.int .i64 (y : Int))] := by
  have h2 := flat_at (f := ipv) ipv_len h
  rw [Nat.mul_one] at h2
  exact h2
def bitsL (z k : Nat) : List Nat := (List.range k).map (bitN z)
theorem bitsL_len (z k : Nat) : (bitsL z k).length = k := by simp [bitsL]
theorem bitsL_at {z k i : Nat} (h : i < k) : (bitsL z k)[i]? = some (bitN z i) := by simp [bitsL, h]
theorem bitsL_succ (z k : Nat) : bitsL z (k + 1) = bitsL z k ++ [bitN z k] := by simp [bitsL, List.range_succ]
theorem bitN_lt (x n : Nat) : bitN x n < 2 := Nat.mod_lt _ (by decide)
/-! a word's bits -/
abbrev stI (x : Nat) (r : Nat) (out : List Nat) (i : Int) : St := ⟨[.any, vi .i64 256, .ptr 2 0, .any, .any, .row r 3 1 out.length, .any, vi .i64 256, vi .i64 i, .any, .any, .any, .any, .any, .any, .any, .any, .any, .any], [(2, [vi .u64 (l0 x), vi .u64 (l1 x), vi .u64 (l2 x), vi .u64 (l3 x)]), (r, rcI out)]⟩
theorem stI_rn (x : Nat) (out : List Nat) (i : Int) : (stI x 16 out i).to (stI x 500 out i) := by
  have h := St.to.rn (σ := stI x 16 out i) (fun r => if r = 16 then 500 else r) (fun r => if r = 500 then 16 else r) [2, 16] (by simp [AV.inNL, AV.inN]) (by simp) (by simp [inH, AV.inNL, AV.inN, rcI]) (by simp) (by simp)
  simpa [AV.renL, AV.ren, renH, rcI, stI] using h
theorem bits_row (x : Nat) (hx : x < WW) : Fn Tryz.prog 133 [wN x, vi .i64 256] [] (.row 500 3 1 256) [(500, rcI (bitsL x 256))] := by
  (refine fn_of Tryz.func133 rfl (by rfl) ?_; simp only [Tryz.ntmps133, List.length_cons, List.length_nil, Nat.reduceAdd, Nat.reduceSub, List.replicate, List.cons_append, List.nil_append])
  (repeat (any_goals (first | ((with_reducible refine evL_one ?_ ?_); rfl; intro K hK; simp only [go_sem]; ((repeat (refine ndI (by first | assumption) ?_)); refine hK _ ?_; clear hK K)) | (with_reducible first | (refine evL_nil ?_; refine hR _ ?_; clear hR R) | ((first | refine evC_seq ?_ | refine evC_block ?_); intro Ψ hΨ hΨ') | (refine evC_region ?_; intro R hR) | (refine hΨ _ ?_; clear hΨ hΨ' Ψ)))))
  refine evC_uptoT 256 (fun i => stI x 500 (bitsL x i) (i : Int)) ?_ ?_
  · refine St.to.trans (St.to.of_le (τ := ⟨[.any, vi .i64 256, .ptr 2 0, .any, .any, .c (.v (.slice none 0 0)), .any, vi .i64 256, vi .i64 0, .any, .any, .any, .any, .any, .any, .any, .any, .any, .any], [(2, [vi .u64 (l0 x), vi .u64 (l1 x), vi .u64 (l2 x), vi .u64 (l3 x)])]⟩) (St.le_of (by simp [leT]) (by simp [leH, hget]))) ?_
    refine St.to.trans (St.to.nilrow 5 500 3 1 rfl (by simp) (by simp [St.free, freeH, AV.refsL, AV.refs]) (by decide)) (St.to.of_le (St.le_of (by simp [leT, bitsL]) (by simp [leH, hget, hput, rcI, bitsL])))
  intro i hi Ψ hΨ hΨ'
  dsimp only [stI] at hΨ ⊢
  rcases Nat.lt_or_ge i 256 with hlt | hge
  · have k1 : (decide ((i : Int) < 256)) = true := by simp; omega
    have k7 : (i : Int) + 1 = ((i + 1 : Nat) : Int) := by omega
    have bt := bitN_fn x hx i (by omega)
    have ht := bitsL_succ x i
    have hol := bitsL_len x i
    rw [ht] at hΨ
    generalize bitsL x i = out at hΨ hol ⊢
    have k2 := rcI_len out
    (have W := ndI k1 (ndI k2 (ndI k7 (ndI @wrI @refsL_map))); (repeat (any_goals (first | ((with_reducible refine evL_call ?_ ?_ ?_); rfl; rfl; intro K hK; ((apply opA_callB (bt); rfl; rfl; rfl; rfl; exact Tryz.func130); kernel_rfl; rfl; (simp (disch := omega) only [go_sem, W, refsL_rcI, refsL_app, AV.refsL, AV.refs, List.length_append, List.length_cons, List.length_nil, Bool.or_false]; rfl); (first | simp [AV.inNL, AV.inN])); (simp (disch := omega) only [go_sem, W, refsL_rcI, refsL_app, AV.refsL, AV.refs, List.length_append, List.length_cons, List.length_nil, Bool.or_false]; refine hK _ ?_; clear hK K)) | ((with_reducible refine evL_one ?_ ?_); rfl; intro K hK; simp (disch := omega) only [go_sem, W, refsL_rcI, refsL_app, AV.refsL, AV.refs, List.length_append, List.length_cons, List.length_nil, Bool.or_false]; ((repeat (refine ndI (by first | assumption | omega | rfl) ?_)); refine hK _ ?_; clear hK K)) | (with_reducible first | (refine evL_nil ?_; refine hR _ ?_; clear hR R) | ((first | refine evC_seq ?_ | refine evC_block ?_); intro Ψ hΨ hΨ') | (refine evC_region ?_; intro R hR) | (refine hΨ _ ?_; clear hΨ hΨ' Ψ) | refine evC_skip ?_) | ((with_reducible refine hΨ' _ _ ?_ ?_); (focus (simp; done)); clear hΨ hΨ' Ψ) | ((with_reducible apply evC_cond); rfl; rfl; all_goals (intro hc; first | (cases hc; done) | (try simp only at hc)))))))
    all_goals exact hΨ _ hlt (St.to.trans (St.to.of_le (τ := stI x 16 (out ++ [bitN x i]) ((i + 1 : Nat) : Int)) (St.le_of (by simp [leT]) (by simp [leH, hget, rcI, ipv]))) (stI_rn x _ _))
  · have k1 : (decide ((i : Int) < 256)) = false := by simp; omega
    obtain rfl : i = 256 := by omega
    rw [bitsL_len]
    (repeat (any_goals (first | ((with_reducible refine evL_one ?_ ?_); rfl; intro K hK; simp only [go_sem, k1]; ((repeat (refine ndI (by first | assumption) ?_)); refine hK _ ?_; clear hK K)) | (with_reducible first | (refine evL_nil ?_; refine hR _ ?_; clear hR R) | ((first | refine evC_seq ?_); intro Ψ hΨ hΨ') | (refine evC_region ?_; intro R hR) | (refine hΨ _ ?_; clear hΨ hΨ' Ψ) | refine evC_ret ?_ | refine evC_exit ?_) | ((with_reducible refine hΨ' _ _ ?_ ?_); (focus (simp; done)); clear hΨ hΨ' Ψ) | ((with_reducible apply evC_cond); rfl; rfl; all_goals (intro hc; first | (cases hc; done) | (try simp only at hc))))))
    all_goals (refine ⟨by simp, ⟨_, ?_, AV.le_refl _⟩, leH_get (by simp [leH, hget])⟩; simp only [Tryz.results133, resL, ldA, oneOf, go_sem])
theorem frzI {f : FuncId} {args : List AV} {d e n : Nat} {l : List Nat} (hn : l.length = n) (h : Fn Tryz.prog f args [] (.row d e 1 n) [(d, rcI l)]) : Fn Tryz.prog f args [] (isl false l) [] := by
  subst hn
  have h := Fn.frzG (d := d) (pcs := l.flatMap ipv) h
  simp only [AV.frz, beq_self_eq_true, if_true] at h
  rw [if_pos (flat_length ipv_len l).symm] at h
  exact h
theorem bits_fn (x : Nat) (hx : x < WW) : Fn Tryz.prog 133 [wN x, vi .i64 256] [] (isl false (bitsL x 256)) [] := frzI (bitsL_len x 256) (bits_row x hx)
/-! sums, bit by bit -/
def cyN (x y i : Nat) : Nat := (x % 2 ^ i + y % 2 ^ i) / 2 ^ i
theorem cyN_le (x y i : Nat) : cyN x y i ≤ 1 := by
  unfold cyN
  have hp : 0 < 2 ^ i := Nat.pos_of_ne_zero (by simp)
  have h1 := Nat.mod_lt x hp
  have h2 := Nat.mod_lt y hp
  have := Nat.div_lt_of_lt_mul (m := x % 2 ^ i + y % 2 ^ i) (n := 2 ^ i) (k := 2) (by omega)
  omega
theorem add_step (x y i : Nat) : bitN x i + bitN y i + cyN x y i = 2 * cyN x y (i + 1) + bitN (x + y) i := by
  have hp : 0 < 2 ^ i := Nat.pos_of_ne_zero (by simp)
  have e1 : cyN x y (i + 1) = (cyN x y i + (bitN x i + bitN y i)) / 2 := by
    unfold cyN bitN
    rw [Nat.mod_pow_succ, Nat.mod_pow_succ, Nat.pow_succ, ← Nat.div_div_eq_div_mul]
    rw [show x % 2 ^ i + 2 ^ i * (x / 2 ^ i % 2) + (y % 2 ^ i + 2 ^ i * (y / 2 ^ i % 2)) = (x % 2 ^ i + y % 2 ^ i) + 2 ^ i * (x / 2 ^ i % 2 + y / 2 ^ i % 2) by rw [Nat.mul_add]; omega]
    rw [Nat.add_mul_div_left _ _ hp]
  have e2 : (x + y) / 2 ^ i = x / 2 ^ i + y / 2 ^ i + cyN x y i := by
    unfold cyN
    have hx := Nat.div_add_mod x (2 ^ i)
    have hy := Nat.div_add_mod y (2 ^ i)
    conv => lhs; rw [← hx, ← hy]
    rw [show 2 ^ i * (x / 2 ^ i) + x % 2 ^ i + (2 ^ i * (y / 2 ^ i) + y % 2 ^ i) = (x % 2 ^ i + y % 2 ^ i) + 2 ^ i * (x / 2 ^ i + y / 2 ^ i) by rw [Nat.mul_add]; omega]
    rw [Nat.add_mul_div_left _ _ hp]
    omega
  rw [e1]
  unfold bitN
  rw [e2]
  omega
abbrev stD (e1 e2 : Bool) (x y : Nat) (r : Nat) (out : List Nat) (i : Nat) : St := ⟨[isl e1 (bitsL x 256), isl e2 (bitsL y 256), .any, .any, .any, .row r 3 1 out.length, vi .i64 (cyN x y i : Nat), .any, .any, .any, vi .i64 256, vi .i64 i, .any, .any, .any, .any, .any, .any, .any, .any, .any, .any, .any, .any, .any, .any, .any, .any, .any, .any, .any, .any, .any, .any, .any, .any, .any], [(r, rcI out)]⟩
theorem stD_rn (e1 e2 : Bool) (x y : Nat) (out : List Nat) (i : Nat) : (stD e1 e2 x y 29 out i).to (stD e1 e2 x y 500 out i) := by
  have h := St.to.rn (σ := stD e1 e2 x y 29 out i) (fun r => if r = 29 then 500 else r) (fun r => if r = 500 then 29 else r) [29] (by simp [AV.inNL, AV.inN]) (by simp) (by simp [inH, AV.inNL, AV.inN, rcI]) (by simp) (by simp)
  simpa [AV.renL, AV.ren, renH, rcI, stD] using h
theorem add_row (e1 e2 : Bool) (x y : Nat) (hx : x < WW) (hy : y < WW) : Fn Tryz.prog 132 [isl e1 (bitsL x 256), isl e2 (bitsL y 256)] [] (.row 36 3 1 257) [(36, rcI (bitsL (x + y) 257))] := by
  have e256 : (((bitsL x 256).length : Nat) : Int) = 256 := by rw [bitsL_len]; rfl
  obtain ⟨tot, htot⟩ : ∃ t, bitsL (x + y) 257 = t := ⟨_, rfl⟩
  rw [htot]
  (refine fn_of Tryz.func132 rfl (by rfl) ?_; simp only [Tryz.ntmps132, List.length_cons, List.length_nil, Nat.reduceAdd, Nat.reduceSub, List.replicate, List.cons_append, List.nil_append])
  (repeat (any_goals (first | ((with_reducible refine evL_one ?_ ?_); rfl; intro K hK; simp only [go_sem, e256]; ((repeat (refine ndI (by first | assumption) ?_)); refine hK _ ?_; clear hK K)) | (with_reducible first | (refine evL_nil ?_; refine hR _ ?_; clear hR R) | ((first | refine evC_seq ?_ | refine evC_block ?_); intro Ψ hΨ hΨ') | (refine evC_region ?_; intro R hR) | (refine hΨ _ ?_; clear hΨ hΨ' Ψ)))))
  refine evC_uptoT 256 (fun i => stD e1 e2 x y 500 (bitsL (x + y) i) i) ?_ ?_
  · refine St.to.trans (St.to.of_le (τ := ⟨[isl e1 (bitsL x 256), isl e2 (bitsL y 256), .any, .any, .any, .c (.v (.slice none 0 0)), vi .i64 0, .any, .any, .any, vi .i64 256, vi .i64 0, .any, .any, .any, .any, .any, .any, .any, .any, .any, .any, .any, .any, .any, .any, .any, .any, .any, .any, .any, .any, .any, .any, .any, .any, .any], []⟩) (St.le_of (by simp [leT]) (by simp [leH, hget]))) ?_
    refine St.to.trans (St.to.nilrow 5 500 3 1 rfl (by simp) (by simp [St.free, freeH, AV.refsL, AV.refs]) (by decide)) (St.to.of_le (St.le_of (by simp [leT, bitsL, cyN]) (by simp [leH, hget, hput, rcI, bitsL])))
  intro i hi Ψ hΨ hΨ'
  dsimp only [stD] at hΨ ⊢
  have ht := bitsL_succ (x + y) i
  have hol := bitsL_len (x + y) i
  rcases Nat.lt_or_ge i 256 with hlt | hge
  · have k1 : (decide ((i : Int) < 256)) = true := by simp; omega
    have k7 : (i : Int) + 1 = ((i + 1 : Nat) : Int) := by omega
    have g1 := isl_at (bitsL_at (z := x) hlt)
    have g2 := isl_at (bitsL_at (z := y) hlt)
    have il1 : i < (bitsL x 256).length := by rw [bitsL_len]; exact hlt
    have il2 : i < (bitsL y 256).length := by rw [bitsL_len]; exact hlt
    have st := add_step x y i
    have b1 := bitN_lt x i
    have b2 := bitN_lt y i
    have b3 := bitN_lt (x + y) i
    have b4 := cyN_le x y i
    rw [ht] at hΨ
    generalize bitsL (x + y) i = out at hΨ hol ⊢
    have k2 := rcI_len out
    generalize bitN x i = p at st b1 g1
    generalize bitN y i = q at st b2 g2
    generalize bitN (x + y) i = s at st b3 hΨ
    generalize cyN x y i = c at st b4 ⊢
    have hΨ2 : ∀ σ' : St, i + 1 ≤ 256 → σ'.to (stD e1 e2 x y 29 (out ++ [s]) (i + 1)) → Ψ .normal σ' := fun σ' h1 h2 => hΨ σ' h1 (h2.trans (stD_rn e1 e2 x y _ _))
    dsimp only [stD] at hΨ2
    generalize cyN x y (i + 1) = c2 at st hΨ2
    have k3 : ((p : Int) + (q : Int)) = ((p + q : Nat) : Int) := by omega
    have k4 : (((p + q : Nat) : Int) + (c : Int)) = ((p + q + c : Nat) : Int) := by omega
    have k5 : (((p + q + c : Nat) : Int)).tmod 2 = (s : Int) := by
      show (((p + q + c) % 2 : Nat) : Int) = _
      omega
    have k6 : (((p + q + c : Nat) : Int)).tdiv 2 = (c2 : Int) := by
      show (((p + q + c) / 2 : Nat) : Int) = _
      omega
    have k8 : p + q + c ≤ 3 := by omega
    (have W := ndI k1 (ndI k2 (ndI k3 (ndI k4 (ndI k5 (ndI k6 (ndI k7 (ndI g1 (ndI g2 (ndI @wrI @refsL_map))))))))); (repeat (any_goals (first | ((with_reducible refine evL_one ?_ ?_); rfl; intro K hK; simp (disch := omega) only [go_sem, W, Nat.mul_one, Int.reduceEq, refsL_rcI, refsL_app, AV.refsL, AV.refs, List.length_append, List.length_cons, List.length_nil, Bool.or_false]; ((repeat (refine ndI (by first | assumption | omega | rfl) ?_)); refine hK _ ?_; clear hK K)) | (with_reducible first | (refine evL_nil ?_; refine hR _ ?_; clear hR R) | ((first | refine evC_seq ?_ | refine evC_block ?_); intro Ψ hΨ hΨ') | (refine evC_region ?_; intro R hR) | (refine hΨ _ ?_; clear hΨ hΨ' Ψ) | refine evC_skip ?_) | ((with_reducible refine hΨ' _ _ ?_ ?_); (focus (simp; done)); clear hΨ hΨ' Ψ) | ((with_reducible apply evC_cond); rfl; rfl; all_goals (intro hc; first | (cases hc; done) | (try simp only at hc))) | ((with_reducible refine evD_nil ?_ ?_); kernel_rfl; (with_reducible refine hR _ ?_); clear hR R) | (((with_reducible apply evD_any); rfl; rfl; (simp (disch := omega) only [rdE, rdOf, go_sem, W, Nat.mul_one, Int.reduceEq, refsL_rcI, refsL_app, AV.refsL, AV.refs, List.length_append, List.length_cons, List.length_nil, Bool.or_false]; rfl); (intro τ hA hQ hN; ((try simp only [agree, Op.operands, Call.operands, go_sem, W, Nat.mul_one, Int.reduceEq, refsL_rcI, refsL_app, AV.refsL, AV.refs, List.length_append, List.length_cons, List.length_nil, Bool.or_false, go_sem, List.mem_cons, List.not_mem_nil, forall_eq_or_imp, forall_eq, List.append_toArray, Option.toArray] at hA); (try simp only [go_sem, W, Nat.mul_one, Int.reduceEq, refsL_rcI, refsL_app, AV.refsL, AV.refs, List.length_append, List.length_cons, List.length_nil, Bool.or_false, List.mem_cons, List.not_mem_nil, forall_eq_or_imp, forall_eq] at hQ hN); (first | (revert hA; intro hA)); (first | (revert hQ; intro hQ)); (first | (revert hN; intro hN)); simp (disch := omega) only [go_sem, W, Nat.mul_one, Int.reduceEq, refsL_rcI, refsL_app, AV.refsL, AV.refs, List.length_append, List.length_cons, List.length_nil, Bool.or_false, go_sem, hA, hQ, hN]; (repeat (refine ndI (by first | assumption | omega | rfl) ?_)); (first | apply eff_rd)))); (simp (disch := omega) only [St.eff, setO, hputs, go_sem, W, Nat.mul_one, Int.reduceEq, refsL_rcI, refsL_app, AV.refsL, AV.refs, List.length_append, List.length_cons, List.length_nil, Bool.or_false])) | ((with_reducible refine evC_draw ?_ ?_ ?_ ?_); kernel_rfl; kernel_rfl; (first | kernel_rfl); intro R hR)))))
    all_goals exact hΨ2 _ hlt (St.to.of_le (St.le_of (by simp [leT]) (by simp [leH, hget, rcI, ipv])))
  · have k1 : (decide ((i : Int) < 256)) = false := by simp; omega
    obtain rfl : i = 256 := by omega
    have hcy : cyN x y 256 = bitN (x + y) 256 := by
      unfold cyN bitN
      rw [Nat.mod_eq_of_lt (show x < 2 ^ 256 from hx), Nat.mod_eq_of_lt (show y < 2 ^ 256 from hy)]
      have : (x + y) / 2 ^ 256 < 2 := Nat.div_lt_of_lt_mul (by have : x < 2 ^ 256 := hx; have : y < 2 ^ 256 := hy; omega)
      omega
    rw [hcy]
    have hr : rcI tot = rcI (bitsL (x + y) 256) ++ [vi .i64 (bitN (x + y) 256 : Nat)] := by
      rw [← htot, ht]
      simp [rcI, ipv]
    generalize bitsL (x + y) 256 = out at hol hr ⊢
    have k2 := rcI_len out
    generalize bitN (x + y) 256 = s at hr ⊢
    (have W := ndI k1 (ndI k2 (ndI @wrI @refsL_map)); (repeat (any_goals (first | ((with_reducible refine evL_one ?_ ?_); rfl; intro K hK; simp (disch := omega) only [go_sem, W, hol, Nat.mul_one, refsL_rcI, refsL_app, AV.refsL, AV.refs, List.length_append, List.length_cons, List.length_nil, Bool.or_false]; ((repeat (refine ndI (by first | assumption | rfl) ?_)); refine hK _ ?_; clear hK K)) | (with_reducible first | (refine evL_nil ?_; refine hR _ ?_; clear hR R) | ((first | refine evC_seq ?_); intro Ψ hΨ hΨ') | (refine evC_region ?_; intro R hR) | (refine hΨ _ ?_; clear hΨ hΨ' Ψ) | refine evC_ret ?_ | refine evC_exit ?_) | ((with_reducible refine hΨ' _ _ ?_ ?_); (focus (simp; done)); clear hΨ hΨ' Ψ) | ((with_reducible apply evC_cond); rfl; rfl; all_goals (intro hc; first | (cases hc; done) | (try simp only at hc)))))))
    all_goals rw [hr]
    all_goals (refine ⟨by simp, ⟨_, ?_, AV.le_refl _⟩, leH_get (by simp [leH, hget])⟩; simp only [Tryz.results132, resL, ldA, oneOf, go_sem])
theorem addb_fn (e1 e2 : Bool) (x y : Nat) (hx : x < WW) (hy : y < WW) : Fn Tryz.prog 132 [isl e1 (bitsL x 256), isl e2 (bitsL y 256)] [] (isl false (bitsL (x + y) 257)) [] := frzI (bitsL_len _ _) (add_row e1 e2 x y hx hy)
end Go.Proofs.YtmidmaeihpldhaaGreat
namespace Go.Proofs.YtmidmaeihpldhaaGreat
open Go.RowKit
open Nat (reduceBEq)
set_option maxRecDepth 20000
set_option maxHeartbeats 2000000
theorem orN {a b : Nat} (ha : a < 18446744073709551616) (hb : b < 18446744073709551616) : IntKind.u64.wrap (BitVec.ofInt IntKind.u64.bits (a : Int) ||| BitVec.ofInt IntKind.u64.bits (b : Int)).toNat = ((a ||| b : Nat) : Int) := by
  have e : (BitVec.ofInt IntKind.u64.bits (a : Int) ||| BitVec.ofInt IntKind.u64.bits (b : Int)).toNat = a ||| b := by
    show (BitVec.ofInt 64 (a : Int) ||| BitVec.ofInt 64 (b : Int)).toNat = _
    rw [BitVec.toNat_or, BitVec.ofInt_natCast, BitVec.ofInt_natCast, BitVec.toNat_ofNat, BitVec.toNat_ofNat, Nat.mod_eq_of_lt ha, Nat.mod_eq_of_lt hb]
  rw [e]
  have h : a ||| b < 2 ^ 64 := Nat.or_lt_two_pow ha hb
  exact wrU (by omega) (by omega)
theorem orR {a r : Nat} (hr : r < 64) (ha : a < 2 ^ r) : IntKind.u64.wrap (BitVec.ofInt IntKind.u64.bits (a : Int) ||| BitVec.ofInt IntKind.u64.bits ((2 ^ r : Nat) : Int)).toNat = ((a + 2 ^ r : Nat) : Int) := by
  have h2 : 2 ^ r ≤ 9223372036854775808 := Nat.pow_le_pow_right (n := 2) (by omega) (show r ≤ 63 by omega)
  rw [orN (by omega) (by omega), Nat.or_comm]
  have h3 := Nat.two_pow_add_eq_or_of_lt (i := r) (b := a) ha 1
  rw [Nat.mul_one] at h3
  rw [← h3, Nat.add_comm]
theorem shl1 {r : Nat} (hr : r < 64) : IntKind.u64.wrap (1 * 2 ^ (min r IntKind.u64.bits)) = ((2 ^ r : Nat) : Int) := by
  have hm : min r IntKind.u64.bits = r := Nat.min_eq_left (show r ≤ 64 by omega)
  have h2 : 2 ^ r ≤ 9223372036854775808 := Nat.pow_le_pow_right (n := 2) (by omega) (show r ≤ 63 by omega)
  rw [hm, Int.one_mul, show ((2 : Int) ^ r) = ((2 ^ r : Nat) : Int) by simp]
  generalize 2 ^ r = R at h2 ⊢
  exact wrU (by omega) (by omega)
theorem limb0 {w R : Nat} (hw : w < R) (hR : R ≤ 9223372036854775808) : l0 w = (w : Int) ∧ l0 (w + R) = ((w + R : Nat) : Int) ∧ l1 (w + R) = l1 w ∧ l2 (w + R) = l2 w ∧ l3 (w + R) = l3 w := by
  unfold l0 l1 l2 l3
  refine ⟨?_, ?_, ?_, ?_, ?_⟩ <;> congr 1 <;> omega
theorem limb1 {w R : Nat} (hw : w < 18446744073709551616 * R) (hR : R ≤ 9223372036854775808) : l1 w = ((w / 18446744073709551616 : Nat) : Int) ∧ w / 18446744073709551616 < R ∧ l0 (w + 18446744073709551616 * R) = l0 w ∧ l1 (w + 18446744073709551616 * R) = ((w / 18446744073709551616 + R : Nat) : Int) ∧ l2 (w + 18446744073709551616 * R) = l2 w ∧ l3 (w + 18446744073709551616 * R) = l3 w := by
  unfold l0 l1 l2 l3
  refine ⟨?_, ?_, ?_, ?_, ?_, ?_⟩ <;> (try congr 1) <;> omega
theorem limb2 {w R : Nat} (hw : w < 18446744073709551616 * (18446744073709551616 * R)) (hR : R ≤ 9223372036854775808) : l2 w = ((w / 18446744073709551616 / 18446744073709551616 : Nat) : Int) ∧ w / 18446744073709551616 / 18446744073709551616 < R ∧ l0 (w + 18446744073709551616 * (18446744073709551616 * R)) = l0 w ∧ l1 (w + 18446744073709551616 * (18446744073709551616 * R)) = l1 w ∧ l2 (w + 18446744073709551616 * (18446744073709551616 * R)) = ((w / 18446744073709551616 / 18446744073709551616 + R : Nat) : Int) ∧ l3 (w + 18446744073709551616 * (18446744073709551616 * R)) = l3 w := by
  unfold l0 l1 l2 l3
  have e : (w + 18446744073709551616 * (18446744073709551616 * R)) / 18446744073709551616 = w / 18446744073709551616 + 18446744073709551616 * R := by omega
  rw [e]
  have hw1 : w / 18446744073709551616 < 18446744073709551616 * R := by omega
  have e0 : (w + 18446744073709551616 * (18446744073709551616 * R)) % 18446744073709551616 = w % 18446744073709551616 := by omega
  rw [e0]
  generalize w / 18446744073709551616 = v at hw1
  refine ⟨?_, ?_, rfl, ?_, ?_, ?_⟩ <;> (try congr 1) <;> omega
theorem limb3 {w R : Nat} (hw : w < 18446744073709551616 * (18446744073709551616 * (18446744073709551616 * R))) (hR : R ≤ 9223372036854775808) : l3 w = ((w / 18446744073709551616 / 18446744073709551616 / 18446744073709551616 : Nat) : Int) ∧ w / 18446744073709551616 / 18446744073709551616 / 18446744073709551616 < R ∧ l0 (w + 18446744073709551616 * (18446744073709551616 * (18446744073709551616 * R))) = l0 w ∧ l1 (w + 18446744073709551616 * (18446744073709551616 * (18446744073709551616 * R))) = l1 w ∧ l2 (w + 18446744073709551616 * (18446744073709551616 * (18446744073709551616 * R))) = l2 w ∧ l3 (w + 18446744073709551616 * (18446744073709551616 * (18446744073709551616 * R))) = ((w / 18446744073709551616 / 18446744073709551616 / 18446744073709551616 + R : Nat) : Int) := by
  unfold l0 l1 l2 l3
  have e : (w + 18446744073709551616 * (18446744073709551616 * (18446744073709551616 * R))) / 18446744073709551616 = w / 18446744073709551616 + 18446744073709551616 * (18446744073709551616 * R) := by omega
  have e0 : (w + 18446744073709551616 * (18446744073709551616 * (18446744073709551616 * R))) % 18446744073709551616 = w % 18446744073709551616 := by omega
  have hw1 : w / 18446744073709551616 < 18446744073709551616 * (18446744073709551616 * R) := by omega
  rw [e, e0]
  generalize w / 18446744073709551616 = v at hw1
  have e2 : (v + 18446744073709551616 * (18446744073709551616 * R)) / 18446744073709551616 = v / 18446744073709551616 + 18446744073709551616 * R := by omega
  have e3 : (v + 18446744073709551616 * (18446744073709551616 * R)) % 18446744073709551616 = v % 18446744073709551616 := by omega
  have hw2 : v / 18446744073709551616 < 18446744073709551616 * R := by omega
  rw [e2, e3]
  generalize v / 18446744073709551616 = u at hw2
  refine ⟨?_, ?_, rfl, rfl, ?_, ?_⟩ <;> (try congr 1) <;> omega
theorem set_bit {z i : Nat} (hb : bitN z i = 1) : z % 2 ^ (i + 1) = z % 2 ^ i + 2 ^ i := by
  rw [Nat.mod_pow_succ]
  have : z / 2 ^ i % 2 = 1 := hb
  rw [this, Nat.mul_one]
theorem unset_bit {z i : Nat} (hb : bitN z i = 0) : z % 2 ^ (i + 1) = z % 2 ^ i := by
  rw [Nat.mod_pow_succ]
  have : z / 2 ^ i % 2 = 0 := hb
  rw [this, Nat.mul_zero, Nat.add_zero]
theorem of_step {z i : Nat} (hi : i < 256) (hb : bitN z i = 1) :
    (i / 64 = 0 ∧ IntKind.u64.wrap (BitVec.ofInt IntKind.u64.bits (l0 (z % 2 ^ i)) ||| BitVec.ofInt IntKind.u64.bits ((2 ^ (i % 64) : Nat) : Int)).toNat = l0 (z % 2 ^ (i + 1)) ∧ l1 (z % 2 ^ (i + 1)) = l1 (z % 2 ^ i) ∧ l2 (z % 2 ^ (i + 1)) = l2 (z % 2 ^ i) ∧ l3 (z % 2 ^ (i + 1)) = l3 (z % 2 ^ i)) ∨
    (i / 64 = 1 ∧ IntKind.u64.wrap (BitVec.ofInt IntKind.u64.bits (l1 (z % 2 ^ i)) ||| BitVec.ofInt IntKind.u64.bits ((2 ^ (i % 64) : Nat) : Int)).toNat = l1 (z % 2 ^ (i + 1)) ∧ l0 (z % 2 ^ (i + 1)) = l0 (z % 2 ^ i) ∧ l2 (z % 2 ^ (i + 1)) = l2 (z % 2 ^ i) ∧ l3 (z % 2 ^ (i + 1)) = l3 (z % 2 ^ i)) ∨
    (i / 64 = 2 ∧ IntKind.u64.wrap (BitVec.ofInt IntKind.u64.bits (l2 (z % 2 ^ i)) ||| BitVec.ofInt IntKind.u64.bits ((2 ^ (i % 64) : Nat) : Int)).toNat = l2 (z % 2 ^ (i + 1)) ∧ l0 (z % 2 ^ (i + 1)) = l0 (z % 2 ^ i) ∧ l1 (z % 2 ^ (i + 1)) = l1 (z % 2 ^ i) ∧ l3 (z % 2 ^ (i + 1)) = l3 (z % 2 ^ i)) ∨
    (i / 64 = 3 ∧ IntKind.u64.wrap (BitVec.ofInt IntKind.u64.bits (l3 (z % 2 ^ i)) ||| BitVec.ofInt IntKind.u64.bits ((2 ^ (i % 64) : Nat) : Int)).toNat = l3 (z % 2 ^ (i + 1)) ∧ l0 (z % 2 ^ (i + 1)) = l0 (z % 2 ^ i) ∧ l1 (z % 2 ^ (i + 1)) = l1 (z % 2 ^ i) ∧ l2 (z % 2 ^ (i + 1)) = l2 (z % 2 ^ i)) := by
  have hr : i % 64 < 64 := Nat.mod_lt _ (by decide)
  have hR : 2 ^ (i % 64) ≤ 9223372036854775808 := Nat.pow_le_pow_right (n := 2) (by omega) (show i % 64 ≤ 63 by omega)
  have hw : z % 2 ^ i < 2 ^ i := Nat.mod_lt _ (Nat.pos_of_ne_zero (by simp))
  have hpow : 2 ^ i = 2 ^ (64 * (i / 64)) * 2 ^ (i % 64) := by rw [← Nat.pow_add, Nat.div_add_mod]
  rw [set_bit hb]
  generalize z % 2 ^ i = w at hw ⊢
  have hor : ∀ a : Nat, a < 2 ^ (i % 64) → _ := fun a ha => orR hr ha
  generalize 2 ^ (i % 64) = R at *
  have hq : i / 64 = 0 ∨ i / 64 = 1 ∨ i / 64 = 2 ∨ i / 64 = 3 := by omega
  rcases hq with hq | hq | hq | hq
  · rw [hq] at hpow
    rw [show 2 ^ (64 * 0) = 1 from rfl, Nat.one_mul] at hpow
    rw [hpow] at hw ⊢
    obtain ⟨h0, h1, h2, h3, h4⟩ := limb0 hw hR
    exact .inl ⟨hq, by rw [h0, h1]; exact hor w hw, h2, h3, h4⟩
  · rw [hq] at hpow
    rw [show 2 ^ (64 * 1) = 18446744073709551616 from rfl] at hpow
    rw [hpow] at hw ⊢
    obtain ⟨h0, h1, h2, h3, h4, h5⟩ := limb1 hw hR
    exact .inr (.inl ⟨hq, by rw [h0, h3]; exact hor _ h1, h2, h4, h5⟩)
  · rw [hq] at hpow
    rw [show 2 ^ (64 * 2) = 18446744073709551616 * 18446744073709551616 from rfl, Nat.mul_assoc] at hpow
    rw [hpow] at hw ⊢
    obtain ⟨h0, h1, h2, h3, h4, h5⟩ := limb2 hw hR
    exact .inr (.inr (.inl ⟨hq, by rw [h0, h4]; exact hor _ h1, h2, h3, h5⟩))
  · rw [hq] at hpow
    rw [show 2 ^ (64 * 3) = 18446744073709551616 * (18446744073709551616 * 18446744073709551616) from rfl, Nat.mul_assoc, Nat.mul_assoc] at hpow
    rw [hpow] at hw ⊢
    obtain ⟨h0, h1, h2, h3, h4, h5⟩ := limb3 hw hR
    exact .inr (.inr (.inr ⟨hq, by rw [h0, h5]; exact hor _ h1, h2, h3, h4⟩))
theorem ofb_fn (ex : Bool) (z k : Nat) (hk : 256 ≤ k) (hk2 : k ≤ 257) : Fn Tryz.prog 134 [isl ex (bitsL z k)] [] (wN (z % WW)) [] := by
  have hlen := bitsL_len z k
  have hbit : ∀ i, i < k → ((((bitsL z k).flatMap ipv).drop i).take 1 = [.v (.int .i64 (bitN z i : Nat))]) := fun i hi => isl_at (bitsL_at hi)
  generalize bitsL z k = bl at hlen hbit ⊢
  (refine fn_of Tryz.func134 rfl (by rfl) ?_; simp only [Tryz.ntmps134, List.length_cons, List.length_nil, Nat.reduceAdd, Nat.reduceSub, List.replicate, List.cons_append, List.nil_append])
  (repeat (any_goals (first | ((with_reducible refine evL_one ?_ ?_); rfl; intro K hK; simp only [go_sem, hlen]; ((repeat (refine ndI (by first | assumption) ?_)); refine hK _ ?_; clear hK K)) | (with_reducible first | (refine evL_nil ?_; refine hR _ ?_; clear hR R) | ((first | refine evC_seq ?_ | refine evC_block ?_); intro Ψ hΨ hΨ') | (refine evC_region ?_; intro R hR) | (refine hΨ _ ?_; clear hΨ hΨ' Ψ)))))
  refine evC_upto k (fun i => ⟨[.any, .any, .ptr 2 0, .ptr 3 0, .any, .any, isl ex bl, vi .i64 k, vi .i64 i, .any, .any, .any, .any, .any, .any, .any, .any, .any, .any, .any, .any, .any, .any, .any, .any, .any, .any, .any, .any, .any], [(2, [vi .u64 0, vi .u64 0, vi .u64 0, vi .u64 0]), (3, [vi .u64 (l0 (z % 2 ^ min i 256)), vi .u64 (l1 (z % 2 ^ min i 256)), vi .u64 (l2 (z % 2 ^ min i 256)), vi .u64 (l3 (z % 2 ^ min i 256))])]⟩) (St.le_of (by simp [leT, hlen]) (by simp [leH, hget, Nat.mod_one, l0_zero, l1_zero, l2_zero, l3_zero])) ?_
  intro i hi Ψ hΨ hΨ'
  (try dsimp only at hΨ ⊢)
  rcases Nat.lt_or_ge i k with hlt | hge
  · have k1 : (decide ((i : Int) < (k : Int))) = true := by simp; omega
    have k7 : (i : Int) + 1 = ((i + 1 : Nat) : Int) := by omega
    have k2 := hbit i hlt
    have hil : i < bl.length := by omega
    have b1 := bitN_lt z i
    rcases Nat.lt_or_ge i 256 with h256 | h256
    · have k3 : (decide ((i : Int) < 256)) = true := by simp; omega
      rw [Nat.min_eq_left (by omega : i ≤ 256)] at *
      rw [Nat.min_eq_left (by omega : i + 1 ≤ 256)] at hΨ
      rcases (by omega : bitN z i = 0 ∨ bitN z i = 1) with hb | hb
      · have k4 : ((bitN z i : Nat) : Int) = 0 := by rw [hb]; rfl
        rw [unset_bit hb] at hΨ
        (have W := ndI k1 (ndI k2 (ndI k3 (ndI k4 (ndI k7 @wrI)))); (repeat (any_goals (first | ((with_reducible refine evL_one ?_ ?_); rfl; intro K hK; simp (disch := omega) only [go_sem, W, Nat.mul_one, Int.reduceBEq]; ((repeat (refine ndI (by first | assumption | omega | rfl) ?_)); refine hK _ ?_; clear hK K)) | (with_reducible first | (refine evL_nil ?_; refine hR _ ?_; clear hR R) | ((first | refine evC_seq ?_ | refine evC_block ?_); intro Ψ hΨ hΨ') | (refine evC_region ?_; intro R hR) | (refine hΨ _ ?_; clear hΨ hΨ' Ψ) | refine evC_skip ?_) | ((with_reducible refine hΨ' _ _ ?_ ?_); (focus (simp; done)); clear hΨ hΨ' Ψ) | ((with_reducible apply evL_grd); rfl; rfl; rfl; all_goals (intro hb; first | (cases hb; done) | ((try simp only [Bool.not_true, Bool.not_false] at hb); (first | ((with_reducible intro K hK); simp (disch := omega) only [go_sem, W, Nat.mul_one, Int.reduceBEq]; ((repeat (refine ndI (by first | assumption | rfl) ?_)); refine hK _ ?_; clear hK K)))))) | ((with_reducible apply evC_cond); rfl; rfl; all_goals (intro hc; first | (cases hc; done) | (try simp only at hc)))))))
        all_goals exact hΨ _ hlt (St.le_of (by simp [leT]) (by simp [leH, hget]))
      · have k4 : ((bitN z i : Nat) : Int) = 1 := by rw [hb]; rfl
        have e3 : (i : Int).tdiv 64 = ((i / 64 : Nat) : Int) := rfl
        have e4 : (i : Int).tmod 64 = ((i % 64 : Nat) : Int) := rfl
        have e5 := shl1 (Nat.mod_lt i (show 0 < 64 by decide))
        have os := of_step h256 hb
        generalize ((2 ^ (i % 64) : Nat) : Int) = R at e5 os
        generalize z % 2 ^ (i + 1) = w2 at os hΨ
        generalize z % 2 ^ i = w at os ⊢
        rcases os with ⟨hq, o1, o2, o3, o4⟩ | ⟨hq, o1, o2, o3, o4⟩ | ⟨hq, o1, o2, o3, o4⟩ | ⟨hq, o1, o2, o3, o4⟩
        all_goals rw [o2, o3, o4] at hΨ
        all_goals (have W := ndI k1 (ndI k2 (ndI k3 (ndI k4 (ndI k7 (ndI e3 (ndI e4 (ndI e5 (ndI o1 @wrI)))))))); (repeat (any_goals (first | ((with_reducible refine evL_one ?_ ?_); rfl; intro K hK; simp (disch := omega) only [St.free, freeH, reduceCtorEq, Nat.reduceMod, Nat.reduceDiv, Nat.reduceSub, Nat.reduceMul, Int.reduceToNat, Int.reduceLT, Int.reduceLE, Nat.reduceEqDiff, ↓reduceIte, Nat.reduceLeDiff, Nat.reduceLT, Nat.reduceAdd, Nat.reduceBNe, Nat.reduceBEq, forall_const, evz, pickAV, AV.cells, ofV, evO, W, hq, Nat.mul_one, Int.reduceBEq, Int.cast_ofNat_Int, Int.natCast_one, Int.reduceEq, Int.toNat_natCast, Int.natCast_nonneg, ty3, ty57, ty72, ty176]; ((repeat (refine ndI (by first | assumption | omega | rfl) ?_)); refine hK _ ?_; clear hK K)) | (with_reducible first | (refine evL_nil ?_; refine hR _ ?_; clear hR R) | ((first | refine evC_seq ?_ | refine evC_block ?_); intro Ψ hΨ hΨ') | (refine evC_region ?_; intro R hR) | (refine hΨ _ ?_; clear hΨ hΨ' Ψ) | refine evC_skip ?_) | ((with_reducible refine hΨ' _ _ ?_ ?_); (focus (simp; done)); clear hΨ hΨ' Ψ) | ((with_reducible apply evL_grd); rfl; rfl; rfl; all_goals (intro hb; first | (cases hb; done) | ((try simp only [Bool.not_true, Bool.not_false] at hb); (first | ((with_reducible intro K hK); simp (disch := omega) only [St.free, freeH, reduceCtorEq, Nat.reduceMod, Nat.reduceDiv, Nat.reduceSub, Nat.reduceMul, Int.reduceToNat, Int.reduceLT, Int.reduceLE, Nat.reduceEqDiff, ↓reduceIte, Nat.reduceLeDiff, Nat.reduceLT, Nat.reduceAdd, Nat.reduceBNe, Nat.reduceBEq, forall_const, evz, pickAV, AV.cells, ofV, evO, W, hq, Nat.mul_one, Int.reduceBEq, Int.cast_ofNat_Int, Int.natCast_one, Int.reduceEq, Int.toNat_natCast, Int.natCast_nonneg, ty3, ty57, ty72, ty176]; ((repeat (refine ndI (by first | assumption | rfl) ?_)); refine hK _ ?_; clear hK K)))))) | ((with_reducible apply evC_cond); rfl; rfl; all_goals (intro hc; first | (cases hc; done) | (try simp only at hc))) | ((with_reducible refine evD_nil ?_ ?_); kernel_rfl; (with_reducible refine hR _ ?_); clear hR R) | (((with_reducible apply evD_any); rfl; rfl; (simp (disch := omega) only [rdE, rdOf, St.free, freeH, reduceCtorEq, Nat.reduceMod, Nat.reduceDiv, Nat.reduceSub, Nat.reduceMul, Int.reduceToNat, Int.reduceLT, Int.reduceLE, Nat.reduceEqDiff, ↓reduceIte, Nat.reduceLeDiff, Nat.reduceLT, Nat.reduceAdd, Nat.reduceBNe, Nat.reduceBEq, forall_const, evz, pickAV, AV.cells, ofV, evO, W, hq, Nat.mul_one, Int.reduceBEq, Int.cast_ofNat_Int, Int.natCast_one, Int.reduceEq, Int.toNat_natCast, Int.natCast_nonneg]; rfl); (intro τ hA hQ hN; ((try simp only [agree, Op.operands, Call.operands, reduceCtorEq, Nat.reduceMod, Nat.reduceDiv, Nat.reduceSub, Nat.reduceMul, Int.reduceToNat, Int.reduceLT, Int.reduceLE, Nat.reduceEqDiff, ↓reduceIte, Nat.reduceLeDiff, Nat.reduceLT, Nat.reduceAdd, Nat.reduceBNe, Nat.reduceBEq, forall_const, evz, pickAV, AV.cells, ofV, evO, W, hq, Nat.mul_one, Int.reduceBEq, Int.cast_ofNat_Int, Int.natCast_one, Int.reduceEq, Int.toNat_natCast, Int.natCast_nonneg, ty3, ty57, ty72, ty176, List.mem_cons, List.not_mem_nil, forall_eq_or_imp, forall_eq, List.append_toArray, Option.toArray] at hA); (try simp only [reduceCtorEq, Nat.reduceMod, Nat.reduceDiv, Nat.reduceSub, Nat.reduceMul, Int.reduceToNat, Int.reduceLT, Int.reduceLE, Nat.reduceEqDiff, ↓reduceIte, Nat.reduceLeDiff, Nat.reduceLT, Nat.reduceAdd, Nat.reduceBNe, Nat.reduceBEq, forall_const, evz, pickAV, AV.cells, ofV, evO, W, hq, Nat.mul_one, Int.reduceBEq, Int.cast_ofNat_Int, Int.natCast_one, Int.reduceEq, Int.toNat_natCast, Int.natCast_nonneg, List.mem_cons, List.not_mem_nil, forall_eq_or_imp, forall_eq] at hQ hN); (first | (revert hA; intro hA)); (first | (revert hQ; intro hQ)); (first | (revert hN; intro hN)); simp (disch := omega) only [reduceCtorEq, Nat.reduceMod, Nat.reduceDiv, Nat.reduceSub, Nat.reduceMul, Int.reduceToNat, Int.reduceLT, Int.reduceLE, Nat.reduceEqDiff, ↓reduceIte, Nat.reduceLeDiff, Nat.reduceLT, Nat.reduceAdd, Nat.reduceBNe, Nat.reduceBEq, forall_const, evz, pickAV, AV.cells, ofV, evO, W, hq, Nat.mul_one, Int.reduceBEq, Int.cast_ofNat_Int, Int.natCast_one, Int.reduceEq, Int.toNat_natCast, Int.natCast_nonneg, ty3, ty57, ty72, ty176, hA, hQ, hN]; (repeat (refine ndI (by first | assumption | rfl) ?_)); (first | apply eff_rd | apply eff_st)))); (simp (disch := omega) only [St.eff, setO, hputs, St.free, freeH, reduceCtorEq, Nat.reduceMod, Nat.reduceDiv, Nat.reduceSub, Nat.reduceMul, Int.reduceToNat, Int.reduceLT, Int.reduceLE, Nat.reduceEqDiff, ↓reduceIte, Nat.reduceLeDiff, Nat.reduceLT, Nat.reduceAdd, Nat.reduceBNe, Nat.reduceBEq, forall_const, evz, pickAV, AV.cells, ofV, evO, W, hq, Nat.mul_one, Int.reduceBEq, Int.cast_ofNat_Int, Int.natCast_one, Int.reduceEq, Int.toNat_natCast, Int.natCast_nonneg])) | ((with_reducible refine evC_draw ?_ ?_ ?_ ?_); kernel_rfl; kernel_rfl; (first | kernel_rfl); intro R hR)))))
        all_goals exact hΨ _ hlt (St.le_of (by simp [leT]) (by simp [leH, hget]))
    · have k3 : (decide ((i : Int) < 256)) = false := by simp; omega
      rw [Nat.min_eq_right (by omega : 256 ≤ i)] at *
      rw [Nat.min_eq_right (by omega : 256 ≤ i + 1)] at hΨ
      (have W := ndI k1 (ndI k2 (ndI k3 (ndI k7 @wrI))); (repeat (any_goals (first | ((with_reducible refine evL_one ?_ ?_); rfl; intro K hK; simp (disch := omega) only [go_sem, W, Nat.mul_one]; ((repeat (refine ndI (by first | assumption | omega | rfl) ?_)); refine hK _ ?_; clear hK K)) | (with_reducible first | (refine evL_nil ?_; refine hR _ ?_; clear hR R) | ((first | refine evC_seq ?_ | refine evC_block ?_); intro Ψ hΨ hΨ') | (refine evC_region ?_; intro R hR) | (refine hΨ _ ?_; clear hΨ hΨ' Ψ) | refine evC_skip ?_) | ((with_reducible refine hΨ' _ _ ?_ ?_); (focus (simp; done)); clear hΨ hΨ' Ψ) | ((with_reducible apply evL_grd); rfl; rfl; rfl; all_goals (intro hb; first | (cases hb; done) | ((try simp only [Bool.not_true, Bool.not_false] at hb); (first | ((fail_if_success (with_reducible intro _)); simp (disch := omega) only [go_sem, W, Nat.mul_one]))))) | ((with_reducible apply evC_cond); rfl; rfl; all_goals (intro hc; first | (cases hc; done) | (try simp only at hc)))))))
      all_goals exact hΨ _ hlt (St.le_of (by simp [leT]) (by simp [leH, hget]))
  · have k1 : (decide ((i : Int) < (k : Int))) = false := by simp; omega
    rw [Nat.min_eq_right (by omega : 256 ≤ i)]
    (repeat (any_goals (first | ((with_reducible refine evL_one ?_ ?_); rfl; intro K hK; simp only [go_sem, k1]; ((repeat (refine ndI (by first | assumption) ?_)); refine hK _ ?_; clear hK K)) | (with_reducible first | (refine evL_nil ?_; refine hR _ ?_; clear hR R) | ((first | refine evC_seq ?_); intro Ψ hΨ hΨ') | (refine evC_region ?_; intro R hR) | (refine hΨ _ ?_; clear hΨ hΨ' Ψ) | refine evC_ret ?_ | refine evC_exit ?_) | ((with_reducible refine hΨ' _ _ ?_ ?_); (focus (simp; done)); clear hΨ hΨ' Ψ) | ((with_reducible apply evC_cond); rfl; rfl; all_goals (intro hc; first | (cases hc; done) | (try simp only at hc))))))
    all_goals (refine ⟨by simp, ⟨_, ?_, AV.le_refl _⟩, leH_get (by simp [leH, hget])⟩; simp only [Tryz.results134, resL, ldA, oneOf, go_sem])
end Go.Proofs.YtmidmaeihpldhaaGreat
namespace Go.Proofs.YtmidmaeihpldhaaGreat
open Go.RowKit
open Nat (reduceBEq)
set_option maxRecDepth 20000
set_option maxHeartbeats 2000000
theorem over_bit {x y : Nat} (hx : x < WW) (hy : y < WW) : (((bitN (x + y) 256 : Nat) : Int) == 1) = decide (WW ≤ x + y) := by
  have hx' : x < 2 ^ 256 := hx
  have hy' : y < 2 ^ 256 := hy
  have hW : WW = 2 ^ 256 := rfl
  rw [hW]
  unfold bitN
  generalize (2 : Nat) ^ 256 = M at hx' hy' ⊢
  rw [Bool.eq_iff_iff]
  simp only [beq_iff_eq, decide_eq_true_eq]
  have h1 : (x + y) / M < 2 := Nat.div_lt_of_lt_mul (by omega)
  rcases Nat.lt_or_ge (x + y) M with h | h
  · rw [Nat.div_eq_of_lt h]; simp; omega
  · have : 1 ≤ (x + y) / M := (Nat.le_div_iff_mul_le (by omega)).2 (by omega)
    have e : (x + y) / M = 1 := by omega
    rw [e]; simp; omega
theorem refadd_fn (x y : Nat) (hx : x < WW) (hy : y < WW) : Fn Tryz.prog 109 [wN x, wN y] [] (.tup [wN ((x + y) % WW), vb (decide (WW ≤ x + y))]) [] := by
  have b1 := bits_fn x hx
  have b2 := bits_fn y hy
  have ad := addb_fn false false x y hx hy
  have of := ofb_fn false (x + y) 257 (by decide) (by decide)
  have ob := over_bit hx hy
  have hl := bitsL_len (x + y) 257
  have hbit := isl_at (bitsL_at (z := x + y) (show 256 < 257 by decide))
  generalize decide (WW ≤ x + y) = q at ob ⊢
  generalize (x + y) % WW = r at of ⊢
  generalize bitN (x + y) 256 = s at ob hbit
  generalize bitsL (x + y) 257 = l at ad of hl hbit
  generalize bitsL x 256 = lx at b1 ad
  generalize bitsL y 256 = ly at b2 ad
  have hl2 : 256 < l.length := by omega
  (refine fn_of Tryz.func109 rfl (by rfl) ?_; simp only [Tryz.ntmps109, List.length_cons, List.length_nil, Nat.reduceAdd, Nat.reduceSub, List.replicate, List.cons_append, List.nil_append])
  (repeat (any_goals (first | ((with_reducible refine evL_one ?_ ?_); rfl; intro K hK; simp (disch := omega) only [go_sem, ob, hbit, hl, Nat.mul_one, Nat.reduceMul]; ((repeat (refine ndI (by first | assumption | rfl) ?_)); refine hK _ ?_; clear hK K)) | (with_reducible first | (refine evL_nil ?_; refine hR _ ?_; clear hR R) | ((first | refine evC_seq ?_); intro Ψ hΨ hΨ') | (refine evC_region ?_; intro R hR) | (refine hΨ _ ?_; clear hΨ hΨ' Ψ) | refine evC_ret ?_) | ((with_reducible refine evD_nil ?_ ?_); kernel_rfl; (with_reducible refine hR _ ?_); clear hR R) | ((first | ((with_reducible apply evD_fcall); rfl; rfl; (first | ((first | (apply opF_callB (ad); rfl; rfl; rfl; rfl; exact Tryz.func132) | (apply opF_callB (of); rfl; rfl; rfl; rfl; exact Tryz.func134)); kernel_rfl; rfl; (simp (disch := omega) only [go_sem, ob, hbit, hl, Nat.mul_one, Nat.reduceMul]; rfl); (first | simp [AV.inNL, AV.inN])) | ((apply opF_callB (b1); rfl; rfl; rfl; rfl; exact Tryz.func133); kernel_rfl; rfl; (simp (disch := omega) only [go_sem, ob, hbit, hl, Nat.mul_one, Nat.reduceMul]; rfl); (first | simp [AV.inNL, AV.inN])) | ((apply opF_callB (b2); rfl; rfl; rfl; rfl; exact Tryz.func133); kernel_rfl; rfl; (simp (disch := omega) only [go_sem, ob, hbit, hl, Nat.mul_one, Nat.reduceMul]; rfl); (first | simp [AV.inNL, AV.inN])))) | ((with_reducible apply evD_any); rfl; rfl; (simp (disch := omega) only [rdE, rdOf, go_sem, ob, hbit, hl, Nat.mul_one, Nat.reduceMul]; rfl); (intro τ hA hQ hN; ((try simp only [agree, Op.operands, Call.operands, go_sem, ob, hbit, hl, Nat.mul_one, Nat.reduceMul, go_sem, List.mem_cons, List.not_mem_nil, forall_eq_or_imp, forall_eq, List.append_toArray, Option.toArray] at hA); (try simp only [go_sem, ob, hbit, hl, Nat.mul_one, Nat.reduceMul, List.mem_cons, List.not_mem_nil, forall_eq_or_imp, forall_eq] at hQ hN); (first | (revert hA; intro hA)); (first | (revert hQ; intro hQ)); (first | (revert hN; intro hN)); simp (disch := omega) only [go_sem, ob, hbit, hl, Nat.mul_one, Nat.reduceMul, go_sem, hA, hQ, hN]; (repeat (refine ndI (by first | assumption | omega | rfl) ?_)); (first | apply eff_rd | apply eff_st))))); (simp (disch := omega) only [St.eff, setO, hputs, go_sem, ob, hbit, hl, Nat.mul_one, Nat.reduceMul])) | ((with_reducible refine evC_draw ?_ ?_ ?_ ?_); kernel_rfl; kernel_rfl; (first | kernel_rfl); intro R hR))))
  all_goals (refine ⟨by simp, ⟨_, ?_, AV.le_refl _⟩, leH_get (by simp [leH, hget])⟩; simp only [Tryz.results109, resL, ldA, oneOf, go_sem])
end Go.Proofs.YtmidmaeihpldhaaGreat
namespace Go.Proofs.YtmidmaeihpldhaaGreat
open Go.RowKit
open Nat (reduceBEq)
set_option maxRecDepth 20000
set_option maxHeartbeats 2000000
theorem refsum_fn (ex : Bool) (l : List Nat) (hl : l.length ≤ 1000) (hw : ∀ x ∈ l, x < WW) : Fn Tryz.prog 131 [wsl ex l] [] (.tup [wN (l.sum % WW), vb (decide (WW ≤ l.sum))]) [] := by
  have hW : 0 < WW := by decide
  obtain ⟨tn, htn⟩ : ∃ n, l.sum % WW = n := ⟨_, rfl⟩
  obtain ⟨tq, htq⟩ : ∃ q, decide (WW ≤ l.sum) = q := ⟨_, rfl⟩
  rw [htn, htq]
  (refine fn_of Tryz.func131 rfl (by rfl) ?_; simp only [Tryz.ntmps131, List.length_cons, List.length_nil, Nat.reduceAdd, Nat.reduceSub, List.replicate, List.cons_append, List.nil_append])
  (repeat (any_goals (first | ((with_reducible refine evL_one ?_ ?_); rfl; intro K hK; simp only [go_sem]; ((repeat (refine ndI (by first | assumption) ?_)); refine hK _ ?_; clear hK K)) | (with_reducible first | (refine evL_nil ?_; refine hR _ ?_; clear hR R) | ((first | refine evC_seq ?_ | refine evC_block ?_); intro Ψ hΨ hΨ') | (refine evC_region ?_; intro R hR) | (refine hΨ _ ?_; clear hΨ hΨ' Ψ)))))
  refine evC_loop (α := { p : Nat × Nat × Bool // p.1 ≤ l.length ∧ p.2.1 = (l.take p.1).sum % WW ∧ p.2.2 = decide (WW ≤ (l.take p.1).sum) }) (fun p => ⟨[wsl ex l, .any, .ptr 2 0, .any, .ptr 4 0, vb p.1.2.2, .any, .any, .any, .any, wsl ex l, vi .i64 l.length, vi .i64 p.1.1, .any, .any, .any, .any, .any, .any, .any, .any, .any, .any, .any, .any, .any, .any, .any, .any, .any], [(2, [vi .u64 0, vi .u64 0, vi .u64 0, vi .u64 0]), (4, [vi .u64 (l0 p.1.2.1), vi .u64 (l1 p.1.2.1), vi .u64 (l2 p.1.2.1), vi .u64 (l3 p.1.2.1)])]⟩) (fun p => l.length - p.1.1) ⟨(0, 0, false), Nat.zero_le _, by simp, by simp [WW]⟩ (St.le_of (by simp [leT]) (by simp [leH, hget, l0_zero, l1_zero, l2_zero, l3_zero])) ?_
  rintro ⟨⟨i, n, q⟩, hi, hn, hq⟩ Ψ hΨ hΨ'
  dsimp only at hi hn hq hΨ ⊢
  rcases Nat.lt_or_ge i l.length with hlt | hge
  · obtain ⟨y, hy⟩ : ∃ y, l[i]? = some y := ⟨l[i], List.getElem?_eq_getElem hlt⟩
    have k1 : (decide ((i : Int) < (l.length : Int))) = true := by simpa using hlt
    have k2 := wsl_at hy
    have k7 : (i : Int) + 1 = ((i + 1 : Nat) : Int) := by omega
    have hnw : n < WW := by rw [hn]; exact Nat.mod_lt _ hW
    have hyw := hw y (List.mem_of_getElem? hy)
    have ad := refadd_fn n y hnw hyw
    have hs : (l.take (i + 1)).sum = (l.take i).sum + y := by rw [List.take_add_one, hy]; simp
    have h1 : (n + y) % WW = (l.take (i + 1)).sum % WW := by rw [hs, hn, Nat.add_mod]; simp
    have h2 : (q || decide (WW ≤ n + y)) = decide (WW ≤ (l.take (i + 1)).sum) := by
      rw [Bool.eq_iff_iff, hq, hs]
      simp only [Bool.or_eq_true, decide_eq_true_eq]
      rcases Nat.lt_or_ge (l.take i).sum WW with h | h
      · rw [hn, Nat.mod_eq_of_lt h]; omega
      · omega
    obtain ⟨m, hm⟩ : ∃ m, (n + y) % WW = m := ⟨_, rfl⟩
    obtain ⟨b, hb⟩ : ∃ b, decide (WW ≤ n + y) = b := ⟨_, rfl⟩
    rw [hm, hb] at ad
    rw [hm] at h1
    rw [hb] at h2
    cases q with
    | true =>
      (have W := ndI k1 (ndI k2 (ndI k7 @wrI)); (repeat (any_goals (first | ((with_reducible refine evL_call ?_ ?_ ?_); rfl; rfl; intro K hK; ((apply opA_callB (ad); rfl; rfl; rfl; rfl; exact Tryz.func109); kernel_rfl; rfl; (simp (disch := omega) only [go_sem, W]; rfl); (first | simp [AV.inNL, AV.inN])); (simp (disch := omega) only [go_sem, W]; refine hK _ ?_; clear hK K)) | ((with_reducible refine evL_one ?_ ?_); rfl; intro K hK; simp (disch := omega) only [go_sem, W]; ((repeat (refine ndI (by first | assumption | omega | rfl) ?_)); refine hK _ ?_; clear hK K)) | (with_reducible first | (refine evL_nil ?_; refine hR _ ?_; clear hR R) | ((first | refine evC_seq ?_ | refine evC_block ?_); intro Ψ hΨ hΨ') | (refine evC_region ?_; intro R hR) | (refine hΨ _ ?_; clear hΨ hΨ' Ψ) | refine evC_skip ?_) | ((with_reducible refine hΨ' _ _ ?_ ?_); (focus (simp; done)); clear hΨ hΨ' Ψ) | ((with_reducible apply evL_grd); rfl; rfl; rfl; all_goals (intro hb; first | (cases hb; done) | ((try simp only [Bool.not_true, Bool.not_false] at hb); (first | ((fail_if_success (with_reducible intro _)); simp (disch := omega) only [go_sem, W]))))) | ((with_reducible apply evC_cond); rfl; rfl; all_goals (intro hc; first | (cases hc; done) | (try simp only at hc)))))))
      exact hΨ _ ⟨(i + 1, m, true), hlt, h1, by simpa using h2⟩ (by simp only; omega) (St.le_of (by simp [leT]) (by simp [leH, hget]))
    | false =>
      (have W := ndI k1 (ndI k2 (ndI k7 @wrI)); (repeat (any_goals (first | ((with_reducible refine evL_call ?_ ?_ ?_); rfl; rfl; intro K hK; ((apply opA_callB (ad); rfl; rfl; rfl; rfl; exact Tryz.func109); kernel_rfl; rfl; (simp (disch := omega) only [go_sem, W]; rfl); (first | simp [AV.inNL, AV.inN])); (simp (disch := omega) only [go_sem, W]; refine hK _ ?_; clear hK K)) | ((with_reducible refine evL_one ?_ ?_); rfl; intro K hK; simp (disch := omega) only [go_sem, W]; ((repeat (refine ndI (by first | assumption | omega | rfl) ?_)); refine hK _ ?_; clear hK K)) | (with_reducible first | (refine evL_nil ?_; refine hR _ ?_; clear hR R) | ((first | refine evC_seq ?_ | refine evC_block ?_); intro Ψ hΨ hΨ') | (refine evC_region ?_; intro R hR) | (refine hΨ _ ?_; clear hΨ hΨ' Ψ) | refine evC_skip ?_) | ((with_reducible refine hΨ' _ _ ?_ ?_); (focus (simp; done)); clear hΨ hΨ' Ψ) | ((with_reducible apply evL_grd); rfl; rfl; rfl; all_goals (intro hb; first | (cases hb; done) | ((try simp only [Bool.not_true, Bool.not_false] at hb); (first | ((with_reducible intro K hK); simp (disch := omega) only [go_sem, W]; ((repeat (refine ndI (by first | assumption | rfl) ?_)); refine hK _ ?_; clear hK K)))))) | ((with_reducible apply evC_cond); rfl; rfl; all_goals (intro hc; first | (cases hc; done) | (try simp only at hc)))))))
      exact hΨ _ ⟨(i + 1, m, b), hlt, h1, by simpa using h2⟩ (by simp only; omega) (St.le_of (by simp [leT]) (by simp [leH, hget]))
  · have k1 : (decide ((i : Int) < (l.length : Int))) = false := by simpa using hge
    have e : l.take i = l := List.take_of_length_le hge
    rw [e, htn] at hn
    rw [e, htq] at hq
    rw [hn, hq]
    (repeat (any_goals (first | ((with_reducible refine evL_one ?_ ?_); rfl; intro K hK; simp only [go_sem, k1]; ((repeat (refine ndI (by first | assumption) ?_)); refine hK _ ?_; clear hK K)) | (with_reducible first | (refine evL_nil ?_; refine hR _ ?_; clear hR R) | ((first | refine evC_seq ?_); intro Ψ hΨ hΨ') | (refine evC_region ?_; intro R hR) | (refine hΨ _ ?_; clear hΨ hΨ' Ψ) | refine evC_ret ?_ | refine evC_exit ?_) | ((with_reducible refine hΨ' _ _ ?_ ?_); (focus (simp; done)); clear hΨ hΨ' Ψ) | ((with_reducible apply evC_cond); rfl; rfl; all_goals (intro hc; first | (cases hc; done) | (try simp only at hc))))))
    all_goals (refine ⟨by simp, ⟨_, ?_, AV.le_refl _⟩, leH_get (by simp [leH, hget])⟩; simp only [Tryz.results131, resL, ldA, oneOf, go_sem])
end Go.Proofs.YtmidmaeihpldhaaGreat
namespace Go.Proofs.YtmidmaeihpldhaaGreat
open Go.RowKit
open Nat (reduceBEq)
set_option maxRecDepth 20000
set_option maxHeartbeats 2000000
theorem okTo_no {st : List Pr} {i : Nat} (h : okTo st i = false) : ∀ j, i ≤ j → okTo st j = false
  | 0, hj => by
    obtain rfl : i = 0 := by omega
    exact h
  | j + 1, hj => by
    by_cases e : i = j + 1
    · rw [← e]; exact h
    · have := okTo_no h j (by omega)
      show (okTo st j && okP st j) = false
      rw [this]; rfl
theorem right_fn (x : Ac) (hs : ∀ p ∈ x.store, p.ok) : Fn Tryz.prog 76 [acA x] [] (vb (okAc x)) [] := by
  obtain ⟨a, b, n, code, store⟩ := x
  dsimp only at hs
  unfold okAc
  dsimp only
  obtain ⟨p1, e1⟩ : ∃ p, decide (a ≠ 0) = p := ⟨_, rfl⟩
  obtain ⟨p2, e2⟩ : ∃ p, decide (code.length ≤ 200) = p := ⟨_, rfl⟩
  obtain ⟨p3, e3⟩ : ∃ p, decide (store.length ≤ 24) = p := ⟨_, rfl⟩
  have f1 : (a == 0) = !p1 := by rw [← e1]; by_cases h : a = 0 <;> simp [h]
  have f2 : decide ((code.length : Int) > 200) = !p2 := by
    rw [← e2]
    by_cases h : code.length ≤ 200
    · rw [decide_eq_true h, decide_eq_false (by omega)]; rfl
    · rw [decide_eq_false h, decide_eq_true (by omega)]; rfl
  have f3 : decide ((store.length : Int) > 24) = !p3 := by
    rw [← e3]
    by_cases h : store.length ≤ 24
    · rw [decide_eq_true h, decide_eq_false (by omega)]; rfl
    · rw [decide_eq_false h, decide_eq_true (by omega)]; rfl
  rw [e1, e2, e3]
  by_cases hp : (p1 && p2 && p3) = true
  · rw [hp, Bool.true_and]
    simp only [Bool.and_eq_true] at hp
    obtain ⟨⟨rfl, rfl⟩, rfl⟩ := hp
    have hl24 : store.length ≤ 24 := of_decide_eq_true e3
    simp only [Bool.not_true] at f1 f2 f3
    obtain ⟨rr, hrr⟩ : ∃ r, okTo store store.length = r := ⟨_, rfl⟩
    rw [hrr]
    (refine fn_of Tryz.func76 rfl (by rfl) ?_; simp only [Tryz.ntmps76, List.length_cons, List.length_nil, Nat.reduceAdd, Nat.reduceSub, List.replicate, List.cons_append, List.nil_append])
    (have W := ndI f1 (ndI f2 f3); (repeat (any_goals (first | ((with_reducible refine evL_one ?_ ?_); rfl; intro K hK; simp only [go_sem, W]; ((repeat (refine ndI (by first | assumption) ?_)); refine hK _ ?_; clear hK K)) | (with_reducible first | (refine evL_nil ?_; refine hR _ ?_; clear hR R) | ((first | refine evC_seq ?_ | refine evC_block ?_); intro Ψ hΨ hΨ') | (refine evC_region ?_; intro R hR) | (refine hΨ _ ?_; clear hΨ hΨ' Ψ) | refine evC_skip ?_) | ((with_reducible apply evL_grd); rfl; rfl; rfl; all_goals (intro hb; first | (cases hb; done) | ((try simp only [Bool.not_true, Bool.not_false] at hb); (first | ((with_reducible intro K hK); simp only [go_sem, W]; ((repeat (refine ndI (by first | assumption) ?_)); refine hK _ ?_; clear hK K)))))) | ((with_reducible apply evC_cond); rfl; rfl; all_goals (intro hc; first | (cases hc; done) | (try simp only at hc)))))))
    refine evC_loop (α := { i : Nat // i ≤ store.length ∧ okTo store i = true }) (fun x => ⟨[.any, .ptr 1 0, vb false, .any, .any, .any, .any, .any, .any, .any, .any, .any, .any, .any, .any, .any, .any, .any, .any, .any, .any, .c (psV store), vi .i64 store.length, vi .i64 (x.1 : Int), .any, .any, .any, .any, .any, .any, .any, .any, .any, .any, .any, .any, .any, .any, .any, .any, .any, .any, .any, .any, .any, .any, .any, .any, .any, .any], [(1, ac8 a b n (bsV code) (psV store))]⟩) (fun x => store.length - x.1) ⟨0, Nat.zero_le _, rfl⟩ (St.le_of (by simp [leT]) (by simp [leH, hget])) ?_
    rintro ⟨i, hi, hok⟩ Ψ hΨ hΨ'
    (try dsimp only at hΨ ⊢)
    have k7 : (i : Int) + 1 = ((i + 1 : Nat) : Int) := by omega
    rcases Nat.lt_or_ge i store.length with hlt | hge
    · obtain ⟨p, hp⟩ : ∃ p, store[i]? = some p := ⟨_, List.getElem?_eq_getElem hlt⟩
      have k1 : (decide ((i : Int) < (store.length : Int))) = true := decide_eq_true (by omega)
      have k2 := ps_at hp
      have hv := zero_dec (hs p (List.mem_of_getElem? hp)).2
      obtain ⟨q1, hq1⟩ : ∃ q, decide (p.v ≠ 0) = q := ⟨_, rfl⟩
      rw [hq1] at hv
      have hnx : okTo store (i + 1) = okP store i := by show (okTo store i && okP store i) = _; rw [hok, Bool.true_and]
      have hno : okP store i = false → rr = false := fun h => by
        rw [← hrr]
        exact okTo_no (by rw [hnx]; exact h) store.length hlt
      have hΨ1 := fun (h : okP store i = true) σ' => hΨ σ' ⟨i + 1, hlt, by rw [hnx]; exact h⟩ (by dsimp only; omega)
      dsimp only at hΨ1
      rcases Nat.eq_zero_or_pos i with h0 | h0
      · have n3 : (decide ((i : Int) > 0)) = false := by simp; omega
        have hok' : okP store i = q1 := by
          rw [h0] at hp ⊢
          rw [okP_zero hp, hq1]
        rw [hok'] at hno hΨ1
        cases q1
        all_goals simp only [Bool.not_true, Bool.not_false] at hv
        all_goals first | (have hrf := hno rfl; clear hΨ1) | skip
        all_goals (have W := ndI k1 (ndI k2 (ndI k7 (ndI n3 @wrI))); (repeat (any_goals (first | ((with_reducible refine evL_one ?_ ?_); rfl; intro K hK; simp (disch := omega) only [go_sem, W, hv]; ((repeat (refine ndI (by first | assumption | omega | rfl) ?_)); refine hK _ ?_; clear hK K)) | (with_reducible first | (refine evL_nil ?_; refine hR _ ?_; clear hR R) | ((first | refine evC_seq ?_ | refine evC_block ?_); intro Ψ hΨ hΨ') | (refine evC_region ?_; intro R hR) | (refine hΨ _ ?_; clear hΨ hΨ' Ψ) | refine evC_skip ?_ | refine evC_ret ?_) | ((with_reducible refine hΨ' _ _ ?_ ?_); (focus (simp; done)); clear hΨ hΨ' Ψ) | ((with_reducible apply evC_cond); rfl; rfl; all_goals (intro hc; first | (cases hc; done) | (try simp only at hc))) | ((with_reducible refine evD_nil ?_ ?_); kernel_rfl; (with_reducible refine hR _ ?_); clear hR R) | ((first | ((with_reducible apply evD_skip); rfl; rfl; rfl; rfl) | ((with_reducible apply evD_unmet); rfl; rfl; rfl) | ((first | ((with_reducible apply evD_any); rfl; rfl) | ((with_reducible apply evD_gany); rfl; rfl; rfl; rfl; rfl)); (simp (disch := omega) only [rdE, rdOf, go_sem, W, hv]; rfl); (intro τ hA hQ hN; ((try simp only [agree, Op.operands, Call.operands, go_sem, W, hv, go_sem, List.mem_cons, List.not_mem_nil, forall_eq_or_imp, forall_eq, List.append_toArray, Option.toArray] at hA); (try simp only [go_sem, W, hv, List.mem_cons, List.not_mem_nil, forall_eq_or_imp, forall_eq] at hQ hN); (first | (revert hA; intro hA)); (first | (revert hQ; intro hQ)); (first | (revert hN; intro hN)); simp (disch := omega) only [go_sem, W, hv, go_sem, hA, hQ, hN]; (repeat (refine ndI (by first | assumption | rfl) ?_)); (first | apply eff_rd))))); (simp (disch := omega) only [St.eff, setO, hputs, go_sem, W, hv])) | ((with_reducible refine evC_draw ?_ ?_ ?_ ?_); kernel_rfl; kernel_rfl; (first | kernel_rfl); intro R hR)))))
        all_goals first | exact hΨ1 rfl _ (St.le_of (by simp [leT]) (by simp [leH, hget])) | (rw [hrf]; (refine ⟨by simp, ⟨_, ?_, AV.le_refl _⟩, leH_get (by simp [leH, hget])⟩; simp only [Tryz.results76, resL, ldA, oneOf, go_sem]))
      · obtain ⟨j, hj⟩ : ∃ j, i = j + 1 := ⟨i - 1, by omega⟩
        obtain ⟨q, hq⟩ : ∃ q, store[j]? = some q := ⟨_, List.getElem?_eq_getElem (by omega)⟩
        have n3 : (decide ((i : Int) > 0)) = true := by simp; omega
        have n4 := ps_at hq
        have n5 : (i : Int) - 1 = (j : Int) := by omega
        have hjl : j < store.length := by omega
        have cm := refcmp_fn q.k p.k (hs q (List.mem_of_getElem? hq)).1 (hs p (List.mem_of_getElem? hp)).1
        obtain ⟨q2, hq2⟩ : ∃ c, decide (q.k < p.k) = c := ⟨_, rfl⟩
        have hok' : okP store i = (q1 && q2) := by
          rw [hj] at hp ⊢
          rw [okP_succ hq hp, hq1, hq2]
        rw [hok'] at hno hΨ1
        obtain ⟨cv, hcv, hcd⟩ : ∃ cv : Int, cmpN q.k p.k = cv ∧ decide (cv ≥ 0) = !q2 := by
          refine ⟨_, rfl, ?_⟩
          rw [← hq2]
          unfold cmpN
          by_cases h : q.k < p.k
          · rw [if_pos h, decide_eq_true h]; rfl
          · rw [if_neg h, decide_eq_false h]; split <;> rfl
        rw [hcv] at cm
        cases q1 <;> cases q2
        all_goals simp only [Bool.not_true, Bool.not_false] at hv hcd
        all_goals first | (have hrf := hno rfl; clear hΨ1) | skip
        all_goals (have W := ndI k1 (ndI k2 (ndI k7 (ndI n3 (ndI n4 (ndI n5 @wrI))))); (repeat (any_goals (first | ((with_reducible refine evL_one ?_ ?_); rfl; intro K hK; simp (disch := omega) only [go_sem, W, hv, hcd]; ((repeat (refine ndI (by first | assumption | omega | rfl) ?_)); refine hK _ ?_; clear hK K)) | (with_reducible first | (refine evL_nil ?_; refine hR _ ?_; clear hR R) | ((first | refine evC_seq ?_ | refine evC_block ?_); intro Ψ hΨ hΨ') | (refine evC_region ?_; intro R hR) | (refine hΨ _ ?_; clear hΨ hΨ' Ψ) | refine evC_skip ?_ | refine evC_ret ?_) | ((with_reducible refine hΨ' _ _ ?_ ?_); (focus (simp; done)); clear hΨ hΨ' Ψ) | ((with_reducible apply evC_cond); rfl; rfl; all_goals (intro hc; first | (cases hc; done) | (try simp only at hc))) | ((with_reducible refine evD_nil ?_ ?_); kernel_rfl; (with_reducible refine hR _ ?_); clear hR R) | ((first | ((with_reducible apply evD_skip); rfl; rfl; rfl; rfl) | ((with_reducible apply evD_unmet); rfl; rfl; rfl) | ((first | ((with_reducible apply evD_gcall); rfl; rfl; rfl; rfl; rfl)); ((apply opF_callB (cm); rfl; rfl; rfl; rfl; exact Tryz.func107); kernel_rfl; rfl; (simp (disch := omega) only [go_sem, W, hv, hcd]; rfl); (first | simp [AV.inNL, AV.inN]))) | ((first | ((with_reducible apply evD_any); rfl; rfl) | ((with_reducible apply evD_gany); rfl; rfl; rfl; rfl; rfl)); (simp (disch := omega) only [rdE, rdOf, go_sem, W, hv, hcd]; rfl); (intro τ hA hQ hN; ((try simp only [agree, Op.operands, Call.operands, go_sem, W, hv, hcd, go_sem, List.mem_cons, List.not_mem_nil, forall_eq_or_imp, forall_eq, List.append_toArray, Option.toArray] at hA); (try simp only [go_sem, W, hv, hcd, List.mem_cons, List.not_mem_nil, forall_eq_or_imp, forall_eq] at hQ hN); (first | (revert hA; intro hA)); (first | (revert hQ; intro hQ)); (first | (revert hN; intro hN)); simp (disch := omega) only [go_sem, W, hv, hcd, go_sem, hA, hQ, hN]; (repeat (refine ndI (by first | assumption | omega | rfl) ?_)); (first | apply eff_rd))))); (simp (disch := omega) only [St.eff, setO, hputs, go_sem, W, hv, hcd])) | ((with_reducible refine evC_draw ?_ ?_ ?_ ?_); kernel_rfl; kernel_rfl; (first | kernel_rfl); intro R hR)))))
        all_goals first | exact hΨ1 rfl _ (St.le_of (by simp [leT]) (by simp [leH, hget])) | (rw [hrf]; (refine ⟨by simp, ⟨_, ?_, AV.le_refl _⟩, leH_get (by simp [leH, hget])⟩; simp only [Tryz.results76, resL, ldA, oneOf, go_sem]))
    · have k1 : (decide ((i : Int) < (store.length : Int))) = false := decide_eq_false (by omega)
      have e : i = store.length := by omega
      have hrt : rr = true := by rw [← hrr, ← e]; exact hok
      (repeat (any_goals (first | ((with_reducible refine evL_one ?_ ?_); rfl; intro K hK; simp only [go_sem, k1]; ((repeat (refine ndI (by first | assumption) ?_)); refine hK _ ?_; clear hK K)) | (with_reducible first | (refine evL_nil ?_; refine hR _ ?_; clear hR R) | ((first | refine evC_seq ?_); intro Ψ hΨ hΨ') | (refine evC_region ?_; intro R hR) | (refine hΨ _ ?_; clear hΨ hΨ' Ψ) | refine evC_ret ?_ | refine evC_exit ?_) | ((with_reducible refine hΨ' _ _ ?_ ?_); (focus (simp; done)); clear hΨ hΨ' Ψ) | ((with_reducible apply evC_cond); rfl; rfl; all_goals (intro hc; first | (cases hc; done) | (try simp only at hc))))))
      all_goals rw [hrt]
      all_goals (refine ⟨by simp, ⟨_, ?_, AV.le_refl _⟩, leH_get (by simp [leH, hget])⟩; simp only [Tryz.results76, resL, ldA, oneOf, go_sem])
  · have hpf : (p1 && p2 && p3) = false := by simpa using hp
    rw [hpf, Bool.false_and]
    clear e1 e2 e3 hp
    cases p1 <;> cases p2 <;> cases p3
    all_goals first | (cases hpf; done) | skip
    all_goals simp only [Bool.not_true, Bool.not_false] at f1 f2 f3
    all_goals (refine fn_of Tryz.func76 rfl (by rfl) ?_; simp only [Tryz.ntmps76, List.length_cons, List.length_nil, Nat.reduceAdd, Nat.reduceSub, List.replicate, List.cons_append, List.nil_append])
    all_goals (have W := ndI f1 (ndI f2 f3); (repeat (any_goals (first | ((with_reducible refine evL_one ?_ ?_); rfl; intro K hK; simp only [go_sem, W]; ((repeat (refine ndI (by first | assumption) ?_)); refine hK _ ?_; clear hK K)) | (with_reducible first | (refine evL_nil ?_; refine hR _ ?_; clear hR R) | ((first | refine evC_seq ?_); intro Ψ hΨ hΨ') | (refine evC_region ?_; intro R hR) | (refine hΨ _ ?_; clear hΨ hΨ' Ψ) | refine evC_ret ?_) | ((with_reducible refine hΨ' _ _ ?_ ?_); (focus (simp; done)); clear hΨ hΨ' Ψ) | ((with_reducible apply evL_grd); rfl; rfl; rfl; all_goals (intro hb; first | (cases hb; done) | ((try simp only [Bool.not_true, Bool.not_false] at hb); (first | ((with_reducible intro K hK); simp only [go_sem, W]; ((repeat (refine ndI (by first | assumption) ?_)); refine hK _ ?_; clear hK K)) | ((fail_if_success (with_reducible intro _)); simp only [go_sem, W]))))) | ((with_reducible apply evC_cond); rfl; rfl; all_goals (intro hc; first | (cases hc; done) | (try simp only at hc)))))))
    all_goals (refine ⟨by simp, ⟨_, ?_, AV.le_refl _⟩, leH_get (by simp [leH, hget])⟩; simp only [Tryz.results76, resL, ldA, oneOf, go_sem])
end Go.Proofs.YtmidmaeihpldhaaGreat
namespace Go.Proofs.YtmidmaeihpldhaaGreat
open Go.RowKit
set_option maxRecDepth 20000
set_option maxHeartbeats 2000000
def withS (L : List Ac) (a : Int) (r : List Ac × Int) : List Ac × Int := if !okSt L then ([], 160) else if a = 0 then ([], 2) else r
def mintS (L : List Ac) (a : Int) (n : Nat) : List Ac × Int := withS L a (if WW ≤ n + (L.map Ac.b).sum then ([], 2) else putS L { ofS L a with b := ((ofS L a).b + n) % WW })
def moveR (L : List Ac) (x : Ac) (fr to : Int) (n : Nat) : List Ac × Int := if to = 0 then ([], 2) else if x.b < n then ([], 162) else if (decide (n = 0) || fr == to) = true then (laysL L x, 0) else if roomS L to = false then ([], 6) else (laysL (laysL L { x with b := x.b - n }) { ofS L to with b := ((ofS L to).b + n) % WW }, 0)
def moveS (L : List Ac) (fr to : Int) (n : Nat) : List Ac × Int := withS L fr (moveR L (ofS L fr) fr to n)
end Go.Proofs.YtmidmaeihpldhaaGreat
namespace Go.Proofs.YtmidmaeihpldhaaGreat
open Go.RowKit
set_option maxRecDepth 20000
set_option maxHeartbeats 2000000
def saveR (L : List Ac) (x : Ac) (k v : Nat) : List Ac × Int :=
  let p := bsr (ltP x.store k) x.store.length 0 x.store.length
  let t := eqP x.store k p
  if t && decide (v = 0) then putS L { x with store := x.store.take p ++ x.store.drop (p + 1) }
  else if t then putS L { x with store := x.store.take p ++ ⟨k, v⟩ :: x.store.drop (p + 1) }
  else if !decide (v = 0) && decide (x.store.length = 24) then ([], 6)
  else if !decide (v = 0) then putS L { x with store := x.store.take p ++ ⟨k, v⟩ :: x.store.drop p }
  else putS L x
def saveS (L : List Ac) (a : Int) (k v : Nat) : List Ac × Int := withS L a (saveR L (ofS L a) k v)
def totalS (L : List Ac) : Nat := if okSt L then (L.map Ac.b).sum % WW else 0
def OfS (L : List Ac) (a : Int) : Ac := if okSt L then ofS L a else ⟨a, 0, 0, [], []⟩
def loadX (x : Ac) (k : Nat) : Nat := if eqP x.store k (bsr (ltP x.store k) x.store.length 0 x.store.length) then ((x.store[bsr (ltP x.store k) x.store.length 0 x.store.length]?).map Pr.v).getD 0 else 0
end Go.Proofs.YtmidmaeihpldhaaGreat
namespace Go.Proofs.YtmidmaeihpldhaaGreat
open Go.RowKit
open Nat (reduceBEq)
set_option maxRecDepth 20000
set_option maxHeartbeats 2000000
theorem rmany_fn (ex : Bool) (L : List Ac) (hL : L.length ≤ maxLen) : Fn Tryz.prog 78 [acS ex L] [] (vi .i64 (manyL L : Nat)) [] := by
  unfold manyL
  (refine fn_of Tryz.func78 rfl (by rfl) ?_; simp only [Tryz.ntmps78, List.length_cons, List.length_nil, Nat.reduceAdd, Nat.reduceSub, List.replicate, List.cons_append, List.nil_append])
  (repeat (any_goals (first | ((with_reducible refine evL_one ?_ ?_); rfl; intro K hK; simp only [go_sem]; ((repeat (refine ndI (by first | assumption) ?_)); refine hK _ ?_; clear hK K)) | (with_reducible first | (refine evL_nil ?_; refine hR _ ?_; clear hR R) | ((first | refine evC_seq ?_ | refine evC_block ?_); intro Ψ hΨ hΨ') | (refine evC_region ?_; intro R hR) | (refine hΨ _ ?_; clear hΨ hΨ' Ψ)))))
  refine evC_upto L.length (fun i => ⟨[.any, .any, .any, vi .i64 (((L.take i).filter fun x => decide (16 ≤ x.a)).length : Nat), .any, .any, acS ex L, vi .i64 L.length, vi .i64 (i : Int), .any, .any, .any, .any, .any, .any, .any, .any, .any, .any], []⟩) (St.le_of (by simp [leT]) (by simp [leH, hget])) ?_
  intro i hi Ψ hΨ hΨ'
  (try dsimp only at hΨ ⊢)
  have k8 : L.length < 9223372036854775808 := Nat.lt_succ_of_le hL
  rcases Nat.lt_or_ge i L.length with hlt | hge
  · obtain ⟨x, hx⟩ : ∃ x, L[i]? = some x := ⟨_, List.getElem?_eq_getElem hlt⟩
    have k1 : (decide ((i : Int) < (L.length : Int))) = true := decide_eq_true (by omega)
    have k2 := ac_at hx
    have k7 : (i : Int) + 1 = ((i + 1 : Nat) : Int) := by omega
    have k3 : ((L.take (i + 1)).filter fun x => decide (16 ≤ x.a)) = ((L.take i).filter fun x => decide (16 ≤ x.a)) ++ (if decide (16 ≤ x.a) then [x] else []) := by
      rw [List.take_add_one, hx, List.filter_append]; simp [List.filter_cons]
    have k5 : ((L.take i).filter fun x => decide (16 ≤ x.a)).length ≤ i := Nat.le_trans (List.length_filter_le _ _) (by rw [List.length_take]; omega)
    rw [k3, List.length_append] at hΨ
    generalize ((L.take i).filter fun x => decide (16 ≤ x.a)).length = c at hΨ k5 ⊢
    have k6 : (c : Int) + 1 = ((c + 1 : Nat) : Int) := by omega
    cases hq : decide (16 ≤ x.a)
    all_goals rw [hq] at hΨ
    all_goals (have W := ndI k1 (ndI k2 (ndI k6 (ndI k7 @wrI))); (repeat (any_goals (first | ((with_reducible refine evL_one ?_ ?_); rfl; intro K hK; simp (disch := omega) only [go_sem, W, hq]; ((repeat (refine ndI (by first | assumption | omega | rfl) ?_)); refine hK _ ?_; clear hK K)) | (with_reducible first | (refine evL_nil ?_; refine hR _ ?_; clear hR R) | ((first | refine evC_seq ?_ | refine evC_block ?_); intro Ψ hΨ hΨ') | (refine evC_region ?_; intro R hR) | (refine hΨ _ ?_; clear hΨ hΨ' Ψ) | refine evC_skip ?_) | ((with_reducible refine hΨ' _ _ ?_ ?_); (focus (simp; done)); clear hΨ hΨ' Ψ) | ((with_reducible apply evC_cond); rfl; rfl; all_goals (intro hc; first | (cases hc; done) | (try simp only at hc)))))))
    all_goals exact hΨ _ hlt (St.le_of (by simp [leT]) (by simp [leH, hget]))
  · have k1 : (decide ((i : Int) < (L.length : Int))) = false := decide_eq_false (by omega)
    rw [List.take_of_length_le hge]
    (repeat (any_goals (first | ((with_reducible refine evL_one ?_ ?_); rfl; intro K hK; simp only [go_sem, k1]; ((repeat (refine ndI (by first | assumption) ?_)); refine hK _ ?_; clear hK K)) | (with_reducible first | (refine evL_nil ?_; refine hR _ ?_; clear hR R) | ((first | refine evC_seq ?_); intro Ψ hΨ hΨ') | (refine evC_region ?_; intro R hR) | (refine hΨ _ ?_; clear hΨ hΨ' Ψ) | refine evC_ret ?_ | refine evC_exit ?_) | ((with_reducible refine hΨ' _ _ ?_ ?_); (focus (simp; done)); clear hΨ hΨ' Ψ) | ((with_reducible apply evC_cond); rfl; rfl; all_goals (intro hc; first | (cases hc; done) | (try simp only at hc))))))
    all_goals (refine ⟨by simp, ⟨_, ?_, AV.le_refl _⟩, leH_get (by simp [leH, hget])⟩; simp only [Tryz.results78, resL, ldA, oneOf, go_sem])
abbrev stO (ex : Bool) (L : List Ac) (r : Nat) (out : List Nat) (i : Int) : St := ⟨[.any, .any, .ptr 2 0, vb false, .row r 72 4 out.length, .any, .any, acS ex L, vi .i64 L.length, vi .i64 i, .any, .any, .any, .any, .any, .any, .any, .any, .any, .any, .any, .any, .any], [(2, [vi .u64 0, vi .u64 0, vi .u64 0, vi .u64 0]), (r, rcW out)]⟩
theorem stO_rn (ex : Bool) (L : List Ac) (out : List Nat) (i : Int) : (stO ex L 17 out i).to (stO ex L 500 out i) := by
  refine (St.to.rn (fun r => if r = 17 then 500 else r) (fun r => if r = 500 then 17 else r) [2, 17] (by simp [AV.inNL, AV.inN]) (by simp) (by simp [inH, AV.inNL, AV.inN, inNL_rcW]) (by simp) (by simp)).trans (St.to.of_le (St.le_of (by simp [leT, AV.renL, AV.ren]) (by simp [leH, hget, renH, AV.renL, AV.ren, renL_rcW])))
theorem rtotal_fn (ex : Bool) (L : List Ac) (hL : L.length ≤ 1000) (ok : ∀ x ∈ L, x.b < WW) : Fn Tryz.prog 108 [acS ex L] [] (.tup [wN ((L.map Ac.b).sum % WW), vb (decide (WW ≤ (L.map Ac.b).sum))]) [] := by
  have sm := refsum_fn false (L.map Ac.b) (by rw [List.length_map]; exact hL) (fun x hx => by obtain ⟨y, hy, rfl⟩ := List.mem_map.1 hx; exact ok y hy)
  obtain ⟨tn, htn⟩ : ∃ n, (L.map Ac.b).sum % WW = n := ⟨_, rfl⟩
  obtain ⟨tq, htq⟩ : ∃ q, decide (WW ≤ (L.map Ac.b).sum) = q := ⟨_, rfl⟩
  rw [htn, htq] at sm ⊢
  (refine fn_of Tryz.func108 rfl (by rfl) ?_; simp only [Tryz.ntmps108, List.length_cons, List.length_nil, Nat.reduceAdd, Nat.reduceSub, List.replicate, List.cons_append, List.nil_append])
  (repeat (any_goals (first | ((with_reducible refine evL_one ?_ ?_); rfl; intro K hK; simp only [go_sem]; ((repeat (refine ndI (by first | assumption) ?_)); refine hK _ ?_; clear hK K)) | (with_reducible first | (refine evL_nil ?_; refine hR _ ?_; clear hR R) | ((first | refine evC_seq ?_ | refine evC_block ?_); intro Ψ hΨ hΨ') | (refine evC_region ?_; intro R hR) | (refine hΨ _ ?_; clear hΨ hΨ' Ψ)))))
  refine evC_uptoT L.length (fun i => stO ex L 500 ((L.take i).map Ac.b) i) ?_ ?_
  · refine (St.to.nilrow 4 500 72 4 rfl (by simp) (by simp [St.free, freeH, AV.refs, AV.refsL]) (by omega)).trans (St.to.of_le (St.le_of (by simp [leT]) (by simp [leH, hget, hput, rcW])))
  · intro i hi Ψ hΨ hΨ'
    have k8 : L.length < 9223372036854775808 := by omega
    have ln : ((L.take i).map Ac.b).length ≤ 1000 := by rw [List.length_map, List.length_take]; omega
    rcases Nat.lt_or_ge i L.length with hlt | hge
    · obtain ⟨x, hx⟩ : ∃ x, L[i]? = some x := ⟨_, List.getElem?_eq_getElem hlt⟩
      have k1 : (decide ((i : Int) < (L.length : Int))) = true := decide_eq_true (by omega)
      have k2 := ac_at hx
      have k7 : (i : Int) + 1 = ((i + 1 : Nat) : Int) := by omega
      have k3 : (L.take (i + 1)).map Ac.b = (L.take i).map Ac.b ++ [x.b] := by rw [List.take_add_one, hx, List.map_append]; rfl
      (try dsimp only at hΨ ⊢)
      rw [k3] at hΨ
      generalize (L.take i).map Ac.b = out at hΨ ln ⊢
      have e1 := rcW_len out
      have e2 : rcW (out ++ [x.b]) = rcW out ++ (wpv x.b).map .c := by unfold rcW; rw [List.flatMap_append]; simp [List.flatMap_cons]
      have e3 : ∀ r, AV.refsL r (rcW out) = false := fun r => refsL_map r _
      (have W := ndI k1 (ndI k2 (ndI k7 (ndI e1 (ndI e3 @wrI)))); (repeat (any_goals (first | ((with_reducible refine evL_one ?_ ?_); rfl; intro K hK; simp (disch := omega) only [go_sem, W]; ((repeat (refine ndI (by first | assumption | omega | rfl) ?_)); refine hK _ ?_; clear hK K)) | (with_reducible first | (refine evL_nil ?_; refine hR _ ?_; clear hR R) | ((first | refine evC_seq ?_ | refine evC_block ?_); intro Ψ hΨ hΨ') | (refine evC_region ?_; intro R hR) | (refine hΨ _ ?_; clear hΨ hΨ' Ψ) | refine evC_skip ?_) | ((with_reducible refine hΨ' _ _ ?_ ?_); (focus (simp; done)); clear hΨ hΨ' Ψ) | ((with_reducible apply evC_cond); rfl; rfl; all_goals (intro hc; first | (cases hc; done) | (try simp only at hc)))))))
      all_goals exact hΨ _ hlt (St.to.trans (St.to.of_le (τ := stO ex L 17 (out ++ [x.b]) ((i + 1 : Nat) : Int)) (St.le_of (by simp [leT]) (by simp [leH, hget, e2, wpv]))) (stO_rn ex L _ _))
    · have k1 : (decide ((i : Int) < (L.length : Int))) = false := decide_eq_false (by omega)
      rw [List.take_of_length_le hge]
      (try dsimp only)
      (repeat (any_goals (first | ((with_reducible refine evL_one ?_ ?_); rfl; intro K hK; simp only [go_sem, k1]; ((repeat (refine ndI (by first | assumption) ?_)); refine hK _ ?_; clear hK K)) | (with_reducible first | (refine evL_nil ?_; refine hR _ ?_; clear hR R) | ((first | refine evC_seq ?_); intro Ψ hΨ hΨ') | (refine evC_region ?_; intro R hR) | (refine hΨ _ ?_; clear hΨ hΨ' Ψ) | refine evC_exit ?_) | ((with_reducible refine hΨ' _ _ ?_ ?_); (focus (simp; done)); clear hΨ hΨ' Ψ) | ((with_reducible apply evC_cond); rfl; rfl; all_goals (intro hc; first | (cases hc; done) | (try simp only at hc))))))
      refine evL_to rfl (St.to.frz 500 (pcs := (L.map Ac.b).flatMap wpv) (by simp [hget, rcW])) ?_
      have el : ((L.map Ac.b).flatMap wpv).length = (L.map Ac.b).length * 4 := flat_length wpv_len _
      simp only [St.frz, AV.frzL, AV.frz, frzH, el, if_true, eq_self, ↓reduceIte, Nat.reduceEqDiff]
      (repeat (any_goals (first | ((with_reducible refine evL_call ?_ ?_ ?_); rfl; rfl; intro K hK; ((apply opA_callB (sm); rfl; rfl; rfl; rfl; exact Tryz.func131); kernel_rfl; rfl; (simp only [go_sem]; rfl); (first | simp [AV.inNL, AV.inN])); (simp only [go_sem]; refine hK _ ?_; clear hK K)) | ((with_reducible refine evL_one ?_ ?_); rfl; intro K hK; simp only [go_sem]; ((repeat (refine ndI (by first | assumption) ?_)); refine hK _ ?_; clear hK K)) | (with_reducible first | (refine evL_nil ?_; refine hR _ ?_; clear hR R) | (refine hΨ _ ?_; clear hΨ hΨ' Ψ) | refine evC_ret ?_))))
      all_goals (refine ⟨by simp, ⟨_, ?_, AV.le_refl _⟩, leH_get (by simp [leH, hget])⟩; simp only [Tryz.results108, resL, ldA, oneOf, go_sem])
end Go.Proofs.YtmidmaeihpldhaaGreat
namespace Go.Proofs.YtmidmaeihpldhaaGreat
open Go.RowKit
open Nat (reduceBEq)
set_option maxRecDepth 20000
set_option maxHeartbeats 2000000
theorem rfits_fn (ex : Bool) (L : List Ac) (hL : L.length ≤ 1000) (ok : ∀ x ∈ L, x.b < WW) : Fn Tryz.prog 79 [acS ex L] [] (vb (!decide (WW ≤ (L.map Ac.b).sum))) [] := by
  have tt := rtotal_fn ex L hL ok
  generalize (L.map Ac.b).sum % WW = n at tt
  generalize decide (WW ≤ (L.map Ac.b).sum) = q at tt ⊢
  (refine fn_of Tryz.func79 rfl (by rfl) ?_; simp only [Tryz.ntmps79, List.length_cons, List.length_nil, Nat.reduceAdd, Nat.reduceSub, List.replicate, List.cons_append, List.nil_append])
  (repeat (any_goals (first | ((with_reducible refine evL_call ?_ ?_ ?_); rfl; rfl; intro K hK; ((apply opA_callB (tt); rfl; rfl; rfl; rfl; exact Tryz.func108); kernel_rfl; rfl; (simp only [go_sem]; rfl); (first | simp [AV.inNL, AV.inN])); (simp only [go_sem]; refine hK _ ?_; clear hK K)) | ((with_reducible refine evL_one ?_ ?_); rfl; intro K hK; simp only [go_sem]; ((repeat (refine ndI (by first | assumption) ?_)); refine hK _ ?_; clear hK K)) | (with_reducible first | (refine evL_nil ?_; refine hR _ ?_; clear hR R) | ((first | refine evC_seq ?_); intro Ψ hΨ hΨ') | (refine evC_region ?_; intro R hR) | (refine hΨ _ ?_; clear hΨ hΨ' Ψ) | refine evC_ret ?_))))
  all_goals (refine ⟨by simp, ⟨_, ?_, AV.le_refl _⟩, leH_get (by simp [leH, hget])⟩; simp only [Tryz.results79, resL, ldA, oneOf, go_sem])
theorem rempty_fn (x : Ac) (hb : x.b < WW) : Fn Tryz.prog 77 [acA x] [] (vb (emptyA x)) [] := by
  obtain ⟨a, b, n, code, store⟩ := x
  dsimp only at hb
  unfold emptyA
  dsimp only
  obtain ⟨q1, e1⟩ : ∃ p, decide (b = 0) = p := ⟨_, rfl⟩
  obtain ⟨q2, e2⟩ : ∃ p, decide (n = 0) = p := ⟨_, rfl⟩
  obtain ⟨q3, e3⟩ : ∃ p, decide (code.length = 0) = p := ⟨_, rfl⟩
  obtain ⟨q4, e4⟩ : ∃ p, decide (store.length = 0) = p := ⟨_, rfl⟩
  have f1 : (l0 b == 0 && (l1 b == 0 && (l2 b == 0 && l3 b == 0))) = q1 := by rw [← e1, wN_zero hb]
  have f2 : (n == 0) = q2 := by rw [← e2]; by_cases h : n = 0 <;> simp [h]
  have f3 : ((code.length : Int) == 0) = q3 := by rw [← e3]; by_cases h : code.length = 0 <;> simp [h]
  have f4 : ((store.length : Int) == 0) = q4 := by rw [← e4]; by_cases h : store.length = 0 <;> simp [h]
  have f5 : decide (code.length + store.length = 0) = (q3 && q4) := by
    rw [← e3, ← e4, Bool.eq_iff_iff]
    simp only [Bool.and_eq_true, decide_eq_true_eq]
    omega
  rw [e1, e2, f5]
  clear e1 e2 e3 e4 f5
  cases q1 <;> cases q2 <;> cases q3 <;> cases q4
  all_goals (refine fn_of Tryz.func77 rfl (by rfl) ?_; simp only [Tryz.ntmps77, List.length_cons, List.length_nil, Nat.reduceAdd, Nat.reduceSub, List.replicate, List.cons_append, List.nil_append])
  all_goals (have W := ndI f1 (ndI f2 (ndI f3 f4)); (repeat (any_goals (first | ((with_reducible refine evL_one ?_ ?_); rfl; intro K hK; simp only [go_sem, W]; ((repeat (refine ndI (by first | assumption) ?_)); refine hK _ ?_; clear hK K)) | (with_reducible first | (refine evL_nil ?_; refine hR _ ?_; clear hR R) | ((first | refine evC_seq ?_); intro Ψ hΨ hΨ') | (refine evC_region ?_; intro R hR) | (refine hΨ _ ?_; clear hΨ hΨ' Ψ) | refine evC_ret ?_) | ((with_reducible apply evL_grd); rfl; rfl; rfl; all_goals (intro hb; first | (cases hb; done) | ((try simp only [Bool.not_true, Bool.not_false] at hb); (first | ((with_reducible intro K hK); simp only [go_sem, W]; ((repeat (refine ndI (by first | assumption) ?_)); refine hK _ ?_; clear hK K)) | ((fail_if_success (with_reducible intro _)); simp only [go_sem, W])))))))))
  all_goals (refine ⟨by simp, ⟨_, ?_, AV.le_refl _⟩, leH_get (by simp [leH, hget])⟩; simp only [Tryz.results77, resL, ldA, oneOf, go_sem])
  all_goals rfl
theorem okS_eq {q : Bool} {L : List Ac} : ∀ i, okS q L i = (q && okS true L i)
  | 0 => by simp [okS]
  | i + 1 => by
    unfold okS
    rw [okS_eq i, Bool.and_assoc]
theorem rright_fn (ex : Bool) (L : List Ac) (hL : Okl L) : Fn Tryz.prog 45 [stA ex L] [] (vb (okSt L)) [] := by
  have hl := hL.1
  have mn := rmany_fn ex L (by unfold maxLen; omega)
  have ft := rfits_fn ex L (by omega) (fun x hx => (hL.2 x hx).1.2.1)
  unfold okSt
  rw [okS_eq]
  obtain ⟨q1, e1⟩ : ∃ p, decide (WW ≤ (L.map Ac.b).sum) = p := ⟨_, rfl⟩
  obtain ⟨q2, e2⟩ : ∃ p, decide (manyL L ≤ 24) = p := ⟨_, rfl⟩
  have e3 : decide (((manyL L : Nat) : Int) ≤ 24) = q2 := by rw [← e2]; exact decide_eq_decide.2 (by omega)
  rw [e1] at ft
  rw [e1, e2]
  clear e1 e2
  obtain ⟨rr, hrr⟩ : ∃ r, okS true L L.length = r := ⟨_, rfl⟩
  rw [hrr]
  (refine fn_of Tryz.func45 rfl (by rfl) ?_; simp only [Tryz.ntmps45, List.length_cons, List.length_nil, Nat.reduceAdd, Nat.reduceSub, List.replicate, List.cons_append, List.nil_append])
  (repeat (any_goals (first | ((with_reducible refine evL_one ?_ ?_); rfl; intro K hK; simp only [go_sem]; ((repeat (refine ndI (by first | assumption) ?_)); refine hK _ ?_; clear hK K)) | (with_reducible first | (refine evL_nil ?_; refine hR _ ?_; clear hR R) | ((first | refine evC_seq ?_ | refine evC_block ?_); intro Ψ hΨ hΨ') | (refine evC_region ?_; intro R hR) | (refine hΨ _ ?_; clear hΨ hΨ' Ψ)))))
  refine evC_loop (α := { i : Nat // i ≤ L.length ∧ okS true L i = true }) (fun x => ⟨[.any, .ptr 1 0, vb false, .any, .any, .any, acS ex L, vi .i64 L.length, vi .i64 (x.1 : Int), .any, .any, .any, .any, .any, .any, .any, .any, .any, .any, .any, .any, .any, .any, .any, .any, .any, .any, .any, .any, .any, .any, .any, .any, .any, .any, .any, .any, .any, .any, .any, .any, .any, .any, .any, .any, .any], [(1, [acS ex L])]⟩) (fun x => L.length - x.1) ⟨0, Nat.zero_le _, rfl⟩ (St.le_of (by simp [leT]) (by simp [leH, hget])) ?_
  rintro ⟨i, hi, hok⟩ Ψ hΨ hΨ'
  (try dsimp only at hΨ ⊢)
  have k7 : (i : Int) + 1 = ((i + 1 : Nat) : Int) := by omega
  rcases Nat.lt_or_ge i L.length with hlt | hge
  · obtain ⟨x, hx⟩ : ∃ x, L[i]? = some x := ⟨_, List.getElem?_eq_getElem hlt⟩
    have k1 : (decide ((i : Int) < (L.length : Int))) = true := decide_eq_true (by omega)
    have k2 := ac_at hx
    have xo := hL.2 x (List.mem_of_getElem? hx)
    have ra := right_fn x xo.1.2.2.2.2.2
    have em := rempty_fn x xo.1.2.1
    obtain ⟨q3, hq3⟩ : ∃ q, okAc x = q := ⟨_, rfl⟩
    obtain ⟨q4, hq4⟩ : ∃ q, emptyA x = q := ⟨_, rfl⟩
    rw [hq3] at ra
    rw [hq4] at em
    have hnx : okS true L (i + 1) = okS1 L i := by show (okS true L i && okS1 L i) = _; rw [hok, Bool.true_and]
    have hno : okS1 L i = false → rr = false := fun h => by
      rw [← hrr]
      exact okS_no (by rw [hnx]; exact h) L.length hlt
    have hΨ1 := fun (h : okS1 L i = true) σ' => hΨ σ' ⟨i + 1, hlt, by rw [hnx]; exact h⟩ (by dsimp only; omega)
    dsimp only at hΨ1
    rcases Nat.eq_zero_or_pos i with h0 | h0
    · have n3 : (decide ((i : Int) > 0)) = false := by simp; omega
      have hok' : okS1 L i = (q3 && !q4) := by
        rw [h0] at hx ⊢
        rw [okS1_zero hx, hq3, hq4]
      rw [hok'] at hno hΨ1
      cases q3 <;> cases q4
      all_goals first | (have hrf := hno rfl; clear hΨ1) | skip
      all_goals (have W := ndI k1 (ndI k2 (ndI k7 (ndI n3 @wrI))); (repeat (any_goals (first | ((with_reducible refine evL_one ?_ ?_); rfl; intro K hK; simp (disch := omega) only [go_sem, W]; ((repeat (refine ndI (by first | assumption | omega | rfl) ?_)); refine hK _ ?_; clear hK K)) | (with_reducible first | (refine evL_nil ?_; refine hR _ ?_; clear hR R) | ((first | refine evC_seq ?_ | refine evC_block ?_); intro Ψ hΨ hΨ') | (refine evC_region ?_; intro R hR) | (refine hΨ _ ?_; clear hΨ hΨ' Ψ) | refine evC_skip ?_ | refine evC_ret ?_) | ((with_reducible refine hΨ' _ _ ?_ ?_); (focus (simp; done)); clear hΨ hΨ' Ψ) | ((with_reducible apply evC_cond); rfl; rfl; all_goals (intro hc; first | (cases hc; done) | (try simp only at hc))) | ((with_reducible refine evD_nil ?_ ?_); kernel_rfl; (with_reducible refine hR _ ?_); clear hR R) | ((first | ((with_reducible apply evD_skip); rfl; rfl; rfl; rfl) | ((with_reducible apply evD_unmet); rfl; rfl; rfl) | ((first | ((with_reducible apply evD_fcall); rfl; rfl) | ((with_reducible apply evD_gcall); rfl; rfl; rfl; rfl; rfl)); ((first | (apply opF_callB (ra); rfl; rfl; rfl; rfl; exact Tryz.func76) | (apply opF_callB (em); rfl; rfl; rfl; rfl; exact Tryz.func77)); kernel_rfl; rfl; (simp (disch := omega) only [go_sem, W]; rfl); (first | simp [AV.inNL, AV.inN]))) | ((first | ((with_reducible apply evD_any); rfl; rfl) | ((with_reducible apply evD_gany); rfl; rfl; rfl; rfl; rfl)); (simp (disch := omega) only [rdE, rdOf, go_sem, W]; rfl); (intro τ hA hQ hN; ((try simp only [agree, Op.operands, Call.operands, go_sem, W, go_sem, List.mem_cons, List.not_mem_nil, forall_eq_or_imp, forall_eq, List.append_toArray, Option.toArray] at hA); (try simp only [go_sem, W, List.mem_cons, List.not_mem_nil, forall_eq_or_imp, forall_eq] at hQ hN); (first | (revert hA; intro hA)); (first | (revert hQ; intro hQ)); (first | (revert hN; intro hN)); simp (disch := omega) only [go_sem, W, go_sem, hA, hQ, hN]; (repeat (refine ndI (by first | assumption | rfl) ?_)); (first | apply eff_rd))))); (simp (disch := omega) only [St.eff, setO, hputs, go_sem, W])) | ((with_reducible refine evC_draw ?_ ?_ ?_ ?_); kernel_rfl; kernel_rfl; (first | kernel_rfl); intro R hR)))))
      all_goals first | exact hΨ1 rfl _ (St.le_of (by simp [leT]) (by simp [leH, hget])) | (rw [hrf]; (refine ⟨by simp, ⟨_, ?_, AV.le_refl _⟩, leH_get (by simp [leH, hget])⟩; simp only [Tryz.results45, resL, ldA, oneOf, go_sem]); simp)
    · obtain ⟨j, hj⟩ : ∃ j, i = j + 1 := ⟨i - 1, by omega⟩
      obtain ⟨q, hq⟩ : ∃ q, L[j]? = some q := ⟨_, List.getElem?_eq_getElem (by omega)⟩
      have n3 : (decide ((i : Int) > 0)) = true := by simp; omega
      have n4 := ac_at hq
      have n5 : (i : Int) - 1 = (j : Int) := by omega
      have hjl : j < L.length := by omega
      obtain ⟨q5, hq5⟩ : ∃ c, decide (q.a < x.a) = c := ⟨_, rfl⟩
      have hge : decide (q.a ≥ x.a) = !q5 := by
        rw [← hq5]
        by_cases h : q.a < x.a
        · rw [decide_eq_true h, decide_eq_false (by omega)]; rfl
        · rw [decide_eq_false h, decide_eq_true (by omega)]; rfl
      have hok' : okS1 L i = (q3 && !q4 && q5) := by
        rw [hj] at hx ⊢
        rw [okS1_succ hq hx, hq3, hq4, hq5]
      rw [hok'] at hno hΨ1
      cases q3 <;> cases q4 <;> cases q5
      all_goals simp only [Bool.not_true, Bool.not_false] at hge
      all_goals first | (have hrf := hno rfl; clear hΨ1) | skip
      all_goals (have W := ndI k1 (ndI k2 (ndI k7 (ndI n3 (ndI n4 (ndI n5 @wrI))))); (repeat (any_goals (first | ((with_reducible refine evL_one ?_ ?_); rfl; intro K hK; simp (disch := omega) only [go_sem, W, hge]; ((repeat (refine ndI (by first | assumption | omega | rfl) ?_)); refine hK _ ?_; clear hK K)) | (with_reducible first | (refine evL_nil ?_; refine hR _ ?_; clear hR R) | ((first | refine evC_seq ?_ | refine evC_block ?_); intro Ψ hΨ hΨ') | (refine evC_region ?_; intro R hR) | (refine hΨ _ ?_; clear hΨ hΨ' Ψ) | refine evC_skip ?_ | refine evC_ret ?_) | ((with_reducible refine hΨ' _ _ ?_ ?_); (focus (simp; done)); clear hΨ hΨ' Ψ) | ((with_reducible apply evC_cond); rfl; rfl; all_goals (intro hc; first | (cases hc; done) | (try simp only at hc))) | ((with_reducible refine evD_nil ?_ ?_); kernel_rfl; (with_reducible refine hR _ ?_); clear hR R) | ((first | ((with_reducible apply evD_skip); rfl; rfl; rfl; rfl) | ((with_reducible apply evD_unmet); rfl; rfl; rfl) | ((first | ((with_reducible apply evD_fcall); rfl; rfl) | ((with_reducible apply evD_gcall); rfl; rfl; rfl; rfl; rfl)); ((first | (apply opF_callB (ra); rfl; rfl; rfl; rfl; exact Tryz.func76) | (apply opF_callB (em); rfl; rfl; rfl; rfl; exact Tryz.func77)); kernel_rfl; rfl; (simp (disch := omega) only [go_sem, W, hge]; rfl); (first | simp [AV.inNL, AV.inN]))) | ((first | ((with_reducible apply evD_any); rfl; rfl) | ((with_reducible apply evD_gany); rfl; rfl; rfl; rfl; rfl)); (simp (disch := omega) only [rdE, rdOf, go_sem, W, hge]; rfl); (intro τ hA hQ hN; ((try simp only [agree, Op.operands, Call.operands, go_sem, W, hge, go_sem, List.mem_cons, List.not_mem_nil, forall_eq_or_imp, forall_eq, List.append_toArray, Option.toArray] at hA); (try simp only [go_sem, W, hge, List.mem_cons, List.not_mem_nil, forall_eq_or_imp, forall_eq] at hQ hN); (first | (revert hA; intro hA)); (first | (revert hQ; intro hQ)); (first | (revert hN; intro hN)); simp (disch := omega) only [go_sem, W, hge, go_sem, hA, hQ, hN]; (repeat (refine ndI (by first | assumption | omega | rfl) ?_)); (first | apply eff_rd))))); (simp (disch := omega) only [St.eff, setO, hputs, go_sem, W, hge])) | ((with_reducible refine evC_draw ?_ ?_ ?_ ?_); kernel_rfl; kernel_rfl; (first | kernel_rfl); intro R hR)))))
      all_goals first | exact hΨ1 rfl _ (St.le_of (by simp [leT]) (by simp [leH, hget])) | (rw [hrf]; (refine ⟨by simp, ⟨_, ?_, AV.le_refl _⟩, leH_get (by simp [leH, hget])⟩; simp only [Tryz.results45, resL, ldA, oneOf, go_sem]); simp)
  · have k1 : (decide ((i : Int) < (L.length : Int))) = false := decide_eq_false (by omega)
    have e : i = L.length := by omega
    have hrt : rr = true := by rw [← hrr, ← e]; exact hok
    (repeat (any_goals (first | ((with_reducible refine evL_call ?_ ?_ ?_); rfl; rfl; intro K hK; ((apply opA_callB (mn); rfl; rfl; rfl; rfl; exact Tryz.func78); kernel_rfl; rfl; (simp only [go_sem, k1, e3]; rfl); (first | simp [AV.inNL, AV.inN])); (simp only [go_sem, k1, e3]; refine hK _ ?_; clear hK K)) | ((with_reducible refine evL_one ?_ ?_); rfl; intro K hK; simp only [go_sem, k1, e3]; ((repeat (refine ndI (by first | assumption) ?_)); refine hK _ ?_; clear hK K)) | (with_reducible first | (refine evL_nil ?_; refine hR _ ?_; clear hR R) | ((first | refine evC_seq ?_); intro Ψ hΨ hΨ') | (refine evC_region ?_; intro R hR) | (refine hΨ _ ?_; clear hΨ hΨ' Ψ) | refine evC_ret ?_ | refine evC_exit ?_) | ((with_reducible refine hΨ' _ _ ?_ ?_); (focus (simp; done)); clear hΨ hΨ' Ψ) | ((with_reducible apply evL_grd); rfl; rfl; rfl; all_goals (intro hb; first | (cases hb; done) | ((try simp only [Bool.not_true, Bool.not_false] at hb); (first | ((with_reducible intro K hK); (first | ((apply opA_callB (ft); rfl; rfl; rfl; rfl; exact Tryz.func79); kernel_rfl; rfl; (simp only [go_sem, k1, e3]; rfl); (first | simp [AV.inNL, AV.inN])) | skip); simp only [go_sem, k1, e3]; ((repeat (refine ndI (by first | assumption) ?_)); refine hK _ ?_; clear hK K)) | ((fail_if_success (with_reducible intro _)); simp only [go_sem, k1, e3]))))) | ((with_reducible apply evC_cond); rfl; rfl; all_goals (intro hc; first | (cases hc; done) | (try simp only at hc))))))
    all_goals rw [hrt]
    all_goals (refine ⟨by simp, ⟨_, ?_, AV.le_refl _⟩, leH_get (by simp [leH, hget])⟩; simp only [Tryz.results45, resL, ldA, oneOf, go_sem])
    all_goals simp_all
end Go.Proofs.YtmidmaeihpldhaaGreat
namespace Go.Proofs.YtmidmaeihpldhaaGreat
open Go.RowKit
open Nat (reduceBEq)
set_option maxRecDepth 20000
set_option maxHeartbeats 2000000
theorem bs_at {l : List Nat} {i : Nat} {y : Nat} (h : l[i]? = some y) : ((l.flatMap bpv).drop i).take 1 = [.v (.int .u8 (y : Int))] := by
  have := flat_at (f := bpv) bpv_len h
  rwa [Nat.mul_one] at this
theorem take_next {α : Type} {l m : List α} {i : Nat} {x y : α} (hx : l[i]? = some x) (hy : m[i]? = some y) (h : l.take i = m.take i) (e : x = y) : l.take (i + 1) = m.take (i + 1) := by
  rw [List.take_add_one, List.take_add_one, hx, hy, h, e]
theorem rsameacc_fn (x y : Ac) (hx : x.ok) (hy : y.ok) : Fn Tryz.prog 101 [acA x, acA y] [] (vb (decide (x = y))) [] := by
  obtain ⟨a, b, n, c, s⟩ := x
  obtain ⟨a', b', n', c', s'⟩ := y
  obtain ⟨u1, u2, u3, ⟨u4, u5⟩, u6, u7⟩ := hx
  obtain ⟨v1, v2, v3, ⟨v4, v5⟩, v6, v7⟩ := hy
  dsimp only at u1 u2 u3 u4 u5 u6 u7 v1 v2 v3 v4 v5 v6 v7
  obtain ⟨rr, hrr⟩ : ∃ r, decide ((⟨a, b, n, c, s⟩ : Ac) = ⟨a', b', n', c', s'⟩) = r := ⟨_, rfl⟩
  rw [hrr]
  have hno : ¬ (a = a' ∧ b = b' ∧ n = n' ∧ c = c' ∧ s = s') → rr = false := fun h => by
    rw [← hrr]
    exact decide_eq_false fun e => h (by cases e; exact ⟨rfl, rfl, rfl, rfl, rfl⟩)
  have hyes : a = a' → b = b' → n = n' → c = c' → s = s' → rr = true := fun h1 h2 h3 h4 h5 => by
    rw [← hrr]
    subst h1 h2 h3 h4 h5
    exact decide_eq_true rfl
  obtain ⟨q1, e1⟩ : ∃ p, decide (a = a') = p := ⟨_, rfl⟩
  obtain ⟨q2, e2⟩ : ∃ p, decide (b = b') = p := ⟨_, rfl⟩
  obtain ⟨q3, e3⟩ : ∃ p, decide (n = n') = p := ⟨_, rfl⟩
  obtain ⟨q4, e4⟩ : ∃ p, decide (c.length = c'.length) = p := ⟨_, rfl⟩
  obtain ⟨q5, e5⟩ : ∃ p, decide (s.length = s'.length) = p := ⟨_, rfl⟩
  have f1 : (a != a') = !q1 := by rw [← e1]; by_cases h : a = a' <;> simp [h]
  have f2 : (l0 b == l0 b' && (l1 b == l1 b' && (l2 b == l2 b' && l3 b == l3 b'))) = q2 := by rw [← e2, wN_eq u2 v2]
  have f3 : (n != n') = !q3 := by rw [← e3]; by_cases h : n = n' <;> simp [h]
  have f4 : ((c.length : Int) != (c'.length : Int)) = !q4 := by
    rw [← e4]
    by_cases h : c.length = c'.length
    · rw [h]; simp
    · rw [decide_eq_false h]; simp; omega
  have f5 : ((s.length : Int) != (s'.length : Int)) = !q5 := by
    rw [← e5]
    by_cases h : s.length = s'.length
    · rw [h]; simp
    · rw [decide_eq_false h]; simp; omega
  have k8 : c.length < 9223372036854775808 := Nat.lt_succ_of_le u4
  have k9 : s.length < 9223372036854775808 := Nat.lt_succ_of_le u6
  by_cases hq : (q1 && q2 && q3 && q4 && q5) = true
  · simp only [Bool.and_eq_true] at hq
    obtain ⟨⟨⟨⟨rfl, rfl⟩, rfl⟩, rfl⟩, rfl⟩ := hq
    have g1 : a = a' := of_decide_eq_true e1
    have g2 : b = b' := of_decide_eq_true e2
    have g3 : n = n' := of_decide_eq_true e3
    have g4 : c.length = c'.length := of_decide_eq_true e4
    have g5 : s.length = s'.length := of_decide_eq_true e5
    simp only [Bool.not_true] at f1 f3 f4 f5
    clear e1 e2 e3 e4 e5
    (refine fn_of Tryz.func101 rfl (by rfl) ?_; simp only [Tryz.ntmps101, List.length_cons, List.length_nil, Nat.reduceAdd, Nat.reduceSub, List.replicate, List.cons_append, List.nil_append])
    (have W := ndI f1 (ndI f2 (ndI f3 (ndI f4 f5))); (repeat (any_goals (first | ((with_reducible refine evL_one ?_ ?_); rfl; intro K hK; simp only [go_sem, W]; ((repeat (refine ndI (by first | assumption) ?_)); refine hK _ ?_; clear hK K)) | (with_reducible first | (refine evL_nil ?_; refine hR _ ?_; clear hR R) | ((first | refine evC_seq ?_ | refine evC_block ?_); intro Ψ hΨ hΨ') | (refine evC_region ?_; intro R hR) | (refine hΨ _ ?_; clear hΨ hΨ' Ψ) | refine evC_skip ?_) | ((with_reducible apply evL_grd); rfl; rfl; rfl; all_goals (intro hb; first | (cases hb; done) | ((try simp only [Bool.not_true, Bool.not_false] at hb); (first | ((with_reducible intro K hK); simp only [go_sem, W]; ((repeat (refine ndI (by first | assumption) ?_)); refine hK _ ?_; clear hK K)))))) | ((with_reducible apply evC_cond); rfl; rfl; all_goals (intro hc; first | (cases hc; done) | (try simp only at hc)))))))
    refine evC_loop (α := { i : Nat // i ≤ c.length ∧ c.take i = c'.take i }) (fun x => ⟨[.any, .any, .ptr 2 0, .ptr 3 0, vb false, .any, .any, .any, .any, .any, .any, .any, .any, .any, .any, .any, .any, .any, .any, .any, .any, .any, .any, .any, .any, .any, .any, .any, .any, .any, .any, .any, .any, .any, .any, .any, .any, .any, .any, .any, .any, .any, .any, .any, .any, .any, vi .i64 c.length, vi .i64 (x.1 : Int), .any, .any, .any, .any, .any, .any, .any, .any, .any, .any, .any, .any, .any, .any, .any, .any, .any, .any, .any, .any, .any, .any, .any, .any, .any, .any, .any, .any, .any, .any, .any, .any], [(2, ac8 a b n (bsV c) (psV s)), (3, ac8 a' b' n' (bsV c') (psV s'))]⟩) (fun x => c.length - x.1) ⟨0, Nat.zero_le _, rfl⟩ (St.le_of (by simp [leT]) (by simp [leH, hget])) ?_
    rintro ⟨i, hi, hok⟩ Ψ hΨ hΨ'
    (try dsimp only at hΨ ⊢)
    have k7 : (i : Int) + 1 = ((i + 1 : Nat) : Int) := by omega
    rcases Nat.lt_or_ge i c.length with hlt | hge
    · obtain ⟨p, hp⟩ : ∃ p, c[i]? = some p := ⟨_, List.getElem?_eq_getElem hlt⟩
      obtain ⟨p', hp'⟩ : ∃ p, c'[i]? = some p := ⟨_, List.getElem?_eq_getElem (by omega)⟩
      have k1 : (decide ((i : Int) < (c.length : Int))) = true := decide_eq_true (by omega)
      have k2 := bs_at hp
      have k3 := bs_at hp'
      have hlt' : i < c'.length := by omega
      by_cases he : p = p'
      · have k4 : ((p : Int) != (p' : Int)) = false := by rw [he]; simp
        (have W := ndI k1 (ndI k2 (ndI k3 (ndI k4 (ndI k7 @wrI)))); (repeat (any_goals (first | ((with_reducible refine evL_one ?_ ?_); rfl; intro K hK; simp (disch := omega) only [go_sem, W, Nat.mul_one]; ((repeat (refine ndI (by first | assumption | rfl) ?_)); refine hK _ ?_; clear hK K)) | (with_reducible first | (refine evL_nil ?_; refine hR _ ?_; clear hR R) | ((first | refine evC_seq ?_ | refine evC_block ?_); intro Ψ hΨ hΨ') | (refine evC_region ?_; intro R hR) | (refine hΨ _ ?_; clear hΨ hΨ' Ψ) | refine evC_skip ?_) | ((with_reducible refine hΨ' _ _ ?_ ?_); (focus (simp; done)); clear hΨ hΨ' Ψ) | ((with_reducible apply evC_cond); rfl; rfl; all_goals (intro hc; first | (cases hc; done) | (try simp only at hc))) | ((with_reducible refine evD_nil ?_ ?_); kernel_rfl; (with_reducible refine hR _ ?_); clear hR R) | (((with_reducible apply evD_any); rfl; rfl; (simp (disch := omega) only [rdE, rdOf, go_sem, W, Nat.mul_one]; rfl); (intro τ hA hQ hN; ((try simp only [agree, Op.operands, Call.operands, go_sem, W, Nat.mul_one, go_sem, List.mem_cons, List.not_mem_nil, forall_eq_or_imp, forall_eq, List.append_toArray, Option.toArray] at hA); (try simp only [go_sem, W, Nat.mul_one, List.mem_cons, List.not_mem_nil, forall_eq_or_imp, forall_eq] at hQ hN); (first | (revert hA; intro hA)); (first | (revert hQ; intro hQ)); (first | (revert hN; intro hN)); simp (disch := omega) only [go_sem, W, Nat.mul_one, go_sem, hA, hQ, hN]; (repeat (refine ndI (by first | assumption | omega | rfl) ?_)); (first | apply eff_rd)))); (simp (disch := omega) only [St.eff, setO, hputs, go_sem, W, Nat.mul_one])) | ((with_reducible refine evC_draw ?_ ?_ ?_ ?_); kernel_rfl; kernel_rfl; (first | kernel_rfl); intro R hR)))))
        exact hΨ _ ⟨i + 1, hlt, take_next hp hp' hok he⟩ (by dsimp only; omega) (St.le_of (by simp [leT]) (by simp [leH, hget]))
      · have k4 : ((p : Int) != (p' : Int)) = true := by simp; omega
        have hf := hno (fun h => he (by rw [h.2.2.2.1] at hp; rw [hp] at hp'; exact Option.some.inj hp'))
        (have W := ndI k1 (ndI k2 (ndI k3 (ndI k4 (ndI k7 @wrI)))); (repeat (any_goals (first | ((with_reducible refine evL_one ?_ ?_); rfl; intro K hK; simp (disch := omega) only [go_sem, W, Nat.mul_one]; ((repeat (refine ndI (by first | assumption | rfl) ?_)); refine hK _ ?_; clear hK K)) | (with_reducible first | (refine evL_nil ?_; refine hR _ ?_; clear hR R) | ((first | refine evC_seq ?_ | refine evC_block ?_); intro Ψ hΨ hΨ') | (refine evC_region ?_; intro R hR) | (refine hΨ _ ?_; clear hΨ hΨ' Ψ) | refine evC_skip ?_ | refine evC_ret ?_) | ((with_reducible refine hΨ' _ _ ?_ ?_); (focus (simp; done)); clear hΨ hΨ' Ψ) | ((with_reducible apply evC_cond); rfl; rfl; all_goals (intro hc; first | (cases hc; done) | (try simp only at hc))) | ((with_reducible refine evD_nil ?_ ?_); kernel_rfl; (with_reducible refine hR _ ?_); clear hR R) | (((with_reducible apply evD_any); rfl; rfl; (simp (disch := omega) only [rdE, rdOf, go_sem, W, Nat.mul_one]; rfl); (intro τ hA hQ hN; ((try simp only [agree, Op.operands, Call.operands, go_sem, W, Nat.mul_one, go_sem, List.mem_cons, List.not_mem_nil, forall_eq_or_imp, forall_eq, List.append_toArray, Option.toArray] at hA); (try simp only [go_sem, W, Nat.mul_one, List.mem_cons, List.not_mem_nil, forall_eq_or_imp, forall_eq] at hQ hN); (first | (revert hA; intro hA)); (first | (revert hQ; intro hQ)); (first | (revert hN; intro hN)); simp (disch := omega) only [go_sem, W, Nat.mul_one, go_sem, hA, hQ, hN]; (repeat (refine ndI (by first | assumption | omega | rfl) ?_)); (first | apply eff_rd)))); (simp (disch := omega) only [St.eff, setO, hputs, go_sem, W, Nat.mul_one])) | ((with_reducible refine evC_draw ?_ ?_ ?_ ?_); kernel_rfl; kernel_rfl; (first | kernel_rfl); intro R hR)))))
        all_goals rw [hf]
        all_goals (refine ⟨by simp, ⟨_, ?_, AV.le_refl _⟩, leH_get (by simp [leH, hget])⟩; simp only [Tryz.results101, resL, ldA, oneOf, go_sem])
    · have k1 : (decide ((i : Int) < (c.length : Int))) = false := decide_eq_false (by omega)
      have g6 : c = c' := by rwa [List.take_of_length_le hge, List.take_of_length_le (by omega)] at hok
      (repeat (any_goals (first | ((with_reducible refine evL_one ?_ ?_); rfl; intro K hK; simp only [go_sem, k1]; ((repeat (refine ndI (by first | assumption) ?_)); refine hK _ ?_; clear hK K)) | (with_reducible first | (refine evL_nil ?_; refine hR _ ?_; clear hR R) | ((first | refine evC_seq ?_ | refine evC_block ?_); intro Ψ hΨ hΨ') | (refine evC_region ?_; intro R hR) | (refine hΨ _ ?_; clear hΨ hΨ' Ψ) | refine evC_exit ?_) | ((with_reducible refine hΨ' _ _ ?_ ?_); (focus (simp; done)); clear hΨ hΨ' Ψ) | ((with_reducible apply evC_cond); rfl; rfl; all_goals (intro hc; first | (cases hc; done) | (try simp only at hc))))))
      refine evC_loop (α := { i : Nat // i ≤ s.length ∧ s.take i = s'.take i }) (fun x => ⟨[.any, .any, .ptr 2 0, .ptr 3 0, vb false, .any, .any, .any, .any, .any, .any, .any, .any, .any, .any, .any, .any, .any, .any, .any, .any, .any, .any, .any, .any, .any, .any, .any, .any, .any, .any, .any, .any, .any, .any, .any, .any, .any, .any, .any, .any, .any, .any, .any, .any, .any, .any, .any, .any, .any, .any, .any, .any, .any, .any, .any, .any, .any, .any, .any, .any, .any, .any, .any, vi .i64 s.length, vi .i64 (x.1 : Int), .any, .any, .any, .any, .any, .any, .any, .any, .any, .any, .any, .any, .any, .any], [(2, ac8 a b n (bsV c) (psV s)), (3, ac8 a' b' n' (bsV c') (psV s'))]⟩) (fun x => s.length - x.1) ⟨0, Nat.zero_le _, rfl⟩ (St.le_of (by simp [leT]) (by simp [leH, hget])) ?_
      rintro ⟨i, hi, hok⟩ Ψ hΨ hΨ'
      (try dsimp only at hΨ ⊢)
      have k7 : (i : Int) + 1 = ((i + 1 : Nat) : Int) := by omega
      rcases Nat.lt_or_ge i s.length with hlt | hge
      · obtain ⟨p, hp⟩ : ∃ p, s[i]? = some p := ⟨_, List.getElem?_eq_getElem hlt⟩
        obtain ⟨p', hp'⟩ : ∃ p, s'[i]? = some p := ⟨_, List.getElem?_eq_getElem (by omega)⟩
        have k1 : (decide ((i : Int) < (s.length : Int))) = true := decide_eq_true (by omega)
        have k2 := ps_at hp
        have k3 := ps_at hp'
        have hlt' : i < s'.length := by omega
        have k4 := pr_eq (u7 p (List.mem_of_getElem? hp)) (v7 p' (List.mem_of_getElem? hp'))
        by_cases he : p = p'
        · rw [decide_eq_true he] at k4
          (have W := ndI k1 (ndI k2 (ndI k3 (ndI k4 (ndI k7 @wrI)))); (repeat (any_goals (first | ((with_reducible refine evL_one ?_ ?_); rfl; intro K hK; simp (disch := omega) only [go_sem, W]; ((repeat (refine ndI (by first | assumption | rfl) ?_)); refine hK _ ?_; clear hK K)) | (with_reducible first | (refine evL_nil ?_; refine hR _ ?_; clear hR R) | ((first | refine evC_seq ?_ | refine evC_block ?_); intro Ψ hΨ hΨ') | (refine evC_region ?_; intro R hR) | (refine hΨ _ ?_; clear hΨ hΨ' Ψ) | refine evC_skip ?_) | ((with_reducible refine hΨ' _ _ ?_ ?_); (focus (simp; done)); clear hΨ hΨ' Ψ) | ((with_reducible apply evC_cond); rfl; rfl; all_goals (intro hc; first | (cases hc; done) | (try simp only at hc))) | ((with_reducible refine evD_nil ?_ ?_); kernel_rfl; (with_reducible refine hR _ ?_); clear hR R) | (((with_reducible apply evD_any); rfl; rfl; (simp (disch := omega) only [rdE, rdOf, go_sem, W]; rfl); (intro τ hA hQ hN; ((try simp only [agree, Op.operands, Call.operands, go_sem, W, go_sem, List.mem_cons, List.not_mem_nil, forall_eq_or_imp, forall_eq, List.append_toArray, Option.toArray] at hA); (try simp only [go_sem, W, List.mem_cons, List.not_mem_nil, forall_eq_or_imp, forall_eq] at hQ hN); (first | (revert hA; intro hA)); (first | (revert hQ; intro hQ)); (first | (revert hN; intro hN)); simp (disch := omega) only [go_sem, W, go_sem, hA, hQ, hN]; (repeat (refine ndI (by first | assumption | omega | rfl) ?_)); (first | apply eff_rd)))); (simp (disch := omega) only [St.eff, setO, hputs, go_sem, W])) | ((with_reducible refine evC_draw ?_ ?_ ?_ ?_); kernel_rfl; kernel_rfl; (first | kernel_rfl); intro R hR)))))
          exact hΨ _ ⟨i + 1, hlt, take_next hp hp' hok he⟩ (by dsimp only; omega) (St.le_of (by simp [leT]) (by simp [leH, hget]))
        · rw [decide_eq_false he] at k4
          have hf := hno (fun h => he (by rw [h.2.2.2.2] at hp; rw [hp] at hp'; exact Option.some.inj hp'))
          (have W := ndI k1 (ndI k2 (ndI k3 (ndI k4 (ndI k7 @wrI)))); (repeat (any_goals (first | ((with_reducible refine evL_one ?_ ?_); rfl; intro K hK; simp (disch := omega) only [go_sem, W]; ((repeat (refine ndI (by first | assumption | rfl) ?_)); refine hK _ ?_; clear hK K)) | (with_reducible first | (refine evL_nil ?_; refine hR _ ?_; clear hR R) | ((first | refine evC_seq ?_ | refine evC_block ?_); intro Ψ hΨ hΨ') | (refine evC_region ?_; intro R hR) | (refine hΨ _ ?_; clear hΨ hΨ' Ψ) | refine evC_skip ?_ | refine evC_ret ?_) | ((with_reducible refine hΨ' _ _ ?_ ?_); (focus (simp; done)); clear hΨ hΨ' Ψ) | ((with_reducible apply evC_cond); rfl; rfl; all_goals (intro hc; first | (cases hc; done) | (try simp only at hc))) | ((with_reducible refine evD_nil ?_ ?_); kernel_rfl; (with_reducible refine hR _ ?_); clear hR R) | (((with_reducible apply evD_any); rfl; rfl; (simp (disch := omega) only [rdE, rdOf, go_sem, W]; rfl); (intro τ hA hQ hN; ((try simp only [agree, Op.operands, Call.operands, go_sem, W, go_sem, List.mem_cons, List.not_mem_nil, forall_eq_or_imp, forall_eq, List.append_toArray, Option.toArray] at hA); (try simp only [go_sem, W, List.mem_cons, List.not_mem_nil, forall_eq_or_imp, forall_eq] at hQ hN); (first | (revert hA; intro hA)); (first | (revert hQ; intro hQ)); (first | (revert hN; intro hN)); simp (disch := omega) only [go_sem, W, go_sem, hA, hQ, hN]; (repeat (refine ndI (by first | assumption | omega | rfl) ?_)); (first | apply eff_rd)))); (simp (disch := omega) only [St.eff, setO, hputs, go_sem, W])) | ((with_reducible refine evC_draw ?_ ?_ ?_ ?_); kernel_rfl; kernel_rfl; (first | kernel_rfl); intro R hR)))))
          all_goals rw [hf]
          all_goals (refine ⟨by simp, ⟨_, ?_, AV.le_refl _⟩, leH_get (by simp [leH, hget])⟩; simp only [Tryz.results101, resL, ldA, oneOf, go_sem])
      · have k1 : (decide ((i : Int) < (s.length : Int))) = false := decide_eq_false (by omega)
        have g7 : s = s' := by rwa [List.take_of_length_le hge, List.take_of_length_le (by omega)] at hok
        (repeat (any_goals (first | ((with_reducible refine evL_one ?_ ?_); rfl; intro K hK; simp only [go_sem, k1]; ((repeat (refine ndI (by first | assumption) ?_)); refine hK _ ?_; clear hK K)) | (with_reducible first | (refine evL_nil ?_; refine hR _ ?_; clear hR R) | ((first | refine evC_seq ?_); intro Ψ hΨ hΨ') | (refine evC_region ?_; intro R hR) | (refine hΨ _ ?_; clear hΨ hΨ' Ψ) | refine evC_ret ?_ | refine evC_exit ?_) | ((with_reducible refine hΨ' _ _ ?_ ?_); (focus (simp; done)); clear hΨ hΨ' Ψ) | ((with_reducible apply evC_cond); rfl; rfl; all_goals (intro hc; first | (cases hc; done) | (try simp only at hc))))))
        all_goals rw [hyes g1 g2 g3 g6 g7]
        all_goals (refine ⟨by simp, ⟨_, ?_, AV.le_refl _⟩, leH_get (by simp [leH, hget])⟩; simp only [Tryz.results101, resL, ldA, oneOf, go_sem])
  · have hf : rr = false := hno fun ⟨h1, h2, h3, h4, h5⟩ => hq (by rw [← e1, ← e2, ← e3, ← e4, ← e5]; subst h1 h2 h3 h4 h5; simp)
    rw [hf]
    have hq : (q1 && q2 && q3 && q4 && q5) = false := by simpa using hq
    clear e1 e2 e3 e4 e5 hno hyes hrr
    cases q1 <;> cases q2 <;> cases q3 <;> cases q4 <;> cases q5
    all_goals first | (cases hq; done) | skip
    all_goals simp only [Bool.not_true, Bool.not_false] at f1 f3 f4 f5
    all_goals (refine fn_of Tryz.func101 rfl (by rfl) ?_; simp only [Tryz.ntmps101, List.length_cons, List.length_nil, Nat.reduceAdd, Nat.reduceSub, List.replicate, List.cons_append, List.nil_append])
    all_goals (have W := ndI f1 (ndI f2 (ndI f3 (ndI f4 f5))); (repeat (any_goals (first | ((with_reducible refine evL_one ?_ ?_); rfl; intro K hK; simp only [go_sem, W]; ((repeat (refine ndI (by first | assumption) ?_)); refine hK _ ?_; clear hK K)) | (with_reducible first | (refine evL_nil ?_; refine hR _ ?_; clear hR R) | ((first | refine evC_seq ?_); intro Ψ hΨ hΨ') | (refine evC_region ?_; intro R hR) | (refine hΨ _ ?_; clear hΨ hΨ' Ψ) | refine evC_ret ?_) | ((with_reducible refine hΨ' _ _ ?_ ?_); (focus (simp; done)); clear hΨ hΨ' Ψ) | ((with_reducible apply evL_grd); rfl; rfl; rfl; all_goals (intro hb; first | (cases hb; done) | ((try simp only [Bool.not_true, Bool.not_false] at hb); (first | ((with_reducible intro K hK); simp only [go_sem, W]; ((repeat (refine ndI (by first | assumption) ?_)); refine hK _ ?_; clear hK K)) | ((fail_if_success (with_reducible intro _)); simp only [go_sem, W]))))) | ((with_reducible apply evC_cond); rfl; rfl; all_goals (intro hc; first | (cases hc; done) | (try simp only at hc)))))))
    all_goals (refine ⟨by simp, ⟨_, ?_, AV.le_refl _⟩, leH_get (by simp [leH, hget])⟩; simp only [Tryz.results101, resL, ldA, oneOf, go_sem])
theorem rsame_fn (e1 e2 : Bool) (L M : List Ac) (hl : L.length ≤ maxLen) (hm : M.length ≤ maxLen) (ol : ∀ x ∈ L, x.ok) (om : ∀ x ∈ M, x.ok) : Fn Tryz.prog 59 [stA e1 L, stA e2 M] [] (vb (decide (L = M))) [] := by
  obtain ⟨rr, hrr⟩ : ∃ r, decide (L = M) = r := ⟨_, rfl⟩
  rw [hrr]
  have k8 : L.length < 9223372036854775808 := Nat.lt_succ_of_le hl
  by_cases hlen : L.length = M.length
  · have f1 : ((L.length : Int) != (M.length : Int)) = false := by rw [hlen]; simp
    (refine fn_of Tryz.func59 rfl (by rfl) ?_; simp only [Tryz.ntmps59, List.length_cons, List.length_nil, Nat.reduceAdd, Nat.reduceSub, List.replicate, List.cons_append, List.nil_append])
    (repeat (any_goals (first | ((with_reducible refine evL_one ?_ ?_); rfl; intro K hK; simp only [go_sem, f1]; ((repeat (refine ndI (by first | assumption) ?_)); refine hK _ ?_; clear hK K)) | (with_reducible first | (refine evL_nil ?_; refine hR _ ?_; clear hR R) | ((first | refine evC_seq ?_ | refine evC_block ?_); intro Ψ hΨ hΨ') | (refine evC_region ?_; intro R hR) | (refine hΨ _ ?_; clear hΨ hΨ' Ψ) | refine evC_skip ?_) | ((with_reducible apply evC_cond); rfl; rfl; all_goals (intro hc; first | (cases hc; done) | (try simp only at hc))))))
    refine evC_loop (α := { i : Nat // i ≤ L.length ∧ L.take i = M.take i }) (fun x => ⟨[.any, .any, .ptr 2 0, .ptr 3 0, vb false, .any, .any, .any, .any, .any, .any, .any, .any, .any, .any, vi .i64 L.length, vi .i64 (x.1 : Int), .any, .any, .any, .any, .any, .any, .any, .any, .any, .any, .any, .any, .any, .any, .any], [(2, [acS e1 L]), (3, [acS e2 M])]⟩) (fun x => L.length - x.1) ⟨0, Nat.zero_le _, rfl⟩ (St.le_of (by simp [leT]) (by simp [leH, hget])) ?_
    rintro ⟨i, hi, hok⟩ Ψ hΨ hΨ'
    (try dsimp only at hΨ ⊢)
    have k7 : (i : Int) + 1 = ((i + 1 : Nat) : Int) := by omega
    rcases Nat.lt_or_ge i L.length with hlt | hge
    · obtain ⟨p, hp⟩ : ∃ p, L[i]? = some p := ⟨_, List.getElem?_eq_getElem hlt⟩
      obtain ⟨p', hp'⟩ : ∃ p, M[i]? = some p := ⟨_, List.getElem?_eq_getElem (by omega)⟩
      have k1 : (decide ((i : Int) < (L.length : Int))) = true := decide_eq_true (by omega)
      have k2 := ac_at hp
      have k3 := ac_at hp'
      have hlt' : i < M.length := by omega
      have sa := rsameacc_fn p p' (ol p (List.mem_of_getElem? hp)) (om p' (List.mem_of_getElem? hp'))
      by_cases he : p = p'
      · rw [decide_eq_true he] at sa
        (have W := ndI k1 (ndI k2 (ndI k3 (ndI k7 @wrI))); (repeat (any_goals (first | ((with_reducible refine evL_one ?_ ?_); rfl; intro K hK; simp (disch := omega) only [go_sem, W]; ((repeat (refine ndI (by first | assumption | rfl) ?_)); refine hK _ ?_; clear hK K)) | (with_reducible first | (refine evL_nil ?_; refine hR _ ?_; clear hR R) | ((first | refine evC_seq ?_ | refine evC_block ?_); intro Ψ hΨ hΨ') | (refine evC_region ?_; intro R hR) | (refine hΨ _ ?_; clear hΨ hΨ' Ψ) | refine evC_skip ?_) | ((with_reducible refine hΨ' _ _ ?_ ?_); (focus (simp; done)); clear hΨ hΨ' Ψ) | ((with_reducible apply evC_cond); rfl; rfl; all_goals (intro hc; first | (cases hc; done) | (try simp only at hc))) | ((with_reducible refine evD_nil ?_ ?_); kernel_rfl; (with_reducible refine hR _ ?_); clear hR R) | ((first | ((with_reducible apply evD_fcall); rfl; rfl; ((apply opF_callB (sa); rfl; rfl; rfl; rfl; exact Tryz.func101); kernel_rfl; rfl; (simp (disch := omega) only [go_sem, W]; rfl); (first | simp [AV.inNL, AV.inN]))) | ((with_reducible apply evD_any); rfl; rfl; (simp (disch := omega) only [rdE, rdOf, go_sem, W]; rfl); (intro τ hA hQ hN; ((try simp only [agree, Op.operands, Call.operands, go_sem, W, go_sem, List.mem_cons, List.not_mem_nil, forall_eq_or_imp, forall_eq, List.append_toArray, Option.toArray] at hA); (try simp only [go_sem, W, List.mem_cons, List.not_mem_nil, forall_eq_or_imp, forall_eq] at hQ hN); (first | (revert hA; intro hA)); (first | (revert hQ; intro hQ)); (first | (revert hN; intro hN)); simp (disch := omega) only [go_sem, W, go_sem, hA, hQ, hN]; (repeat (refine ndI (by first | assumption | omega | rfl) ?_)); (first | apply eff_rd))))); (simp (disch := omega) only [St.eff, setO, hputs, go_sem, W])) | ((with_reducible refine evC_draw ?_ ?_ ?_ ?_); kernel_rfl; kernel_rfl; (first | kernel_rfl); intro R hR)))))
        exact hΨ _ ⟨i + 1, hlt, take_next hp hp' hok he⟩ (by dsimp only; omega) (St.le_of (by simp [leT]) (by simp [leH, hget]))
      · rw [decide_eq_false he] at sa
        have hf : rr = false := by rw [← hrr]; exact decide_eq_false fun h => he (by rw [h] at hp; rw [hp] at hp'; exact Option.some.inj hp')
        (have W := ndI k1 (ndI k2 (ndI k3 (ndI k7 @wrI))); (repeat (any_goals (first | ((with_reducible refine evL_one ?_ ?_); rfl; intro K hK; simp (disch := omega) only [go_sem, W]; ((repeat (refine ndI (by first | assumption | rfl) ?_)); refine hK _ ?_; clear hK K)) | (with_reducible first | (refine evL_nil ?_; refine hR _ ?_; clear hR R) | ((first | refine evC_seq ?_ | refine evC_block ?_); intro Ψ hΨ hΨ') | (refine evC_region ?_; intro R hR) | (refine hΨ _ ?_; clear hΨ hΨ' Ψ) | refine evC_skip ?_ | refine evC_ret ?_) | ((with_reducible refine hΨ' _ _ ?_ ?_); (focus (simp; done)); clear hΨ hΨ' Ψ) | ((with_reducible apply evC_cond); rfl; rfl; all_goals (intro hc; first | (cases hc; done) | (try simp only at hc))) | ((with_reducible refine evD_nil ?_ ?_); kernel_rfl; (with_reducible refine hR _ ?_); clear hR R) | ((first | ((with_reducible apply evD_fcall); rfl; rfl; ((apply opF_callB (sa); rfl; rfl; rfl; rfl; exact Tryz.func101); kernel_rfl; rfl; (simp (disch := omega) only [go_sem, W]; rfl); (first | simp [AV.inNL, AV.inN]))) | ((with_reducible apply evD_any); rfl; rfl; (simp (disch := omega) only [rdE, rdOf, go_sem, W]; rfl); (intro τ hA hQ hN; ((try simp only [agree, Op.operands, Call.operands, go_sem, W, go_sem, List.mem_cons, List.not_mem_nil, forall_eq_or_imp, forall_eq, List.append_toArray, Option.toArray] at hA); (try simp only [go_sem, W, List.mem_cons, List.not_mem_nil, forall_eq_or_imp, forall_eq] at hQ hN); (first | (revert hA; intro hA)); (first | (revert hQ; intro hQ)); (first | (revert hN; intro hN)); simp (disch := omega) only [go_sem, W, go_sem, hA, hQ, hN]; (repeat (refine ndI (by first | assumption | omega | rfl) ?_)); (first | apply eff_rd))))); (simp (disch := omega) only [St.eff, setO, hputs, go_sem, W])) | ((with_reducible refine evC_draw ?_ ?_ ?_ ?_); kernel_rfl; kernel_rfl; (first | kernel_rfl); intro R hR)))))
        all_goals rw [hf]
        all_goals (refine ⟨by simp, ⟨_, ?_, AV.le_refl _⟩, leH_get (by simp [leH, hget])⟩; simp only [Tryz.results59, resL, ldA, oneOf, go_sem])
    · have k1 : (decide ((i : Int) < (L.length : Int))) = false := decide_eq_false (by omega)
      have hf : rr = true := by rw [← hrr]; exact decide_eq_true (by rwa [List.take_of_length_le hge, List.take_of_length_le (by omega)] at hok)
      (repeat (any_goals (first | ((with_reducible refine evL_one ?_ ?_); rfl; intro K hK; simp only [go_sem, k1]; ((repeat (refine ndI (by first | assumption) ?_)); refine hK _ ?_; clear hK K)) | (with_reducible first | (refine evL_nil ?_; refine hR _ ?_; clear hR R) | ((first | refine evC_seq ?_); intro Ψ hΨ hΨ') | (refine evC_region ?_; intro R hR) | (refine hΨ _ ?_; clear hΨ hΨ' Ψ) | refine evC_ret ?_ | refine evC_exit ?_) | ((with_reducible refine hΨ' _ _ ?_ ?_); (focus (simp; done)); clear hΨ hΨ' Ψ) | ((with_reducible apply evC_cond); rfl; rfl; all_goals (intro hc; first | (cases hc; done) | (try simp only at hc))))))
      all_goals rw [hf]
      all_goals (refine ⟨by simp, ⟨_, ?_, AV.le_refl _⟩, leH_get (by simp [leH, hget])⟩; simp only [Tryz.results59, resL, ldA, oneOf, go_sem])
  · have f1 : ((L.length : Int) != (M.length : Int)) = true := by simp; omega
    have hf : rr = false := by rw [← hrr]; exact decide_eq_false fun h => hlen (by rw [h])
    rw [hf]
    (refine fn_of Tryz.func59 rfl (by rfl) ?_; simp only [Tryz.ntmps59, List.length_cons, List.length_nil, Nat.reduceAdd, Nat.reduceSub, List.replicate, List.cons_append, List.nil_append])
    (repeat (any_goals (first | ((with_reducible refine evL_one ?_ ?_); rfl; intro K hK; simp only [go_sem, f1]; ((repeat (refine ndI (by first | assumption) ?_)); refine hK _ ?_; clear hK K)) | (with_reducible first | (refine evL_nil ?_; refine hR _ ?_; clear hR R) | ((first | refine evC_seq ?_); intro Ψ hΨ hΨ') | (refine evC_region ?_; intro R hR) | (refine hΨ _ ?_; clear hΨ hΨ' Ψ) | refine evC_ret ?_) | ((with_reducible refine hΨ' _ _ ?_ ?_); (focus (simp; done)); clear hΨ hΨ' Ψ) | ((with_reducible apply evC_cond); rfl; rfl; all_goals (intro hc; first | (cases hc; done) | (try simp only at hc))))))
    all_goals (refine ⟨by simp, ⟨_, ?_, AV.le_refl _⟩, leH_get (by simp [leH, hget])⟩; simp only [Tryz.results59, resL, ldA, oneOf, go_sem])
end Go.Proofs.YtmidmaeihpldhaaGreat
namespace Go.Proofs.YtmidmaeihpldhaaGreat.lg
open Go.RowKit
set_option maxRecDepth 20000
set_option maxHeartbeats 2000000
theorem lastA_succ {l : List Hd} {i : Nat} {y : Hd} (h : l[i]? = some y) : lastA l (i + 1) = y.a := by
  show (match l[i]? with | some y => y.a | none => 0) = y.a
  rw [h]
theorem tot_cons (h : Hd) (l : List Hd) : tot (h :: l) = h.p + h.s + tot l := by simp [tot]
end Go.Proofs.YtmidmaeihpldhaaGreat.lg
namespace Go.Proofs.YtmidmaeihpldhaaGreat.lg
open Go.RowKit
def lp (h : Hd) : Bool → List Hd → List Hd
  | laid, [] => if laid = true then [] else [h]
  | laid, y :: l => if laid = false ∧ h.a ≤ y.a then h :: ((if y.a = h.a then [] else [y]) ++ lp h true l) else (if y.a = h.a then [] else [y]) ++ lp h laid l
end Go.Proofs.YtmidmaeihpldhaaGreat.lg
namespace Go.Proofs.YtmidmaeihpldhaaGreat.lg
open Go.RowKit
open Nat (reduceBEq)
set_option maxRecDepth 20000
set_option maxHeartbeats 2000000
theorem rnone_fn (x : Nat) (hx : x < WW) : Fn Tryz.prog 80 [wN x] [] (vb (decide (x = 0))) [] := by
  have f := wN_zero hx
  obtain ⟨q, hq⟩ : ∃ q, decide (x = 0) = q := ⟨_, rfl⟩
  rw [hq] at f ⊢
  clear hq hx
  (refine fn_of Tryz.func80 rfl (by rfl) ?_; simp only [Tryz.ntmps80, List.length_cons, List.length_nil, Nat.reduceAdd, Nat.reduceSub, List.replicate, List.cons_append, List.nil_append])
  (repeat (any_goals (first | ((with_reducible refine evL_one ?_ ?_); rfl; intro K hK; simp only [go_sem]; ((repeat (refine ndI (by first | assumption | omega) ?_)); refine hK _ ?_; clear hK K)) | (with_reducible first | (refine evL_nil ?_; refine hR _ ?_; clear hR R) | ((first | refine evC_seq ?_); intro Ψ hΨ hΨ') | (refine evC_region ?_; intro R hR) | (refine hΨ _ ?_; clear hΨ hΨ' Ψ) | refine evC_ret ?_) | ((with_reducible apply evL_grd); rfl; rfl; rfl; all_goals (intro hb; first | (cases hb; done) | ((try simp only [Bool.not_true, Bool.not_false] at hb); (first | ((with_reducible intro K hK); simp only [go_sem]; ((repeat (refine ndI (by first | assumption | omega) ?_)); refine hK _ ?_; clear hK K)) | ((fail_if_success (with_reducible intro _)); simp only [go_sem]))))))))
  all_goals (refine ⟨by simp, ⟨_, ?_, AV.le_refl _⟩, leH_get (by simp [leH, hget])⟩; simp only [Tryz.results80, resL, ldA, oneOf, go_sem])
  all_goals simp_all
def rsm (n : Nat) : List Hd → Nat × Bool
  | [] => (n, true)
  | h :: l => if WW ≤ n + h.p then ((n + h.p) % WW, false) else if WW ≤ n + h.p + h.s then ((n + h.p + h.s) % WW, false) else rsm (n + h.p + h.s) l
theorem rsm_drop {n : Nat} {L : List Hd} {i : Nat} {y : Hd} (hx : L[i]? = some y) : rsm n (L.drop i) = if WW ≤ n + y.p then ((n + y.p) % WW, false) else if WW ≤ n + y.p + y.s then ((n + y.p + y.s) % WW, false) else rsm (n + y.p + y.s) (L.drop (i + 1)) := by
  obtain ⟨hl, rfl⟩ := List.getElem?_eq_some_iff.1 hx
  rw [List.drop_eq_getElem_cons hl]; rfl
theorem rsm_flag : ∀ {l : List Hd} {n : Nat}, n < WW → (rsm n l).2 = decide (n + tot l < WW)
  | [], n, hn => by
    have : n + tot [] < WW := by simpa [tot] using hn
    rw [decide_eq_true this]; rfl
  | h :: l, n, hn => by
    unfold rsm
    rw [tot_cons]
    by_cases h1 : WW ≤ n + h.p
    · rw [if_pos h1, decide_eq_false (by omega)]
    · rw [if_neg h1]
      by_cases h2 : WW ≤ n + h.p + h.s
      · rw [if_pos h2, decide_eq_false (by omega)]
      · rw [if_neg h2, rsm_flag (Nat.lt_of_not_le h2)]
        exact decide_eq_decide.2 (by omega)
theorem rsum_fn (ex : Bool) (l : List Hd) (hl : l.length ≤ 1000) (ok : ∀ h ∈ l, h.ok) : Fn Tryz.prog 81 [lg ex l] [] (.tup [wN (rsm 0 l).1, vb (rsm 0 l).2]) [] := by
  obtain ⟨R, hR⟩ : ∃ R, rsm 0 l = R := ⟨_, rfl⟩
  rw [hR]
  (refine fn_of Tryz.func81 rfl (by rfl) ?_; simp only [Tryz.ntmps81, List.length_cons, List.length_nil, Nat.reduceAdd, Nat.reduceSub, List.replicate, List.cons_append, List.nil_append])
  (repeat (any_goals (first | ((with_reducible refine evL_one ?_ ?_); rfl; intro K hK; simp only [go_sem]; ((repeat (refine ndI (by first | assumption) ?_)); refine hK _ ?_; clear hK K)) | (with_reducible first | (refine evL_nil ?_; refine hR _ ?_; clear hR R) | ((first | refine evC_seq ?_ | refine evC_block ?_); intro Ψ hΨ hΨ') | (refine evC_region ?_; intro R hR) | (refine hΨ _ ?_; clear hΨ hΨ' Ψ)))))
  refine evC_loop (α := { s : Nat × Nat // s.1 ≤ l.length ∧ s.2 < WW ∧ rsm s.2 (l.drop s.1) = R }) (fun s => ⟨[.any, .ptr 1 0, .ptr 2 0, vb false, .ptr 4 0, vb false, vi .i64 (s.1.1 : Int), .any, .any, .any, .any, .any, .any, .any, .any, .any, .any, .any, .any, .any, .any, .any, .any, .any, .any, .any, .any, .any, .any, .any, .any, .any, .any, .any, .any, .any, .any, .any, .any, .any, .any], [(1, [hsl ex l]), (2, [vi .u64 0, vi .u64 0, vi .u64 0, vi .u64 0]), (4, cW s.1.2)]⟩) (fun s => l.length - s.1.1) ⟨(0, 0), Nat.zero_le _, by decide, by simpa using hR⟩ (St.le_of (by simp [leT]) (by simp [leH, hget, l0_zero, l1_zero, l2_zero, l3_zero])) ?_
  rintro ⟨⟨i, n⟩, hi, hn, hok⟩ Ψ hΨ hΨ'
  (try dsimp only at hi hn hok hΨ ⊢)
  rcases Nat.lt_or_ge i l.length with hlt | hge
  · obtain ⟨y, hy⟩ : ∃ x, l[i]? = some x := ⟨_, List.getElem?_eq_getElem hlt⟩
    have k1 : (decide ((i : Int) < (l.length : Int))) = true := decide_eq_true (by omega)
    have k2 := hsl_at hy
    have k7 : (i : Int) + 1 = ((i + 1 : Nat) : Int) := by omega
    obtain ⟨_, op, os, _, _⟩ := ok y (List.mem_of_getElem? hy)
    rw [rsm_drop hy] at hok
    have a1 := refadd_fn n y.p hn op
    by_cases h1 : WW ≤ n + y.p
    · rw [if_pos h1] at hok
      rw [decide_eq_true h1] at a1
      generalize (n + y.p) % WW = m at a1 hok
      (repeat (any_goals (first | ((with_reducible refine evL_one ?_ ?_); rfl; intro K hK; simp only [go_sem, k1, k2]; ((repeat (refine ndI (by first | assumption) ?_)); refine hK _ ?_; clear hK K)) | (with_reducible first | (refine evL_nil ?_; refine hR _ ?_; clear hR R) | ((first | refine evC_seq ?_ | refine evC_block ?_); intro Ψ hΨ hΨ') | (refine evC_region ?_; intro R hR) | (refine hΨ _ ?_; clear hΨ hΨ' Ψ) | refine evC_skip ?_ | refine evC_ret ?_) | ((with_reducible refine hΨ' _ _ ?_ ?_); (focus (simp; done)); clear hΨ hΨ' Ψ) | ((with_reducible apply evC_cond); rfl; rfl; all_goals (intro hc; first | (cases hc; done) | (try simp only at hc))) | ((with_reducible refine evD_nil ?_ ?_); kernel_rfl; (with_reducible refine hR _ ?_); clear hR R) | ((first | ((with_reducible apply evD_fcall); rfl; rfl; ((apply opF_callB (a1); rfl; rfl; rfl; rfl; exact Tryz.func109); kernel_rfl; rfl; (simp only [go_sem, k1, k2]; rfl); (first | simp [AV.inNL, AV.inN]))) | ((with_reducible apply evD_any); rfl; rfl; (simp only [rdE, rdOf, go_sem, k1, k2]; rfl); (intro τ hA hQ hN; ((try simp only [agree, Op.operands, Call.operands, go_sem, k1, k2, go_sem, List.mem_cons, List.not_mem_nil, forall_eq_or_imp, forall_eq, List.append_toArray, Option.toArray] at hA); (try simp only [go_sem, k1, k2, List.mem_cons, List.not_mem_nil, forall_eq_or_imp, forall_eq] at hQ hN); (first | (revert hA; intro hA)); (first | (revert hQ; intro hQ)); (first | (revert hN; intro hN)); simp only [go_sem, k1, k2, go_sem, hA, hQ, hN]; (repeat (refine ndI (by first | assumption | omega) ?_)); (first | apply eff_rd | apply eff_st))))); (simp only [St.eff, setO, hputs, go_sem, k1, k2])) | ((with_reducible refine evC_draw ?_ ?_ ?_ ?_); kernel_rfl; kernel_rfl; (first | kernel_rfl); intro R hR))))
      all_goals rw [← hok]
      all_goals (refine ⟨by simp, ⟨_, ?_, AV.le_refl _⟩, leH_get (by simp [leH, hget])⟩; simp only [Tryz.results81, resL, ldA, oneOf, go_sem])
    · have h1' : n + y.p < WW := Nat.lt_of_not_le h1
      rw [if_neg h1] at hok
      rw [decide_eq_false h1, Nat.mod_eq_of_lt h1'] at a1
      have a2 := refadd_fn (n + y.p) y.s h1' os
      obtain ⟨n1, hn1⟩ : ∃ n1, n + y.p = n1 := ⟨_, rfl⟩
      rw [hn1] at a1 a2 hok
      by_cases h2 : WW ≤ n1 + y.s
      · rw [if_pos h2] at hok
        rw [decide_eq_true h2] at a2
        generalize (n1 + y.s) % WW = m at a2 hok
        (repeat (any_goals (first | ((with_reducible refine evL_one ?_ ?_); rfl; intro K hK; simp only [go_sem, k1, k2]; ((repeat (refine ndI (by first | assumption) ?_)); refine hK _ ?_; clear hK K)) | (with_reducible first | (refine evL_nil ?_; refine hR _ ?_; clear hR R) | ((first | refine evC_seq ?_ | refine evC_block ?_); intro Ψ hΨ hΨ') | (refine evC_region ?_; intro R hR) | (refine hΨ _ ?_; clear hΨ hΨ' Ψ) | refine evC_skip ?_ | refine evC_ret ?_) | ((with_reducible refine hΨ' _ _ ?_ ?_); (focus (simp; done)); clear hΨ hΨ' Ψ) | ((with_reducible apply evC_cond); rfl; rfl; all_goals (intro hc; first | (cases hc; done) | (try simp only at hc))) | ((with_reducible refine evD_nil ?_ ?_); kernel_rfl; (with_reducible refine hR _ ?_); clear hR R) | ((first | ((with_reducible apply evD_fcall); rfl; rfl; (first | ((apply opF_callB (a1); rfl; rfl; rfl; rfl; exact Tryz.func109); kernel_rfl; rfl; (simp only [go_sem, k1, k2]; rfl); (first | simp [AV.inNL, AV.inN])) | ((apply opF_callB (a2); rfl; rfl; rfl; rfl; exact Tryz.func109); kernel_rfl; rfl; (simp only [go_sem, k1, k2]; rfl); (first | simp [AV.inNL, AV.inN])))) | ((with_reducible apply evD_any); rfl; rfl; (simp only [rdE, rdOf, go_sem, k1, k2]; rfl); (intro τ hA hQ hN; ((try simp only [agree, Op.operands, Call.operands, go_sem, k1, k2, go_sem, List.mem_cons, List.not_mem_nil, forall_eq_or_imp, forall_eq, List.append_toArray, Option.toArray] at hA); (try simp only [go_sem, k1, k2, List.mem_cons, List.not_mem_nil, forall_eq_or_imp, forall_eq] at hQ hN); (first | (revert hA; intro hA)); (first | (revert hQ; intro hQ)); (first | (revert hN; intro hN)); simp only [go_sem, k1, k2, go_sem, hA, hQ, hN]; (repeat (refine ndI (by first | assumption | omega) ?_)); (first | apply eff_rd | apply eff_st))))); (simp only [St.eff, setO, hputs, go_sem, k1, k2])) | ((with_reducible refine evC_draw ?_ ?_ ?_ ?_); kernel_rfl; kernel_rfl; (first | kernel_rfl); intro R hR))))
        all_goals rw [← hok]
        all_goals (refine ⟨by simp, ⟨_, ?_, AV.le_refl _⟩, leH_get (by simp [leH, hget])⟩; simp only [Tryz.results81, resL, ldA, oneOf, go_sem])
      · have h2' : n1 + y.s < WW := Nat.lt_of_not_le h2
        rw [if_neg h2] at hok
        rw [decide_eq_false h2, Nat.mod_eq_of_lt h2'] at a2
        obtain ⟨n2, hn2⟩ : ∃ n2, n1 + y.s = n2 := ⟨_, rfl⟩
        rw [hn2] at a2 hok h2'
        clear hn1 hn2 h1 h1' h2
        (have W := ndI k1 (ndI k2 (ndI k7 @wrI)); (repeat (any_goals (first | ((with_reducible refine evL_one ?_ ?_); rfl; intro K hK; simp (disch := omega) only [go_sem, W]; ((repeat (refine ndI (by first | assumption | rfl) ?_)); refine hK _ ?_; clear hK K)) | (with_reducible first | (refine evL_nil ?_; refine hR _ ?_; clear hR R) | ((first | refine evC_seq ?_ | refine evC_block ?_); intro Ψ hΨ hΨ') | (refine evC_region ?_; intro R hR) | (refine hΨ _ ?_; clear hΨ hΨ' Ψ) | refine evC_skip ?_) | ((with_reducible refine hΨ' _ _ ?_ ?_); (focus (simp; done)); clear hΨ hΨ' Ψ) | ((with_reducible apply evC_cond); rfl; rfl; all_goals (intro hc; first | (cases hc; done) | (try simp only at hc))) | ((with_reducible refine evD_nil ?_ ?_); kernel_rfl; (with_reducible refine hR _ ?_); clear hR R) | ((first | ((with_reducible apply evD_fcall); rfl; rfl; (first | ((apply opF_callB (a1); rfl; rfl; rfl; rfl; exact Tryz.func109); kernel_rfl; rfl; (simp (disch := omega) only [go_sem, W]; rfl); (first | simp [AV.inNL, AV.inN])) | ((apply opF_callB (a2); rfl; rfl; rfl; rfl; exact Tryz.func109); kernel_rfl; rfl; (simp (disch := omega) only [go_sem, W]; rfl); (first | simp [AV.inNL, AV.inN])))) | ((with_reducible apply evD_any); rfl; rfl; (simp (disch := omega) only [rdE, rdOf, go_sem, W]; rfl); (intro τ hA hQ hN; ((try simp only [agree, Op.operands, Call.operands, go_sem, W, go_sem, List.mem_cons, List.not_mem_nil, forall_eq_or_imp, forall_eq, List.append_toArray, Option.toArray] at hA); (try simp only [go_sem, W, List.mem_cons, List.not_mem_nil, forall_eq_or_imp, forall_eq] at hQ hN); (first | (revert hA; intro hA)); (first | (revert hQ; intro hQ)); (first | (revert hN; intro hN)); simp (disch := omega) only [go_sem, W, go_sem, hA, hQ, hN]; (repeat (refine ndI (by first | assumption | omega | rfl) ?_)); (first | apply eff_rd | apply eff_st))))); (simp (disch := omega) only [St.eff, setO, hputs, go_sem, W])) | ((with_reducible refine evC_draw ?_ ?_ ?_ ?_); kernel_rfl; kernel_rfl; (first | kernel_rfl); intro R hR)))))
        exact hΨ _ ⟨(i + 1, n2), hlt, h2', hok⟩ (by dsimp only; omega) (St.le_of (by simp [leT]) (by simp [leH, hget]))
  · have k1 : (decide ((i : Int) < (l.length : Int))) = false := decide_eq_false (by omega)
    rw [List.drop_eq_nil_of_le hge] at hok
    have e : R = (n, true) := hok.symm
    (repeat (any_goals (first | ((with_reducible refine evL_one ?_ ?_); rfl; intro K hK; simp only [go_sem, k1]; ((repeat (refine ndI (by first | assumption) ?_)); refine hK _ ?_; clear hK K)) | (with_reducible first | (refine evL_nil ?_; refine hR _ ?_; clear hR R) | ((first | refine evC_seq ?_); intro Ψ hΨ hΨ') | (refine evC_region ?_; intro R hR) | (refine hΨ _ ?_; clear hΨ hΨ' Ψ) | refine evC_ret ?_ | refine evC_exit ?_) | ((with_reducible refine hΨ' _ _ ?_ ?_); (focus (simp; done)); clear hΨ hΨ' Ψ) | ((with_reducible apply evC_cond); rfl; rfl; all_goals (intro hc; first | (cases hc; done) | (try simp only at hc))))))
    all_goals rw [e]
    all_goals (refine ⟨by simp, ⟨_, ?_, AV.le_refl _⟩, leH_get (by simp [leH, hget])⟩; simp only [Tryz.results81, resL, ldA, oneOf, go_sem])
end Go.Proofs.YtmidmaeihpldhaaGreat.lg
namespace Go.Proofs.YtmidmaeihpldhaaGreat.lg
open Go.RowKit
open Nat (reduceBEq)
set_option maxRecDepth 20000
set_option maxHeartbeats 2000000
theorem okU_step {l : List Hd} {i : Nat} (hu : okU l i = true) : okU l (i + 1) = okR l i := by
  show (okU l i && okR l i) = _
  rw [hu, Bool.true_and]
theorem tree7 : ∀ q1 q2 q3 q4 q5 q6 q7 : Bool, ((!q1 && (!q2 && (!q3 && (!(q4 && q5) && ((q6 == q5) && (!q7 || !q5)))))) = false ∧ ((q1 = true) ∨ (q1 = false ∧ q2 = true) ∨ (q1 = false ∧ q2 = false ∧ q3 = true) ∨ (q1 = false ∧ q2 = false ∧ q3 = false ∧ q4 = true ∧ q5 = true) ∨ (q1 = false ∧ q2 = false ∧ q3 = false ∧ q4 = false ∧ q5 = true ∧ q6 = false) ∨ (q1 = false ∧ q2 = false ∧ q3 = false ∧ q4 = false ∧ q5 = true ∧ q6 = true ∧ q7 = true) ∨ (q1 = false ∧ q2 = false ∧ q3 = false ∧ q4 = true ∧ q5 = false ∧ q6 = true) ∨ (q1 = false ∧ q2 = false ∧ q3 = false ∧ q4 = false ∧ q5 = false ∧ q6 = true)))
    ∨ ((!q1 && (!q2 && (!q3 && (!(q4 && q5) && ((q6 == q5) && (!q7 || !q5)))))) = true ∧ ((q1 = false ∧ q2 = false ∧ q3 = false ∧ q4 = false ∧ q5 = true ∧ q6 = true ∧ q7 = false) ∨ (q1 = false ∧ q2 = false ∧ q3 = false ∧ q4 = true ∧ q5 = false ∧ q6 = false) ∨ (q1 = false ∧ q2 = false ∧ q3 = false ∧ q4 = false ∧ q5 = false ∧ q6 = false))) := by
  intro q1 q2 q3 q4 q5 q6 q7
  cases q1 <;> cases q2 <;> cases q3 <;> cases q4 <;> cases q5 <;> cases q6 <;> cases q7 <;> simp
theorem refright_fn (ex : Bool) (l : List Hd) (hl : l.length ≤ 1000) (ok : ∀ h ∈ l, h.ok) : Fn Tryz.prog 46 [lg ex l] [] (vb (okL l)) [] := by
  have sm := rsum_fn ex l hl ok
  have fl := rsm_flag (l := l) (n := 0) (by decide)
  rw [Nat.zero_add] at fl
  unfold okL
  rw [← fl]
  generalize (rsm 0 l).1 = m1 at sm
  generalize (rsm 0 l).2 = m2 at sm ⊢
  clear fl
  obtain ⟨q24, e24⟩ : ∃ q, decide (l.length ≤ 24) = q := ⟨_, rfl⟩
  have e24' : decide ((l.length : Int) ≤ 24) = q24 := by rw [← e24]; exact decide_eq_decide.2 (by omega)
  rw [e24]
  clear e24
  obtain ⟨tu, htu⟩ : ∃ q, okU l l.length = q := ⟨_, rfl⟩
  rw [htu]
  (refine fn_of Tryz.func46 rfl (by rfl) ?_; simp only [Tryz.ntmps46, List.length_cons, List.length_nil, Nat.reduceAdd, Nat.reduceSub, List.replicate, List.cons_append, List.nil_append])
  (repeat (any_goals (first | ((with_reducible refine evL_one ?_ ?_); rfl; intro K hK; simp only [go_sem]; ((repeat (refine ndI (by first | assumption) ?_)); refine hK _ ?_; clear hK K)) | (with_reducible first | (refine evL_nil ?_; refine hR _ ?_; clear hR R) | ((first | refine evC_seq ?_ | refine evC_block ?_); intro Ψ hΨ hΨ') | (refine evC_region ?_; intro R hR) | (refine hΨ _ ?_; clear hΨ hΨ' Ψ)))))
  refine evC_loop (α := { i : Nat // i ≤ l.length ∧ okU l i = true }) (fun x => ⟨[.any, .ptr 1 0, vb false, vi .i64 (x.1 : Int), .any, .any, .any, .any, .any, .any, .any, .any, .any, .any, .any, .any, .any, .any, .any, .any, .any, .any, .any, .any, .any, .any, .any, .any, .any, .any, .any, .any, .any, .any, .any, .any, .any, .any, .any, .any, .any, .any, .any, .any, .any, .any, .any, .any, .any, .any, .any, .any, .any, .any, .any, .any, .any, .any, .any, .any, .any, .any, .any, .any, .any, .any, .any, .any, .any, .any, .any, .any, .any, .any, .any, .any, .any, .any, .any, .any, .any, .any, .any, .any, .any, .any, .any, .any, .any, .any, .any, .any], [(1, [hsl ex l])]⟩) (fun x => l.length - x.1) ⟨0, Nat.zero_le _, rfl⟩ (St.le_of (by simp [leT]) (by simp [leH, hget])) ?_
  rintro ⟨i, hi, hu⟩ Ψ hΨ hΨ'
  (try dsimp only at hi hu hΨ ⊢)
  rcases Nat.lt_or_ge i l.length with hlt | hge
  · obtain ⟨y, hy⟩ : ∃ x, l[i]? = some x := ⟨_, List.getElem?_eq_getElem hlt⟩
    have k1 : (decide ((i : Int) < (l.length : Int))) = true := decide_eq_true (by omega)
    have k2 := hsl_at hy
    have k7 : (i : Int) + 1 = ((i + 1 : Nat) : Int) := by omega
    obtain ⟨oa, op, os, _, _⟩ := ok y (List.mem_of_getElem? hy)
    have n1 := rnone_fn y.p op
    have n2 := rnone_fn y.s os
    have hR : okR l i = (rightH y && decide (lastA l i < y.a)) := by unfold okR; rw [hy]
    have hno : okR l i = false → tu = false := fun h => by rw [← htu]; exact okU_false h hlt
    have hnx := okU_step hu
    rw [hR] at hno hnx
    have hr : rightH y = (!(y.a == 0) && (!decide (y.d > 1073741824) && (!decide (y.f > 1100585369600) && (!(decide (y.p = 0) && decide (y.s = 0)) && (((y.d == 0) == decide (y.s = 0)) && (!(y.f != 0) || !decide (y.s = 0))))))) := by
      unfold rightH
      have c1 : decide (y.d ≤ 1073741824) = !decide (y.d > 1073741824) := by rw [← decide_not]; exact decide_eq_decide.2 (by omega)
      have c2 : decide (y.f ≤ 1100585369600) = !decide (y.f > 1100585369600) := by rw [← decide_not]; exact decide_eq_decide.2 (by omega)
      rw [c1, c2]
      simp only [bne, Bool.not_not]
    rw [hr] at hno hnx
    obtain ⟨q1, g1⟩ : ∃ q, (y.a == 0) = q := ⟨_, rfl⟩
    obtain ⟨q2, g2⟩ : ∃ q, decide (y.d > 1073741824) = q := ⟨_, rfl⟩
    obtain ⟨q3, g3⟩ : ∃ q, decide (y.f > 1100585369600) = q := ⟨_, rfl⟩
    obtain ⟨q6, g6⟩ : ∃ q, (y.d == 0) = q := ⟨_, rfl⟩
    obtain ⟨q7, g7⟩ : ∃ q, (y.f != 0) = q := ⟨_, rfl⟩
    have g8 : (y.d != 0) = !q6 := by rw [← g6]; rfl
    rw [g1, g2, g3, g6, g7] at hno hnx
    generalize decide (y.p = 0) = q4 at n1 hno hnx
    generalize decide (y.s = 0) = q5 at n2 hno hnx
    clear hr hR
    rcases tree7 q1 q2 q3 q4 q5 q6 q7 with ⟨ht, hq⟩ | ⟨ht, hq⟩
    · rw [ht, Bool.false_and] at hno
      have hrf := hno rfl
      clear hno hnx ht
      rcases hq with rfl | ⟨rfl, rfl⟩ | ⟨rfl, rfl, rfl⟩ | ⟨rfl, rfl, rfl, rfl, rfl⟩ | ⟨rfl, rfl, rfl, rfl, rfl, rfl⟩ | ⟨rfl, rfl, rfl, rfl, rfl, rfl, rfl⟩ | ⟨rfl, rfl, rfl, rfl, rfl, rfl⟩ | ⟨rfl, rfl, rfl, rfl, rfl, rfl⟩
      all_goals (have W := ndI k1 (ndI k2 (ndI g1 (ndI g2 (ndI g3 (ndI g6 (ndI g7 g8)))))); (repeat (any_goals (first | ((with_reducible refine evL_call ?_ ?_ ?_); rfl; rfl; intro K hK; (first | ((apply opA_callB (n2); rfl; rfl; rfl; rfl; exact Tryz.func80); kernel_rfl; rfl; (simp only [go_sem, W, Bool.not_true, Bool.not_false]; rfl); (first | simp [AV.inNL, AV.inN]))); (simp only [go_sem, W, Bool.not_true, Bool.not_false]; refine hK _ ?_; clear hK K)) | ((with_reducible refine evL_one ?_ ?_); rfl; intro K hK; simp only [go_sem, W, Bool.not_true, Bool.not_false]; ((repeat (refine ndI (by first | assumption | omega) ?_)); refine hK _ ?_; clear hK K)) | (with_reducible first | (refine evL_nil ?_; refine hR _ ?_; clear hR R) | ((first | refine evC_seq ?_ | refine evC_block ?_); intro Ψ hΨ hΨ') | (refine evC_region ?_; intro R hR) | (refine hΨ _ ?_; clear hΨ hΨ' Ψ) | refine evC_skip ?_ | refine evC_ret ?_) | ((with_reducible refine hΨ' _ _ ?_ ?_); (focus (simp; done)); clear hΨ hΨ' Ψ) | ((with_reducible apply evL_unmet); rfl; rfl; rfl; (try simp only [go_sem, W, Bool.not_true, Bool.not_false])) | ((with_reducible apply evL_grd); rfl; rfl; rfl; all_goals (intro hb; first | (cases hb; done) | ((try simp only [Bool.not_true, Bool.not_false] at hb); (first | ((with_reducible intro K hK); (first | ((apply opA_callB (n1); rfl; rfl; rfl; rfl; exact Tryz.func80); kernel_rfl; rfl; (simp only [go_sem, W, Bool.not_true, Bool.not_false]; rfl); (first | simp [AV.inNL, AV.inN])) | ((apply opA_callB (n2); rfl; rfl; rfl; rfl; exact Tryz.func80); kernel_rfl; rfl; (simp only [go_sem, W, Bool.not_true, Bool.not_false]; rfl); (first | simp [AV.inNL, AV.inN])) | skip); simp only [go_sem, W, Bool.not_true, Bool.not_false]; ((repeat (refine ndI (by first | assumption) ?_)); refine hK _ ?_; clear hK K)) | ((fail_if_success (with_reducible intro _)); simp only [go_sem, W, Bool.not_true, Bool.not_false]))))) | ((with_reducible apply evC_cond); rfl; rfl; all_goals (intro hc; first | (cases hc; done) | (try simp only at hc)))))))
      all_goals rw [hrf]
      all_goals (refine ⟨by simp, ⟨_, ?_, AV.le_refl _⟩, leH_get (by simp [leH, hget])⟩; simp only [Tryz.results46, resL, ldA, oneOf, go_sem])
      all_goals simp
    · rw [ht, Bool.true_and] at hno hnx
      have hΨ1 := fun (h : decide (lastA l i < y.a) = true) σ' => hΨ σ' ⟨i + 1, hlt, by rw [hnx]; exact h⟩ (by dsimp only; omega)
      dsimp only at hΨ1
      rcases Nat.eq_zero_or_pos i with h0 | h0
      · have n3 : (decide ((i : Int) > 0)) = false := by simp; omega
        have ho : decide (lastA l i < y.a) = true := by
          rw [h0, decide_eq_true_eq]
          show (0 : Int) < y.a
          have : y.a ≠ 0 := by
            intro e
            rw [e] at g1
            rcases hq with ⟨h, _⟩ | ⟨h, _⟩ | ⟨h, _⟩ <;> · rw [h] at g1; cases g1
          unfold U at oa
          omega
        have hΨ2 := hΨ1 ho
        clear hΨ1 ho hno hnx ht
        rcases hq with ⟨rfl, rfl, rfl, rfl, rfl, rfl, rfl⟩ | ⟨rfl, rfl, rfl, rfl, rfl, rfl⟩ | ⟨rfl, rfl, rfl, rfl, rfl, rfl⟩
        all_goals (have W := ndI k1 (ndI k2 (ndI k7 (ndI g1 (ndI g2 (ndI g3 (ndI g6 (ndI g7 (ndI g8 (ndI n3 @wrI))))))))); (repeat (any_goals (first | ((with_reducible refine evL_call ?_ ?_ ?_); rfl; rfl; intro K hK; (first | ((apply opA_callB (n2); rfl; rfl; rfl; rfl; exact Tryz.func80); kernel_rfl; rfl; (simp (disch := omega) only [go_sem, W, Bool.not_true, Bool.not_false]; rfl); (first | simp [AV.inNL, AV.inN]))); (simp (disch := omega) only [go_sem, W, Bool.not_true, Bool.not_false]; refine hK _ ?_; clear hK K)) | ((with_reducible refine evL_one ?_ ?_); rfl; intro K hK; simp (disch := omega) only [go_sem, W, Bool.not_true, Bool.not_false]; ((repeat (refine ndI (by first | assumption | omega | rfl) ?_)); refine hK _ ?_; clear hK K)) | (with_reducible first | (refine evL_nil ?_; refine hR _ ?_; clear hR R) | ((first | refine evC_seq ?_ | refine evC_block ?_); intro Ψ hΨ hΨ') | (refine evC_region ?_; intro R hR) | (refine hΨ _ ?_; clear hΨ hΨ' Ψ) | refine evC_skip ?_) | ((with_reducible refine hΨ' _ _ ?_ ?_); (focus (simp; done)); clear hΨ hΨ' Ψ) | ((with_reducible apply evL_unmet); rfl; rfl; rfl; (try simp (disch := omega) only [go_sem, W, Bool.not_true, Bool.not_false])) | ((with_reducible apply evL_grd); rfl; rfl; rfl; all_goals (intro hb; first | (cases hb; done) | ((try simp only [Bool.not_true, Bool.not_false] at hb); (first | ((with_reducible intro K hK); (first | ((apply opA_callB (n1); rfl; rfl; rfl; rfl; exact Tryz.func80); kernel_rfl; rfl; (simp (disch := omega) only [go_sem, W, Bool.not_true, Bool.not_false]; rfl); (first | simp [AV.inNL, AV.inN])) | ((apply opA_callB (n2); rfl; rfl; rfl; rfl; exact Tryz.func80); kernel_rfl; rfl; (simp (disch := omega) only [go_sem, W, Bool.not_true, Bool.not_false]; rfl); (first | simp [AV.inNL, AV.inN])) | skip); simp (disch := omega) only [go_sem, W, Bool.not_true, Bool.not_false]; ((repeat (refine ndI (by first | assumption | rfl) ?_)); refine hK _ ?_; clear hK K)) | ((fail_if_success (with_reducible intro _)); simp (disch := omega) only [go_sem, W, Bool.not_true, Bool.not_false]))))) | ((with_reducible apply evC_cond); rfl; rfl; all_goals (intro hc; first | (cases hc; done) | (try simp only at hc))) | ((with_reducible refine evD_nil ?_ ?_); kernel_rfl; (with_reducible refine hR _ ?_); clear hR R) | ((first | ((with_reducible apply evD_skip); rfl; rfl; rfl; rfl) | ((first | ((with_reducible apply evD_any); rfl; rfl)); (simp (disch := omega) only [rdE, rdOf, go_sem, W, Bool.not_true, Bool.not_false]; rfl); (intro τ hA hQ hN; ((try simp only [agree, Op.operands, Call.operands, go_sem, W, Bool.not_true, Bool.not_false, go_sem, List.mem_cons, List.not_mem_nil, forall_eq_or_imp, forall_eq, List.append_toArray, Option.toArray] at hA); (try simp only [go_sem, W, Bool.not_true, Bool.not_false, List.mem_cons, List.not_mem_nil, forall_eq_or_imp, forall_eq] at hQ hN); (first | (revert hA; intro hA)); (first | (revert hQ; intro hQ)); (first | (revert hN; intro hN)); simp (disch := omega) only [go_sem, W, Bool.not_true, Bool.not_false, go_sem, hA, hQ, hN]; (repeat (refine ndI (by first | assumption | rfl) ?_)); (first | apply eff_rd))))); (simp (disch := omega) only [St.eff, setO, hputs, go_sem, W, Bool.not_true, Bool.not_false])) | ((with_reducible refine evC_draw ?_ ?_ ?_ ?_); kernel_rfl; kernel_rfl; (first | kernel_rfl); intro R hR)))))
        all_goals exact hΨ2 _ (St.le_of (by simp [leT]) (by simp [leH, hget]))
      · obtain ⟨j, hj⟩ : ∃ j, i = j + 1 := ⟨i - 1, by omega⟩
        obtain ⟨q, hq'⟩ : ∃ q, l[j]? = some q := ⟨_, List.getElem?_eq_getElem (by omega)⟩
        have n3 : (decide ((i : Int) > 0)) = true := by simp; omega
        have n4 := hsl_at hq'
        have n5 : (i : Int) - 1 = (j : Int) := by omega
        have hjl : j < l.length := by omega
        have hla : lastA l i = q.a := by rw [hj]; exact lastA_succ hq'
        rw [hla] at hno hΨ1
        obtain ⟨q8, hq8⟩ : ∃ c, decide (q.a < y.a) = c := ⟨_, rfl⟩
        have hge : decide (q.a ≥ y.a) = !q8 := by
          rw [← hq8, ← decide_not]; exact decide_eq_decide.2 (by omega)
        rw [hq8] at hno hΨ1
        clear hnx ht hla
        cases q8 with
        | false =>
          have hrf := hno rfl
          clear hno hΨ1
          rcases hq with ⟨rfl, rfl, rfl, rfl, rfl, rfl, rfl⟩ | ⟨rfl, rfl, rfl, rfl, rfl, rfl⟩ | ⟨rfl, rfl, rfl, rfl, rfl, rfl⟩
          all_goals (have W := ndI k1 (ndI k2 (ndI k7 (ndI g1 (ndI g2 (ndI g3 (ndI g6 (ndI g7 (ndI g8 (ndI n3 (ndI n4 (ndI n5 @wrI))))))))))); (repeat (any_goals (first | ((with_reducible refine evL_call ?_ ?_ ?_); rfl; rfl; intro K hK; (first | ((apply opA_callB (n2); rfl; rfl; rfl; rfl; exact Tryz.func80); kernel_rfl; rfl; (simp (disch := omega) only [go_sem, W, hge, Bool.not_true, Bool.not_false]; rfl); (first | simp [AV.inNL, AV.inN]))); (simp (disch := omega) only [go_sem, W, hge, Bool.not_true, Bool.not_false]; refine hK _ ?_; clear hK K)) | ((with_reducible refine evL_one ?_ ?_); rfl; intro K hK; simp (disch := omega) only [go_sem, W, hge, Bool.not_true, Bool.not_false]; ((repeat (refine ndI (by first | assumption | omega | rfl) ?_)); refine hK _ ?_; clear hK K)) | (with_reducible first | (refine evL_nil ?_; refine hR _ ?_; clear hR R) | ((first | refine evC_seq ?_ | refine evC_block ?_); intro Ψ hΨ hΨ') | (refine evC_region ?_; intro R hR) | (refine hΨ _ ?_; clear hΨ hΨ' Ψ) | refine evC_skip ?_ | refine evC_ret ?_) | ((with_reducible refine hΨ' _ _ ?_ ?_); (focus (simp; done)); clear hΨ hΨ' Ψ) | ((with_reducible apply evL_unmet); rfl; rfl; rfl; (try simp (disch := omega) only [go_sem, W, hge, Bool.not_true, Bool.not_false])) | ((with_reducible apply evL_grd); rfl; rfl; rfl; all_goals (intro hb; first | (cases hb; done) | ((try simp only [Bool.not_true, Bool.not_false] at hb); (first | ((with_reducible intro K hK); (first | ((apply opA_callB (n1); rfl; rfl; rfl; rfl; exact Tryz.func80); kernel_rfl; rfl; (simp (disch := omega) only [go_sem, W, hge, Bool.not_true, Bool.not_false]; rfl); (first | simp [AV.inNL, AV.inN])) | ((apply opA_callB (n2); rfl; rfl; rfl; rfl; exact Tryz.func80); kernel_rfl; rfl; (simp (disch := omega) only [go_sem, W, hge, Bool.not_true, Bool.not_false]; rfl); (first | simp [AV.inNL, AV.inN])) | skip); simp (disch := omega) only [go_sem, W, hge, Bool.not_true, Bool.not_false]; ((repeat (refine ndI (by first | assumption | rfl) ?_)); refine hK _ ?_; clear hK K)) | ((fail_if_success (with_reducible intro _)); simp (disch := omega) only [go_sem, W, hge, Bool.not_true, Bool.not_false]))))) | ((with_reducible apply evC_cond); rfl; rfl; all_goals (intro hc; first | (cases hc; done) | (try simp only at hc))) | ((with_reducible refine evD_nil ?_ ?_); kernel_rfl; (with_reducible refine hR _ ?_); clear hR R) | ((first | ((first | ((with_reducible apply evD_any); rfl; rfl) | ((with_reducible apply evD_gany); rfl; rfl; rfl; rfl; rfl)); (simp (disch := omega) only [rdE, rdOf, go_sem, W, hge, Bool.not_true, Bool.not_false]; rfl); (intro τ hA hQ hN; ((try simp only [agree, Op.operands, Call.operands, go_sem, W, hge, Bool.not_true, Bool.not_false, go_sem, List.mem_cons, List.not_mem_nil, forall_eq_or_imp, forall_eq, List.append_toArray, Option.toArray] at hA); (try simp only [go_sem, W, hge, Bool.not_true, Bool.not_false, List.mem_cons, List.not_mem_nil, forall_eq_or_imp, forall_eq] at hQ hN); (first | (revert hA; intro hA)); (first | (revert hQ; intro hQ)); (first | (revert hN; intro hN)); simp (disch := omega) only [go_sem, W, hge, Bool.not_true, Bool.not_false, go_sem, hA, hQ, hN]; (repeat (refine ndI (by first | assumption | omega | rfl) ?_)); (first | apply eff_rd))))); (simp (disch := omega) only [St.eff, setO, hputs, go_sem, W, hge, Bool.not_true, Bool.not_false])) | ((with_reducible refine evC_draw ?_ ?_ ?_ ?_); kernel_rfl; kernel_rfl; (first | kernel_rfl); intro R hR)))))
          all_goals rw [hrf]
          all_goals (refine ⟨by simp, ⟨_, ?_, AV.le_refl _⟩, leH_get (by simp [leH, hget])⟩; simp only [Tryz.results46, resL, ldA, oneOf, go_sem])
          all_goals simp
        | true =>
          have hΨ2 := hΨ1 rfl
          clear hno hΨ1
          rcases hq with ⟨rfl, rfl, rfl, rfl, rfl, rfl, rfl⟩ | ⟨rfl, rfl, rfl, rfl, rfl, rfl⟩ | ⟨rfl, rfl, rfl, rfl, rfl, rfl⟩
          all_goals (have W := ndI k1 (ndI k2 (ndI k7 (ndI g1 (ndI g2 (ndI g3 (ndI g6 (ndI g7 (ndI g8 (ndI n3 (ndI n4 (ndI n5 @wrI))))))))))); (repeat (any_goals (first | ((with_reducible refine evL_call ?_ ?_ ?_); rfl; rfl; intro K hK; (first | ((apply opA_callB (n2); rfl; rfl; rfl; rfl; exact Tryz.func80); kernel_rfl; rfl; (simp (disch := omega) only [go_sem, W, hge, Bool.not_true, Bool.not_false]; rfl); (first | simp [AV.inNL, AV.inN]))); (simp (disch := omega) only [go_sem, W, hge, Bool.not_true, Bool.not_false]; refine hK _ ?_; clear hK K)) | ((with_reducible refine evL_one ?_ ?_); rfl; intro K hK; simp (disch := omega) only [go_sem, W, hge, Bool.not_true, Bool.not_false]; ((repeat (refine ndI (by first | assumption | omega | rfl) ?_)); refine hK _ ?_; clear hK K)) | (with_reducible first | (refine evL_nil ?_; refine hR _ ?_; clear hR R) | ((first | refine evC_seq ?_ | refine evC_block ?_); intro Ψ hΨ hΨ') | (refine evC_region ?_; intro R hR) | (refine hΨ _ ?_; clear hΨ hΨ' Ψ) | refine evC_skip ?_) | ((with_reducible refine hΨ' _ _ ?_ ?_); (focus (simp; done)); clear hΨ hΨ' Ψ) | ((with_reducible apply evL_unmet); rfl; rfl; rfl; (try simp (disch := omega) only [go_sem, W, hge, Bool.not_true, Bool.not_false])) | ((with_reducible apply evL_grd); rfl; rfl; rfl; all_goals (intro hb; first | (cases hb; done) | ((try simp only [Bool.not_true, Bool.not_false] at hb); (first | ((with_reducible intro K hK); (first | ((apply opA_callB (n1); rfl; rfl; rfl; rfl; exact Tryz.func80); kernel_rfl; rfl; (simp (disch := omega) only [go_sem, W, hge, Bool.not_true, Bool.not_false]; rfl); (first | simp [AV.inNL, AV.inN])) | ((apply opA_callB (n2); rfl; rfl; rfl; rfl; exact Tryz.func80); kernel_rfl; rfl; (simp (disch := omega) only [go_sem, W, hge, Bool.not_true, Bool.not_false]; rfl); (first | simp [AV.inNL, AV.inN])) | skip); simp (disch := omega) only [go_sem, W, hge, Bool.not_true, Bool.not_false]; ((repeat (refine ndI (by first | assumption | rfl) ?_)); refine hK _ ?_; clear hK K)) | ((fail_if_success (with_reducible intro _)); simp (disch := omega) only [go_sem, W, hge, Bool.not_true, Bool.not_false]))))) | ((with_reducible apply evC_cond); rfl; rfl; all_goals (intro hc; first | (cases hc; done) | (try simp only at hc))) | ((with_reducible refine evD_nil ?_ ?_); kernel_rfl; (with_reducible refine hR _ ?_); clear hR R) | ((first | ((first | ((with_reducible apply evD_any); rfl; rfl) | ((with_reducible apply evD_gany); rfl; rfl; rfl; rfl; rfl)); (simp (disch := omega) only [rdE, rdOf, go_sem, W, hge, Bool.not_true, Bool.not_false]; rfl); (intro τ hA hQ hN; ((try simp only [agree, Op.operands, Call.operands, go_sem, W, hge, Bool.not_true, Bool.not_false, go_sem, List.mem_cons, List.not_mem_nil, forall_eq_or_imp, forall_eq, List.append_toArray, Option.toArray] at hA); (try simp only [go_sem, W, hge, Bool.not_true, Bool.not_false, List.mem_cons, List.not_mem_nil, forall_eq_or_imp, forall_eq] at hQ hN); (first | (revert hA; intro hA)); (first | (revert hQ; intro hQ)); (first | (revert hN; intro hN)); simp (disch := omega) only [go_sem, W, hge, Bool.not_true, Bool.not_false, go_sem, hA, hQ, hN]; (repeat (refine ndI (by first | assumption | omega | rfl) ?_)); (first | apply eff_rd))))); (simp (disch := omega) only [St.eff, setO, hputs, go_sem, W, hge, Bool.not_true, Bool.not_false])) | ((with_reducible refine evC_draw ?_ ?_ ?_ ?_); kernel_rfl; kernel_rfl; (first | kernel_rfl); intro R hR)))))
          all_goals exact hΨ2 _ (St.le_of (by simp [leT]) (by simp [leH, hget]))
  · have k1 : (decide ((i : Int) < (l.length : Int))) = false := decide_eq_false (by omega)
    have e : i = l.length := by omega
    have hrt : tu = true := by rw [← htu, ← e]; exact hu
    have c24 : q24 = true ∨ q24 = false := by cases q24 <;> simp
    rcases c24 with c24 | c24
    all_goals rw [c24] at e24'
    all_goals (repeat (any_goals (first | ((with_reducible refine evL_call ?_ ?_ ?_); rfl; rfl; intro K hK; ((apply opA_callB (sm); rfl; rfl; rfl; rfl; exact Tryz.func81); kernel_rfl; rfl; (simp only [go_sem, k1, e24']; rfl); (first | simp [AV.inNL, AV.inN])); (simp only [go_sem, k1, e24']; refine hK _ ?_; clear hK K)) | ((with_reducible refine evL_one ?_ ?_); rfl; intro K hK; simp only [go_sem, k1, e24']; ((repeat (refine ndI (by first | assumption) ?_)); refine hK _ ?_; clear hK K)) | (with_reducible first | (refine evL_nil ?_; refine hR _ ?_; clear hR R) | ((first | refine evC_seq ?_); intro Ψ hΨ hΨ') | (refine evC_region ?_; intro R hR) | (refine hΨ _ ?_; clear hΨ hΨ' Ψ) | refine evC_ret ?_ | refine evC_exit ?_) | ((with_reducible refine hΨ' _ _ ?_ ?_); (focus (simp; done)); clear hΨ hΨ' Ψ) | ((with_reducible apply evL_grd); rfl; rfl; rfl; all_goals (intro hb; first | (cases hb; done) | ((try simp only [Bool.not_true, Bool.not_false] at hb); (first | ((with_reducible intro K hK); simp only [go_sem, k1, e24']; ((repeat (refine ndI (by first | assumption) ?_)); refine hK _ ?_; clear hK K)) | ((fail_if_success (with_reducible intro _)); simp only [go_sem, k1, e24']))))) | ((with_reducible apply evC_cond); rfl; rfl; all_goals (intro hc; first | (cases hc; done) | (try simp only at hc))))))
    all_goals rw [hrt, c24]
    all_goals (refine ⟨by simp, ⟨_, ?_, AV.le_refl _⟩, leH_get (by simp [leH, hget])⟩; simp only [Tryz.results46, resL, ldA, oneOf, go_sem])
    all_goals simp
end Go.Proofs.YtmidmaeihpldhaaGreat.lg
namespace Go.Proofs.YtmidmaeihpldhaaGreat.lg
open Go.RowKit
open Nat (reduceBEq)
set_option maxRecDepth 20000
set_option maxHeartbeats 2000000
theorem refsame_fn (ex ex' : Bool) (l m : List Hd) (hl : l.length ≤ 4611686018427387904) (okl : ∀ h ∈ l, h.ok) (okm : ∀ h ∈ m, h.ok) : Fn Tryz.prog 60 [lg ex l, lg ex' m] [] (vb (decide (l = m))) [] := by
  by_cases hlen : l.length = m.length
  · have e0 : ((l.length : Int) != (m.length : Int)) = false := by simp [hlen]
    (refine fn_of Tryz.func60 rfl (by rfl) ?_; simp only [Tryz.ntmps60, List.length_cons, List.length_nil, Nat.reduceAdd, Nat.reduceSub, List.replicate, List.cons_append, List.nil_append])
    (repeat (any_goals (first | ((with_reducible refine evL_one ?_ ?_); rfl; intro K hK; simp only [go_sem, e0]; ((repeat (refine ndI (by first | assumption) ?_)); refine hK _ ?_; clear hK K)) | (with_reducible first | (refine evL_nil ?_; refine hR _ ?_; clear hR R) | ((first | refine evC_seq ?_ | refine evC_block ?_); intro Ψ hΨ hΨ') | (refine evC_region ?_; intro R hR) | (refine hΨ _ ?_; clear hΨ hΨ' Ψ) | refine evC_skip ?_) | ((with_reducible apply evC_cond); rfl; rfl; all_goals (intro hc; first | (cases hc; done) | (try simp only at hc))))))
    refine evC_loop (α := { i : Nat // i ≤ l.length ∧ ∀ j, j < i → l[j]? = m[j]? }) (fun p => ⟨[.any, .any, .ptr 2 0, .ptr 3 0, vb false, vi .i64 p.1, .any, .any, .any, .any, .any, .any, .any, .any, .any, .any, .any, .any, .any, .any, .any, .any, .any, .any, .any, .any, .any, .any, .any, .any, .any], [(2, [hsl ex l]), (3, [hsl ex' m])]⟩) (fun p => l.length - p.1) ⟨0, Nat.zero_le _, fun j hj => by omega⟩ (St.le_of (by simp [leT]) (by simp [leH, hget])) ?_
    rintro ⟨i, hi, hno⟩ Ψ hΨ hΨ'
    dsimp only at hΨ ⊢
    rcases Nat.lt_or_ge i l.length with hlt | hge
    · obtain ⟨y, hy⟩ : ∃ y, l[i]? = some y := ⟨l[i], List.getElem?_eq_getElem hlt⟩
      obtain ⟨z, hz⟩ : ∃ z, m[i]? = some z := ⟨m[i]'(by omega), List.getElem?_eq_getElem (by omega)⟩
      have e1 : (decide ((i : Int) < (l.length : Int))) = true := by simpa using hlt
      have e2 := hsl_at hy
      have e3 := hsl_at hz
      have e5 : i < m.length := by omega
      have e7 : (i : Int) + 1 = ((i + 1 : Nat) : Int) := by omega
      have hnx : y = z → ∀ j, j < i + 1 → l[j]? = m[j]? := fun h j hj => by
        rcases Nat.lt_or_ge j i with h' | h'
        · exact hno j h'
        · obtain rfl : j = i := by omega
          rw [hy, hz, h]
      have hne : y ≠ z → decide (l = m) = false := fun h => by
        rw [decide_eq_false_iff_not]
        intro e
        rw [e, hz] at hy
        cases hy; exact h rfl
      have hyz := hd_eq (okl y (List.mem_of_getElem? hy)) (okm z (List.mem_of_getElem? hz))
      (have W := ndI e1 (ndI e2 (ndI e3 (ndI e7 @wrI))); (repeat (any_goals (first | ((with_reducible refine evL_one ?_ ?_); rfl; intro K hK; simp (disch := omega) only [go_sem, W]; ((repeat (refine ndI (by first | assumption | rfl) ?_)); refine hK _ ?_; clear hK K)) | (with_reducible first | (refine evL_nil ?_; refine hR _ ?_; clear hR R) | ((first | refine evC_seq ?_ | refine evC_block ?_); intro Ψ hΨ hΨ') | (refine evC_region ?_; intro R hR) | (refine hΨ _ ?_; clear hΨ hΨ' Ψ) | refine evC_skip ?_ | refine evC_ret ?_) | ((with_reducible refine hΨ' _ _ ?_ ?_); (focus (simp; done)); clear hΨ hΨ' Ψ) | ((with_reducible apply evC_cond); rfl; rfl; all_goals (intro hc; first | (cases hc; done) | (try simp only at hc))) | ((with_reducible refine evD_nil ?_ ?_); kernel_rfl; (with_reducible refine hR _ ?_); clear hR R) | (((with_reducible apply evD_any); rfl; rfl; (simp (disch := omega) only [rdE, rdOf, go_sem, W]; rfl); (intro τ hA hQ hN; ((try simp only [agree, Op.operands, Call.operands, go_sem, W, go_sem, List.mem_cons, List.not_mem_nil, forall_eq_or_imp, forall_eq, List.append_toArray, Option.toArray] at hA); (try simp only [go_sem, W, List.mem_cons, List.not_mem_nil, forall_eq_or_imp, forall_eq] at hQ hN); (first | (revert hA; intro hA)); (first | (revert hQ; intro hQ)); (first | (revert hN; intro hN)); simp (disch := omega) only [go_sem, W, go_sem, hA, hQ, hN]; (repeat (refine ndI (by first | assumption | omega | rfl) ?_)); (first | apply eff_rd)))); (simp (disch := omega) only [St.eff, setO, hputs, go_sem, W])) | ((with_reducible refine evC_draw ?_ ?_ ?_ ?_); kernel_rfl; kernel_rfl; (first | kernel_rfl); intro R hR)))))
      · (refine ⟨by simp, ⟨_, ?_, AV.le_refl _⟩, leH_get (by simp [leH, hget])⟩; simp only [Tryz.results60, resL, ldA, oneOf, go_sem])
        rw [hne]
        rw [Ne, hyz]
        rintro ⟨m1, m2, m3, m4, m5, m6, m7, m8, m9, m10, m11⟩
        simp [m1, m2, m3, m4, m5, m6, m7, m8, m9, m10, m11] at hc
      · refine hΨ _ ⟨i + 1, hlt, hnx ?_⟩ (by simp only; omega) (St.le_of (by simp [leT]) (by simp [leH, hget]))
        rw [hyz]
        clear hyz hne hnx hno hΨ
        simpa using hc
    · have e1 : (decide ((i : Int) < (l.length : Int))) = false := by simpa using hge
      have he : decide (l = m) = true := by
        rw [decide_eq_true_iff]
        refine List.ext_getElem? fun j => ?_
        rcases Nat.lt_or_ge j l.length with h | h
        · exact hno j (by omega)
        · rw [List.getElem?_eq_none h, List.getElem?_eq_none (by omega)]
      (repeat (any_goals (first | ((with_reducible refine evL_one ?_ ?_); rfl; intro K hK; simp only [go_sem, e1]; ((repeat (refine ndI (by first | assumption) ?_)); refine hK _ ?_; clear hK K)) | (with_reducible first | (refine evL_nil ?_; refine hR _ ?_; clear hR R) | ((first | refine evC_seq ?_); intro Ψ hΨ hΨ') | (refine evC_region ?_; intro R hR) | (refine hΨ _ ?_; clear hΨ hΨ' Ψ) | refine evC_ret ?_ | refine evC_exit ?_) | ((with_reducible refine hΨ' _ _ ?_ ?_); (focus (simp; done)); clear hΨ hΨ' Ψ) | ((with_reducible apply evC_cond); rfl; rfl; all_goals (intro hc; first | (cases hc; done) | (try simp only at hc))))))
      all_goals (refine ⟨by simp, ⟨_, ?_, AV.le_refl _⟩, leH_get (by simp [leH, hget])⟩; simp only [Tryz.results60, resL, ldA, oneOf, go_sem])
      all_goals rw [he]
  · have e0 : ((l.length : Int) != (m.length : Int)) = true := by simp; omega
    have he : decide (l = m) = false := by rw [decide_eq_false_iff_not]; intro e; exact hlen (by rw [e])
    (refine fn_of Tryz.func60 rfl (by rfl) ?_; simp only [Tryz.ntmps60, List.length_cons, List.length_nil, Nat.reduceAdd, Nat.reduceSub, List.replicate, List.cons_append, List.nil_append])
    (repeat (any_goals (first | ((with_reducible refine evL_one ?_ ?_); rfl; intro K hK; simp only [go_sem, e0]; ((repeat (refine ndI (by first | assumption) ?_)); refine hK _ ?_; clear hK K)) | (with_reducible first | (refine evL_nil ?_; refine hR _ ?_; clear hR R) | ((first | refine evC_seq ?_); intro Ψ hΨ hΨ') | (refine evC_region ?_; intro R hR) | (refine hΨ _ ?_; clear hΨ hΨ' Ψ) | refine evC_ret ?_) | ((with_reducible refine hΨ' _ _ ?_ ?_); (focus (simp; done)); clear hΨ hΨ' Ψ) | ((with_reducible apply evC_cond); rfl; rfl; all_goals (intro hc; first | (cases hc; done) | (try simp only at hc))))))
    all_goals (refine ⟨by simp, ⟨_, ?_, AV.le_refl _⟩, leH_get (by simp [leH, hget])⟩; simp only [Tryz.results60, resL, ldA, oneOf, go_sem])
    all_goals rw [he]
end Go.Proofs.YtmidmaeihpldhaaGreat.lg
namespace Go.Proofs.YtmidmaeihpldhaaGreat.ax
open Go.RowKit
open Nat (reduceBEq)
set_option maxRecDepth 20000
set_option maxHeartbeats 2000000
def ddN (s : List Int) : Nat → List Int
  | 0 => []
  | i + 1 => match s[i]? with
    | none => ddN s i
    | some b => if 0 < i ∧ s[i - 1]? = some b then ddN s i else ddN s i ++ [b]
theorem ddN_same {s : List Int} {i : Nat} {a b : Int} (ha : s[i]? = some a) (hb : s[i + 1]? = some b) (e : a = b) : ddN s (i + 2) = ddN s (i + 1) := by
  show (match s[i + 1]? with | none => _ | some b => _) = _
  rw [hb]
  dsimp only
  rw [if_pos ⟨by omega, by rw [Nat.add_sub_cancel, ha, e]⟩]
theorem ddN_new {s : List Int} {i : Nat} {a b : Int} (ha : s[i]? = some a) (hb : s[i + 1]? = some b) (e : a ≠ b) : ddN s (i + 2) = ddN s (i + 1) ++ [b] := by
  show (match s[i + 1]? with | none => _ | some b => _) = _
  rw [hb]
  dsimp only
  rw [if_neg fun h => by
    have h2 := h.2
    rw [Nat.add_sub_cancel, ha] at h2
    exact e (Option.some.inj h2)]
theorem ddN_one {s : List Int} {a : Int} (ha : s[0]? = some a) : ddN s 1 = [a] := by
  show (match s[0]? with | none => _ | some b => _) = _
  rw [ha]
  dsimp only
  rw [if_neg fun h => Nat.lt_irrefl 0 h.1]
  rfl
theorem ddN_take {s : List Int} : ∀ {k : Nat}, k < s.length → (∀ j, j < k → s[j]? ≠ s[j + 1]?) → ddN s (k + 1) = s.take (k + 1)
  | 0, hk, _ => by
    rw [ddN_one (List.getElem?_eq_getElem hk), List.take_add_one, List.getElem?_eq_getElem hk]
    rfl
  | k + 1, hk, h => by
    have ih := ddN_take (k := k) (by omega) fun j hj => h j (by omega)
    have h1 := h k (by omega)
    rw [List.getElem?_eq_getElem (by omega), List.getElem?_eq_getElem hk] at h1
    rw [ddN_new (List.getElem?_eq_getElem (by omega)) (List.getElem?_eq_getElem hk) (fun e => h1 (by rw [e])), ih, List.take_add_one (i := k + 1), List.getElem?_eq_getElem hk]
    rfl
theorem ddN_le (s : List Int) : ∀ i, (ddN s i).length ≤ i
  | 0 => Nat.le_refl _
  | i + 1 => by
    have ih := ddN_le s i
    unfold ddN
    split
    · omega
    · split
      · omega
      · rw [List.length_append]; simp; omega
theorem rcA_at {l : List Int} {i : Nat} {y : Int} (h : l[i]? = some y) : (rcA l)[i]? = some (vi .u64 y) := by
  unfold rcA
  rw [List.getElem?_map]
  have h2 := flat_at (f := apv) apv_len h
  rw [Nat.mul_one] at h2
  have h3 : (l.flatMap apv)[i]? = some (.v (.int .u64 y)) := by
    have h4 : (((l.flatMap apv).drop i).take 1)[0]? = ([PV.v (.int .u64 y)] : List PV)[0]? := by rw [h2]; rfl
    rw [List.getElem?_take, if_pos (by omega), List.getElem?_drop, Nat.add_zero] at h4
    exact h4
  rw [h3]
  rfl
theorem rcA_app (l r : List Int) : rcA (l ++ r) = rcA l ++ rcA r := by
  unfold rcA; rw [List.flatMap_append, List.map_append]
theorem rcA_take (l : List Int) (k : Nat) : (rcA l).take k = rcA (l.take k) := by
  by_cases h : k ≤ l.length
  · conv => lhs; rw [← List.take_append_drop k l, rcA_app]
    exact List.take_left' (by rw [rcA_len, List.length_take]; omega)
  · rw [List.take_of_length_le (by rw [rcA_len]; omega), List.take_of_length_le (by omega)]
theorem rcA_drop (l : List Int) (k : Nat) : (rcA l).drop k = rcA (l.drop k) := by
  by_cases h : k ≤ l.length
  · conv => lhs; rw [← List.take_append_drop k l, rcA_app]
    exact List.drop_left' (by rw [rcA_len, List.length_take]; omega)
  · rw [List.drop_of_length_le (by rw [rcA_len]; omega), List.drop_of_length_le (by omega)]
    rfl
theorem rcA_set (l : List Int) (k : Nat) (x : Int) (h : k < l.length) : (rcA l).take k ++ (vi .u64 x :: (rcA l).drop (k + 1)) = rcA (l.set k x) := by
  rw [rcA_take, rcA_drop, List.set_eq_take_append_cons_drop, if_pos h, rcA_app]
  rfl
theorem zerosA_rc (k : Nat) : zerosA [.int .u64 0] k = rcA (List.replicate k 0) := by
  unfold zerosA
  induction k with
  | zero => rfl
  | succ k ih =>
    rw [List.replicate_succ, List.flatten_cons, ih, List.replicate_succ]
    rfl
theorem compact_cells (s : List Int) (hs : s.length ≤ 1000000) : Fn Tryz.prog 129 [.row 1000 58 1 s.length] [(1000, rcA s)] (.row 1000 58 1 (ddN s s.length).length) [(1000, rcA (ddN s s.length ++ List.replicate (s.length - (ddN s s.length).length) 0))] := by
  by_cases h2 : s.length < 2
  · have hd : ddN s s.length = s := by
      match s, h2 with
      | [], _ => rfl
      | [a], _ => exact ddN_one rfl
    rw [hd, Nat.sub_self, List.replicate_zero, List.append_nil]
    have k1 : (decide ((s.length : Int) < 2)) = true := by simp; omega
    (refine fn_of Tryz.func129 rfl (by rfl) ?_; simp only [Tryz.ntmps129, List.length_cons, List.length_nil, Nat.reduceAdd, Nat.reduceSub, List.replicate, List.cons_append, List.nil_append])
    (repeat (any_goals (first | ((with_reducible refine evL_one ?_ ?_); rfl; intro K hK; simp only [go_sem, k1]; ((repeat (refine ndI (by first | assumption) ?_)); refine hK _ ?_; clear hK K)) | (with_reducible first | (refine evL_nil ?_; refine hR _ ?_; clear hR R) | ((first | refine evC_seq ?_); intro Ψ hΨ hΨ') | (refine evC_region ?_; intro R hR) | (refine hΨ _ ?_; clear hΨ hΨ' Ψ) | refine evC_ret ?_) | ((with_reducible refine hΨ' _ _ ?_ ?_); (focus (simp; done)); clear hΨ hΨ' Ψ) | ((with_reducible apply evC_cond); rfl; rfl; all_goals (intro hc; first | (cases hc; done) | (try simp only at hc))))))
    all_goals (refine ⟨by simp, ⟨_, ?_, AV.le_refl _⟩, leH_get (by simp [leH, hget])⟩; simp only [Tryz.results129, resL, ldA, oneOf, go_sem])
  · have k1 : (decide ((s.length : Int) < 2)) = false := by simp; omega
    (refine fn_of Tryz.func129 rfl (by rfl) ?_; simp only [Tryz.ntmps129, List.length_cons, List.length_nil, Nat.reduceAdd, Nat.reduceSub, List.replicate, List.cons_append, List.nil_append])
    (repeat (any_goals (first | ((with_reducible refine evL_one ?_ ?_); rfl; intro K hK; simp only [go_sem, k1]; ((repeat (refine ndI (by first | assumption) ?_)); refine hK _ ?_; clear hK K)) | (with_reducible first | (refine evL_nil ?_; refine hR _ ?_; clear hR R) | ((first | refine evC_seq ?_ | refine evC_block ?_); intro Ψ hΨ hΨ') | (refine evC_region ?_; intro R hR) | (refine hΨ _ ?_; clear hΨ hΨ' Ψ) | refine evC_skip ?_) | ((with_reducible apply evC_cond); rfl; rfl; all_goals (intro hc; first | (cases hc; done) | (try simp only at hc))))))
    refine evC_loop (α := { j : Nat // j < s.length ∧ ∀ i, i < j → s[i]? ≠ s[i + 1]? }) (fun x => ⟨[.row 1000 58 1 s.length, .any, .any, vi .i64 ((x.1 + 1 : Nat) : Int), .any, .any, .any, .any, .any, .any, .any, .any, .any, .any, .any, .any, .any, .any, .any, .any, .any, .any, .any, .any, .any, .any, .any, .any, .any, .any, .any, .any, .any, .any, .any, .any, .any, .any, .any, .any, .any, .any, .any, .any, .any, .any, .any, .any, .any, .any, .any, .any, .any, .any, .any, .any, .any, .any, .any, .any, .any], [(1000, rcA s)]⟩) (fun x => s.length - x.1) ⟨0, by omega, fun i hi => absurd hi (Nat.not_lt_zero _)⟩ (St.le_of (by simp [leT]) (by simp [leH, hget])) ?_
    rintro ⟨j, hj, hnd⟩ Ψ hΨ hΨ'
    (try dsimp only at hΨ ⊢)
    rcases Nat.lt_or_ge (j + 1) s.length with hlt | hge
    · have k2 : (decide (((j + 1 : Nat) : Int) < (s.length : Int))) = true := by simp; omega
      have k3 : ((j + 1 : Nat) : Int) - 1 = (j : Int) := by omega
      have k4 : ((j + 1 : Nat) : Int) + 1 = ((j + 1 + 1 : Nat) : Int) := by omega
      obtain ⟨a, ha⟩ : ∃ a, s[j]? = some a := ⟨_, List.getElem?_eq_getElem hj⟩
      obtain ⟨b, hb⟩ : ∃ b, s[j + 1]? = some b := ⟨_, List.getElem?_eq_getElem hlt⟩
      have ea := rcA_at ha
      have eb := rcA_at hb
      by_cases hab : b = a
      · have k5 : (b == a) = true := by simp [hab]
        have hd0 : ddN s (j + 1) = s.take (j + 1) := ddN_take hj hnd
        have hd1 : ddN s (j + 2) = s.take (j + 1) := by rw [ddN_same ha hb hab.symm, hd0]
        have hd2 : (ddN s (j + 2)).length = j + 1 := by rw [hd1, List.length_take]; omega
        (have W := ndI k2 (ndI k3 (ndI k4 (ndI k5 @wrI))); (repeat (any_goals (first | ((with_reducible refine evL_one ?_ ?_); rfl; intro K hK; simp (disch := omega) only [go_sem, W, ea, eb, Nat.mul_one]; ((repeat (refine ndI (by first | assumption | rfl) ?_)); refine hK _ ?_; clear hK K)) | ((with_reducible refine evL_one ?_ ?_); rfl; intro K hK; (try simp (disch := omega) only [go_sem, W, ea, eb, Nat.mul_one]); (repeat (refine ndI (by first | assumption | rfl) ?_)); refine opA_slice_row rfl rfl rfl rfl rfl ?_ rfl rfl rfl rfl ?_ ?_ ?_; (focus (simp only [go_sem]; try rfl)); (intro h; first | cases h); (first | omega); (intro q hq1 hq2; (simp (disch := omega) only [go_sem, W, ea, eb, Nat.mul_one]; refine hK _ ?_; clear hK K))) | (with_reducible first | (refine evL_nil ?_; refine hR _ ?_; clear hR R) | ((first | refine evC_seq ?_ | refine evC_block ?_); intro Ψ hΨ hΨ') | (refine evC_region ?_; intro R hR) | (refine hΨ _ ?_; clear hΨ hΨ' Ψ) | refine evC_skip ?_) | ((with_reducible apply evC_cond); rfl; rfl; all_goals (intro hc; first | (cases hc; done) | (try simp only at hc))) | ((with_reducible refine evD_nil ?_ ?_); kernel_rfl; (with_reducible refine hR _ ?_); clear hR R) | (((with_reducible apply evD_any); rfl; rfl; (simp (disch := omega) only [rdE, rdOf, go_sem, W, ea, eb, Nat.mul_one]; rfl); (intro τ hA hQ hN; ((try simp only [agree, Op.operands, Call.operands, go_sem, W, ea, eb, Nat.mul_one, go_sem, List.mem_cons, List.not_mem_nil, forall_eq_or_imp, forall_eq, List.append_toArray, Option.toArray] at hA); (try simp only [go_sem, W, ea, eb, Nat.mul_one, List.mem_cons, List.not_mem_nil, forall_eq_or_imp, forall_eq] at hQ hN); (first | (revert hA; intro hA)); (first | (revert hQ; intro hQ)); (first | (revert hN; intro hN)); simp (disch := omega) only [go_sem, W, ea, eb, Nat.mul_one, go_sem, hA, hQ, hN]; (repeat (refine ndI (by first | assumption | omega | rfl) ?_)); (first | apply eff_rd)))); (simp (disch := omega) only [St.eff, setO, hputs, go_sem, W, ea, eb, Nat.mul_one])) | ((with_reducible refine evC_draw ?_ ?_ ?_ ?_); kernel_rfl; kernel_rfl; (first | kernel_rfl); intro R hR)))))
        refine evC_loop (α := { p : Nat × List Int // j + 2 + p.1 ≤ s.length ∧ p.2.length = s.length ∧ (ddN s (j + 2 + p.1)).length ≤ j + 1 + p.1 ∧ p.2.take (ddN s (j + 2 + p.1)).length = ddN s (j + 2 + p.1) ∧ p.2.drop (j + 1 + p.1) = s.drop (j + 1 + p.1) }) (fun x => ⟨[.row 1000 58 1 s.length, .any, .any, vi .i64 ((ddN s (j + 2 + x.1.1)).length : Int), .cut 1000 58 1 (j + 1) (s.length - (j + 1)) q true, vi .i64 ((x.1.1 + 1 : Nat) : Int), .any, .any, .any, .any, .any, .any, .any, .any, .any, .any, .any, .any, .any, .any, .any, .any, .any, .any, .any, .any, .any, .any, .any, .any, .any, .any, .any, .any, .any, .any, .any, .any, .any, .any, .any, .any, .any, .any, .any, .any, .any, .any, .any, .any, .any, .any, .any, .any, .any, .any, .any, .any, .any, .any, .any], [(1000, rcA x.1.2)]⟩) (fun x => s.length - x.1.1) ⟨(0, s), by dsimp only; omega, rfl, by dsimp only; rw [Nat.add_zero, hd2]; omega, by dsimp only; rw [Nat.add_zero, hd2, hd1], rfl⟩ (St.le_of (by simp [leT, hd2]) (by simp [leH, hget])) ?_
        rintro ⟨⟨i, m⟩, c1, c2, c3, c4, c5⟩ Ψ hΨ hΨ'
        dsimp only at c1 c2 c3 c4 c5
        (try dsimp only at hΨ ⊢)
        obtain ⟨d, hd⟩ : ∃ d, (ddN s (j + 2 + i)).length = d := ⟨_, rfl⟩
        rcases Nat.lt_or_ge (j + 2 + i) s.length with hlt2 | hge2
        · have n2 : (decide (((i + 1 : Nat) : Int) < ((s.length - (j + 1) : Nat) : Int))) = true := by simp; omega
          have n3 : ((i + 1 : Nat) : Int) - 1 = (i : Int) := by omega
          have n4 : ((i + 1 : Nat) : Int) + 1 = ((i + 1 + 1 : Nat) : Int) := by omega
          have n6 : ((d : Nat) : Int) + 1 = ((d + 1 : Nat) : Int) := by omega
          obtain ⟨a', ha'⟩ : ∃ a, s[j + 1 + i]? = some a := ⟨_, List.getElem?_eq_getElem (by omega)⟩
          obtain ⟨b', hb'⟩ : ∃ b, s[j + 1 + i + 1]? = some b := ⟨_, List.getElem?_eq_getElem (by omega)⟩
          have hm : ∀ x, m[j + 1 + i + x]? = s[j + 1 + i + x]? := fun x => by
            rw [← List.getElem?_drop, ← List.getElem?_drop, c5]
          have ea' := rcA_at (l := m) (by rw [← ha']; exact hm 0)
          have eb' := rcA_at (l := m) (by rw [← hb']; exact hm 1)
          rw [Nat.add_assoc (j + 1) i 1] at eb'
          rw [Nat.add_zero] at ea'
          have c3' : d ≤ j + 1 + i := by rw [← hd]; exact c3
          have hset : (rcA m).take d ++ [vi .u64 b'] ++ (rcA m).drop (d + 1) = rcA (m.set d b') := by
            rw [List.append_assoc]
            exact rcA_set m d b' (by omega)
          have hdl : d < s.length := by omega
          have hml : (rcA m).length = s.length := by rw [rcA_len, c2, Nat.mul_one]
          rw [hd] at c3 c4
          rw [hd]
          by_cases hab' : b' = a'
          · have n5 : (b' != a') = false := by simp [hab']
            have en := ddN_same (s := s) ha' hb' hab'.symm
            have hΨ1 := fun σ' => hΨ σ' ⟨(i + 1, m), by dsimp only; omega, c2, by
              dsimp only
              rw [show j + 2 + (i + 1) = j + 1 + i + 2 by omega, en, show j + 1 + i + 1 = j + 2 + i by omega, hd]
              omega, by
              dsimp only
              rw [show j + 2 + (i + 1) = j + 1 + i + 2 by omega, en, show j + 1 + i + 1 = j + 2 + i by omega, hd]
              exact c4, by
              dsimp only
              rw [show j + 1 + (i + 1) = j + 1 + i + 1 by omega, ← List.drop_drop, c5, List.drop_drop]⟩ (by dsimp only; omega)
            dsimp only at hΨ1
            rw [show j + 2 + (i + 1) = j + 1 + i + 2 by omega, en, show j + 1 + i + 1 = j + 2 + i by omega, hd] at hΨ1
            (have W := ndI n2 (ndI n3 (ndI n4 (ndI n5 (ndI n6 @wrI)))); (repeat (any_goals (first | ((with_reducible refine evL_one ?_ ?_); rfl; intro K hK; simp (disch := omega) only [go_sem, W, ea', eb', hset, hml, Nat.mul_one]; ((repeat (refine ndI (by first | assumption | rfl) ?_)); refine hK _ ?_; clear hK K)) | (with_reducible first | (refine evL_nil ?_; refine hR _ ?_; clear hR R) | ((first | refine evC_seq ?_ | refine evC_block ?_); intro Ψ hΨ hΨ') | (refine evC_region ?_; intro R hR) | (refine hΨ _ ?_; clear hΨ hΨ' Ψ) | refine evC_skip ?_) | ((with_reducible refine hΨ' _ _ ?_ ?_); (focus (simp; done)); clear hΨ hΨ' Ψ) | ((with_reducible apply evC_cond); rfl; rfl; all_goals (intro hc; first | (cases hc; done) | (try simp only at hc))) | ((with_reducible refine evD_nil ?_ ?_); kernel_rfl; (with_reducible refine hR _ ?_); clear hR R) | ((first | ((with_reducible apply evD_any); rfl; rfl; (simp (disch := omega) only [rdE, rdOf, go_sem, W, ea', eb', hset, hml, Nat.mul_one]; rfl); (intro τ hA hQ hN; ((try simp only [agree, Op.operands, Call.operands, go_sem, W, ea', eb', hset, hml, Nat.mul_one, go_sem, List.mem_cons, List.not_mem_nil, forall_eq_or_imp, forall_eq, List.append_toArray, Option.toArray] at hA); (try simp only [go_sem, W, ea', eb', hset, hml, Nat.mul_one, List.mem_cons, List.not_mem_nil, forall_eq_or_imp, forall_eq] at hQ hN); (first | (revert hA; intro hA)); (first | (revert hQ; intro hQ)); (first | (revert hN; intro hN)); simp (disch := omega) only [go_sem, W, ea', eb', hset, hml, Nat.mul_one, go_sem, hA, hQ, hN]; (repeat (refine ndI (by first | assumption | rfl) ?_)); (first | apply eff_rd)))) | ((first | ((with_reducible apply evD_one); rfl)); apply opF_index_cut; rfl; rfl; rfl; rfl; rfl; (focus (simp only [go_sem]; try rfl)); (first | omega))); (simp (disch := omega) only [St.eff, setO, hputs, go_sem, W, ea', eb', hset, hml, Nat.mul_one])) | ((with_reducible refine evC_draw ?_ ?_ ?_ ?_); kernel_rfl; kernel_rfl; (first | kernel_rfl); intro R hR)))))
            all_goals exact hΨ1 _ (St.le_of (by simp [leT]) (by simp [leH, hget]))
          · have n5 : (b' != a') = true := by simp [hab']
            have en := ddN_new (s := s) ha' hb' (fun e => hab' e.symm)
            have hl' : (ddN s (j + 1 + i + 2)).length = d + 1 := by
              rw [en, List.length_append, show j + 1 + i + 1 = j + 2 + i by omega, hd]; rfl
            have hΨ1 := fun σ' => hΨ σ' ⟨(i + 1, m.set d b'), by dsimp only; omega, by dsimp only; rw [List.length_set]; exact c2, by
              dsimp only
              rw [show j + 2 + (i + 1) = j + 1 + i + 2 by omega, hl']
              omega, by
              dsimp only
              rw [show j + 2 + (i + 1) = j + 1 + i + 2 by omega, hl', en, show j + 1 + i + 1 = j + 2 + i by omega, List.set_eq_take_append_cons_drop, if_pos (by omega), c4, List.take_append, hd]
              rw [List.take_of_length_le (by omega), show d + 1 - d = 1 by omega]
              rfl, by
              dsimp only
              rw [List.drop_set, if_pos (by omega), show j + 1 + (i + 1) = j + 1 + i + 1 by omega, ← List.drop_drop, c5, List.drop_drop]⟩ (by dsimp only; omega)
            dsimp only at hΨ1
            rw [show j + 2 + (i + 1) = j + 1 + i + 2 by omega, hl'] at hΨ1
            (have W := ndI n2 (ndI n3 (ndI n4 (ndI n5 (ndI n6 @wrI)))); (repeat (any_goals (first | ((with_reducible refine evL_one ?_ ?_); rfl; intro K hK; simp (disch := omega) only [go_sem, W, ea', eb', hset, hml, Nat.mul_one]; ((repeat (refine ndI (by first | assumption | omega | rfl) ?_)); refine hK _ ?_; clear hK K)) | ((with_reducible refine evL_one ?_ ?_); rfl; intro K hK; (try simp (disch := omega) only [go_sem, W, ea', eb', hset, hml, Nat.mul_one]); (repeat (refine ndI (by first | assumption | rfl) ?_)); refine opA_index_cut rfl rfl rfl rfl rfl ?_ ?_ ?_; (focus (simp only [go_sem]; try rfl)); (first | omega); (simp (disch := omega) only [go_sem, W, ea', eb', hset, hml, Nat.mul_one]; refine hK _ ?_; clear hK K)) | (with_reducible first | (refine evL_nil ?_; refine hR _ ?_; clear hR R) | ((first | refine evC_seq ?_ | refine evC_block ?_); intro Ψ hΨ hΨ') | (refine evC_region ?_; intro R hR) | (refine hΨ _ ?_; clear hΨ hΨ' Ψ) | refine evC_skip ?_) | ((with_reducible refine hΨ' _ _ ?_ ?_); (focus (simp; done)); clear hΨ hΨ' Ψ) | ((with_reducible apply evC_cond); rfl; rfl; all_goals (intro hc; first | (cases hc; done) | (try simp only at hc))) | ((with_reducible refine evD_nil ?_ ?_); kernel_rfl; (with_reducible refine hR _ ?_); clear hR R) | ((first | ((with_reducible apply evD_any); rfl; rfl; (simp (disch := omega) only [rdE, rdOf, go_sem, W, ea', eb', hset, hml, Nat.mul_one]; rfl); (intro τ hA hQ hN; ((try simp only [agree, Op.operands, Call.operands, go_sem, W, ea', eb', hset, hml, Nat.mul_one, go_sem, List.mem_cons, List.not_mem_nil, forall_eq_or_imp, forall_eq, List.append_toArray, Option.toArray] at hA); (try simp only [go_sem, W, ea', eb', hset, hml, Nat.mul_one, List.mem_cons, List.not_mem_nil, forall_eq_or_imp, forall_eq] at hQ hN); (first | (revert hA; intro hA)); (first | (revert hQ; intro hQ)); (first | (revert hN; intro hN)); simp (disch := omega) only [go_sem, W, ea', eb', hset, hml, Nat.mul_one, go_sem, hA, hQ, hN]; (repeat (refine ndI (by first | assumption | rfl) ?_)); (first | apply eff_rd)))) | ((first | ((with_reducible apply evD_one); rfl)); apply opF_index_cut; rfl; rfl; rfl; rfl; rfl; (focus (simp only [go_sem]; try rfl)); (first | omega))); (simp (disch := omega) only [St.eff, setO, hputs, go_sem, W, ea', eb', hset, hml, Nat.mul_one])) | ((with_reducible refine evC_draw ?_ ?_ ?_ ?_); kernel_rfl; kernel_rfl; (first | kernel_rfl); intro R hR)))))
            all_goals exact hΨ1 _ (St.le_of (by simp [leT]) (by simp [leH, hget]))
        · have n2 : (decide (((i + 1 : Nat) : Int) < ((s.length - (j + 1) : Nat) : Int))) = false := by simp; omega
          have e : j + 2 + i = s.length := by omega
          rw [e] at hd c4
          rw [hd] at c4
          have hdl : d ≤ s.length := by rw [← hd]; exact ddN_le s _
          have hml := rcA_len m
          have hfin : rcA (ddN s s.length ++ List.replicate (s.length - d) 0) = spl (rcA m) d (zerosA [.int .u64 0] (s.length - d)) := by
            unfold spl
            rw [zerosA_rc, rcA_len, List.length_replicate, rcA_app, rcA_take, c4, rcA_drop, List.drop_of_length_le (by omega)]
            show _ = _ ++ []
            rw [List.append_nil]
          rw [e, hd]
          have hr : (AV.row 1000 58 1 (ddN s s.length).length) = .row 1000 58 1 d := by rw [hd]
          have hcc : ddN s s.length ++ List.replicate (s.length - (ddN s s.length).length) 0 = ddN s s.length ++ List.replicate (s.length - d) 0 := by rw [hd]
          (repeat (any_goals (first | ((with_reducible refine evL_one ?_ ?_); rfl; intro K hK; simp (disch := omega) only [go_sem, n2, wrI, Nat.mul_one]; ((repeat (refine ndI (by first | assumption | rfl) ?_)); refine hK _ ?_; clear hK K)) | ((with_reducible refine evL_one ?_ ?_); rfl; intro K hK; (try simp (disch := omega) only [go_sem, n2, wrI, Nat.mul_one]); (repeat (refine ndI (by first | assumption | rfl) ?_)); refine opA_slice_row rfl rfl rfl rfl rfl ?_ rfl rfl rfl rfl ?_ ?_ ?_; (focus (simp only [go_sem]; try rfl)); (intro h; first | rfl | cases h); (first | omega); (intro q hq1 hq2; (simp (disch := omega) only [go_sem, n2, wrI, Nat.mul_one]; refine hK _ ?_; clear hK K))) | ((with_reducible refine evL_one ?_ ?_); rfl; intro K hK; (try simp (disch := omega) only [go_sem, n2, wrI, Nat.mul_one]); (repeat (refine ndI (by first | assumption) ?_)); apply opA_clear; rfl; rfl; (focus (simp only [go_sem]; try rfl)); (first | omega); (simp (disch := omega) only [go_sem, Option.bind_some]; rfl); rfl; rfl; rfl; rfl; (first | omega); (simp (disch := omega) only [go_sem, n2, wrI, Nat.mul_one]; refine hK _ ?_; clear hK K)) | (with_reducible first | (refine evL_nil ?_; refine hR _ ?_; clear hR R) | ((first | refine evC_seq ?_); intro Ψ hΨ hΨ') | (refine evC_region ?_; intro R hR) | (refine hΨ _ ?_; clear hΨ hΨ' Ψ) | refine evC_ret ?_ | refine evC_exit ?_) | ((with_reducible refine hΨ' _ _ ?_ ?_); (focus (simp; done)); clear hΨ hΨ' Ψ) | ((with_reducible apply evC_cond); rfl; rfl; all_goals (intro hc; first | (cases hc; done) | (try simp only at hc))))))
          all_goals rw [hr, hcc, hfin]
          all_goals refine ⟨by simp, ⟨_, rfl, AV.le_cut _ _ _ _ _⟩, leH_get ⟨?_, trivial⟩⟩
          all_goals simp [hget_cons, spl, List.append_assoc]
      · have k5 : (b == a) = false := by simp [hab]
        have hΨ1 := fun σ' => hΨ σ' ⟨j + 1, hlt, fun i hi => by
          rcases Nat.lt_or_ge i j with h | h
          · exact hnd i h
          · obtain rfl : i = j := by omega
            rw [ha, hb]
            exact fun e => hab (Option.some.inj e).symm⟩ (by dsimp only; omega)
        dsimp only at hΨ1
        (have W := ndI k2 (ndI k3 (ndI k4 (ndI k5 @wrI))); (repeat (any_goals (first | ((with_reducible refine evL_one ?_ ?_); rfl; intro K hK; simp (disch := omega) only [go_sem, W, ea, eb, Nat.mul_one]; ((repeat (refine ndI (by first | assumption | rfl) ?_)); refine hK _ ?_; clear hK K)) | (with_reducible first | (refine evL_nil ?_; refine hR _ ?_; clear hR R) | ((first | refine evC_seq ?_ | refine evC_block ?_); intro Ψ hΨ hΨ') | (refine evC_region ?_; intro R hR) | (refine hΨ _ ?_; clear hΨ hΨ' Ψ) | refine evC_skip ?_) | ((with_reducible refine hΨ' _ _ ?_ ?_); (focus (simp; done)); clear hΨ hΨ' Ψ) | ((with_reducible apply evC_cond); rfl; rfl; all_goals (intro hc; first | (cases hc; done) | (try simp only at hc))) | ((with_reducible refine evD_nil ?_ ?_); kernel_rfl; (with_reducible refine hR _ ?_); clear hR R) | (((with_reducible apply evD_any); rfl; rfl; (simp (disch := omega) only [rdE, rdOf, go_sem, W, ea, eb, Nat.mul_one]; rfl); (intro τ hA hQ hN; ((try simp only [agree, Op.operands, Call.operands, go_sem, W, ea, eb, Nat.mul_one, go_sem, List.mem_cons, List.not_mem_nil, forall_eq_or_imp, forall_eq, List.append_toArray, Option.toArray] at hA); (try simp only [go_sem, W, ea, eb, Nat.mul_one, List.mem_cons, List.not_mem_nil, forall_eq_or_imp, forall_eq] at hQ hN); (first | (revert hA; intro hA)); (first | (revert hQ; intro hQ)); (first | (revert hN; intro hN)); simp (disch := omega) only [go_sem, W, ea, eb, Nat.mul_one, go_sem, hA, hQ, hN]; (repeat (refine ndI (by first | assumption | omega | rfl) ?_)); (first | apply eff_rd)))); (simp (disch := omega) only [St.eff, setO, hputs, go_sem, W, ea, eb, Nat.mul_one])) | ((with_reducible refine evC_draw ?_ ?_ ?_ ?_); kernel_rfl; kernel_rfl; (first | kernel_rfl); intro R hR)))))
        all_goals exact hΨ1 _ (St.le_of (by simp [leT]) (by simp [leH, hget]))
    · have k2 : (decide (((j + 1 : Nat) : Int) < (s.length : Int))) = false := by simp; omega
      have hd : ddN s s.length = s := by
        have e : s.length = j + 1 := by omega
        rw [e, ddN_take hj hnd, ← e, List.take_length]
      have hr : (AV.row 1000 58 1 (ddN s s.length).length) = .row 1000 58 1 s.length := by rw [hd]
      have hcc : ddN s s.length ++ List.replicate (s.length - (ddN s s.length).length) 0 = s := by rw [hd, Nat.sub_self, List.replicate_zero, List.append_nil]
      (repeat (any_goals (first | ((with_reducible refine evL_one ?_ ?_); rfl; intro K hK; simp only [go_sem, k2]; ((repeat (refine ndI (by first | assumption) ?_)); refine hK _ ?_; clear hK K)) | (with_reducible first | (refine evL_nil ?_; refine hR _ ?_; clear hR R) | ((first | refine evC_seq ?_); intro Ψ hΨ hΨ') | (refine evC_region ?_; intro R hR) | (refine hΨ _ ?_; clear hΨ hΨ' Ψ) | refine evC_ret ?_ | refine evC_exit ?_) | ((with_reducible refine hΨ' _ _ ?_ ?_); (focus (simp; done)); clear hΨ hΨ' Ψ) | ((with_reducible apply evC_cond); rfl; rfl; all_goals (intro hc; first | (cases hc; done) | (try simp only at hc))))))
      all_goals rw [hr, hcc]
      all_goals (refine ⟨by simp, ⟨_, ?_, AV.le_refl _⟩, leH_get (by simp [leH, hget])⟩; simp only [Tryz.results129, resL, ldA, oneOf, go_sem])
end Go.Proofs.YtmidmaeihpldhaaGreat.ax
namespace Go.Proofs.YtmidmaeihpldhaaGreat.ax
open Go.RowKit
theorem heap_sorted {α : Type} [Inhabited α] {enc : α → Value} {w : World} {blk m : Nat} {d : Array α} {os : Array Obj} {cur : Array Value} {t : TypeId} (hb : w.heap[blk]? = some (.cells cur t (0, 0))) :
    (sortWorld enc w blk 0 m d os).heap[blk]? = some (.cells (Sort.putCells enc 0 d cur) t (0, 0)) := by
  have hlt : blk < w.heap.size := (Array.getElem?_eq_some_iff.1 hb).1
  unfold sortWorld
  rw [Sort.heap_grow_old _ _ (by rw [Sort.size_putRow]; exact hlt)]
  show (w.heap.modify blk (Sort.onCells (Sort.putCells enc 0 d)))[blk]? = _
  rw [Array.getElem?_modify, if_pos rfl, hb]
  rfl
theorem heap_sorted_other {α : Type} [Inhabited α] {enc : α → Value} {w : World} {blk m b : Nat} {d : Array α} {os : Array Obj} (hlt : b < w.heap.size) (hne : blk ≠ b) :
    (sortWorld enc w blk 0 m d os).heap[b]? = w.heap[b]? := by
  unfold sortWorld
  rw [Sort.heap_grow_old _ _ (by rw [Sort.size_putRow]; exact hlt)]
  show (w.heap.modify blk (Sort.onCells (Sort.putCells enc 0 d)))[b]? = _
  rw [Array.getElem?_modify, if_neg hne]
theorem size_sorted {α : Type} [Inhabited α] {enc : α → Value} {w : World} {blk m : Nat} {d : Array α} {os : Array Obj} : w.heap.size ≤ (sortWorld enc w blk 0 m d os).heap.size := by
  unfold sortWorld
  rw [Sort.size_grow, Sort.size_putRow]
  exact Nat.le_add_right _ _
theorem frozen_none {w : World} {b : Nat} {cs : Array Value} {t : TypeId} (hb : w.heap[b]? = some (.cells cs t (0, 0))) (j : Nat) : w.frozen? ⟨b, j, none⟩ = false := by
  unfold World.frozen?
  rw [hb]
  simp
theorem cell_of {w : World} {b : Nat} {cs : Array Value} {t : TypeId} (hb : w.heap[b]? = some (.cells cs t (0, 0))) (j : Nat) : w.cell? ⟨b, j, none⟩ = cs[j]? := by
  unfold World.cell?
  rw [hb]
  rfl
theorem Fn.sorting {α : Type} [Inhabited α] {P : Program} {f g : FuncId} {e : TypeId} {enc : α → Value} (h1 : ∀ x, (enc x).oneCell' = true) (l l' : List α) (hlen : l'.length = l.length)
    (hS : ∀ (blk cap : Nat) (w : World), l ≠ [] → Sort.Holds enc w blk 0 l.toArray → blk < w.heap.size → Calls P f #[.slice (some ⟨blk, 0, none⟩) l.toArray.size cap, .func (.func g) #[] #[]] w fun e w' => e = .returned (.tuple #[]) ∧ ∃ n os, w' = sortWorld enc w blk 0 n l'.toArray os)
    (h0 : ∀ p cap w, Calls P f #[.slice p 0 cap, .func (.func g) #[] #[]] w fun e w' => e = .returned (.tuple #[]) ∧ w' = w) :
    Fn P f [.row 1000 e 1 l.length, .fn g []] [(1000, l.map fun x => .c (.v (enc x)))] (.tup []) [(1000, l'.map fun x => .c (.v (enc x)))] := by
  intro E vs hD hsep hH hvl hv
  obtain ⟨v0, v1, rfl⟩ : ∃ v0 v1, vs = [v0, v1] := by
    match vs, hvl with
    | [v0, v1], _ => exact ⟨v0, v1, rfl⟩
  have r0 := hv 0 v0 _ rfl rfl
  have r1 := hv 1 v1 _ rfl rfl
  have hmine : (∀ (q : Nat) cs, hget [(1000, l'.map fun x => AV.c (.v (enc x)))] q = some cs → (q ∈ E.D → E.ι q = E.ι q) ∧ (q ∉ E.D → (E.ι q).2.1 ≠ 0 → Mine E (E.ι q).1)) := fun q cs hq =>
    ⟨fun _ => rfl, fun hn _ => by
      rw [hD] at hn
      simp only [hget] at hq
      split at hq
      · rename_i e; subst e; simp at hn
      · cases hq⟩
  have hblk0 := hH.blk 1000 (l.map fun x => AV.c (.v (enc x))) (by simp [hget])
  cases r1 with
  | fn _ us _ hul hus =>
  obtain rfl := List.eq_nil_of_length_eq_zero hul
  -- no element
  have hnone : ∀ p c, l = [] → v0 = .slice p 0 c → Calls P f [v0, .func (.func g) #[] #[]].toArray E.w fun e w' => ∃ v ι', e = .returned v ∧ RV (Sx E ι' [(1000, l'.map fun x => AV.c (.v (enc x)))]) ι' w' v (.tup []) ∧ ConcH (Sx E ι' [(1000, l'.map fun x => AV.c (.v (enc x)))]) ι' [(1000, l'.map fun x => AV.c (.v (enc x)))] w' ∧ Keep E ι' [(1000, l'.map fun x => AV.c (.v (enc x)))] w' := by
    intro p c hl0 hv0
    subst hl0 hv0
    obtain rfl := List.eq_nil_of_length_eq_zero hlen
    refine (h0 p c E.w).mono ?_
    rintro e w' ⟨rfl, rfl⟩
    refine ⟨_, E.ι, rfl, .tup [] [] rfl (fun j u x hu => by cases hu), ⟨fun q cs hq => ?_, fun q q' cs ds hq hq' hne => ?_⟩, ⟨rfl, rfl, rfl, Nat.le_refl _, fun _ _ _ => rfl, hmine⟩⟩
    · simp only [hget] at hq
      split at hq
      · rename_i e; subst e; cases hq
        rcases hblk0 with hb | ⟨cur, hc1, hc2, hc3, hc4, hc5⟩
        · exact .inl hb
        · exact .inr ⟨cur, hc1, hc2, hc3, fun j u x hu hx => (by cases hx), hc5⟩
      · cases hq
    · simp only [hget] at hq hq'
      split at hq
      · split at hq'
        · omega
        · cases hq'
      · cases hq
  rcases Nat.eq_zero_or_pos l.length with hl0 | hl0
  · generalize hn : l.length = n at r0
    have hn0 : n = 0 := by omega
    cases r0 with
    | row _ _ _ _ c k1 k2 k3 k4 k0 => exact hnone _ _ (List.eq_nil_of_length_eq_zero hl0) (by rw [hn0])
    | rnil A _ _ _ k => exact hnone A 0 (List.eq_nil_of_length_eq_zero hl0) rfl
  · have hne : l ≠ [] := fun h => by rw [h] at hl0; exact Nat.lt_irrefl _ hl0
    generalize hn : l.length = n at r0
    cases r0 with
    | rnil A _ _ _ k => omega
    | row _ _ _ _ c k1 k2 k3 k4 k0 =>
      rcases hblk0 with hb | ⟨cur, hc1, hc2, hc3, hc4, hc5⟩
      · exact absurd hb.1 k0
      · rw [List.length_map] at hc3
        have hlt : (E.ι 1000).1 < E.w.heap.size := (Array.getElem?_eq_some_iff.1 hc1).1
        have hsz : l.toArray.size = n := by simp [hn]
        have hHo : Sort.Holds enc E.w (E.ι 1000).1 0 l.toArray := by
          intro j hj
          rw [hsz] at hj
          have hjc : j < cur.size := by omega
          refine ⟨?_, frozen_none hc1 _⟩
          rw [Nat.zero_add, cell_of hc1, Array.getElem?_eq_getElem hjc]
          obtain ⟨hrv, _⟩ := hc4 j _ (.c (.v (enc l[j]))) (Array.getElem?_eq_getElem hjc) (by rw [List.getElem?_map, List.getElem?_eq_getElem (by omega)]; rfl)
          generalize cur[j] = u at hrv ⊢
          cases hrv with
          | c _ _ hp =>
            cases hp with
            | v =>
              rw [getElem!_pos _ j (by simp; omega)]
              simp
        have hC := hS (E.ι 1000).1 c E.w hne hHo hlt
        rw [hsz] at hC
        refine hC.mono ?_
        rintro e w' ⟨rfl, m, os, rfl⟩
        have hnew := heap_sorted (enc := enc) (m := m) (d := l'.toArray) (os := os) hc1
        have hcs : (Sort.putCells enc 0 l'.toArray cur).size = cur.size := by simp [Sort.putCells]
        have hcell : ∀ (j : Nat) (u : Value), (Sort.putCells enc 0 l'.toArray cur)[j]? = some u → ∃ y, cur[j]? = some y ∧ u = if j < l'.length then enc l'.toArray[j]! else y := by
          intro j u hu
          have hj : j < cur.size := by rw [← hcs]; exact (Array.getElem?_eq_some_iff.1 hu).1
          refine ⟨_, Array.getElem?_eq_getElem hj, ?_⟩
          simp only [Sort.putCells, Array.getElem?_mapIdx, Array.getElem?_eq_getElem hj, Option.map_some, Option.some.injEq] at hu
          rw [← hu]
          simp
        refine ⟨_, E.ι, rfl, .tup [] [] rfl (fun j u x hu => by cases hu), ⟨fun q cs hq => ?_, fun q q' cs ds hq hq' hne' => ?_⟩, ⟨rfl, rfl, rfl, size_sorted, fun b hb hnb => ?_, hmine⟩⟩
        · simp only [hget] at hq
          split at hq
          · rename_i e; subst e; cases hq
            refine .inr ⟨_, hnew, by rw [hcs]; exact hc2, by rw [hcs, List.length_map]; omega, fun j u x hu hx => ?_, fun u hu => ?_⟩
            · obtain ⟨y, hy, rfl⟩ := hcell j u hu
              rw [List.getElem?_map, Option.map_eq_some_iff] at hx
              obtain ⟨z, hz, rfl⟩ := hx
              have hj := (List.getElem?_eq_some_iff.1 hz).1
              rw [if_pos hj]
              have : l'.toArray[j]! = z := by
                rw [getElem!_pos _ j (by simpa using hj)]
                simp
                exact (List.getElem?_eq_some_iff.1 hz).2
              rw [this]
              exact ⟨.c _ _ (.v _ (h1 z)), h1 z⟩
            · obtain ⟨j, hj⟩ := List.mem_iff_getElem?.1 hu
              rw [Array.getElem?_toList] at hj
              obtain ⟨y, hy, rfl⟩ := hcell j u hj
              split
              · exact h1 _
              · exact hc5 y (by
                  rw [← Array.getElem?_toList] at hy
                  exact List.mem_of_getElem? hy)
          · cases hq
        · simp only [hget] at hq hq'
          split at hq
          · split at hq'
            · omega
            · cases hq'
          · cases hq
        · exact heap_sorted_other hb (hnb 1000 (by rw [hD]; simp) k0)
end Go.Proofs.YtmidmaeihpldhaaGreat.ax
