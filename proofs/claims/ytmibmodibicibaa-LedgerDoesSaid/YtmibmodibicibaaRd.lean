/-
  Sums and differences of words as the document has them; reckoned.
-/
import Derived.Test.YtmibmodibicibaaRc
namespace Go.Proofs.Ytmibmodibicibaa
open Go.RowKit
open Nat (reduceBEq)
set_option linter.unusedVariables false
set_option linter.unusedSimpArgs false
set_option maxRecDepth 20000
set_option maxHeartbeats 2000000
theorem over_bit {x y : Nat} (hx : x < WW) (hy : y < WW) : (((bitN (x + y) 256 : Nat) : Int) == 1) = decide (WW ≤ x + y) := by
  have hx' : x < 2 ^ 256 := hx
  have hy' : y < 2 ^ 256 := hy
  have hW : WW = 2 ^ 256 := rfl
  rw [hW]
  unfold bitN
  generalize (2 : Nat) ^ 256 = M at hx' hy' ⊢
  rw [Bool.eq_iff_iff]
  simp only [beq_iff_eq, decide_eq_true_eq]
  have h1 : (x + y) / M < 2 := Nat.div_lt_of_lt_mul (by omega)
  rcases Nat.lt_or_ge (x + y) M with h | h
  · rw [Nat.div_eq_of_lt h]; simp; omega
  · have : 1 ≤ (x + y) / M := (Nat.le_div_iff_mul_le (by omega)).2 (by omega)
    have e : (x + y) / M = 1 := by omega
    rw [e]; simp; omega
theorem refadd_fn (x y : Nat) (hx : x < WW) (hy : y < WW) : Fn Try.prog 50 [wN x, wN y] [] (.tup [wN ((x + y) % WW), vb (decide (WW ≤ x + y))]) [] := by
  have b1 := bits_fn x hx
  have b2 := bits_fn y hy
  have ad := addb_fn false false x y hx hy
  have of := ofb_fn false (x + y) 257 (by decide) (by decide)
  have ob := over_bit hx hy
  have hl := bitsL_len (x + y) 257
  have hbit := isl_at (bitsL_at (z := x + y) (show 256 < 257 by decide))
  generalize decide (WW ≤ x + y) = q at ob ⊢
  generalize (x + y) % WW = r at of ⊢
  generalize bitN (x + y) 256 = s at ob hbit
  generalize bitsL (x + y) 257 = l at ad of hl hbit
  generalize bitsL x 256 = lx at b1 ad
  generalize bitsL y 256 = ly at b2 ad
  have hl2 : 256 < l.length := by omega
  (refine fn_of Try.func50 rfl (by rfl) ?_; simp only [Try.ntmps50, List.length_cons, List.length_nil, Nat.reduceAdd, Nat.reduceSub, List.replicate, List.cons_append, List.nil_append])
  (repeat (any_goals (first | ((with_reducible refine evL_one ?_ ?_); rfl; intro K hK; simp (disch := omega) only [go_sem, ob, hbit, hl, Nat.mul_one, Nat.reduceMul]; ((repeat (refine ndI (by first | assumption | omega | rfl) ?_)); refine hK _ ?_; clear hK K)) | (with_reducible first | (refine evL_nil ?_; refine hR _ ?_; clear hR R) | ((first | refine evC_seq ?_ | refine evC_block ?_); intro Ψ hΨ hΨ') | (refine evC_region ?_; intro R hR) | (refine hΨ _ ?_; clear hΨ hΨ' Ψ) | refine evC_skip ?_ | refine evC_ret ?_ | refine evC_exit ?_) | ((with_reducible refine hΨ' _ _ ?_ ?_); (focus (simp; done)); clear hΨ hΨ' Ψ) | ((with_reducible apply evC_cond); rfl; rfl; all_goals (intro hc; first | (cases hc; done) | (try simp only at hc))) | ((with_reducible refine evD_nil ?_ ?_); kernel_rfl; (with_reducible refine hR _ ?_); clear hR R) | ((first | ((with_reducible apply evD_fcall); rfl; rfl; (first | ((first | (apply opF_callB (ad); rfl; rfl; rfl; rfl; exact Try.func58) | (apply opF_callB (of); rfl; rfl; rfl; rfl; exact Try.func60)); kernel_rfl; rfl; (simp (disch := omega) only [go_sem, ob, hbit, hl, Nat.mul_one, Nat.reduceMul]; rfl); (first | rfl | simp [AV.inNL, AV.inN])) | ((apply opF_callB (b1); rfl; rfl; rfl; rfl; exact Try.func59); kernel_rfl; rfl; (simp (disch := omega) only [go_sem, ob, hbit, hl, Nat.mul_one, Nat.reduceMul]; rfl); (first | rfl | simp [AV.inNL, AV.inN])) | ((apply opF_callB (b2); rfl; rfl; rfl; rfl; exact Try.func59); kernel_rfl; rfl; (simp (disch := omega) only [go_sem, ob, hbit, hl, Nat.mul_one, Nat.reduceMul]; rfl); (first | rfl | simp [AV.inNL, AV.inN])))) | ((with_reducible apply evD_any); rfl; rfl; (simp (disch := omega) only [rdE, rdOf, go_sem, ob, hbit, hl, Nat.mul_one, Nat.reduceMul]; rfl); (intro τ hA hQ hN; ((try simp only [agree, Op.operands, Call.operands, go_sem, ob, hbit, hl, Nat.mul_one, Nat.reduceMul, go_sem, List.mem_cons, List.not_mem_nil, forall_eq_or_imp, forall_eq, List.append_toArray, Option.toArray] at hA); (try simp only [go_sem, ob, hbit, hl, Nat.mul_one, Nat.reduceMul, List.mem_cons, List.not_mem_nil, forall_eq_or_imp, forall_eq] at hQ hN); (first | (revert hA; intro hA) | have hA := trivial); (first | (revert hQ; intro hQ) | have hQ := trivial); (first | (revert hN; intro hN) | have hN := trivial); simp (disch := omega) only [go_sem, ob, hbit, hl, Nat.mul_one, Nat.reduceMul, go_sem, hA, hQ, hN]; (repeat (refine ndI (by first | assumption | omega | rfl) ?_)); (first | apply eff_rd | apply eff_st | apply eff_nw))))); (simp (disch := omega) only [St.eff, setO, hputs, go_sem, ob, hbit, hl, Nat.mul_one, Nat.reduceMul])) | ((with_reducible refine evC_draw ?_ ?_ ?_ ?_); kernel_rfl; kernel_rfl; (first | kernel_rfl | simp [newNames, isNew, St.free, freeH, AV.refsL, AV.refs]); intro R hR))))
  all_goals (refine ⟨by simp, ⟨_, ?_, AV.le_refl _⟩, leH_get (by simp [leH, hget])⟩; simp only [Try.results50, resL, ldA, oneOf, go_sem])
/-- the borrow behind so many bits -/
def lessN (x y i : Nat) : Nat := if x % 2 ^ i < y % 2 ^ i then 1 else 0
theorem sub_step {x y i : Nat} (hx : x < WW) (hy : y < WW) (hi : i < 256) :
    (bitN x i : Int) - (bitN y i : Int) - (lessN x y i : Int) = (bitN (x + WW - y) i : Int) - 2 * (lessN x y (i + 1) : Int) := by
  have hp : 0 < 2 ^ i := Nat.pos_of_ne_zero (by simp)
  have hW : WW = 2 ^ i * (2 * 2 ^ (255 - i)) := by
    rw [show WW = 2 ^ 256 from rfl, ← Nat.pow_succ', ← Nat.pow_add, show i + (255 - i).succ = 256 by omega]
  have ex := Nat.div_add_mod x (2 ^ i)
  have ey := Nat.div_add_mod y (2 ^ i)
  have hX := Nat.mod_lt x hp
  have hY := Nat.mod_lt y hp
  unfold lessN
  rw [Nat.mod_pow_succ, Nat.mod_pow_succ]
  unfold bitN
  have hqy : y / 2 ^ i < 2 * 2 ^ (255 - i) := Nat.div_lt_of_lt_mul (by rw [← hW]; exact hy)
  generalize hM : 2 ^ (255 - i) = M at hW hqy
  have hz : (x + WW - y) / 2 ^ i = x / 2 ^ i + 2 * M - y / 2 ^ i - (if x % 2 ^ i < y % 2 ^ i then 1 else 0) := by
    generalize 2 ^ i = P at *
    generalize x / P = qx at *
    generalize y / P = qy at *
    generalize x % P = X at *
    generalize y % P = Y at *
    rw [hW, ← ex, ← ey]
    split
    · have : P * qx + X + P * (2 * M) - (P * qy + Y) = (P + X - Y) + P * (qx + 2 * M - qy - 1) := by
        rw [Nat.mul_sub, Nat.mul_sub, Nat.mul_add]
        have h1 : P * qy + P ≤ P * (2 * M) := by rw [← Nat.mul_succ]; exact Nat.mul_le_mul_left _ hqy
        omega
      rw [this, Nat.add_mul_div_left _ _ hp, Nat.div_eq_of_lt (by omega)]
      omega
    · have : P * qx + X + P * (2 * M) - (P * qy + Y) = (X - Y) + P * (qx + 2 * M - qy) := by
        rw [Nat.mul_sub, Nat.mul_add]
        have h1 : P * qy + P ≤ P * (2 * M) := by rw [← Nat.mul_succ]; exact Nat.mul_le_mul_left _ hqy
        omega
      rw [this, Nat.add_mul_div_left _ _ hp, Nat.div_eq_of_lt (by omega)]
      omega
  rw [hz]
  generalize 2 ^ i = P at *
  generalize x / P = qx at *
  generalize y / P = qy at *
  generalize x % P = X at *
  generalize y % P = Y at *
  have c1 : qx % 2 = 0 ∨ qx % 2 = 1 := by omega
  have c2 : qy % 2 = 0 ∨ qy % 2 = 1 := by omega
  rcases c1 with c1 | c1 <;> rcases c2 with c2 | c2 <;> rw [c1, c2] <;> simp only [Nat.mul_zero, Nat.mul_one, Nat.add_zero] <;> (repeat' split) <;> omega
theorem less_all {x y : Nat} (hx : x < WW) (hy : y < WW) : (((lessN x y 256 : Nat) : Int) == 1) = decide (x < y) := by
  unfold lessN
  rw [Nat.mod_eq_of_lt (show x < 2 ^ 256 from hx), Nat.mod_eq_of_lt (show y < 2 ^ 256 from hy)]
  by_cases h : x < y
  · rw [if_pos h, decide_eq_true h]; rfl
  · rw [if_neg h, decide_eq_false h]; rfl
theorem lessN_le (x y i : Nat) : lessN x y i < 2 := by unfold lessN; split <;> omega
abbrev stL2 (x y : Nat) (z : Nat) (r : Nat) (out : List Nat) (i : Nat) : St := ⟨[.any, .any, .ptr 2 0, .ptr 3 0, .ptr 4 0, .any, .row r 3 1 out.length, vi .i64 (lessN x y i : Nat), .any, .any, vi .i64 i, .any, .any, .any, .any, .any, .any, .any, .any, .any, .any, .any, .any, .any, .any, .any, .any, .any, .any, .any, .any, .any, .any, .any, .any], [(2, [vi .u64 (l0 x), vi .u64 (l1 x), vi .u64 (l2 x), vi .u64 (l3 x)]), (3, [vi .u64 (l0 y), vi .u64 (l1 y), vi .u64 (l2 y), vi .u64 (l3 y)]), (4, [vi .u64 0, vi .u64 0, vi .u64 0, vi .u64 0]), (r, rcI out)]⟩
theorem stL2_rn (x y z : Nat) (out : List Nat) (i : Nat) : (stL2 x y z 29 out i).to (stL2 x y z 500 out i) := by
  have h := St.to.rn (σ := stL2 x y z 29 out i) (fun r => if r = 29 then 500 else r) (fun r => if r = 500 then 29 else r) [2, 3, 4, 29] (by simp [AV.inNL, AV.inN]) (by simp) (by simp [inH, AV.inNL, AV.inN, rcI]) (by simp) (by simp)
  simpa [AV.renL, AV.ren, renH, rcI, stL2] using h
theorem refsub_fn (x y : Nat) (hx : x < WW) (hy : y < WW) : Fn Try.prog 53 [wN x, wN y] [] (.tup [wN ((x + WW - y) % WW), vb (decide (x < y))]) [] := by
  obtain ⟨z, hz⟩ : ∃ z, x + WW - y = z := ⟨_, rfl⟩
  have of := ofb_fn false z 256 (by decide) (by decide)
  have la := less_all hx hy
  rw [hz]
  generalize decide (x < y) = q at la ⊢
  generalize z % WW = r at of ⊢
  (refine fn_of Try.func53 rfl (by rfl) ?_; simp only [Try.ntmps53, List.length_cons, List.length_nil, Nat.reduceAdd, Nat.reduceSub, List.replicate, List.cons_append, List.nil_append])
  (repeat (any_goals (first | ((with_reducible refine evL_one ?_ ?_); rfl; intro K hK; simp only [go_sem]; ((repeat (refine ndI (by first | assumption | omega | rfl) ?_)); refine hK _ ?_; clear hK K)) | (with_reducible first | (refine evL_nil ?_; refine hR _ ?_; clear hR R) | ((first | refine evC_seq ?_ | refine evC_block ?_); intro Ψ hΨ hΨ') | (refine evC_region ?_; intro R hR) | (refine hΨ _ ?_; clear hΨ hΨ' Ψ) | refine evC_skip ?_ | refine evC_ret ?_ | refine evC_exit ?_) | ((with_reducible refine hΨ' _ _ ?_ ?_); (focus (simp; done)); clear hΨ hΨ' Ψ) | ((with_reducible apply evC_cond); rfl; rfl; all_goals (intro hc; first | (cases hc; done) | (try simp only at hc))) | ((with_reducible refine evD_nil ?_ ?_); kernel_rfl; (with_reducible refine hR _ ?_); clear hR R) | (((with_reducible apply evD_any); rfl; rfl; (simp only [rdE, rdOf, go_sem]; rfl); (intro τ hA hQ hN; ((try simp only [agree, Op.operands, Call.operands, go_sem, List.mem_cons, List.not_mem_nil, forall_eq_or_imp, forall_eq, List.append_toArray, Option.toArray] at hA); (try simp only [go_sem, List.mem_cons, List.not_mem_nil, forall_eq_or_imp, forall_eq] at hQ hN); (first | (revert hA; intro hA) | have hA := trivial); (first | (revert hQ; intro hQ) | have hQ := trivial); (first | (revert hN; intro hN) | have hN := trivial); simp only [go_sem, hA, hQ, hN]; (repeat (refine ndI (by first | assumption | omega | rfl) ?_)); (first | apply eff_rd | apply eff_st | apply eff_nw)))); (simp only [St.eff, setO, hputs, go_sem])) | ((with_reducible refine evC_draw ?_ ?_ ?_ ?_); kernel_rfl; kernel_rfl; (first | kernel_rfl | simp [newNames, isNew, St.free, freeH, AV.refsL, AV.refs]); intro R hR))))
  refine evC_uptoT 256 (fun i => stL2 x y z 500 (bitsL z i) i) ?_ ?_
  · refine St.to.trans (St.to.of_le (τ := ⟨[.any, .any, .ptr 2 0, .ptr 3 0, .ptr 4 0, .any, .c (.v (.slice none 0 0)), vi .i64 0, .any, .any, vi .i64 0, .any, .any, .any, .any, .any, .any, .any, .any, .any, .any, .any, .any, .any, .any, .any, .any, .any, .any, .any, .any, .any, .any, .any, .any], [(2, [vi .u64 (l0 x), vi .u64 (l1 x), vi .u64 (l2 x), vi .u64 (l3 x)]), (3, [vi .u64 (l0 y), vi .u64 (l1 y), vi .u64 (l2 y), vi .u64 (l3 y)]), (4, [vi .u64 0, vi .u64 0, vi .u64 0, vi .u64 0])]⟩) (St.le_of (by simp [leT]) (by simp [leH, hget]))) ?_
    refine St.to.trans (St.to.nilrow 6 500 3 1 rfl (by simp) (by simp [St.free, freeH, AV.refsL, AV.refs]) (by decide)) (St.to.of_le (St.le_of (by simp [leT, bitsL, lessN, Nat.mod_one]) (by simp [leH, hget, hput, rcI, bitsL])))
  intro i hi Ψ hΨ hΨ'
  dsimp only [stL2] at hΨ ⊢
  have ht := bitsL_succ z i
  have hol := bitsL_len z i
  rcases Nat.lt_or_ge i 256 with hlt | hge
  · have k1 : (decide ((i : Int) < 256)) = true := by simp; omega
    have k7 : (i : Int) + 1 = ((i + 1 : Nat) : Int) := by omega
    have t1 := bitN_fn x hx i (by omega)
    have t2 := bitN_fn y hy i (by omega)
    have st := sub_step hx hy hlt
    rw [hz] at st
    have b1 := bitN_lt x i
    have b2 := bitN_lt y i
    have b3 := bitN_lt z i
    have b4 := lessN_le x y i
    have b5 := lessN_le x y (i + 1)
    rw [ht] at hΨ
    generalize bitsL z i = out at hΨ hol ⊢
    have k2 := rcI_len out
    generalize bitN x i = p at st b1 t1
    generalize bitN y i = q at st b2 t2
    generalize bitN z i = s at st b3 hΨ
    have hΨ2 : ∀ σ' : St, i + 1 ≤ 256 → σ'.to (stL2 x y z 29 (out ++ [s]) (i + 1)) → Ψ .normal σ' := fun σ' h1 h2 => hΨ σ' h1 (h2.trans (stL2_rn x y z _ _))
    dsimp only [stL2] at hΨ2
    generalize lessN x y (i + 1) = c2 at st b5 hΨ2
    generalize lessN x y i = c at st b4 ⊢
    rcases (by omega : c2 = 0 ∨ c2 = 1) with hc2 | hc2
    · have k3 : ((p : Int) - (q : Int)) - (c : Int) = (s : Int) := by omega
      have k4 : decide ((s : Int) < 0) = false := by simp
      have k5 : ((c2 : Nat) : Int) = 0 := by omega
      rw [k5] at hΨ2
      (have W := ndI k1 (ndI k2 (ndI k3 (ndI k4 (ndI k7 (ndI @wrI @refsL_map))))); (repeat (any_goals (first | ((with_reducible refine evL_one ?_ ?_); rfl; intro K hK; simp (disch := omega) only [go_sem, W, Nat.mul_one, refsL_rcI, refsL_app, AV.refsL, AV.refs, List.length_append, List.length_cons, List.length_nil, Bool.or_false]; ((repeat (refine ndI (by first | assumption | omega | rfl) ?_)); refine hK _ ?_; clear hK K)) | (with_reducible first | (refine evL_nil ?_; refine hR _ ?_; clear hR R) | ((first | refine evC_seq ?_ | refine evC_block ?_); intro Ψ hΨ hΨ') | (refine evC_region ?_; intro R hR) | (refine hΨ _ ?_; clear hΨ hΨ' Ψ) | refine evC_skip ?_ | refine evC_ret ?_ | refine evC_exit ?_) | ((with_reducible refine hΨ' _ _ ?_ ?_); (focus (simp; done)); clear hΨ hΨ' Ψ) | ((with_reducible apply evC_cond); rfl; rfl; all_goals (intro hc; first | (cases hc; done) | (try simp only at hc))) | ((with_reducible refine evD_nil ?_ ?_); kernel_rfl; (with_reducible refine hR _ ?_); clear hR R) | ((first | ((with_reducible apply evD_fcall); rfl; rfl; (first | ((apply opF_callB (t1); rfl; rfl; rfl; rfl; exact Try.func61); kernel_rfl; rfl; (simp (disch := omega) only [go_sem, W, Nat.mul_one, refsL_rcI, refsL_app, AV.refsL, AV.refs, List.length_append, List.length_cons, List.length_nil, Bool.or_false]; rfl); (first | rfl | simp [AV.inNL, AV.inN])) | ((apply opF_callB (t2); rfl; rfl; rfl; rfl; exact Try.func61); kernel_rfl; rfl; (simp (disch := omega) only [go_sem, W, Nat.mul_one, refsL_rcI, refsL_app, AV.refsL, AV.refs, List.length_append, List.length_cons, List.length_nil, Bool.or_false]; rfl); (first | rfl | simp [AV.inNL, AV.inN])))) | ((with_reducible apply evD_any); rfl; rfl; (simp (disch := omega) only [rdE, rdOf, go_sem, W, Nat.mul_one, refsL_rcI, refsL_app, AV.refsL, AV.refs, List.length_append, List.length_cons, List.length_nil, Bool.or_false]; rfl); (intro τ hA hQ hN; ((try simp only [agree, Op.operands, Call.operands, go_sem, W, Nat.mul_one, refsL_rcI, refsL_app, AV.refsL, AV.refs, List.length_append, List.length_cons, List.length_nil, Bool.or_false, go_sem, List.mem_cons, List.not_mem_nil, forall_eq_or_imp, forall_eq, List.append_toArray, Option.toArray] at hA); (try simp only [go_sem, W, Nat.mul_one, refsL_rcI, refsL_app, AV.refsL, AV.refs, List.length_append, List.length_cons, List.length_nil, Bool.or_false, List.mem_cons, List.not_mem_nil, forall_eq_or_imp, forall_eq] at hQ hN); (first | (revert hA; intro hA) | have hA := trivial); (first | (revert hQ; intro hQ) | have hQ := trivial); (first | (revert hN; intro hN) | have hN := trivial); simp (disch := omega) only [go_sem, W, Nat.mul_one, refsL_rcI, refsL_app, AV.refsL, AV.refs, List.length_append, List.length_cons, List.length_nil, Bool.or_false, go_sem, hA, hQ, hN]; (repeat (refine ndI (by first | assumption | omega | rfl) ?_)); (first | apply eff_rd | apply eff_st | apply eff_nw))))); (simp (disch := omega) only [St.eff, setO, hputs, go_sem, W, Nat.mul_one, refsL_rcI, refsL_app, AV.refsL, AV.refs, List.length_append, List.length_cons, List.length_nil, Bool.or_false])) | ((with_reducible refine evC_draw ?_ ?_ ?_ ?_); kernel_rfl; kernel_rfl; (simp [newNames, isNew, St.free, freeH, AV.refsL, AV.refs, refsL_rcI]); intro R hR)))))
      all_goals exact hΨ2 _ hlt (St.to.of_le (St.le_of (by simp [leT]) (by simp [leH, hget, rcI, ipv])))
    · have k3 : ((p : Int) - (q : Int)) - (c : Int) = (s : Int) - 2 := by omega
      have k4 : decide ((s : Int) - 2 < 0) = true := by simp; omega
      have k5 : ((c2 : Nat) : Int) = 1 := by omega
      have k6 : (s : Int) - 2 + 2 = (s : Int) := by omega
      rw [k5] at hΨ2
      (have W := ndI k1 (ndI k2 (ndI k3 (ndI k4 (ndI k6 (ndI k7 (ndI @wrI @refsL_map)))))); (repeat (any_goals (first | ((with_reducible refine evL_one ?_ ?_); rfl; intro K hK; simp (disch := omega) only [go_sem, W, Nat.mul_one, refsL_rcI, refsL_app, AV.refsL, AV.refs, List.length_append, List.length_cons, List.length_nil, Bool.or_false]; ((repeat (refine ndI (by first | assumption | omega | rfl) ?_)); refine hK _ ?_; clear hK K)) | (with_reducible first | (refine evL_nil ?_; refine hR _ ?_; clear hR R) | ((first | refine evC_seq ?_ | refine evC_block ?_); intro Ψ hΨ hΨ') | (refine evC_region ?_; intro R hR) | (refine hΨ _ ?_; clear hΨ hΨ' Ψ) | refine evC_skip ?_ | refine evC_ret ?_ | refine evC_exit ?_) | ((with_reducible refine hΨ' _ _ ?_ ?_); (focus (simp; done)); clear hΨ hΨ' Ψ) | ((with_reducible apply evC_cond); rfl; rfl; all_goals (intro hc; first | (cases hc; done) | (try simp only at hc))) | ((with_reducible refine evD_nil ?_ ?_); kernel_rfl; (with_reducible refine hR _ ?_); clear hR R) | ((first | ((with_reducible apply evD_fcall); rfl; rfl; (first | ((apply opF_callB (t1); rfl; rfl; rfl; rfl; exact Try.func61); kernel_rfl; rfl; (simp (disch := omega) only [go_sem, W, Nat.mul_one, refsL_rcI, refsL_app, AV.refsL, AV.refs, List.length_append, List.length_cons, List.length_nil, Bool.or_false]; rfl); (first | rfl | simp [AV.inNL, AV.inN])) | ((apply opF_callB (t2); rfl; rfl; rfl; rfl; exact Try.func61); kernel_rfl; rfl; (simp (disch := omega) only [go_sem, W, Nat.mul_one, refsL_rcI, refsL_app, AV.refsL, AV.refs, List.length_append, List.length_cons, List.length_nil, Bool.or_false]; rfl); (first | rfl | simp [AV.inNL, AV.inN])))) | ((with_reducible apply evD_any); rfl; rfl; (simp (disch := omega) only [rdE, rdOf, go_sem, W, Nat.mul_one, refsL_rcI, refsL_app, AV.refsL, AV.refs, List.length_append, List.length_cons, List.length_nil, Bool.or_false]; rfl); (intro τ hA hQ hN; ((try simp only [agree, Op.operands, Call.operands, go_sem, W, Nat.mul_one, refsL_rcI, refsL_app, AV.refsL, AV.refs, List.length_append, List.length_cons, List.length_nil, Bool.or_false, go_sem, List.mem_cons, List.not_mem_nil, forall_eq_or_imp, forall_eq, List.append_toArray, Option.toArray] at hA); (try simp only [go_sem, W, Nat.mul_one, refsL_rcI, refsL_app, AV.refsL, AV.refs, List.length_append, List.length_cons, List.length_nil, Bool.or_false, List.mem_cons, List.not_mem_nil, forall_eq_or_imp, forall_eq] at hQ hN); (first | (revert hA; intro hA) | have hA := trivial); (first | (revert hQ; intro hQ) | have hQ := trivial); (first | (revert hN; intro hN) | have hN := trivial); simp (disch := omega) only [go_sem, W, Nat.mul_one, refsL_rcI, refsL_app, AV.refsL, AV.refs, List.length_append, List.length_cons, List.length_nil, Bool.or_false, go_sem, hA, hQ, hN]; (repeat (refine ndI (by first | assumption | omega | rfl) ?_)); (first | apply eff_rd | apply eff_st | apply eff_nw))))); (simp (disch := omega) only [St.eff, setO, hputs, go_sem, W, Nat.mul_one, refsL_rcI, refsL_app, AV.refsL, AV.refs, List.length_append, List.length_cons, List.length_nil, Bool.or_false])) | ((with_reducible refine evC_draw ?_ ?_ ?_ ?_); kernel_rfl; kernel_rfl; (simp [newNames, isNew, St.free, freeH, AV.refsL, AV.refs, refsL_rcI]); intro R hR)))))
      all_goals exact hΨ2 _ hlt (St.to.of_le (St.le_of (by simp [leT]) (by simp [leH, hget, rcI, ipv])))
  · have k1 : (decide ((i : Int) < 256)) = false := by simp; omega
    obtain rfl : i = 256 := by omega
    generalize lessN x y 256 = c at la ⊢
    generalize bitsL z 256 = out at of hol ⊢
    (repeat (any_goals (first | ((with_reducible refine evL_one ?_ ?_); rfl; intro K hK; simp only [go_sem, k1]; ((repeat (refine ndI (by first | assumption | omega | rfl) ?_)); refine hK _ ?_; clear hK K)) | (with_reducible first | (refine evL_nil ?_; refine hR _ ?_; clear hR R) | ((first | refine evC_seq ?_ | refine evC_block ?_); intro Ψ hΨ hΨ') | (refine evC_region ?_; intro R hR) | (refine hΨ _ ?_; clear hΨ hΨ' Ψ) | refine evC_skip ?_ | refine evC_ret ?_ | refine evC_exit ?_) | ((with_reducible refine hΨ' _ _ ?_ ?_); (focus (simp; done)); clear hΨ hΨ' Ψ) | ((with_reducible apply evC_cond); rfl; rfl; all_goals (intro hc; first | (cases hc; done) | (try simp only at hc))) | ((with_reducible refine evD_nil ?_ ?_); kernel_rfl; (with_reducible refine hR _ ?_); clear hR R) | (((with_reducible apply evD_any); rfl; rfl; (simp only [rdE, rdOf, go_sem, k1]; rfl); (intro τ hA hQ hN; ((try simp only [agree, Op.operands, Call.operands, go_sem, k1, go_sem, List.mem_cons, List.not_mem_nil, forall_eq_or_imp, forall_eq, List.append_toArray, Option.toArray] at hA); (try simp only [go_sem, k1, List.mem_cons, List.not_mem_nil, forall_eq_or_imp, forall_eq] at hQ hN); (first | (revert hA; intro hA) | have hA := trivial); (first | (revert hQ; intro hQ) | have hQ := trivial); (first | (revert hN; intro hN) | have hN := trivial); simp only [go_sem, k1, go_sem, hA, hQ, hN]; (repeat (refine ndI (by first | assumption | omega | rfl) ?_)); (first | apply eff_rd | apply eff_st | apply eff_nw)))); (simp only [St.eff, setO, hputs, go_sem, k1])) | ((with_reducible refine evC_draw ?_ ?_ ?_ ?_); kernel_rfl; kernel_rfl; (first | kernel_rfl | simp [newNames, isNew, St.free, freeH, AV.refsL, AV.refs]); intro R hR))))
    refine evL_to rfl (St.to.frz 500 (pcs := out.flatMap ipv) (by simp [hget, rcI])) ?_
    simp only [St.frz, AV.frzL, AV.frz, frzH, flat_length ipv_len, Nat.mul_one, if_true, eq_self, ↓reduceIte, Nat.reduceEqDiff]
    (repeat (any_goals (first | ((with_reducible refine evL_call ?_ ?_ ?_); rfl; rfl; intro K hK; ((apply opA_callB (of); rfl; rfl; rfl; rfl; exact Try.func60); kernel_rfl; rfl; (simp only [go_sem, la]; rfl); (first | rfl | simp [AV.inNL, AV.inN])); (simp only [go_sem, la]; refine hK _ ?_; clear hK K)) | ((with_reducible refine evL_one ?_ ?_); rfl; intro K hK; simp only [go_sem, la]; ((repeat (refine ndI (by first | assumption | omega | rfl) ?_)); refine hK _ ?_; clear hK K)) | (with_reducible first | (refine evL_nil ?_; refine hR _ ?_; clear hR R) | ((first | refine evC_seq ?_ | refine evC_block ?_); intro Ψ hΨ hΨ') | (refine evC_region ?_; intro R hR) | (refine hΨ _ ?_; clear hΨ hΨ' Ψ) | refine evC_skip ?_ | refine evC_ret ?_ | refine evC_exit ?_) | ((with_reducible refine hΨ' _ _ ?_ ?_); (focus (simp; done)); clear hΨ hΨ' Ψ) | ((with_reducible apply evC_cond); rfl; rfl; all_goals (intro hc; first | (cases hc; done) | (try simp only at hc))) | ((with_reducible refine evD_nil ?_ ?_); kernel_rfl; (with_reducible refine hR _ ?_); clear hR R) | (((with_reducible apply evD_any); rfl; rfl; (simp only [rdE, rdOf, go_sem, la]; rfl); (intro τ hA hQ hN; ((try simp only [agree, Op.operands, Call.operands, go_sem, la, go_sem, List.mem_cons, List.not_mem_nil, forall_eq_or_imp, forall_eq, List.append_toArray, Option.toArray] at hA); (try simp only [go_sem, la, List.mem_cons, List.not_mem_nil, forall_eq_or_imp, forall_eq] at hQ hN); (first | (revert hA; intro hA) | have hA := trivial); (first | (revert hQ; intro hQ) | have hQ := trivial); (first | (revert hN; intro hN) | have hN := trivial); simp only [go_sem, la, go_sem, hA, hQ, hN]; (repeat (refine ndI (by first | assumption | omega | rfl) ?_)); (first | apply eff_rd | apply eff_st | apply eff_nw)))); (simp only [St.eff, setO, hputs, go_sem, la])) | ((with_reducible refine evC_draw ?_ ?_ ?_ ?_); kernel_rfl; kernel_rfl; (first | kernel_rfl | simp [newNames, isNew, St.free, freeH, AV.refsL, AV.refs]); intro R hR))))
    all_goals (refine ⟨by simp, ⟨_, ?_, AV.le_refl _⟩, leH_get (by simp [leH, hget])⟩; simp only [Try.results53, resL, ldA, oneOf, go_sem])
end Go.Proofs.Ytmibmodibicibaa
