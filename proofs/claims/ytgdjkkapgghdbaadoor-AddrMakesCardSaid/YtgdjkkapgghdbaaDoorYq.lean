/-
  A word read of bytes; rows joined. Reckoned.
-/
import Derived.Test.YtgdjkkapgghdbaaDoorYp
namespace Go.Proofs.YtgdjkkapgghdbaaDoor
open Go.RowKit
open Nat (reduceBEq)
set_option linter.unusedVariables false
set_option linter.unusedSimpArgs false
set_option maxRecDepth 20000
set_option maxHeartbeats 2000000
attribute [local simp] inNL_rcV refsL_rcV renL_rcV
theorem St.to.nilcut {σ : St} (i d e sz : Nat) (h1 : σ.T.getD i .any = .c (.v (.slice none 0 0))) (h0 : i < σ.T.length) (hf : σ.free d = true) (hd : d < 1000) : σ.to ⟨σ.T.set i (.cut d e sz 0 0 0 true), hput σ.H d []⟩ := fun E ι a w hc' => by
  have hv := hc'.tmp i
  rw [h1] at hv
  obtain ⟨hv, _⟩ := hv.v_inv
  have hg := hc'.grow (w' := w) hf hd (World.grownBy.refl w none) none (fun b hb => by cases hb) (0, 0, e) (cs := []) (fun h => absurd rfl h) rfl (.inl ⟨rfl, rfl⟩)
  refine ⟨_, hg.defers, by simpa using hg.size, fun j => ?_, hg.heap, hg.keep⟩
  by_cases hj : j = i
  · subst hj
    have : (σ.T.set j (.cut d e sz 0 0 0 true)).getD j .any = .cut d e sz 0 0 0 true := by simp [List.getD, List.getElem?_set, h0]
    show RV _ _ w _ ((σ.T.set j (.cut d e sz 0 0 0 true)).getD j .any)
    rw [this, hv]; exact .cnil none d e sz 0 true (fun _ _ => by rw [upd_same])
  · have : (σ.T.set i (.cut d e sz 0 0 0 true)).getD j .any = σ.T.getD j .any := by simp [List.getD, List.getElem?_set, Ne.symm hj]
    show RV _ _ w _ ((σ.T.set i (.cut d e sz 0 0 0 true)).getD j .any)
    rw [this]; exact hg.tmp j
def wrR (b : List Nat) : Nat → List UInt64
  | 0 => zer 4
  | i + 1 => (wrR b i).set ((31 - i) / 8) ((wrR b i).getD ((31 - i) / 8) 0 ||| UInt64.ofNat (b.getD i 0 * 2 ^ (8 * ((31 - i) % 8))))
theorem wrR_len (b : List Nat) : ∀ k, (wrR b k).length = 4
  | 0 => rfl
  | k + 1 => by unfold wrR; rw [List.length_set, wrR_len b k]
theorem wread_fnE (ex : Bool) (l : List Nat) (hl : l.length = 32) (hb : ∀ b ∈ l, b < 256) (X : Nat → List UInt64) (X0 : X 0 = zer 4) (lx : ∀ k, (X k).length = 4)
    (xs : ∀ i, X (i + 1) = (X i).set ((31 - i) / 8) ((X i).getD ((31 - i) / 8) 0 ||| UInt64.ofNat (l.getD i 0 * 2 ^ (8 * ((31 - i) % 8))))) :
    Fn Tryd.prog 26 [bsl ex l] [] (.tup [lnA (X 32), vi .i64 0]) [] := by
  have z4 : rcV (zer 4) = [vi .u64 0, vi .u64 0, vi .u64 0, vi .u64 0] := rfl
  have e0 : decide ((l.length : Int) > 32) = false := by rw [hl]; rfl
  (refine fn_of Tryd.func26 rfl (by rfl) ?_; simp only [Tryd.ntmps26, List.length_cons, List.length_nil, Nat.reduceAdd, Nat.reduceSub, List.replicate, List.cons_append, List.nil_append])
  (repeat (any_goals (first | ((with_reducible refine evL_one ?_ ?_); rfl; intro K hK; simp only [go_sem, e0]; ((repeat (refine ndI (by first | assumption | omega | rfl) ?_)); refine hK _ ?_; clear hK K)) | (with_reducible first | (refine evL_nil ?_; refine hR _ ?_; clear hR R) | ((first | refine evC_seq ?_ | refine evC_block ?_); intro Ψ hΨ hΨ') | (refine evC_region ?_; intro R hR) | (refine hΨ _ ?_; clear hΨ hΨ' Ψ) | refine evC_skip ?_ | refine evC_ret ?_ | refine evC_exit ?_) | ((with_reducible refine hΨ' _ _ ?_ ?_); (focus (simp; done)); clear hΨ hΨ' Ψ) | ((with_reducible apply evC_cond); rfl; rfl; all_goals (intro hc; first | (cases hc; done) | (try simp only at hc))) | ((with_reducible refine evD_nil ?_ ?_); kernel_rfl; (with_reducible refine hR _ ?_); clear hR R) | (((with_reducible apply evD_any); rfl; rfl; (simp only [rdE, rdOf, go_sem, e0]; rfl); (intro τ hA hQ hN; ((try simp only [agree, Op.operands, Call.operands, go_sem, e0, go_sem, List.mem_cons, List.not_mem_nil, forall_eq_or_imp, forall_eq, List.append_toArray, Option.toArray] at hA); (try simp only [go_sem, e0, List.mem_cons, List.not_mem_nil, forall_eq_or_imp, forall_eq] at hQ hN); (first | (revert hA; intro hA) | have hA := trivial); (first | (revert hQ; intro hQ) | have hQ := trivial); (first | (revert hN; intro hN) | have hN := trivial); simp only [go_sem, e0, go_sem, hA, hQ, hN]; (repeat (refine ndI (by first | assumption | omega | rfl) ?_)); (first | apply eff_rd | apply eff_st | apply eff_nw)))); (simp only [St.eff, setO, hputs, go_sem, e0])) | ((with_reducible refine evC_draw ?_ ?_ ?_ ?_); kernel_rfl; kernel_rfl; (first | kernel_rfl | simp [newNames, isNew, St.free, freeH, AV.refsL, AV.refs]); intro R hR))))
  refine evC_upto 32 (fun i => ⟨[bsl ex l, .any, .ptr 2 0, .any, .ptr 4 0, .any, .any, .any, .any, .any, .any, .any, bsl ex l, vi .i64 (l.length : Int), vi .i64 (i : Int), .any, .any, .any, .any, .any, .any, .any, .any, .any, .any, .any, .any, .any, .any, .any, .any, .any, .any, .any, .any, .any, .any, .any], [(2, rcV (zer 4)), (4, rcV (X i))]⟩) (St.le_of (by simp [leT]) (by rw [X0, z4]; simp [leH, hget])) ?_
  intro i hi Ψ hΨ hΨ'
  (try dsimp only at hΨ ⊢)
  rcases Nat.lt_or_ge i 32 with hlt | hge
  · have k1 : (decide ((i : Int) < (l.length : Int))) = true := by simp; omega
    have k7 : (i : Int) + 1 = ((i + 1 : Nat) : Int) := by omega
    have at1 : l[i]? = some (l.getD i 0) := by rw [List.getD_eq_getElem?_getD, List.getElem?_eq_getElem (by omega)]; rfl
    have at2 := bsl_at at1
    rw [Nat.mul_one] at at2
    have hbk := getD_lt hb i
    have xi := xs i
    obtain ⟨b, hbv⟩ : ∃ b, l.getD i 0 = b := ⟨_, rfl⟩
    obtain ⟨v, hv⟩ : ∃ v, (X i).getD ((31 - i) / 8) 0 = v := ⟨_, rfl⟩
    rw [hbv] at at2 hbk xi
    have k2 := rcV_getD (l := X i) (i := (31 - i) / 8) (by rw [lx]; omega)
    rw [hv] at xi k2
    have w1 : IntKind.u64.wrap ((b : Int) * 2 ^ min (8 * ((31 - i) % 8)) 64) = ((UInt64.ofNat (b * 2 ^ (8 * ((31 - i) % 8)))).toNat : Int) := by
      rw [Nat.min_eq_left (by omega), show ((b : Int) * 2 ^ (8 * ((31 - i) % 8))) = ((b * 2 ^ (8 * ((31 - i) % 8)) : Nat) : Int) by push_cast; rfl, u64w, UInt64.toNat_ofNat']
    obtain ⟨g, hg⟩ : ∃ g, UInt64.ofNat (b * 2 ^ (8 * ((31 - i) % 8))) = g := ⟨_, rfl⟩
    rw [hg] at w1 xi
    have u1 := u64_or v g
    have k4 := rcV_set (X i) ((31 - i) / 8) (v ||| g) (by rw [lx]; omega)
    rw [← xi] at k4
    have k6 : (rcV (X i)).length = 4 := by rw [rcV_len, lx]
    have w2 : IntKind.u64.wrap (b : Int) = (b : Int) := by rw [u64w, Nat.mod_eq_of_lt (by omega)]
    have j0 : ((l.length : Int) - 1) - (i : Int) = ((31 - i : Nat) : Int) := by omega
    have j1 : Int.tdiv ((31 - i : Nat) : Int) 8 = (((31 - i) / 8 : Nat) : Int) := by rw [Int.tdiv_eq_ediv_of_nonneg (by omega)]; omega
    have j2 : Int.tmod ((31 - i : Nat) : Int) 8 = (((31 - i) % 8 : Nat) : Int) := by rw [Int.tmod_eq_emod_of_nonneg (by omega)]; omega
    have j3 : (8 : Int) * (((31 - i) % 8 : Nat) : Int) = ((8 * ((31 - i) % 8) : Nat) : Int) := by omega
    clear xi hg hv hbv xs X0
    (have W := ndI at2 (ndI k1 (ndI k2 (ndI k4 (ndI k6 (ndI k7 (ndI j0 (ndI j1 (ndI j2 (ndI j3 (ndI w1 (ndI w2 (ndI u1 @wrI)))))))))))); (repeat (any_goals (first | ((with_reducible refine evL_one ?_ ?_); rfl; intro K hK; simp (disch := omega) only [go_sem, W, Nat.mul_one, Int.toNat_natCast, Nat.zero_add]; ((repeat (refine ndI (by first | assumption | omega | rfl) ?_)); refine hK _ ?_; clear hK K)) | (with_reducible first | (refine evL_nil ?_; refine hR _ ?_; clear hR R) | ((first | refine evC_seq ?_ | refine evC_block ?_); intro Ψ hΨ hΨ') | (refine evC_region ?_; intro R hR) | (refine hΨ _ ?_; clear hΨ hΨ' Ψ) | refine evC_skip ?_ | refine evC_ret ?_ | refine evC_exit ?_) | ((with_reducible refine hΨ' _ _ ?_ ?_); (focus (simp; done)); clear hΨ hΨ' Ψ) | ((with_reducible apply evC_cond); rfl; rfl; all_goals (intro hc; first | (cases hc; done) | (try simp only at hc))) | ((with_reducible refine evD_nil ?_ ?_); (apply drawOK_sim); (focus (repeat (first | exact Sims.nil | ((apply Sims.cons); (focus (first | ((apply Ef.sim_row); assumption) | exact Ef.sim_refl _)))))); kernel_rfl; (with_reducible refine hR _ ?_); clear hR R) | (((with_reducible apply evD_any); rfl; rfl; (simp (disch := omega) only [rdE, rdOf, go_sem, W, Nat.mul_one, Int.toNat_natCast, Nat.zero_add]; rfl); (intro τ hA hQ hN; ((try simp only [agree, Op.operands, Call.operands, go_sem, W, Nat.mul_one, Int.toNat_natCast, Nat.zero_add, go_sem, List.mem_cons, List.not_mem_nil, forall_eq_or_imp, forall_eq, List.append_toArray, Option.toArray] at hA); (try simp only [go_sem, W, Nat.mul_one, Int.toNat_natCast, Nat.zero_add, List.mem_cons, List.not_mem_nil, forall_eq_or_imp, forall_eq] at hQ hN); (first | (revert hA; intro hA) | have hA := trivial); (first | (revert hQ; intro hQ) | have hQ := trivial); (first | (revert hN; intro hN) | have hN := trivial); simp (disch := omega) only [go_sem, W, Nat.mul_one, Int.toNat_natCast, Nat.zero_add, go_sem, hA, hQ, hN]; (repeat (refine ndI (by first | assumption | omega | rfl) ?_)); (first | apply eff_rd | apply eff_st | apply eff_nw)))); (simp (disch := omega) only [St.eff, setO, hputs, go_sem, W, Nat.mul_one, Int.toNat_natCast, Nat.zero_add])) | ((with_reducible refine evC_draw ?_ ?_ ?_ ?_); kernel_rfl; kernel_rfl; (simp [newNames, isNew, St.free, freeH, AV.refsL, AV.refs, refsL_rcV]); intro R hR)))))
    exact hΨ _ hlt (St.le_of (by simp [leT]) (by simp [leH, hget]))
  · have k1 : (decide ((i : Int) < (l.length : Int))) = false := by simp; omega
    obtain rfl : i = 32 := by omega
    have b1 : List.take 4 (rcV (X 32)) = rcV (X 32) := List.take_of_length_le (by rw [rcV_len, lx]; omega)
    have b2 : (rcV (X 32)).length = 4 := by rw [rcV_len, lx]
    have b3 : List.drop 4 (rcV (X 32)) = [] := List.drop_eq_nil_of_le (by omega)
    have b5 : (rcV (zer 4)).length = 4 := rfl
    have b4 : List.drop 4 (rcV (zer 4)) = [] := rfl
    (have W := ndI k1 (ndI b1 (ndI b2 (ndI b3 (ndI b4 b5)))); (repeat (any_goals (first | ((with_reducible refine evL_one ?_ ?_); rfl; intro K hK; simp (disch := omega) only [go_sem, W, List.append_nil]; ((repeat (refine ndI (by first | assumption | omega | rfl) ?_)); refine hK _ ?_; clear hK K)) | (with_reducible first | (refine evL_nil ?_; refine hR _ ?_; clear hR R) | ((first | refine evC_seq ?_ | refine evC_block ?_); intro Ψ hΨ hΨ') | (refine evC_region ?_; intro R hR) | (refine hΨ _ ?_; clear hΨ hΨ' Ψ) | refine evC_skip ?_ | refine evC_ret ?_ | refine evC_exit ?_) | ((with_reducible refine hΨ' _ _ ?_ ?_); (focus (simp; done)); clear hΨ hΨ' Ψ) | ((with_reducible apply evC_cond); rfl; rfl; all_goals (intro hc; first | (cases hc; done) | (try simp only at hc))) | ((with_reducible refine evD_nil ?_ ?_); kernel_rfl; (with_reducible refine hR _ ?_); clear hR R) | (((with_reducible apply evD_any); rfl; rfl; (simp (disch := omega) only [rdE, rdOf, go_sem, W, List.append_nil]; rfl); (intro τ hA hQ hN; ((try simp only [agree, Op.operands, Call.operands, go_sem, W, List.append_nil, go_sem, List.mem_cons, List.not_mem_nil, forall_eq_or_imp, forall_eq, List.append_toArray, Option.toArray] at hA); (try simp only [go_sem, W, List.append_nil, List.mem_cons, List.not_mem_nil, forall_eq_or_imp, forall_eq] at hQ hN); (first | (revert hA; intro hA) | have hA := trivial); (first | (revert hQ; intro hQ) | have hQ := trivial); (first | (revert hN; intro hN) | have hN := trivial); simp (disch := omega) only [go_sem, W, List.append_nil, go_sem, hA, hQ, hN]; (repeat (refine ndI (by first | assumption | omega | rfl) ?_)); (first | apply eff_rd | apply eff_st | apply eff_nw)))); (simp (disch := omega) only [St.eff, setO, hputs, go_sem, W, List.append_nil])) | ((with_reducible refine evC_draw ?_ ?_ ?_ ?_); kernel_rfl; kernel_rfl; (first | kernel_rfl | simp [newNames, isNew, St.free, freeH, AV.refsL, AV.refs]); intro R hR)))))
    all_goals (refine ⟨by simp, ⟨_, ?_, AV.le_refl _⟩, leH_get (by simp [leH, hget])⟩; simp only [Tryd.results26, resL, ldA, oneOf, go_sem, b1]; rw [if_pos (by omega)]; rfl)
theorem wread_fn (ex : Bool) (l : List Nat) (hl : l.length = 32) (hb : ∀ b ∈ l, b < 256) : Fn Tryd.prog 26 [bsl ex l] [] (.tup [lnA (wrR l 32), vi .i64 0]) [] :=
  wread_fnE ex l hl hb (wrR l) rfl (wrR_len l) fun _ => rfl
/-! rows joined -/
theorem grow_row (n : Nat) (h0 : 0 < n) (hn : n ≤ 1000000) : Fn Tryd.prog 47 [.c (.v (.slice none 0 0)), vi .i64 (n : Int)] [] (.row 22 5 1 0) [(22, List.replicate (n * 1) .any)] := by
  have d0 : decide ((n : Int) < 0) = false := by simp
  have d1 : decide ((n : Int) > 0) = true := by simp; omega
  have e0 : (n : Int) - (0 - 0) = (n : Int) := by omega
  have e1 : ((0 : Nat) : Int) - ((0 : Nat) : Int) = 0 := rfl
  have e2 : (n : Int) - 0 = (n : Int) := by omega
  have e3 : ((0 : Nat) : Int) = 0 := rfl
  (refine fn_of Tryd.func47 rfl (by rfl) ?_; simp only [Tryd.ntmps47, List.length_cons, List.length_nil, Nat.reduceAdd, Nat.reduceSub, List.replicate, List.cons_append, List.nil_append])
  (repeat (any_goals (first | ((with_reducible refine evL_one ?_ ?_); rfl; intro K hK; simp only [go_sem, d0]; ((repeat (refine ndI (by first | assumption | omega | rfl) ?_)); refine hK _ ?_; clear hK K)) | ((with_reducible refine evL_one ?_ ?_); rfl; intro K hK; simp only [go_sem, d0]; apply opA_cut_nil; rfl; rfl; rfl; rfl; (focus (simp only [go_sem]; try rfl)); rfl; (simp only [go_sem, d0]; (with_reducible refine hK _ ?_); clear hK K)) | ((with_reducible refine evL_one ?_ ?_); rfl; intro K hK; (try simp only [go_sem, d0]); (repeat (refine ndI (by first | assumption | omega | rfl) ?_)); refine opA_slice_row rfl rfl rfl rfl rfl ?_ rfl rfl rfl rfl ?_ ?_ ?_; (focus (simp only [go_sem]; try rfl)); (intro h; first | rfl | cases h); (first | omega | (dsimp only; omega) | (simp only [Option.isSome_some, Option.isSome_none]; omega) | (simp; omega) | (focus (simp; done))); (intro q hq1 hq2; (simp only [go_sem, d0]; refine hK _ ?_; clear hK K))) | ((with_reducible refine evL_one ?_ ?_); rfl; intro K hK; (try simp only [go_sem, d0]); (repeat (refine ndI (by first | assumption | omega | rfl) ?_)); refine opA_slice_cut rfl rfl rfl rfl rfl ?_ rfl rfl rfl rfl ?_ ?_ ?_; (focus (simp only [go_sem]; try rfl)); (intro h; first | rfl | cases h); (first | omega | (dsimp only; omega) | (simp only [Option.isSome_some, Option.isSome_none]; omega) | (simp; omega) | (focus (simp; done))); (simp only [go_sem, d0]; refine hK _ ?_; clear hK K)) | ((with_reducible refine evL_one ?_ ?_); rfl; intro K hK; (try simp only [go_sem, d0]); (repeat (refine ndI (by first | assumption | omega | rfl) ?_)); refine opA_cap_cut rfl rfl ?_ rfl ?_; (focus (simp only [go_sem]; try rfl)); (simp only [go_sem, d0]; refine hK _ ?_; clear hK K)) | ((with_reducible refine evL_one ?_ ?_); rfl; intro K hK; (try simp only [go_sem, d0]); (repeat (refine ndI (by first | assumption | omega | rfl) ?_)); apply opA_append_zeros; rfl; rfl; rfl; (focus (simp only [go_sem]; try rfl)); (focus (simp only [go_sem]; try rfl)); (first | omega | (dsimp only; omega) | (simp only [Option.isSome_some, Option.isSome_none]; omega) | (simp; omega) | (focus (simp; done))); (first | omega | (dsimp only; omega) | (simp only [Option.isSome_some, Option.isSome_none]; omega) | (simp; omega) | (focus (simp; done))); rfl; rfl; rfl; (first | omega | (dsimp only; omega) | (simp only [Option.isSome_some, Option.isSome_none]; omega) | (simp; omega) | (focus (simp; done))); (first | omega | (dsimp only; omega) | (simp only [Option.isSome_some, Option.isSome_none]; omega) | (simp; omega) | (focus (simp; done))); (first | omega | (simp only [go_sem, d0, spl, List.length_append, List.length_map, List.length_take, List.length_drop, List.length_replicate]; omega) | (simp [spl]; omega) | (focus (simp [spl]; done))); (first | omega | (dsimp only; omega) | (simp only [Option.isSome_some, Option.isSome_none]; omega) | (simp; omega) | (focus (simp; done))); rfl; (first | rfl | (simp [St.free, freeH, AV.refs, AV.refsL])); (first | omega | (dsimp only; omega) | (simp only [Option.isSome_some, Option.isSome_none]; omega) | (simp; omega) | (focus (simp; done))); (first | rfl | (simp [St.free, freeH, AV.refs, AV.refsL])); (intro c' hc'; (simp only [go_sem, d0]; refine hK _ ?_; clear hK K))) | (with_reducible first | (refine evL_nil ?_; refine hR _ ?_; clear hR R) | ((first | refine evC_seq ?_ | refine evC_block ?_); intro Ψ hΨ hΨ') | (refine evC_region ?_; intro R hR) | (refine hΨ _ ?_; clear hΨ hΨ' Ψ) | refine evC_skip ?_ | refine evC_ret ?_ | refine evC_exit ?_) | ((with_reducible refine hΨ' _ _ ?_ ?_); (focus (simp; done)); clear hΨ hΨ' Ψ) | ((with_reducible apply evC_cond); rfl; rfl; all_goals (intro hc; first | (cases hc; done) | (try simp only at hc))))))
  refine evL_to rfl (St.to.trans (St.to.nilcut 0 20 5 1 rfl (by simp) (by simp [St.free, freeH, AV.refs, AV.refsL]) (by decide)) (St.to.nilcut 9 21 5 1 rfl (by simp) (by simp [St.free, freeH, hput, AV.refs, AV.refsL]) (by decide))) ?_
  simp only [List.set, hput]
  (have W := ndI d1 (ndI e0 (ndI e1 (ndI e2 (ndI e3 @wrI)))); (repeat (any_goals (first | ((with_reducible refine evL_one ?_ ?_); rfl; intro K hK; simp (disch := omega) only [go_sem, W, Int.sub_self]; ((repeat (refine ndI (by first | assumption | omega | rfl) ?_)); refine hK _ ?_; clear hK K)) | ((with_reducible refine evL_one ?_ ?_); rfl; intro K hK; simp (disch := omega) only [go_sem, W, Int.sub_self]; apply opA_cut_nil; rfl; rfl; rfl; rfl; (focus (simp (disch := omega) only [go_sem]; try rfl)); rfl; (simp (disch := omega) only [go_sem, W, Int.sub_self]; (with_reducible refine hK _ ?_); clear hK K)) | ((with_reducible refine evL_one ?_ ?_); rfl; intro K hK; (try simp (disch := omega) only [go_sem, W, Int.sub_self]); (repeat (refine ndI (by first | assumption | omega | rfl) ?_)); refine opA_slice_row rfl rfl rfl rfl rfl ?_ rfl rfl rfl rfl ?_ ?_ ?_; (focus (simp only [go_sem]; try rfl)); (intro h; first | rfl | cases h); (first | omega | (dsimp only; omega) | (simp (disch := omega) only [Option.isSome_some, Option.isSome_none]; omega) | (simp; omega) | (focus (simp; done))); (intro q hq1 hq2; (simp (disch := omega) only [go_sem, W, Int.sub_self]; refine hK _ ?_; clear hK K))) | ((with_reducible refine evL_one ?_ ?_); rfl; intro K hK; (try simp (disch := omega) only [go_sem, W, Int.sub_self]); (repeat (refine ndI (by first | assumption | omega | rfl) ?_)); refine opA_slice_cut rfl rfl rfl rfl rfl ?_ rfl rfl rfl rfl ?_ ?_ ?_; (focus (simp only [go_sem]; try rfl)); (intro h; first | rfl | cases h); (first | omega | (dsimp only; omega) | (simp (disch := omega) only [Option.isSome_some, Option.isSome_none]; omega) | (simp; omega) | (focus (simp; done))); (simp (disch := omega) only [go_sem, W, Int.sub_self]; refine hK _ ?_; clear hK K)) | ((with_reducible refine evL_one ?_ ?_); rfl; intro K hK; (try simp (disch := omega) only [go_sem, W, Int.sub_self]); (repeat (refine ndI (by first | assumption | omega | rfl) ?_)); refine opA_cap_cut rfl rfl ?_ rfl ?_; (focus (simp (disch := omega) only [go_sem]; try rfl)); (simp (disch := omega) only [go_sem, W, Int.sub_self]; refine hK _ ?_; clear hK K)) | ((with_reducible refine evL_one ?_ ?_); rfl; intro K hK; (try simp (disch := omega) only [go_sem, W, Int.sub_self]); (repeat (refine ndI (by first | assumption | omega | rfl) ?_)); apply opA_append_zeros; rfl; rfl; rfl; (focus (simp only [go_sem]; try rfl)); (focus (simp (disch := omega) only [go_sem]; try rfl)); (first | omega | (dsimp only; omega) | (simp (disch := omega) only [Option.isSome_some, Option.isSome_none]; omega) | (simp; omega) | (focus (simp; done))); (first | omega | (dsimp only; omega) | (simp (disch := omega) only [Option.isSome_some, Option.isSome_none]; omega) | (simp; omega) | (focus (simp; done))); rfl; rfl; rfl; (first | omega | (dsimp only; omega) | (simp (disch := omega) only [Option.isSome_some, Option.isSome_none]; omega) | (simp; omega) | (focus (simp; done))); (first | omega | (dsimp only; omega) | (simp (disch := omega) only [Option.isSome_some, Option.isSome_none]; omega) | (simp; omega) | (focus (simp; done))); (first | omega | (simp (disch := omega) only [go_sem, W, Int.sub_self, spl, List.length_append, List.length_map, List.length_take, List.length_drop, List.length_replicate]; omega) | (simp [spl]; omega) | (focus (simp [spl]; done))); (first | omega | (dsimp only; omega) | (simp (disch := omega) only [Option.isSome_some, Option.isSome_none]; omega) | (simp; omega) | (focus (simp; done))); rfl; (first | rfl | (simp [St.free, freeH, AV.refs, AV.refsL])); (first | omega | (dsimp only; omega) | (simp (disch := omega) only [Option.isSome_some, Option.isSome_none]; omega) | (simp; omega) | (focus (simp; done))); (first | rfl | (simp [St.free, freeH, AV.refs, AV.refsL])); (intro c' hc'; (simp (disch := omega) only [go_sem, W, Int.sub_self]; refine hK _ ?_; clear hK K))) | (with_reducible first | (refine evL_nil ?_; refine hR _ ?_; clear hR R) | ((first | refine evC_seq ?_ | refine evC_block ?_); intro Ψ hΨ hΨ') | (refine evC_region ?_; intro R hR) | (refine hΨ _ ?_; clear hΨ hΨ' Ψ) | refine evC_skip ?_ | refine evC_ret ?_ | refine evC_exit ?_) | ((with_reducible refine hΨ' _ _ ?_ ?_); (focus (simp; done)); clear hΨ hΨ' Ψ) | ((with_reducible apply evC_cond); rfl; rfl; all_goals (intro hc; first | (cases hc; done) | (try simp only at hc)))))))
  all_goals (refine ⟨by simp, ⟨_, rfl, AV.le_cut _ _ _ _ _⟩, leH_get (by simp [leH, hget])⟩)
theorem grow_fn (n : Nat) (h0 : 0 < n) (hn : n ≤ 1000000) : Fn Tryd.prog 47 [.c (.v (.slice none 0 0)), vi .i64 (n : Int)] [] (.row 22 5 1 0) [(22, [])] :=
  (grow_row n h0 hn).weaken (AV.le_refl _) (leHp (cs := []) (ds := List.replicate (n * 1) .any) (by simp [hget_cons]))
abbrev slP (x : Bool × List Nat) : PV := .sl x.1 1 x.2.length (x.2.flatMap bpv)
abbrev ssl (ex : Bool) (ls : List (Bool × List Nat)) : AV := .c (.sl ex 1 ls.length (ls.map slP))
theorem ssl_at {ls : List (Bool × List Nat)} {i : Nat} {x : Bool × List Nat} (h : ls[i]? = some x) : ((ls.map slP).drop i).take 1 = [slP x] := by
  rw [← List.map_drop, ← List.map_take, List.take_one, List.head?_drop, h]; rfl
abbrev stK (ex : Bool) (ls : List (Bool × List Nat)) (r : Nat) (out : List Nat) (i : Nat) : St := ⟨[ssl ex ls, .any, .any, .any, .any, .any, .row r 5 1 out.length, .any, .any, .any, .any, .any, .any, .any, .any, .any, .any, .any, .any, .any, .any, .any, .any, .any, .any, ssl ex ls, vi .i64 (ls.length : Int), vi .i64 (i : Int), .any, .any, .any, .any, .any, .any, .any, .any], [(r, rcB out)]⟩
theorem stK_rn (ex : Bool) (ls : List (Bool × List Nat)) (out : List Nat) (i : Nat) : (stK ex ls 33 out i).to (stK ex ls 500 out i) := by
  have h := St.to.rn (σ := stK ex ls 33 out i) (fun r => if r = 33 then 500 else r) (fun r => if r = 500 then 33 else r) [33] (by simp [AV.inNL, AV.inN]) (by simp) (by simp [inH, AV.inNL, AV.inN, rcB]) (by simp) (by simp)
  simpa [AV.renL, AV.ren, renH, rcB, stK] using h
theorem concat_row (ex : Bool) (ls : List (Bool × List Nat)) (C : Nat → List Nat) (hk : ls.length ≤ 1000) (C0 : C 0 = []) (Cs : ∀ i x, ls[i]? = some x → C (i + 1) = C i ++ x.2) (Cl : ∀ i, i ≤ ls.length → (C i).length ≤ 1000000) (Cp : 0 < (C ls.length).length) :
    Fn Tryd.prog 36 [ssl ex ls] [] (.row 500 5 1 (C ls.length).length) [(500, rcB (C ls.length))] := by
  (refine fn_of Tryd.func36 rfl (by rfl) ?_; simp only [Tryd.ntmps36, List.length_cons, List.length_nil, Nat.reduceAdd, Nat.reduceSub, List.replicate, List.cons_append, List.nil_append])
  (repeat (any_goals (first | ((with_reducible refine evL_one ?_ ?_); rfl; intro K hK; simp only [go_sem]; ((repeat (refine ndI (by first | assumption | omega | rfl) ?_)); refine hK _ ?_; clear hK K)) | (with_reducible first | (refine evL_nil ?_; refine hR _ ?_; clear hR R) | ((first | refine evC_seq ?_ | refine evC_block ?_); intro Ψ hΨ hΨ') | (refine evC_region ?_; intro R hR) | (refine hΨ _ ?_; clear hΨ hΨ' Ψ) | refine evC_skip ?_ | refine evC_ret ?_ | refine evC_exit ?_) | ((with_reducible refine hΨ' _ _ ?_ ?_); (focus (simp; done)); clear hΨ hΨ' Ψ) | ((with_reducible apply evC_cond); rfl; rfl; all_goals (intro hc; first | (cases hc; done) | (try simp only at hc))))))
  refine evC_upto ls.length (fun i => ⟨[ssl ex ls, .any, .any, vi .i64 ((C i).length : Int), .any, .any, .any, .any, .any, ssl ex ls, vi .i64 (ls.length : Int), vi .i64 (i : Int), .any, .any, .any, .any, .any, .any, .any, .any, .any, .any, .any, .any, .any, .any, .any, .any, .any, .any, .any, .any, .any, .any, .any, .any], []⟩) (St.le_of (by simp [leT, C0]) (by simp [leH, hget])) ?_
  intro i hi Ψ hΨ hΨ'
  (try dsimp only at hΨ ⊢)
  rcases Nat.lt_or_ge i ls.length with hlt | hge
  · have k1 : (decide ((i : Int) < (ls.length : Int))) = true := by simp; omega
    have k7 : (i : Int) + 1 = ((i + 1 : Nat) : Int) := by omega
    obtain ⟨x, hx⟩ : ∃ x, ls[i]? = some x := ⟨ls[i], List.getElem?_eq_getElem hlt⟩
    have k2 := ssl_at hx
    have cs := Cs i x hx
    have c1 := Cl i hi
    have c2 := Cl (i + 1) hlt
    have c3 : ((C i).length : Int) + (x.2.length : Int) = ((C (i + 1)).length : Int) := by rw [cs, List.length_append]; omega
    have c4 : decide (((C (i + 1)).length : Int) < 0) = false := by simp
    (have W := ndI k1 (ndI k2 (ndI k7 (ndI c3 (ndI c4 @wrI)))); (repeat (any_goals (first | ((with_reducible refine evL_one ?_ ?_); rfl; intro K hK; simp (disch := omega) only [go_sem, W, Nat.mul_one, Int.toNat_natCast]; ((repeat (refine ndI (by first | assumption | omega | rfl) ?_)); refine hK _ ?_; clear hK K)) | (with_reducible first | (refine evL_nil ?_; refine hR _ ?_; clear hR R) | ((first | refine evC_seq ?_ | refine evC_block ?_); intro Ψ hΨ hΨ') | (refine evC_region ?_; intro R hR) | (refine hΨ _ ?_; clear hΨ hΨ' Ψ) | refine evC_skip ?_ | refine evC_ret ?_ | refine evC_exit ?_) | ((with_reducible refine hΨ' _ _ ?_ ?_); (focus (simp; done)); clear hΨ hΨ' Ψ) | ((with_reducible apply evC_cond); rfl; rfl; all_goals (intro hc; first | (cases hc; done) | (try simp only at hc)))))))
    all_goals exact hΨ _ hlt (St.le_of (by simp [leT]) (by simp [leH, hget]))
  · have k1 : (decide ((i : Int) < (ls.length : Int))) = false := by simp; omega
    obtain rfl : i = ls.length := by omega
    have gr := grow_fn (C ls.length).length Cp (Cl _ (Nat.le_refl _))
    have k0 : List.length ([] : List Nat) = 0 := rfl
    (repeat (any_goals (first | ((with_reducible refine evL_call ?_ ?_ ?_); rfl; rfl; intro K hK; (apply opA_callR (gr) (fun r => r + 2); rfl; rfl; rfl; rfl; exact Tryd.func47; kernel_rfl; rfl; rfl; (intro r hr q hq h; simp (disch := omega) only [List.map_cons, List.map_nil, List.cons_append, List.nil_append, List.mem_cons, List.not_mem_nil, or_false] at hr hq; (try dsimp only at h); first | omega | (rcases hr with rfl | rfl | rfl <;> rcases hq with rfl | rfl | rfl <;> simp at h ⊢) | (rcases hr with rfl | rfl <;> rcases hq with rfl | rfl <;> simp at h ⊢) | ((repeat' split at h) <;> omega)); (simp (disch := omega) only [argsOk, argOk, AV.ren, AV.renL, renL_map, List.mem_cons, List.not_mem_nil, forall_eq_or_imp, forall_eq, newOk, List.contains_cons, List.contains_nil, AV.refsL, AV.refs, refsL_map, AV.inN, AV.inNL, inH, inNL_map, go_sem, k1])); (simp (disch := omega) only [hputs, hdels, renH, AV.ren, AV.renL, renL_map, go_sem, k1]; refine hK _ ?_; clear hK K)) | ((with_reducible refine evL_one ?_ ?_); rfl; intro K hK; simp (disch := omega) only [go_sem, k1]; ((repeat (refine ndI (by first | assumption | omega | rfl) ?_)); refine hK _ ?_; clear hK K)) | (with_reducible first | (refine evL_nil ?_; refine hR _ ?_; clear hR R) | ((first | refine evC_seq ?_ | refine evC_block ?_); intro Ψ hΨ hΨ') | (refine evC_region ?_; intro R hR) | (refine hΨ _ ?_; clear hΨ hΨ' Ψ) | refine evC_skip ?_ | refine evC_ret ?_ | refine evC_exit ?_) | ((with_reducible refine hΨ' _ _ ?_ ?_); (focus (simp; done)); clear hΨ hΨ' Ψ) | ((with_reducible apply evC_cond); rfl; rfl; all_goals (intro hc; first | (cases hc; done) | (try simp only at hc))))))
    refine evC_uptoT ls.length (fun i => stK ex ls 500 (C i) i) ?_ ?_
    · refine St.to.trans (St.to.of_le (τ := stK ex ls 24 [] 0) (St.le_of (by simp [leT]) (by simp [leH, hget, rcB]))) ?_
      rw [C0]
      have h := St.to.rn (σ := stK ex ls 24 [] 0) (fun r => if r = 24 then 500 else r) (fun r => if r = 500 then 24 else r) [24] (by simp [AV.inNL, AV.inN]) (by simp) (by simp [inH, AV.inNL, AV.inN, rcB]) (by simp) (by simp)
      simpa [AV.renL, AV.ren, renH, rcB, stK] using h
    intro i hi Ψ hΨ hΨ'
    dsimp only [stK] at hΨ ⊢
    rcases Nat.lt_or_ge i ls.length with hlt | hge
    · have k1 : (decide ((i : Int) < (ls.length : Int))) = true := by simp; omega
      have k7 : (i : Int) + 1 = ((i + 1 : Nat) : Int) := by omega
      obtain ⟨x, hx⟩ : ∃ x, ls[i]? = some x := ⟨ls[i], List.getElem?_eq_getElem hlt⟩
      have k2 := ssl_at hx
      have cs := Cs i x hx
      have c1 := Cl i hi
      have c2 := Cl (i + 1) hlt
      have k3 := rcB_len (C i)
      have k4 : ((x.2.flatMap bpv).map AV.c).length = x.2.length * 1 := rcB_len x.2
      have k5 := fun d => refsL_rcB d (C i)
      rw [cs, List.length_append] at c2
      rw [cs] at hΨ
      (have W := ndI k1 (ndI k2 (ndI k3 (ndI k4 (ndI k5 (ndI k7 (ndI @wrI @refsL_map)))))); (repeat (any_goals (first | ((with_reducible refine evL_one ?_ ?_); rfl; intro K hK; simp (disch := omega) only [go_sem, W, refsL_app, List.length_append, Nat.mul_one, Int.toNat_natCast, Bool.or_false]; ((repeat (refine ndI (by first | assumption | omega | rfl) ?_)); refine hK _ ?_; clear hK K)) | (with_reducible first | (refine evL_nil ?_; refine hR _ ?_; clear hR R) | ((first | refine evC_seq ?_ | refine evC_block ?_); intro Ψ hΨ hΨ') | (refine evC_region ?_; intro R hR) | (refine hΨ _ ?_; clear hΨ hΨ' Ψ) | refine evC_skip ?_ | refine evC_ret ?_ | refine evC_exit ?_) | ((with_reducible refine hΨ' _ _ ?_ ?_); (focus (simp; done)); clear hΨ hΨ' Ψ) | ((with_reducible apply evC_cond); rfl; rfl; all_goals (intro hc; first | (cases hc; done) | (try simp only at hc)))))))
      all_goals exact hΨ _ hlt (St.to.trans (St.to.of_le (τ := stK ex ls 33 (C i ++ x.2) (i + 1)) (St.le_of (by simp [leT]) (by simp [leH, hget, rcB]))) (stK_rn ex ls _ _))
    · have k1 : (decide ((i : Int) < (ls.length : Int))) = false := by simp; omega
      obtain rfl : i = ls.length := by omega
      (repeat (any_goals (first | ((with_reducible refine evL_one ?_ ?_); rfl; intro K hK; simp only [go_sem, k1]; ((repeat (refine ndI (by first | assumption | omega | rfl) ?_)); refine hK _ ?_; clear hK K)) | (with_reducible first | (refine evL_nil ?_; refine hR _ ?_; clear hR R) | ((first | refine evC_seq ?_ | refine evC_block ?_); intro Ψ hΨ hΨ') | (refine evC_region ?_; intro R hR) | (refine hΨ _ ?_; clear hΨ hΨ' Ψ) | refine evC_skip ?_ | refine evC_ret ?_ | refine evC_exit ?_) | ((with_reducible refine hΨ' _ _ ?_ ?_); (focus (simp; done)); clear hΨ hΨ' Ψ) | ((with_reducible apply evC_cond); rfl; rfl; all_goals (intro hc; first | (cases hc; done) | (try simp only at hc))))))
      all_goals (refine ⟨by simp, ⟨_, ?_, AV.le_refl _⟩, leH_get (by simp [leH, hget])⟩; simp only [Tryd.results36, resL, ldA, oneOf, go_sem])
def catL (ls : List (Bool × List Nat)) : List Nat := ls.flatMap (·.2)
theorem joined_fn (ex : Bool) (ls : List (Bool × List Nat)) (hk : ls.length ≤ 1000) (hl : (catL ls).length ≤ 1000000) (hp : 0 < (catL ls).length) : Fn Tryd.prog 17 [ssl ex ls] [] (bsl false (catL ls)) [] := by
  have e : (ls.take ls.length).flatMap (·.2) = catL ls := by rw [List.take_length]; rfl
  have h0 := concat_row ex ls (fun i => (ls.take i).flatMap (·.2)) hk rfl (fun i x hx => by simp [List.take_add_one, hx]) (fun i hi => by
    refine Nat.le_trans ?_ hl
    unfold catL
    conv => rhs; rw [← List.take_append_drop i ls]
    rw [List.flatMap_append, List.length_append]
    exact Nat.le_add_right _ _) (by rw [e]; exact hp)
  rw [e] at h0
  have h := Fn.frzG (d := 500) (pcs := (catL ls).flatMap bpv) h0
  simp only [AV.frz, beq_self_eq_true, if_true] at h
  rw [if_pos (by rw [flat_length bpv_len])] at h
  (refine fn_of Tryd.func17 rfl (by rfl) ?_; simp only [Tryd.ntmps17, List.length_cons, List.length_nil, Nat.reduceAdd, Nat.reduceSub, List.replicate, List.cons_append, List.nil_append])
  (repeat (any_goals (first | ((with_reducible refine evL_call ?_ ?_ ?_); rfl; rfl; intro K hK; ((apply opA_callB (h); rfl; rfl; rfl; rfl; exact Tryd.func36); kernel_rfl; rfl; (focus ((simp only [go_sem]); (try rfl); done)); (first | rfl | simp [AV.inNL, AV.inN])); (simp only [go_sem]; refine hK _ ?_; clear hK K)) | ((with_reducible refine evL_one ?_ ?_); rfl; intro K hK; simp only [go_sem]; ((repeat (refine ndI (by first | assumption | omega | rfl) ?_)); refine hK _ ?_; clear hK K)) | (with_reducible first | (refine evL_nil ?_; refine hR _ ?_; clear hR R) | ((first | refine evC_seq ?_ | refine evC_block ?_); intro Ψ hΨ hΨ') | (refine evC_region ?_; intro R hR) | (refine hΨ _ ?_; clear hΨ hΨ' Ψ) | refine evC_skip ?_ | refine evC_ret ?_ | refine evC_exit ?_) | ((with_reducible refine hΨ' _ _ ?_ ?_); (focus (simp; done)); clear hΨ hΨ' Ψ) | ((with_reducible apply evC_cond); rfl; rfl; all_goals (intro hc; first | (cases hc; done) | (try simp only at hc))))))
  all_goals (refine ⟨by simp, ⟨_, ?_, AV.le_refl _⟩, leH_get (by simp [leH, hget])⟩; simp only [Tryd.results17, resL, ldA, oneOf, go_sem])
end Go.Proofs.YtgdjkkapgghdbaaDoor

