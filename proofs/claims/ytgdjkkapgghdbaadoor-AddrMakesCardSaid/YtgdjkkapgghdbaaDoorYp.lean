/-
  An array that is only read, sliced; a word's bytes; the sum of the code by value. Reckoned.
-/
import Derived.Test.YtgdjkkapgghdbaaDoorYo
namespace Go.Proofs.YtgdjkkapgghdbaaDoor
open Go.RowKit
open Nat (reduceBEq)
set_option linter.unusedVariables false
set_option linter.unusedSimpArgs false
set_option maxRecDepth 20000
set_option maxHeartbeats 2000000
attribute [local simp] inNL_rcV refsL_rcV renL_rcV
section
variable {P : Program} {o : Oper} {σ : St} {K : St → Prop}
theorem opA_slice_ep {t n sz : Nat} {g : Bool} {x : Operand} {lo hi : Option Operand} {cs : List PV} {l h : Int} (ho : o.op = .slice t x lo hi none) (hx : okConst x = true) (hlo : lo.toList.all okConst = true) (hhi : hi.toList.all okConst = true) (hs : arrT P t = some (n, sz, g))
    (h1 : σ.ev x = .ep cs) (hcl : cs.length = n * sz) (hl : bnd σ.ev 0 lo = some l) (hh : bnd σ.ev n hi = some h) (hb : 0 ≤ l ∧ l ≤ h ∧ h ≤ n ∧ n ≤ 1000000)
    (hK : K (σ.put o.dst (.c (.sl false sz (h.toNat - l.toNat) ((cs.drop (l.toNat * sz)).take ((h.toNat - l.toNat) * sz)))))) : OpA P o σ K :=
  opA_val _ hK fun E ι a w hc => by
    have hxv := hc.ev x hx
    rw [h1] at hxv
    generalize he : a.eval x = v at hxv
    obtain ⟨b1, b2, b3, b4⟩ := hb
    have bv : ∀ {op : Option Operand} {dflt : Nat} {q : Int} (hok : op.toList.all okConst = true) (hq : bnd σ.ev dflt op = some q), (op = none ∧ q = dflt) ∨ ∃ x k, op = some x ∧ a.eval x = .int k q := fun {op dflt q} hok hq => by
      cases op with
      | none => simp [bnd] at hq; exact .inl ⟨rfl, hq.symm⟩
      | some x =>
        unfold bnd at hq
        simp only at hq
        split at hq
        · rename_i k m' hev
          cases hq
          have := hc.ev x (by simpa using hok)
          rw [hev] at this
          exact .inr ⟨x, k, rfl, this.v_inv.1⟩
        · cases hq
    have hrunb : (Instr.sliceBounds false n n (lo.map a.eval) (hi.map a.eval) none).run P w = .ok (l.toNat, h.toNat, n) w := by
      rcases bv hhi hh with ⟨rfl, rfl⟩ | ⟨xh, kh, rfl, eh⟩
      · rcases bv hlo hl with ⟨rfl, rfl⟩ | ⟨xl, kl, rfl, el⟩
        · simp [Instr.sliceBounds]
        · simp [Instr.sliceBounds, el, run_sliceBound (P := P) (m := l) (y := n) ⟨b1, by omega⟩]
      · have hbh := fun code => run_sliceBound (P := P) (k := kh) (m := h) (y := n) (code := code) ⟨by omega, by omega⟩ w
        rcases bv hlo hl with ⟨rfl, rfl⟩ | ⟨xl, kl, rfl, el⟩
        · simp [Instr.sliceBounds, eh, hbh]
        · simp [Instr.sliceBounds, eh, el, hbh, run_sliceBound (P := P) (m := l) (y := h.toNat) ⟨b1, by omega⟩]
    unfold arrT at hs
    split at hs
    · rename_i n' e' hu
      split at hs
      · rename_i s' g' hs1 hs2
        simp only [Option.some.injEq, Prod.mk.injEq] at hs
        obtain ⟨rfl, rfl, rfl⟩ := hs
        cases hxv with
        | ep b off us cs hl' hne hS h4 h5 =>
          have hrun : (execOp a.eval o).run P w = .ok (.value (.slice (some (if n' = l.toNat then ⟨b, off, none⟩ else (⟨b, off, none⟩ : Addr).add (l.toNat * s'))) (h.toNat - l.toNat) (n' - l.toNat))) w := by
            simp only [execOp, ho, he, Instr.sliceAt, Sem.run_bind, run_underlying hu, Result.andThen_ok, Instr.sureAddr, Sem.run_pure, Option.map_none, hrunb, run_szT hs1]
          refine ⟨_, hrun, .c _ _ (.sl false s' _ _ _ ((us.drop (l.toNat * s')).take ((h.toNat - l.toNat) * s')) _ (by omega) (by unfold maxLen; omega) (fun hA => by cases hA) (fun hex => by cases hex) (by simp [hl']) ?_ (fun hne => ?_) fun j u y hu' hy => ?_)⟩
          · have : (h.toNat - l.toNat) * s' ≤ cs.length - l.toNat * s' := by
              rw [hcl, ← Nat.sub_mul]; exact Nat.mul_le_mul_right _ (by omega)
            rw [List.length_take, List.length_drop]; omega
          · have hhl : ¬ h.toNat - l.toNat = 0 := by intro e; rw [e] at hne; simp at hne
            rw [if_neg (by omega)]
            refine ⟨b, off + l.toNat * s', by rw [add_none], hS, fun j u hu' => ?_⟩
            rw [List.getElem?_take] at hu'
            split at hu'
            · rw [List.getElem?_drop] at hu'; rw [Nat.add_assoc]; exact h4 _ u hu'
            · cases hu'
          · rw [List.getElem?_take] at hu' hy
            split at hu'
            · rename_i hj
              rw [if_pos hj] at hy
              rw [List.getElem?_drop] at hu' hy; exact h5 _ u y hu' hy
            · cases hu'
      · cases hs
    · cases hs
theorem opF_slice_ep {t n sz : Nat} {g : Bool} {x : Operand} {lo hi : Option Operand} {cs : List PV} {l h : Int} (ho : o.op = .slice t x lo hi none) (hx : okConst x = true) (hlo : lo.toList.all okConst = true) (hhi : hi.toList.all okConst = true) (hs : arrT P t = some (n, sz, g))
    (h1 : σ.ev x = .ep cs) (hcl : cs.length = n * sz) (hl : bnd σ.ev 0 lo = some l) (hh : bnd σ.ev n hi = some h) (hb : 0 ≤ l ∧ l ≤ h ∧ h ≤ n ∧ n ≤ 1000000) :
    OpF P o σ.ev (hget σ.H) (.c (.sl false sz (h.toNat - l.toNat) ((cs.drop (l.toNat * sz)).take ((h.toNat - l.toNat) * sz)))) [] [] := fun τ hA _ => by
  have hA' : ∀ z, z = x ∨ z ∈ lo.toList ∨ z ∈ hi.toList → τ.ev z = σ.ev z := fun z hz => hA z (by rw [ho]; cases lo <;> cases hi <;> simp [Op.operands] at hz ⊢ <;> exact hz)
  refine opA_slice_ep ho hx hlo hhi hs (by rw [hA' x (.inl rfl)]; exact h1) hcl (by rw [bnd_agree fun z hz => hA' z (.inr (.inl hz))]; exact hl) (by rw [bnd_agree fun z hz => hA' z (.inr (.inr hz))]; exact hh) hb ?_
  cases o.dst <;> rfl
end
/-! the sum of the code -/
theorem sum_fn (ex : Bool) (l : List Nat) (hl : l.length ≤ 1000) (hb : ∀ b ∈ l, b < 256) : Fn Tryd.prog 16 [bsl ex l] [] (.agg (rcB (digL l))) [] := by
  unfold digL
  have hpl : (padL l).length = 136 * (l.length / 136 + 1) := by rw [padL_len, Nat.mul_comm]; rfl
  have pad := pad_fn ex l hl
  have plt := padL_lt l hb
  have dl := digK_len (padL l)
  have ds : ∀ k, digK (padL l) (k + 1) = permC (xorD (digK (padL l) k) ((padL l).drop (136 * k)) 17) := fun _ => rfl
  have d0 : digK (padL l) 0 = zer 25 := rfl
  generalize digK (padL l) = L at *
  exact sum_fnE ex l (padL l) (l.length / 136 + 1) hl (by omega) hpl plt L d0 dl _ rfl (idL (L (l.length / 136 + 1))) rfl (idL_len _) (idL_s _) pad fun k => by
    rw [ds k, ← xor_lanes _ _ (getD_lt fun b h => plt b (List.mem_of_mem_drop h)) 17 (by rw [dl]; decide)]
    exact perm_fn _ ((xorC_len _ _ _).trans (dl k))
/-! a word's bytes -/
def wdB (W : List UInt64) (i : Nat) : Nat := (W.getD ((31 - i) / 8) 0).toNat / 256 ^ ((31 - i) % 8) % 256
def wdS (W : List UInt64) : Nat → List Nat
  | 0 => List.replicate 32 0
  | i + 1 => (wdS W i).set i (wdB W i)
def wdT (W : List UInt64) : Nat → List Nat
  | 0 => []
  | i + 1 => wdT W i ++ [wdB W i]
def wdL (W : List UInt64) : List Nat := wdT W 32
theorem wdS_len (W : List UInt64) : ∀ k, (wdS W k).length = 32
  | 0 => rfl
  | k + 1 => by unfold wdS; rw [List.length_set, wdS_len W k]
theorem wdT_len (W : List UInt64) : ∀ k, (wdT W k).length = k
  | 0 => rfl
  | k + 1 => by unfold wdT; rw [List.length_append, wdT_len W k]; rfl
theorem wdS_app (W : List UInt64) : ∀ k, k ≤ 32 → wdS W k = wdT W k ++ List.replicate (32 - k) 0
  | 0, _ => rfl
  | k + 1, h => by
    have hl := wdT_len W k
    unfold wdS wdT
    rw [wdS_app W k (by omega), List.set_append_right _ _ (by omega), hl, Nat.sub_self, show 32 - k = (32 - (k + 1)) + 1 by omega, List.replicate_succ, List.set_cons_zero, List.append_assoc]
    rfl
theorem wdS_eq (W : List UInt64) : wdS W 32 = wdL W := by
  rw [wdS_app W 32 (by decide)]
  exact List.append_nil _
theorem wdL_lt (W : List UInt64) : ∀ b ∈ wdL W, b < 256 := by
  have key : ∀ k, ∀ b ∈ wdT W k, b < 256 := fun k => by
    induction k with
    | zero => intro b h; cases h
    | succ k ih =>
      intro b h
      unfold wdT at h
      rw [List.mem_append, List.mem_singleton] at h
      rcases h with h | rfl
      · exact ih b h
      · exact Nat.mod_lt _ (by decide)
  exact key 32
theorem wdL_len (W : List UInt64) : (wdL W).length = 32 := wdT_len W 32
theorem wby (v : UInt64) (r : Nat) (hr : r < 8) : IntKind.u8.wrap (Int.fdiv (v.toNat : Int) (2 ^ min (8 * r) 64)) = ((v.toNat / 256 ^ r % 256 : Nat) : Int) := by
  rw [Nat.min_eq_left (by omega), show ((2 : Int) ^ (8 * r)) = ((2 ^ (8 * r) : Nat) : Int) by push_cast; rfl, Int.fdiv_eq_ediv_of_nonneg _ (Int.natCast_nonneg _), IntKind.wrap_u8, Nat.pow_mul]
  rfl
theorem wbytes_row (W : List UInt64) (hW : W.length = 4) (B : Nat → List Nat) (B0 : B 0 = List.replicate 32 0) (Bl : ∀ k, (B k).length = 32) (Bs : ∀ i, B (i + 1) = (B i).set i (wdB W i)) : Fn Tryd.prog 19 [lnA W] [] (.row 6 5 1 32) [(6, rcB (B 32))] := by
  have r1 := fun d => refsL_rcV d W
  have l4 : (rcV W).length = 4 := by rw [rcV_len, hW]
  (refine fn_of Tryd.func19 rfl (by rfl) ?_; simp only [Tryd.ntmps19, List.length_cons, List.length_nil, Nat.reduceAdd, Nat.reduceSub, List.replicate, List.cons_append, List.nil_append])
  (repeat (any_goals (first | ((with_reducible refine evL_one ?_ ?_); rfl; intro K hK; simp only [go_sem, r1, l4]; ((repeat (refine ndI (by first | assumption | omega | rfl) ?_)); refine hK _ ?_; clear hK K)) | (with_reducible first | (refine evL_nil ?_; refine hR _ ?_; clear hR R) | ((first | refine evC_seq ?_ | refine evC_block ?_); intro Ψ hΨ hΨ') | (refine evC_region ?_; intro R hR) | (refine hΨ _ ?_; clear hΨ hΨ' Ψ) | refine evC_skip ?_ | refine evC_ret ?_ | refine evC_exit ?_) | ((with_reducible refine hΨ' _ _ ?_ ?_); (focus (simp; done)); clear hΨ hΨ' Ψ) | ((with_reducible apply evC_cond); rfl; rfl; all_goals (intro hc; first | (cases hc; done) | (try simp only at hc))))))
  refine evL_op ?_ ?_
  rfl
  intro K hK
  refine opA_make (n := 32) (z := .int .u8 0) rfl rfl rfl (by (focus (simp  only [go_sem]; try rfl))) (by kernel_rfl) rfl rfl rfl rfl rfl rfl (by omega) (by omega) (by unfold maxLen; omega) rfl (by simp [St.free, freeH, AV.refs, AV.refsL]) (by omega) ?_
  simp only [go_sem]
  refine hK _ ?_
  clear hK K
  (repeat (any_goals (first | ((with_reducible refine evL_one ?_ ?_); rfl; intro K hK; simp only [go_sem]; ((repeat (refine ndI (by first | assumption | omega | rfl) ?_)); refine hK _ ?_; clear hK K)) | (with_reducible first | (refine evL_nil ?_; refine hR _ ?_; clear hR R) | ((first | refine evC_seq ?_ | refine evC_block ?_); intro Ψ hΨ hΨ') | (refine evC_region ?_; intro R hR) | (refine hΨ _ ?_; clear hΨ hΨ' Ψ) | refine evC_skip ?_ | refine evC_ret ?_ | refine evC_exit ?_) | ((with_reducible refine hΨ' _ _ ?_ ?_); (focus (simp; done)); clear hΨ hΨ' Ψ) | ((with_reducible apply evC_cond); rfl; rfl; all_goals (intro hc; first | (cases hc; done) | (try simp only at hc))))))
  refine evC_upto 32 (fun i => ⟨[.any, .ptr 1 0, .any, .row 6 5 1 32, .any, .any, .any, .any, vi .i64 32, vi .i64 (i : Int), .any, .any, .any, .any, .any, .any, .any, .any, .any, .any, .any, .any, .any, .any, .any, .any, .any, .any, .any, .any, .any], [(1, rcV W), (6, rcB (B i))]⟩) (St.le_of (by simp [leT]) (by rw [B0, ← rcB_zeros]; simp [leH, hget])) ?_
  intro i hi Ψ hΨ hΨ'
  (try dsimp only at hΨ ⊢)
  rcases Nat.lt_or_ge i 32 with hlt | hge
  · have k1 : (decide ((i : Int) < 32)) = true := by simp; omega
    have k7 : (i : Int) + 1 = ((i + 1 : Nat) : Int) := by omega
    have bs := Bs i
    unfold wdB at bs
    obtain ⟨v, hv⟩ : ∃ v, W.getD ((31 - i) / 8) 0 = v := ⟨_, rfl⟩
    have k2 := rcV_getD (l := W) (i := (31 - i) / 8) (by omega)
    rw [hv] at bs k2
    have k3 := wby v ((31 - i) % 8) (by omega)
    obtain ⟨b, hbv⟩ : ∃ b, v.toNat / 256 ^ ((31 - i) % 8) % 256 = b := ⟨_, rfl⟩
    rw [hbv] at bs k3
    have k4 := rcB_set (B i) i b (by rw [Bl]; omega)
    rw [← bs] at k4
    have k5 := rcB_len1 (B i)
    rw [Bl] at k5
    have j0 : (31 : Int) - (i : Int) = ((31 - i : Nat) : Int) := by omega
    have j1 : Int.tdiv ((31 - i : Nat) : Int) 8 = (((31 - i) / 8 : Nat) : Int) := by rw [Int.tdiv_eq_ediv_of_nonneg (by omega)]; omega
    have j2 : Int.tmod ((31 - i : Nat) : Int) 8 = (((31 - i) % 8 : Nat) : Int) := by rw [Int.tmod_eq_emod_of_nonneg (by omega)]; omega
    have j3 : (8 : Int) * (((31 - i) % 8 : Nat) : Int) = ((8 * ((31 - i) % 8) : Nat) : Int) := by omega
    have e32 : ((32 : Nat) : Int) = 32 := rfl
    clear bs hbv hv
    (have W := ndI e32 (ndI k1 (ndI k2 (ndI k3 (ndI k4 (ndI k5 (ndI k7 (ndI j0 (ndI j1 (ndI j2 (ndI j3 @wrI)))))))))); (repeat (any_goals (first | ((with_reducible refine evL_one ?_ ?_); rfl; intro K hK; simp (disch := omega) only [go_sem, W, Nat.mul_one, Int.toNat_natCast, Int.reduceSub, Nat.zero_add]; ((repeat (refine ndI (by first | assumption | omega | rfl) ?_)); refine hK _ ?_; clear hK K)) | (with_reducible first | (refine evL_nil ?_; refine hR _ ?_; clear hR R) | ((first | refine evC_seq ?_ | refine evC_block ?_); intro Ψ hΨ hΨ') | (refine evC_region ?_; intro R hR) | (refine hΨ _ ?_; clear hΨ hΨ' Ψ) | refine evC_skip ?_ | refine evC_ret ?_ | refine evC_exit ?_) | ((with_reducible refine hΨ' _ _ ?_ ?_); (focus (simp; done)); clear hΨ hΨ' Ψ) | ((with_reducible apply evC_cond); rfl; rfl; all_goals (intro hc; first | (cases hc; done) | (try simp only at hc)))))))
    exact hΨ _ hlt (St.le_of (by simp [leT]) (by simp [leH, hget]))
  · have k1 : (decide ((i : Int) < 32)) = false := by simp; omega
    obtain rfl : i = 32 := by omega
    (repeat (any_goals (first | ((with_reducible refine evL_one ?_ ?_); rfl; intro K hK; simp only [go_sem, k1]; ((repeat (refine ndI (by first | assumption | omega | rfl) ?_)); refine hK _ ?_; clear hK K)) | (with_reducible first | (refine evL_nil ?_; refine hR _ ?_; clear hR R) | ((first | refine evC_seq ?_ | refine evC_block ?_); intro Ψ hΨ hΨ') | (refine evC_region ?_; intro R hR) | (refine hΨ _ ?_; clear hΨ hΨ' Ψ) | refine evC_skip ?_ | refine evC_ret ?_ | refine evC_exit ?_) | ((with_reducible refine hΨ' _ _ ?_ ?_); (focus (simp; done)); clear hΨ hΨ' Ψ) | ((with_reducible apply evC_cond); rfl; rfl; all_goals (intro hc; first | (cases hc; done) | (try simp only at hc))))))
    all_goals (refine ⟨by simp, ⟨_, ?_, AV.le_refl _⟩, leH_get (by simp [leH, hget])⟩; simp only [Tryd.results19, resL, ldA, oneOf, go_sem])
theorem wbytes_fn (W : List UInt64) (hW : W.length = 4) : Fn Tryd.prog 19 [lnA W] [] (bsl false (wdL W)) [] := by
  have h0 := wbytes_row W hW (wdS W) rfl (wdS_len W) fun _ => rfl
  rw [wdS_eq] at h0
  have h := Fn.frzG (d := 6) (pcs := (wdL W).flatMap bpv) h0
  simp only [AV.frz, beq_self_eq_true, if_true] at h
  rw [if_pos (by rw [flat_length bpv_len, wdL_len])] at h
  rw [show bsl false (wdL W) = .c (.sl false 1 32 ((wdL W).flatMap bpv)) by rw [bsl, wdL_len]]
  exact h
end Go.Proofs.YtgdjkkapgghdbaaDoor

