/-
  A digest as a word: the code's way is the document's; the law AddrMakes, walked.
-/
import Derived.Test.YtgdjkkapgghdbaaDoorYr
namespace Go.Proofs.YtgdjkkapgghdbaaDoor
open Go.RowKit
open Nat (reduceBEq)
set_option linter.unusedVariables false
set_option linter.unusedSimpArgs false
set_option maxRecDepth 20000
set_option maxHeartbeats 2000000
attribute [local simp] inNL_rcV refsL_rcV renL_rcV inNL_rcB refsL_rcB renL_rcB
theorem of_or (a b : Nat) : UInt64.ofNat a ||| UInt64.ofNat b = UInt64.ofNat (a ||| b) := by
  apply UInt64.toNat.inj
  rw [UInt64.toNat_or, UInt64.toNat_ofNat', UInt64.toNat_ofNat', UInt64.toNat_ofNat']
  exact (Nat.or_mod_two_pow (n := 64)).symm
def drG (b : List Nat) (i : Nat) : UInt64 := UInt64.ofNat (rdN ((b.drop (8 * i)).take 8) 8)
def drR (b : List Nat) : Nat → List UInt64
  | 0 => zer 4
  | i + 1 => (drR b i).set (3 - i) (drG b i)
theorem drR_len (b : List Nat) : ∀ k, (drR b k).length = 4
  | 0 => rfl
  | k + 1 => by unfold drR; rw [List.length_set, drR_len b k]
theorem drR_zero (b : List Nat) : ∀ g j, j + g ≤ 3 → (drR b g).getD j 0 = 0
  | 0, j, h => by
    have : j = 0 ∨ j = 1 ∨ j = 2 ∨ j = 3 := by omega
    rcases this with rfl | rfl | rfl | rfl <;> rfl
  | g + 1, j, h => by
    unfold drR
    rw [List.getD_eq_getElem?_getD, List.getElem?_set_ne (by omega), ← List.getD_eq_getElem?_getD]
    exact drR_zero b g j (by omega)
theorem rdN_s {l : List Nat} {i : Nat} (h : i < l.length) : rdN l (i + 1) = rdN l i * 256 + l.getD i 0 := by
  show rdN l i * 256 + (match l[i]? with | some b => b | none => 0) = _
  rw [List.getD_eq_getElem?_getD, List.getElem?_eq_getElem h]; rfl
theorem step_or {x y : Nat} (m : Nat) (hy : y < 256) (hm : m < 8) : (x * 2 ^ (8 * (8 - m))) ||| (y * 2 ^ (8 * (7 - m))) = (x * 256 + y) * 2 ^ (8 * (8 - (m + 1))) := by
  have e : 8 * (8 - m) = 8 * (7 - m) + 8 := by omega
  have e2 : 8 * (8 - (m + 1)) = 8 * (7 - m) := by omega
  rw [e, e2, Nat.pow_add, show x * (2 ^ (8 * (7 - m)) * 2 ^ 8) = (x * 256) * 2 ^ (8 * (7 - m)) by rw [Nat.mul_comm (2 ^ (8 * (7 - m))), ← Nat.mul_assoc]]
  generalize 8 * (7 - m) = k
  rw [← Nat.shiftLeft_eq, ← Nat.shiftLeft_eq, ← Nat.shiftLeft_or_distrib, ← Nat.shiftLeft_eq]
  have := Nat.two_pow_add_eq_or_of_lt (i := 8) (b := y) (by omega) x
  rw [show x * 256 = 2 ^ 8 * x by omega, this]
theorem lane_eq (b : List Nat) (hb : ∀ x ∈ b, x < 256) (hl : b.length = 32) (g : Nat) (hg : g < 4) (ih : wrR b (8 * g) = drR b g) :
    ∀ m, m ≤ 8 → wrR b (8 * g + m) = (drR b g).set (3 - g) (UInt64.ofNat (rdN ((b.drop (8 * g)).take 8) m * 2 ^ (8 * (8 - m))))
  | 0, _ => by
    have e : UInt64.ofNat (rdN ((b.drop (8 * g)).take 8) 0 * 2 ^ (8 * (8 - 0))) = 0 := by
      show UInt64.ofNat (0 * _) = 0
      rw [Nat.zero_mul]; rfl
    rw [e, Nat.add_zero, ih]
    have hz := drR_zero b g (3 - g) (by omega)
    conv => rhs; rw [← hz]
    exact (set_same _ _ (by rw [drR_len]; omega)).symm
  | m + 1, h => by
    have hlen : ((b.drop (8 * g)).take 8).length = 8 := by rw [List.length_take, List.length_drop]; omega
    have hi := lane_eq b hb hl g hg ih m (by omega)
    show wrR b ((8 * g + m) + 1) = _
    unfold wrR
    rw [hi, show (31 - (8 * g + m)) / 8 = 3 - g by omega, show (31 - (8 * g + m)) % 8 = 7 - m by omega, getD_set _ _ _ (by rw [drR_len]; omega), List.set_set, of_or]
    have e1 : b.getD (8 * g + m) 0 = ((b.drop (8 * g)).take 8).getD m 0 := by
      rw [List.getD_eq_getElem?_getD, List.getD_eq_getElem?_getD, List.getElem?_take, if_pos (by omega), List.getElem?_drop]
    have hy : ((b.drop (8 * g)).take 8).getD m 0 < 256 := by rw [← e1]; exact getD_lt hb _
    rw [e1, step_or m hy (by omega), rdN_s (by omega)]
theorem word_eq (b : List Nat) (hb : ∀ x ∈ b, x < 256) (hl : b.length = 32) : ∀ g, g ≤ 4 → wrR b (8 * g) = drR b g
  | 0, _ => rfl
  | g + 1, h => by
    have := lane_eq b hb hl g (by omega) (word_eq b hb hl g (by omega)) 8 (by omega)
    rw [show 8 * (g + 1) = 8 * g + 8 by omega, this, show 8 * (8 - 8) = 0 from rfl, Nat.pow_zero, Nat.mul_one]
    rfl
/-! digests of any bytes -/
theorem digL_len (l : List Nat) : (digL l).length = 32 := idL_len _ 32
theorem idL_lt (l : List UInt64) : ∀ k, ∀ b ∈ idL l k, b < 256
  | 0, b, h => by
    unfold idL at h
    obtain ⟨_, rfl⟩ := List.mem_replicate.1 h
    decide
  | k + 1, b, h => by
    unfold idL at h
    rcases List.mem_or_eq_of_mem_set h with h | rfl
    · exact idL_lt l k b h
    · exact Nat.mod_lt _ (by decide)
theorem digL_lt (l : List Nat) : ∀ b ∈ digL l, b < 256 := idL_lt _ 32
def digW (l : List Nat) : List UInt64 := drR (digL l) 4
theorem digW_len (l : List Nat) : (digW l).length = 4 := drR_len _ 4
theorem dig_fn (ex : Bool) (l : List Nat) (hl : l.length ≤ 1000) (hb : ∀ b ∈ l, b < 256) : Fn Tryd.prog 10 [bsl ex l] [] (lnA (digW l)) [] := by
  have h := digest_fn ex l hl hb (digL_len l) (digL_lt l)
  rw [show wrR (digL l) 32 = digW l from word_eq _ (digL_lt l) (digL_len l) 4 (by decide)] at h
  exact h
theorem rdN_lt64 {l : List Nat} (h : ∀ b ∈ l, b < 256) : rdN l 8 < 18446744073709551616 := rdN_lt h 8
theorem rdig_fn (ex : Bool) (l : List Nat) (hl : l.length ≤ 1000) (hb : ∀ b ∈ l, b < 256) : Fn Tryd.prog 11 [bsl ex l] [] (lnA (digW l)) [] := by
  have sm := rsum_fn ex l hl hb
  have hd := digL_len l
  have hdb := digL_lt l
  unfold digW
  generalize digL l = D at *
  refine rdigest_fnE ex l D (drR D) (drG D) hd rfl (drR_len D) (fun _ => rfl) sm fun i hi => ?_
  have hb' : ∀ b ∈ (D.drop (8 * i)).take 8, b < 256 := fun b h => hdb b (List.mem_of_mem_drop (List.mem_of_mem_take h))
  have hlen : ((D.drop (8 * i)).take 8).length = 8 := by rw [List.length_take, List.length_drop]; omega
  have h := rread_fn false ((D.drop (8 * i)).take 8) (by omega) hb'
  have e : (vi .u64 (rdN ((D.drop (8 * i)).take 8) 8 : Int) : AV) = lvA (drG D i) := by
    unfold drG lvA
    rw [UInt64.toNat_ofNat_of_lt' (rdN_lt64 hb')]
  rw [e, bsl, hlen] at h
  exact h
theorem clone_row (ex : Bool) (l : List Nat) (hl : l.length ≤ 1000000) : Fn Tryd.prog 5 [bsl ex l] [] (.row 7 5 1 l.length) [(7, rcB l)] := by
  have e1 : ((l.flatMap bpv).map AV.c).length = l.length := by rw [List.length_map, flat_length bpv_len, Nat.mul_one]
  unfold rcB
  (refine fn_of Tryd.func5 rfl (by rfl) ?_; simp only [Tryd.ntmps5, List.length_cons, List.length_nil, Nat.reduceAdd, Nat.reduceSub, List.replicate, List.cons_append, List.nil_append])
  (repeat (any_goals (first | ((have hz0 := hb0 hc); (with_reducible refine evL_op ?_ ?_); rfl; intro K hK; refine OpA.nilrow_after 2 7 5 1 (evO_sound ?_); (simp (disch := omega) only [go_sem, e1, refsL_map, Nat.mul_one]); (repeat (refine And.intro (by first | assumption | omega | rfl | decide) ?_)); refine hK _ ?_; clear hK K; clear hb0) | ((with_reducible refine evL_one ?_ ?_); rfl; intro K hK; simp (disch := omega) only [go_sem, e1, refsL_map, Nat.mul_one]; ((repeat (refine ndI (by first | assumption | omega | rfl) ?_)); refine hK _ ?_; clear hK K)) | ((with_reducible refine evL_one ?_ ?_); rfl; intro K hK; refine evO_isnil rfl rfl (by first | exact .inl rfl | exact .inr rfl) ?_ rfl ?_; (focus (simp (disch := omega) only [go_sem]; try rfl)); (intro b hb0; simp (disch := omega) only [eq_self, go_sem, e1, refsL_map, Nat.mul_one]; (with_reducible refine hK _ ?_); clear hK K)) | ((with_reducible refine evL_one ?_ ?_); rfl; intro K hK; simp (disch := omega) only [go_sem, e1, refsL_map, Nat.mul_one]; (repeat (refine And.intro rfl ?_)); (refine evO_nilnil rfl rfl (by first | exact .inl rfl | exact .inr rfl) ?_ rfl ?_); (focus (simp (disch := omega) only [go_sem]; try rfl)); (simp (disch := omega) only [eq_self, go_sem, e1, refsL_map, Nat.mul_one]; (with_reducible refine hK _ ?_); clear hK K)) | (with_reducible first | (refine evL_nil ?_; refine hR _ ?_; clear hR R) | ((first | refine evC_seq ?_ | refine evC_block ?_); intro Ψ hΨ hΨ') | (refine evC_region ?_; intro R hR) | (refine hΨ _ ?_; clear hΨ hΨ' Ψ) | refine evC_skip ?_ | refine evC_ret ?_ | refine evC_exit ?_) | ((with_reducible refine hΨ' _ _ ?_ ?_); (focus (simp; done)); clear hΨ hΨ' Ψ) | ((with_reducible apply evC_cond); rfl; rfl; all_goals (intro hc; first | (cases hc; done) | (try simp only at hc))))))
  all_goals (try (obtain rfl := List.eq_nil_of_length_eq_zero hz0))
  all_goals exact ⟨by simp, ⟨_, rfl, AV.le_refl _⟩, leH_get (by simp [leH, hget])⟩
theorem clone_fn (ex : Bool) (l : List Nat) (hl : l.length ≤ 1000000) : Fn Tryd.prog 5 [bsl ex l] [] (bsl false l) [] := (clone_row ex l hl).frz (by rw [flat_length bpv_len])
def adW (a : UInt64) : List UInt64 := [a, 0, 0, 0]
theorem aword' (a : UInt64) : Fn Tryd.prog 24 [lvA a] [] (lnA (adW a)) [] := aword_fn _
theorem rword' (a : UInt64) : Fn Tryd.prog 25 [lvA a] [] (lnA (adW a)) [] := rword_fn _
def slotW (a : UInt64) (W : List UInt64) : List UInt64 := digW (wdL (adW a) ++ wdL W)
theorem slot_lt (a : UInt64) (W : List UInt64) : ∀ b ∈ wdL (adW a) ++ wdL W, b < 256 := fun b h => by
  rw [List.mem_append] at h
  exact h.elim (wdL_lt _ b) (wdL_lt _ b)
theorem slot_fn (a : UInt64) (W : List UInt64) (hW : W.length = 4) : Fn Tryd.prog 8 [lvA a, lnA W] [] (lnA (slotW a W)) [] := by
  have h1 := wdL_len (adW a)
  have h2 := wdL_len W
  have jn := joined_fn true [(false, wdL (adW a)), (false, wdL W)] (by simp) (by simp [catL, h1, h2]) (by simp [catL, h1, h2])
  rw [show catL [(false, wdL (adW a)), (false, wdL W)] = wdL (adW a) ++ wdL W by simp [catL]] at jn
  exact slot_fnE _ (adW a) W (slotW a W) _ _ rfl hW (digW_len _) (aword' a) (wbytes_fn _ rfl) (wbytes_fn W hW) jn (dig_fn false _ (by rw [List.length_append, h1, h2]; decide) (slot_lt a W))
theorem rslot_fn (a : UInt64) (W : List UInt64) (hW : W.length = 4) : Fn Tryd.prog 9 [lvA a, lnA W] [] (lnA (slotW a W)) [] := by
  have h1 := wdL_len (adW a)
  have h2 := wdL_len W
  exact rslot_fnE _ (adW a) W (slotW a W) _ _ rfl hW (digW_len _) h1 h2 (rword' a) (rwbytes_row _ rfl) (rwbytes_fn W hW) (rdig_fn false _ (by rw [List.length_append, h1, h2]; decide) (slot_lt a W))
def crB (a : UInt64) (W : List UInt64) (l : List Nat) : List Nat := 255 :: (be8 a.toNat ++ (wdL W ++ digL l))
def crN (a : UInt64) (W : List UInt64) (l : List Nat) : Nat := rdN (digL (crB a W l)) 8
theorem crB_len (a : UInt64) (W : List UInt64) (l : List Nat) : (crB a W l).length = 73 := by
  unfold crB
  rw [List.length_cons, List.length_append, List.length_append, wdL_len, digL_len]; rfl
theorem crB_lt (a : UInt64) (W : List UInt64) (l : List Nat) : ∀ b ∈ crB a W l, b < 256 := fun b h => by
  unfold crB at h
  rw [List.mem_cons, List.mem_append, List.mem_append] at h
  rcases h with rfl | h | h | h
  · decide
  · exact be8_lt _ b h
  · exact wdL_lt _ b h
  · exact digL_lt _ b h
theorem created_fn (ex : Bool) (a : UInt64) (W : List UInt64) (hW : W.length = 4) (l : List Nat) (hl : l.length ≤ 1000) (hb : ∀ b ∈ l, b < 256) : Fn Tryd.prog 6 [lvA a, lnA W, bsl ex l] [] (vi .u64 (crN a W l : Int)) [] := by
  have h1 := wdL_len W
  have h2 := digL_len l
  have h3 : (be8 a.toNat).length = 8 := rfl
  have hc := crB_len a W l
  have jn' : Fn Tryd.prog 17 [.c (.sl true 1 4 [.sl true 1 1 [.v (.int .u8 255)], slP (false, be8 a.toNat), slP (false, wdL W), .sl false 1 32 ((digL l).flatMap bpv)])] [] (bsl false (crB a W l)) [] := by
    unfold crB at hc ⊢
    generalize be8 a.toNat = x at h3 hc ⊢
    generalize wdL W = y at h1 hc ⊢
    generalize digL l = D at h2 hc ⊢
    have e0 : catL [(true, [255]), (false, x), (false, y), (false, D)] = 255 :: (x ++ (y ++ D)) := by simp [catL]
    have jn := joined_fn true [(true, [255]), (false, x), (false, y), (false, D)] (by simp) (by rw [e0, hc]; decide) (by rw [e0, hc]; decide)
    rw [e0] at jn
    have e : slP (false, D) = .sl false 1 32 (D.flatMap bpv) := by rw [← h2]
    rw [← e]
    exact jn
  have rd := read_fn false (digL (crB a W l)) (by rw [digL_len]; decide) (digL_lt _)
  rw [bsl, digL_len] at rd
  exact created_fnE ex _ _ l (digL l) (digL (crB a W l)) (be8 a.toNat) (wdL W) W h2 (digL_len _) rfl h1 hW (sum_fn ex l hl hb) (abytes_fn a.toNat a.toNat_lt) (wbytes_fn W hW) jn' (sum_fn false (crB a W l) (by rw [crB_len]; decide) (crB_lt a W l)) rd
theorem rcreated_fn (ex : Bool) (a : UInt64) (W : List UInt64) (hW : W.length = 4) (l : List Nat) (hl : l.length ≤ 1000) (hb : ∀ b ∈ l, b < 256) : Fn Tryd.prog 7 [lvA a, lnA W, bsl ex l] [] (vi .u64 (crN a W l : Int)) [] := by
  have h1 := wdL_len W
  have h2 := digL_len l
  have s2 := rsum_fn false (crB a W l) (by rw [crB_len]; decide) (crB_lt a W l)
  rw [bsl, crB_len] at s2
  have rd := rread_fn false (digL (crB a W l)) (by rw [digL_len]; decide) (digL_lt _)
  rw [bsl, digL_len] at rd
  exact rcreated_fnE ex _ _ l (digL l) (digL (crB a W l)) (be8 a.toNat) (wdL W) W h2 (digL_len _) rfl h1 hW (rsum_fn ex l hl hb) (rbytes_fn a.toNat a.toNat_lt) (rwbytes_fn W hW) s2 rd
/-! the law -/
theorem eqAV_rcV : ∀ l : List UInt64, eqAV (rcV l) (rcV l) = some true
  | [] => rfl
  | x :: l => by
    show eqAV (lvA x :: rcV l) (lvA x :: rcV l) = some true
    unfold eqAV
    simp [eqAV_rcV l]
theorem makes_fnE (ex : Bool) (a z : Int) (A W X Y : List UInt64) (l : List Nat) (hW : W.length = 4) (hX : X.length = 4) (hY : Y.length = 4) (hl : l.length ≤ 500)
    (cl : Fn Tryd.prog 5 [bsl ex l] [] (bsl false l) []) (c1 : Fn Tryd.prog 6 [vi .u64 a, lnA W, bsl ex l] [] (vi .u64 z) []) (c2 : Fn Tryd.prog 7 [vi .u64 a, lnA W, bsl false l] [] (vi .u64 z) [])
    (s1 : Fn Tryd.prog 8 [vi .u64 a, lnA W] [] (lnA X) []) (s2 : Fn Tryd.prog 9 [vi .u64 a, lnA W] [] (lnA X) [])
    (d1 : Fn Tryd.prog 10 [bsl ex l] [] (lnA Y) []) (d2 : Fn Tryd.prog 11 [bsl false l] [] (lnA Y) [])
    (be : Fn Tryd.prog 12 [bsl ex l, bsl false l] [] (vb true) []) : Fn Tryd.prog 3 [vi .u64 a, lnA W, bsl ex l] [] (vb true) [] := by
  have wk := wakes_fn
  have w1 : List.take 4 (rcV W) = rcV W := List.take_of_length_le (by rw [rcV_len]; omega)
  have w2 : (rcV W).length = 4 := by rw [rcV_len, hW]
  have x2 : (rcV X).length = 4 := by rw [rcV_len, hX]
  have y2 : (rcV Y).length = 4 := by rw [rcV_len, hY]
  have k1 : decide ((l.length : Int) > 500) = false := by simp; omega
  have e1 : ((z : Int) == z) = true := by simp
  have q1 : eqAV (rcV X) (rcV X) = some true := eqAV_rcV X
  have q2 : eqAV (rcV Y) (rcV Y) = some true := eqAV_rcV Y
  (refine fn_of Tryd.func3 rfl (by rfl) ?_; simp only [Tryd.ntmps3, List.length_cons, List.length_nil, Nat.reduceAdd, Nat.reduceSub, List.replicate, List.cons_append, List.nil_append])
  (have W := ndI k1 (ndI w1 w2); (repeat (any_goals (first | ((with_reducible refine evL_call ?_ ?_ ?_); rfl; rfl; intro K hK; ((first | (apply opA_callB (wk); rfl; rfl; rfl; rfl; exact Tryd.func4) | (apply opA_callB (cl); rfl; rfl; rfl; rfl; exact Tryd.func5)); kernel_rfl; rfl; (focus ((simp (disch := omega) only [go_sem, W, refsL_rcV]); (try rfl); done)); (first | rfl | simp [AV.inNL, AV.inN])); (simp (disch := omega) only [go_sem, W, refsL_rcV]; refine hK _ ?_; clear hK K)) | ((with_reducible refine evL_one ?_ ?_); rfl; intro K hK; simp (disch := omega) only [go_sem, W, refsL_rcV]; ((repeat (refine ndI (by first | assumption | omega | rfl) ?_)); refine hK _ ?_; clear hK K)) | (with_reducible first | (refine evL_nil ?_; refine hR _ ?_; clear hR R) | ((first | refine evC_seq ?_ | refine evC_block ?_); intro Ψ hΨ hΨ') | (refine evC_region ?_; intro R hR) | (refine hΨ _ ?_; clear hΨ hΨ' Ψ) | refine evC_skip ?_ | refine evC_ret ?_ | refine evC_exit ?_) | ((with_reducible refine hΨ' _ _ ?_ ?_); (focus (simp; done)); clear hΨ hΨ' Ψ) | ((with_reducible apply evC_cond); rfl; rfl; all_goals (intro hc; first | (cases hc; done) | (try simp only at hc))) | ((with_reducible refine evD_nil ?_ ?_); kernel_rfl; (with_reducible refine hR _ ?_); clear hR R) | ((first | ((with_reducible apply evD_skip); rfl; rfl; rfl; rfl) | ((with_reducible apply evD_unmet); rfl; rfl; rfl) | ((first | ((with_reducible apply evD_any); rfl; rfl) | ((with_reducible apply evD_gany); rfl; rfl; rfl; rfl; rfl)); (simp (disch := omega) only [rdE, rdOf, go_sem, W, refsL_rcV]; rfl); (intro τ hA hQ hN; ((try simp only [agree, Op.operands, Call.operands, go_sem, W, refsL_rcV, go_sem, List.mem_cons, List.not_mem_nil, forall_eq_or_imp, forall_eq, List.append_toArray, Option.toArray] at hA); (try simp only [go_sem, W, refsL_rcV, List.mem_cons, List.not_mem_nil, forall_eq_or_imp, forall_eq] at hQ hN); (first | (revert hA; intro hA) | have hA := trivial); (first | (revert hQ; intro hQ) | have hQ := trivial); (first | (revert hN; intro hN) | have hN := trivial); simp (disch := omega) only [go_sem, W, refsL_rcV, go_sem, hA, hQ, hN]; (repeat (refine ndI (by first | assumption | omega | rfl) ?_)); (first | apply eff_rd | apply eff_st | apply eff_nw))))); (simp (disch := omega) only [St.eff, setO, hputs, go_sem, W, refsL_rcV])) | ((with_reducible apply evD_split); rfl; rfl; rfl; all_goals intro hb; all_goals (simp (disch := omega) only [St.eff, setO, hputs, go_sem, W, refsL_rcV]))))))
  (have W := ndI w1 (ndI w2 (ndI x2 (ndI y2 (ndI e1 (ndI q1 q2))))); (repeat (any_goals (first | ((with_reducible refine evL_call ?_ ?_ ?_); rfl; rfl; intro K hK; ((first | (apply opA_callB (c1); rfl; rfl; rfl; rfl; exact Tryd.func6) | (apply opA_callB (c2); rfl; rfl; rfl; rfl; exact Tryd.func7) | (apply opA_callB (s1); rfl; rfl; rfl; rfl; exact Tryd.func8) | (apply opA_callB (s2); rfl; rfl; rfl; rfl; exact Tryd.func9) | (apply opA_callB (d1); rfl; rfl; rfl; rfl; exact Tryd.func10) | (apply opA_callB (d2); rfl; rfl; rfl; rfl; exact Tryd.func11) | (apply opA_callB (be); rfl; rfl; rfl; rfl; exact Tryd.func12)); kernel_rfl; rfl; (focus ((simp (disch := omega) only [go_sem, W, refsL_rcV]); (try rfl); done)); (first | rfl | simp [AV.inNL, AV.inN])); (simp (disch := omega) only [go_sem, W, refsL_rcV]; refine hK _ ?_; clear hK K)) | ((with_reducible refine evL_one ?_ ?_); rfl; intro K hK; simp (disch := omega) only [go_sem, W, refsL_rcV]; ((repeat (refine ndI (by first | assumption | omega | rfl) ?_)); refine hK _ ?_; clear hK K)) | (with_reducible first | (refine evL_nil ?_; refine hR _ ?_; clear hR R) | ((first | refine evC_seq ?_ | refine evC_block ?_); intro Ψ hΨ hΨ') | (refine evC_region ?_; intro R hR) | (refine hΨ _ ?_; clear hΨ hΨ' Ψ) | refine evC_skip ?_ | refine evC_ret ?_ | refine evC_exit ?_) | ((with_reducible refine hΨ' _ _ ?_ ?_); (focus (simp; done)); clear hΨ hΨ' Ψ) | ((with_reducible apply evC_cond); rfl; rfl; all_goals (intro hc; first | (cases hc; done) | (try simp only at hc))) | ((with_reducible refine evD_nil ?_ ?_); (apply drawOK_sim); (focus (repeat (first | exact Sims.nil | ((apply Sims.cons); (focus (first | ((apply Ef.sim_row); assumption) | exact Ef.sim_refl _)))))); kernel_rfl; (with_reducible refine hR _ ?_); clear hR R) | ((first | ((with_reducible apply evD_skip); rfl; rfl; rfl; rfl) | ((with_reducible apply evD_unmet); rfl; rfl; rfl) | ((first | ((with_reducible apply evD_fcall); rfl; rfl) | ((with_reducible apply evD_gcall); rfl; rfl; rfl; rfl; rfl)); ((first | (apply opF_callB (c1); rfl; rfl; rfl; rfl; exact Tryd.func6) | (apply opF_callB (c2); rfl; rfl; rfl; rfl; exact Tryd.func7) | (apply opF_callB (s1); rfl; rfl; rfl; rfl; exact Tryd.func8) | (apply opF_callB (s2); rfl; rfl; rfl; rfl; exact Tryd.func9) | (apply opF_callB (d1); rfl; rfl; rfl; rfl; exact Tryd.func10) | (apply opF_callB (d2); rfl; rfl; rfl; rfl; exact Tryd.func11) | (apply opF_callB (be); rfl; rfl; rfl; rfl; exact Tryd.func12)); kernel_rfl; rfl; (focus ((simp (disch := omega) only [go_sem, W, refsL_rcV]); (try rfl); done)); (first | rfl | simp [AV.inNL, AV.inN]))) | ((first | ((with_reducible apply evD_any); rfl; rfl) | ((with_reducible apply evD_gany); rfl; rfl; rfl; rfl; rfl)); (simp (disch := omega) only [rdE, rdOf, go_sem, W, refsL_rcV]; rfl); (intro τ hA hQ hN; ((try simp only [agree, Op.operands, Call.operands, go_sem, W, refsL_rcV, go_sem, List.mem_cons, List.not_mem_nil, forall_eq_or_imp, forall_eq, List.append_toArray, Option.toArray] at hA); (try simp only [go_sem, W, refsL_rcV, List.mem_cons, List.not_mem_nil, forall_eq_or_imp, forall_eq] at hQ hN); (first | (revert hA; intro hA) | have hA := trivial); (first | (revert hQ; intro hQ) | have hQ := trivial); (first | (revert hN; intro hN) | have hN := trivial); simp (disch := omega) only [go_sem, W, refsL_rcV, go_sem, hA, hQ, hN]; (repeat (refine ndI (by first | assumption | omega | rfl) ?_)); (first | apply eff_rd | apply eff_st | apply eff_nw))))); (simp (disch := omega) only [St.eff, setO, hputs, go_sem, W, refsL_rcV])) | ((with_reducible apply evD_split); rfl; rfl; rfl; all_goals intro hb; all_goals (simp (disch := omega) only [St.eff, setO, hputs, go_sem, W, refsL_rcV])) | ((with_reducible refine evC_draw ?_ ?_ ?_ ?_); kernel_rfl; kernel_rfl; (simp [newNames, isNew, St.free, freeH, AV.refsL, AV.refs, refsL_rcV]); intro R hR)))))
  all_goals (refine ⟨by simp, ⟨_, ?_, AV.le_refl _⟩, leH_get (by simp [leH, hget])⟩; simp only [Tryd.results3, resL, ldA, oneOf, go_sem])
theorem makes_long (ex : Bool) (a : Int) (W : List UInt64) (l : List Nat) (hW : W.length = 4) (hl : 500 < l.length) : Fn Tryd.prog 3 [vi .u64 a, lnA W, bsl ex l] [] (vb true) [] := by
  have wk := wakes_fn
  have w2 : (rcV W).length = 4 := by rw [rcV_len, hW]
  have k1 : decide ((l.length : Int) > 500) = true := by simp; omega
  (refine fn_of Tryd.func3 rfl (by rfl) ?_; simp only [Tryd.ntmps3, List.length_cons, List.length_nil, Nat.reduceAdd, Nat.reduceSub, List.replicate, List.cons_append, List.nil_append])
  (repeat (any_goals (first | ((with_reducible refine evL_call ?_ ?_ ?_); rfl; rfl; intro K hK; ((apply opA_callB (wk); rfl; rfl; rfl; rfl; exact Tryd.func4); kernel_rfl; rfl; (focus ((simp (disch := omega) only [go_sem, k1, w2, refsL_rcV]); (try rfl); done)); (first | rfl | simp [AV.inNL, AV.inN])); (simp (disch := omega) only [go_sem, k1, w2, refsL_rcV]; refine hK _ ?_; clear hK K)) | ((with_reducible refine evL_one ?_ ?_); rfl; intro K hK; simp (disch := omega) only [go_sem, k1, w2, refsL_rcV]; ((repeat (refine ndI (by first | assumption | omega | rfl) ?_)); refine hK _ ?_; clear hK K)) | (with_reducible first | (refine evL_nil ?_; refine hR _ ?_; clear hR R) | ((first | refine evC_seq ?_ | refine evC_block ?_); intro Ψ hΨ hΨ') | (refine evC_region ?_; intro R hR) | (refine hΨ _ ?_; clear hΨ hΨ' Ψ) | refine evC_skip ?_ | refine evC_ret ?_ | refine evC_exit ?_) | ((with_reducible refine hΨ' _ _ ?_ ?_); (focus (simp; done)); clear hΨ hΨ' Ψ) | ((with_reducible apply evC_cond); rfl; rfl; all_goals (intro hc; first | (cases hc; done) | (try simp only at hc))) | ((with_reducible refine evD_nil ?_ ?_); kernel_rfl; (with_reducible refine hR _ ?_); clear hR R) | ((first | ((with_reducible apply evD_skip); rfl; rfl; rfl; rfl) | ((with_reducible apply evD_unmet); rfl; rfl; rfl) | ((first | ((with_reducible apply evD_any); rfl; rfl) | ((with_reducible apply evD_gany); rfl; rfl; rfl; rfl; rfl)); (simp (disch := omega) only [rdE, rdOf, go_sem, k1, w2, refsL_rcV]; rfl); (intro τ hA hQ hN; ((try simp only [agree, Op.operands, Call.operands, go_sem, k1, w2, refsL_rcV, go_sem, List.mem_cons, List.not_mem_nil, forall_eq_or_imp, forall_eq, List.append_toArray, Option.toArray] at hA); (try simp only [go_sem, k1, w2, refsL_rcV, List.mem_cons, List.not_mem_nil, forall_eq_or_imp, forall_eq] at hQ hN); (first | (revert hA; intro hA) | have hA := trivial); (first | (revert hQ; intro hQ) | have hQ := trivial); (first | (revert hN; intro hN) | have hN := trivial); simp (disch := omega) only [go_sem, k1, w2, refsL_rcV, go_sem, hA, hQ, hN]; (repeat (refine ndI (by first | assumption | omega | rfl) ?_)); (first | apply eff_rd | apply eff_st | apply eff_nw))))); (simp (disch := omega) only [St.eff, setO, hputs, go_sem, k1, w2, refsL_rcV])) | ((with_reducible apply evD_split); rfl; rfl; rfl; all_goals intro hb; all_goals (simp (disch := omega) only [St.eff, setO, hputs, go_sem, k1, w2, refsL_rcV])))))
  all_goals (refine ⟨by simp, ⟨_, ?_, AV.le_refl _⟩, leH_get (by simp [leH, hget])⟩; simp only [Tryd.results3, resL, ldA, oneOf, go_sem])
theorem makes_fn (ex : Bool) (a : UInt64) (W : List UInt64) (l : List Nat) (hW : W.length = 4) (hb : ∀ b ∈ l, b < 256) : Fn Tryd.prog 3 [lvA a, lnA W, bsl ex l] [] (vb true) [] := by
  rcases Nat.lt_or_ge 500 l.length with h | h
  · exact makes_long ex _ W l hW h
  · have be := bequal_fn ex false l l hb hb
    rw [decide_eq_true rfl] at be
    exact makes_fnE ex _ _ W W (slotW a W) (digW l) l hW (digW_len _) (digW_len _) h (clone_fn ex l (by omega)) (created_fn ex a W hW l (by omega) hb) (rcreated_fn false a W hW l (by omega) hb) (slot_fn a W hW) (rslot_fn a W hW) (dig_fn ex l (by omega) hb) (rdig_fn false l (by omega) hb) be
end Go.Proofs.YtgdjkkapgghdbaaDoor

