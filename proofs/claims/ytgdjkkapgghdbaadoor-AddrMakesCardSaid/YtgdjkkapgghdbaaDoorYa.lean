/-
  The sponge's small functions: places, turns; the loop over places by what each round does. Reckoned.
-/
import Derived.Test.YtgdjkkapgghdbaaDoorWn
import Derived.Test.YtgdjkkapgghdbaaDoorAvL2
import Derived.Test.YtgdjkkapgghdbaaDoorAvMp
import Derived.Test.YtgdjkkapgghdbaaDoorAvCe
namespace Go.Proofs.YtgdjkkapgghdbaaDoor
open Go.RowKit
open Nat (reduceBEq)
set_option linter.unusedVariables false
set_option linter.unusedSimpArgs false
set_option maxRecDepth 20000
set_option maxHeartbeats 2000000
theorem AWE.scope {p : Env → Prop} {P : Program} {c : Code} {σ : St} {Φ : Exit → St → Prop} (h : AWE p P c σ fun ex σ' => (∀ j, ex = .goto j → False) ∧ Φ ex σ') : AWE p P (.scope c) σ Φ := fun E ι a w hp hc => by
  refine wp_scope_straight ?_
  refine wp_mono (h E ι a w hp hc) fun ex a' w' => ?_
  rintro ⟨ι', σ', hc', hg, hΦ⟩
  cases ex <;> first | exact ⟨ι', σ', hc', hΦ⟩ | exact (hg _ rfl).elim
abbrev lvA (x : UInt64) : AV := .c (.v (.int .u64 (x.toNat : Int)))
def rcV (l : List UInt64) : List AV := l.map lvA
theorem rcV_len (l : List UInt64) : (rcV l).length = l.length := by unfold rcV; rw [List.length_map]
theorem refsL_rcV (d : Nat) (l : List UInt64) : AV.refsL d (rcV l) = false := by
  unfold rcV
  induction l with
  | nil => rfl
  | cons x l ih => rw [List.map_cons, AV.refsL, ih]; rfl
theorem renL_rcV (ρ : Nat → Nat) (l : List UInt64) : AV.renL ρ (rcV l) = rcV l := by
  unfold rcV
  induction l with
  | nil => rfl
  | cons x l ih => rw [List.map_cons, AV.renL, ih]; rfl
theorem inNL_rcV (N : List Nat) (l : List UInt64) : AV.inNL N (rcV l) = true := by
  unfold rcV
  induction l with
  | nil => rfl
  | cons x l ih => rw [List.map_cons, AV.inNL, ih]; rfl
theorem rcV_at {l : List UInt64} {j : Nat} {y : UInt64} (h : l[j]? = some y) : (rcV l)[j]? = some (lvA y) := by
  unfold rcV; rw [List.getElem?_map, h]; rfl
theorem rcV_set (l : List UInt64) (j : Nat) (y : UInt64) (h : j < l.length) : spl (rcV l) j [lvA y] = rcV (l.set j y) := by
  unfold spl rcV
  rw [List.map_set, List.set_eq_take_append_cons_drop, if_pos (by rw [List.length_map]; exact h)]
  simp
theorem rcV_take (l : List UInt64) (h : l.length = 25) : (rcV l).take 25 = rcV l := List.take_of_length_le (by rw [rcV_len, h]; omega)
/-! numbers -/
theorem u64w (n : Nat) : IntKind.u64.wrap (n : Int) = ((n % 18446744073709551616 : Nat) : Int) := by
  unfold IntKind.wrap; simp [IntKind.bits, IntKind.signed]
theorem bvU (x : UInt64) : BitVec.ofInt 64 (x.toNat : Int) = x.toBitVec := by
  apply BitVec.eq_of_toNat_eq
  simp [BitVec.toNat_ofInt]
theorem u64_xor (x y : UInt64) : IntKind.u64.wrap ((@HXor.hXor (BitVec 64) (BitVec 64) (BitVec 64) (@instHXorOfXorOp (BitVec IntKind.u64.bits) (@BitVec.instXorOp IntKind.u64.bits)) (BitVec.ofInt 64 (x.toNat : Int)) (BitVec.ofInt 64 (y.toNat : Int))).toNat : Int) = ((x ^^^ y).toNat : Int) := by
  show IntKind.u64.wrap ((BitVec.ofInt 64 (x.toNat : Int) ^^^ BitVec.ofInt 64 (y.toNat : Int)).toNat : Int) = _
  rw [bvU, bvU, u64w, show (x.toBitVec ^^^ y.toBitVec).toNat = (x ^^^ y).toNat from rfl, Nat.mod_eq_of_lt (x ^^^ y).toNat_lt]
theorem u64_and (x y : UInt64) : IntKind.u64.wrap ((@HAnd.hAnd (BitVec 64) (BitVec 64) (BitVec 64) (@instHAndOfAndOp (BitVec IntKind.u64.bits) (@BitVec.instAndOp IntKind.u64.bits)) (BitVec.ofInt 64 (x.toNat : Int)) (BitVec.ofInt 64 (y.toNat : Int))).toNat : Int) = ((x &&& y).toNat : Int) := by
  show IntKind.u64.wrap ((BitVec.ofInt 64 (x.toNat : Int) &&& BitVec.ofInt 64 (y.toNat : Int)).toNat : Int) = _
  rw [bvU, bvU, u64w, show (x.toBitVec &&& y.toBitVec).toNat = (x &&& y).toNat from rfl, Nat.mod_eq_of_lt (x &&& y).toNat_lt]
theorem u64_or (x y : UInt64) : IntKind.u64.wrap ((@HOr.hOr (BitVec 64) (BitVec 64) (BitVec 64) (@instHOrOfOrOp (BitVec IntKind.u64.bits) (@BitVec.instOrOp IntKind.u64.bits)) (BitVec.ofInt 64 (x.toNat : Int)) (BitVec.ofInt 64 (y.toNat : Int))).toNat : Int) = ((x ||| y).toNat : Int) := by
  show IntKind.u64.wrap ((BitVec.ofInt 64 (x.toNat : Int) ||| BitVec.ofInt 64 (y.toNat : Int)).toNat : Int) = _
  rw [bvU, bvU, u64w, show (x.toBitVec ||| y.toBitVec).toNat = (x ||| y).toNat from rfl, Nat.mod_eq_of_lt (x ||| y).toNat_lt]
theorem u64_not (x : UInt64) : IntKind.u64.wrap ((@HXor.hXor (BitVec 64) (BitVec 64) (BitVec 64) (@instHXorOfXorOp (BitVec IntKind.u64.bits) (@BitVec.instXorOp IntKind.u64.bits)) (BitVec.ofInt 64 (if IntKind.u64.signed = true then -1 else IntKind.u64.max)) (BitVec.ofInt 64 (x.toNat : Int))).toNat : Int) = ((~~~x).toNat : Int) := by
  show IntKind.u64.wrap ((BitVec.ofInt 64 18446744073709551615 ^^^ BitVec.ofInt 64 (x.toNat : Int)).toNat : Int) = _
  have h1 : BitVec.ofInt 64 18446744073709551615 = BitVec.allOnes 64 := by decide
  have h2 : (BitVec.allOnes 64 ^^^ x.toBitVec).toNat = (~~~x).toNat := by
    show (BitVec.allOnes 64 ^^^ x.toBitVec).toNat = (~~~x.toBitVec).toNat
    rw [BitVec.allOnes_xor]
  rw [bvU, u64w, h1, h2, Nat.mod_eq_of_lt (~~~x).toNat_lt]
def rotU (x : UInt64) (n : Nat) : UInt64 := UInt64.ofNat (x.toNat * 2 ^ n % 18446744073709551616) ||| UInt64.ofNat (x.toNat / 2 ^ (64 - n))
theorem and63 (n : Nat) (h : n < 64) : IntKind.u64.wrap ((@HAnd.hAnd (BitVec 64) (BitVec 64) (BitVec 64) (@instHAndOfAndOp (BitVec IntKind.u64.bits) (@BitVec.instAndOp IntKind.u64.bits)) (BitVec.ofInt 64 (n : Int)) (BitVec.ofInt 64 63)).toNat : Int) = (n : Int) := by
  have h2 : ∀ k : Fin 64, IntKind.u64.wrap ((BitVec.ofInt 64 ((k.1 : Nat) : Int) &&& BitVec.ofInt 64 63).toNat : Int) = ((k.1 : Nat) : Int) := by decide +kernel
  exact h2 ⟨n, h⟩
theorem rot_fn (x : UInt64) (n : Nat) (hn : n < 64) : Fn Tryd.prog 75 [lvA x, vi .i64 (n : Int)] [] (lvA (rotU x n)) [] := by
  have k1 := and63 n hn
  have k0 : IntKind.u64.wrap (n : Int) = (n : Int) := by rw [u64w, Nat.mod_eq_of_lt (by omega)]
  have k2 : IntKind.u64.wrap (64 - (n : Int)) = ((64 - n : Nat) : Int) := by
    rw [show (64 - (n : Int)) = ((64 - n : Nat) : Int) by omega, u64w, Nat.mod_eq_of_lt (by omega)]
  have hx := x.toNat_lt
  have k3 : IntKind.u64.wrap ((x.toNat : Int) * 2 ^ min n 64) = ((UInt64.ofNat (x.toNat * 2 ^ n % 18446744073709551616)).toNat : Int) := by
    rw [Nat.min_eq_left (by omega), show ((x.toNat : Int) * 2 ^ n) = ((x.toNat * 2 ^ n : Nat) : Int) by push_cast; rfl, u64w, UInt64.toNat_ofNat_of_lt' (by exact Nat.mod_lt _ (by decide))]
  have k4 : Int.fdiv (x.toNat : Int) (2 ^ min (64 - n) 64) = ((UInt64.ofNat (x.toNat / 2 ^ (64 - n))).toNat : Int) := by
    rw [Nat.min_eq_left (by omega), UInt64.toNat_ofNat_of_lt' (by exact Nat.lt_of_le_of_lt (Nat.div_le_self _ _) hx), show ((2 : Int) ^ (64 - n)) = ((2 ^ (64 - n) : Nat) : Int) by push_cast; rfl]
    rw [Int.fdiv_eq_ediv_of_nonneg _ (Int.natCast_nonneg _)]
    rfl
  have k5 := u64_or (UInt64.ofNat (x.toNat * 2 ^ n % 18446744073709551616)) (UInt64.ofNat (x.toNat / 2 ^ (64 - n)))
  have kb : IntKind.u64.bits = 64 := rfl
  have e : rotU x n = UInt64.ofNat (x.toNat * 2 ^ n % 18446744073709551616) ||| UInt64.ofNat (x.toNat / 2 ^ (64 - n)) := rfl
  rw [e]
  generalize UInt64.ofNat (x.toNat * 2 ^ n % 18446744073709551616) = p at *
  generalize UInt64.ofNat (x.toNat / 2 ^ (64 - n)) = q at *
  (refine fn_of Tryd.func75 rfl (by rfl) ?_; simp only [Tryd.ntmps75, List.length_cons, List.length_nil, Nat.reduceAdd, Nat.reduceSub, List.replicate, List.cons_append, List.nil_append])
  (have W := ndI k0 (ndI k1 (ndI k2 (ndI k3 (ndI k4 k5)))); (repeat (any_goals (first | ((with_reducible refine evL_one ?_ ?_); rfl; intro K hK; simp (disch := omega) only [go_sem, W]; ((repeat (refine ndI (by first | assumption | omega | rfl) ?_)); refine hK _ ?_; clear hK K)) | (with_reducible first | (refine evL_nil ?_; refine hR _ ?_; clear hR R) | ((first | refine evC_seq ?_ | refine evC_block ?_); intro Ψ hΨ hΨ') | (refine evC_region ?_; intro R hR) | (refine hΨ _ ?_; clear hΨ hΨ' Ψ) | refine evC_skip ?_ | refine evC_ret ?_ | refine evC_exit ?_) | ((with_reducible refine hΨ' _ _ ?_ ?_); (focus (simp; done)); clear hΨ hΨ' Ψ) | ((with_reducible apply evC_cond); rfl; rfl; all_goals (intro hc; first | (cases hc; done) | (try simp only at hc)))))))
  all_goals (refine ⟨by simp, ⟨_, ?_, AV.le_refl _⟩, leH_get (by simp [leH, hget])⟩; simp only [Tryd.results75, resL, ldA, oneOf, go_sem])
theorem turned_fn (x : UInt64) (n : Nat) (hn : n < 64) : Fn Tryd.prog 71 [lvA x, vi .i64 (n : Int)] [] (lvA (rotU x n)) [] := by
  have r := rot_fn x n hn
  (refine fn_of Tryd.func71 rfl (by rfl) ?_; simp only [Tryd.ntmps71, List.length_cons, List.length_nil, Nat.reduceAdd, Nat.reduceSub, List.replicate, List.cons_append, List.nil_append])
  (repeat (any_goals (first | ((with_reducible refine evL_call ?_ ?_ ?_); rfl; rfl; intro K hK; ((apply opA_callB (r); rfl; rfl; rfl; rfl; exact Tryd.func75); kernel_rfl; rfl; (focus ((simp only [go_sem]); (try rfl); done)); (first | rfl | simp [AV.inNL, AV.inN])); (simp only [go_sem]; refine hK _ ?_; clear hK K)) | ((with_reducible refine evL_one ?_ ?_); rfl; intro K hK; simp only [go_sem]; ((repeat (refine ndI (by first | assumption | omega | rfl) ?_)); refine hK _ ?_; clear hK K)) | (with_reducible first | (refine evL_nil ?_; refine hR _ ?_; clear hR R) | ((first | refine evC_seq ?_ | refine evC_block ?_); intro Ψ hΨ hΨ') | (refine evC_region ?_; intro R hR) | (refine hΨ _ ?_; clear hΨ hΨ' Ψ) | refine evC_skip ?_ | refine evC_ret ?_ | refine evC_exit ?_) | ((with_reducible refine hΨ' _ _ ?_ ?_); (focus (simp; done)); clear hΨ hΨ' Ψ) | ((with_reducible apply evC_cond); rfl; rfl; all_goals (intro hc; first | (cases hc; done) | (try simp only at hc))))))
  all_goals (refine ⟨by simp, ⟨_, ?_, AV.le_refl _⟩, leH_get (by simp [leH, hget])⟩; simp only [Tryd.results71, resL, ldA, oneOf, go_sem])
theorem at_fn (x y : Nat) (hx : x < 100) (hy : y < 100) : Fn Tryd.prog 70 [vi .i64 (x : Int), vi .i64 (y : Int)] [] (vi .i64 ((5 * (y % 5) + x % 5 : Nat) : Int)) [] := by
  have k1 : Int.tmod (y : Int) 5 = ((y % 5 : Nat) : Int) := by rw [Int.tmod_eq_emod_of_nonneg (by omega)]; omega
  have k2 : Int.tmod (x : Int) 5 = ((x % 5 : Nat) : Int) := by rw [Int.tmod_eq_emod_of_nonneg (by omega)]; omega
  have k3 : (5 : Int) * ((y % 5 : Nat) : Int) = ((5 * (y % 5) : Nat) : Int) := by omega
  have k4 : ((5 * (y % 5) : Nat) : Int) + ((x % 5 : Nat) : Int) = ((5 * (y % 5) + x % 5 : Nat) : Int) := by omega
  have h1 : 5 * (y % 5) < 25 := by omega
  have h2 : x % 5 < 5 := by omega
  generalize y % 5 = b at *
  generalize x % 5 = a at *
  (refine fn_of Tryd.func70 rfl (by rfl) ?_; simp only [Tryd.ntmps70, List.length_cons, List.length_nil, Nat.reduceAdd, Nat.reduceSub, List.replicate, List.cons_append, List.nil_append])
  (have W := ndI k1 (ndI k2 (ndI k3 (ndI k4 @wrI))); (repeat (any_goals (first | ((with_reducible refine evL_one ?_ ?_); rfl; intro K hK; simp (disch := omega) only [go_sem, W]; ((repeat (refine ndI (by first | assumption | omega | rfl) ?_)); refine hK _ ?_; clear hK K)) | (with_reducible first | (refine evL_nil ?_; refine hR _ ?_; clear hR R) | ((first | refine evC_seq ?_ | refine evC_block ?_); intro Ψ hΨ hΨ') | (refine evC_region ?_; intro R hR) | (refine hΨ _ ?_; clear hΨ hΨ' Ψ) | refine evC_skip ?_ | refine evC_ret ?_ | refine evC_exit ?_) | ((with_reducible refine hΨ' _ _ ?_ ?_); (focus (simp; done)); clear hΨ hΨ' Ψ) | ((with_reducible apply evC_cond); rfl; rfl; all_goals (intro hc; first | (cases hc; done) | (try simp only at hc)))))))
  all_goals (refine ⟨by simp, ⟨_, ?_, AV.le_refl _⟩, leH_get (by simp [leH, hget])⟩; simp only [Tryd.results70, resL, ldA, oneOf, go_sem])
theorem places_fn : Fn Tryd.prog 69 [] [] (.fn 74 []) [] := by
  (refine fn_of Tryd.func69 rfl (by rfl) ?_; simp only [Tryd.ntmps69, List.length_cons, List.length_nil, Nat.reduceAdd, Nat.reduceSub, List.replicate, List.cons_append, List.nil_append])
  (repeat (any_goals (first | ((with_reducible refine evL_one ?_ ?_); rfl; intro K hK; simp only [go_sem]; ((repeat (refine ndI (by first | assumption | omega | rfl) ?_)); refine hK _ ?_; clear hK K)) | (with_reducible first | (refine evL_nil ?_; refine hR _ ?_; clear hR R) | ((first | refine evC_seq ?_ | refine evC_block ?_); intro Ψ hΨ hΨ') | (refine evC_region ?_; intro R hR) | (refine hΨ _ ?_; clear hΨ hΨ' Ψ) | refine evC_skip ?_ | refine evC_ret ?_ | refine evC_exit ?_) | ((with_reducible refine hΨ' _ _ ?_ ?_); (focus (simp; done)); clear hΨ hΨ' Ψ) | ((with_reducible apply evC_cond); rfl; rfl; all_goals (intro hc; first | (cases hc; done) | (try simp only at hc))))))
  all_goals (refine ⟨by simp, ⟨_, ?_, AV.le_refl _⟩, leH_get (by simp [leH, hget])⟩; simp only [Tryd.results69, resL, ldA, oneOf, go_sem])
end Go.Proofs.YtgdjkkapgghdbaaDoor

