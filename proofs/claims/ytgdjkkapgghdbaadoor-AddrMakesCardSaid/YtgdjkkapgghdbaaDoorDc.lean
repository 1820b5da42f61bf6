/-
  An address read of bytes.
-/
import Derived.Test.YtgdjkkapgghdbaaDoorDa
import Derived.Test.YtgdjkkapgghdbaaDoorGa
namespace Go.Proofs.YtgdjkkapgghdbaaDoor
open Go.RowKit
open Nat (reduceBEq)
attribute [-go_sem] IntKind.bits
set_option linter.unusedVariables false
set_option linter.unusedSimpArgs false
set_option maxRecDepth 20000
set_option maxHeartbeats 2000000
def bpv (b : Nat) : List PV := [.v (.int .u8 (b : Int))]
theorem bpv_len (b : Nat) : (bpv b).length = 1 := rfl
abbrev bsl (ex : Bool) (l : List Nat) : AV := .c (.sl ex 1 l.length (l.flatMap bpv))
theorem bsl_at {l : List Nat} {i : Nat} {y : Nat} (h : l[i]? = some y) : ((l.flatMap bpv).drop (i * 1)).take 1 = [.v (.int .u8 (y : Int))] := flat_at (f := bpv) bpv_len h
def rdN (l : List Nat) : Nat → Nat
  | 0 => 0
  | i + 1 => rdN l i * 256 + (match l[i]? with | some b => b | none => 0)
theorem rdN_lt {l : List Nat} (h : ∀ b ∈ l, b < 256) : ∀ i, rdN l i < 256 ^ i
  | 0 => Nat.zero_lt_one
  | i + 1 => by
    have h1 := rdN_lt h i
    unfold rdN
    rw [Nat.pow_succ]
    cases hb : l[i]? with
    | none => dsimp only; omega
    | some b =>
      have := h b (List.mem_of_getElem? hb)
      dsimp only; omega
theorem or_step {x y : Nat} (hx : x < 72057594037927936) (hy : y < 256) : IntKind.u64.wrap ((x : Int) * 2 ^ min 8 IntKind.u64.bits) = ((x * 256 : Nat) : Int) ∧ IntKind.u64.wrap (y : Int) = (y : Int) ∧ IntKind.u64.wrap (BitVec.ofInt IntKind.u64.bits ((x * 256 : Nat) : Int) ||| BitVec.ofInt IntKind.u64.bits (y : Int)).toNat = ((x * 256 + y : Nat) : Int) := by
  refine ⟨?_, wrU (by omega) (by omega), ?_⟩
  · rw [show min 8 IntKind.u64.bits = 8 from rfl, show ((x : Int) * 2 ^ 8) = ((x * 256 : Nat) : Int) by omega]
    exact wrU (by omega) (by omega)
  · rw [or_nat (by omega) (by omega)]
    have := Nat.two_pow_add_eq_or_of_lt (i := 8) (b := y) (by omega) x
    rw [show x * 256 = 2 ^ 8 * x by omega, this]
theorem read_fn (ex : Bool) (l : List Nat) (hl : 8 ≤ l.length) (hb : ∀ b ∈ l, b < 256) : Fn Tryd.prog 13 [bsl ex l] [] (.tup [vi .u64 (rdN l 8 : Int), vi .i64 0]) [] := by
  have e : (decide ((l.length : Int) < 8)) = false := by simp; omega
  (refine fn_of Tryd.func13 rfl (by rfl) ?_; simp only [Tryd.ntmps13, List.length_cons, List.length_nil, Nat.reduceAdd, Nat.reduceSub, List.replicate, List.cons_append, List.nil_append])
  (repeat (any_goals (first | ((with_reducible refine evL_one ?_ ?_); rfl; intro K hK; simp only [go_sem, e]; ((repeat (refine ndI (by first | assumption | omega | rfl) ?_)); refine hK _ ?_; clear hK K)) | (with_reducible first | (refine evL_nil ?_; refine hR _ ?_; clear hR R) | ((first | refine evC_seq ?_ | refine evC_block ?_); intro Ψ hΨ hΨ') | (refine evC_region ?_; intro R hR) | (refine hΨ _ ?_; clear hΨ hΨ' Ψ) | refine evC_skip ?_ | refine evC_ret ?_ | refine evC_exit ?_) | ((with_reducible refine hΨ' _ _ ?_ ?_); (focus (simp; done)); clear hΨ hΨ' Ψ) | ((with_reducible apply evC_cond); rfl; rfl; all_goals (intro hc; first | (cases hc; done) | (try simp only at hc))))))
  refine evC_upto 8 (fun i => ⟨[bsl ex l, .any, .any, vi .i64 0, vi .u64 (rdN l i : Int), .any, .any, .any, .any, vi .i64 i, .any, .any, .any, .any, .any, .any, .any, .any, .any, .any, .any, .any], []⟩) (St.le_of (by simp [leT, rdN]) (by simp [leH])) ?_
  intro i hi Ψ hΨ hΨ'
  (try dsimp only at hΨ ⊢)
  rcases Nat.lt_or_ge i 8 with hlt | hge
  · obtain ⟨y, hy⟩ : ∃ y, l[i]? = some y := ⟨l[i]'(by omega), List.getElem?_eq_getElem (by omega)⟩
    have k1 : (decide ((i : Int) < 8)) = true := by simp; omega
    have k2 := bsl_at hy
    have k7 : (i : Int) + 1 = ((i + 1 : Nat) : Int) := by omega
    have hil : i < l.length := by omega
    have hx : rdN l i < 72057594037927936 := Nat.lt_of_lt_of_le (rdN_lt hb i) (Nat.pow_le_pow_right (n := 256) (by omega) (show i ≤ 7 by omega))
    obtain ⟨g1, g2, g3⟩ := or_step hx (hb y (List.mem_of_getElem? hy))
    have g4 : rdN l (i + 1) = rdN l i * 256 + y := by
      show rdN l i * 256 + (match l[i]? with | some b => b | none => 0) = _
      rw [hy]
    rw [← g4] at g3
    generalize rdN l (i + 1) = r1 at g3 hΨ
    generalize rdN l i = r0 at g1 g3 ⊢
    generalize ((r0 * 256 : Nat) : Int) = r2 at g1 g3
    (have W := ndI k1 (ndI k2 (ndI k7 (ndI g1 (ndI g2 (ndI g3 @wrI))))); (repeat (any_goals (first | ((with_reducible refine evL_one ?_ ?_); rfl; intro K hK; simp (disch := omega) only [go_sem, W]; ((repeat (refine ndI (by first | assumption | omega | rfl) ?_)); refine hK _ ?_; clear hK K)) | (with_reducible first | (refine evL_nil ?_; refine hR _ ?_; clear hR R) | ((first | refine evC_seq ?_ | refine evC_block ?_); intro Ψ hΨ hΨ') | (refine evC_region ?_; intro R hR) | (refine hΨ _ ?_; clear hΨ hΨ' Ψ) | refine evC_skip ?_ | refine evC_ret ?_ | refine evC_exit ?_) | ((with_reducible refine hΨ' _ _ ?_ ?_); (focus (simp; done)); clear hΨ hΨ' Ψ) | ((with_reducible apply evC_cond); rfl; rfl; all_goals (intro hc; first | (cases hc; done) | (try simp only at hc)))))))
    exact hΨ _ hlt (St.le_of (by simp [leT]) (by simp [leH]))
  · have k1 : (decide ((i : Int) < 8)) = false := by simp; omega
    obtain rfl : i = 8 := by omega
    (repeat (any_goals (first | ((with_reducible refine evL_one ?_ ?_); rfl; intro K hK; simp only [go_sem, k1]; ((repeat (refine ndI (by first | assumption | omega | rfl) ?_)); refine hK _ ?_; clear hK K)) | (with_reducible first | (refine evL_nil ?_; refine hR _ ?_; clear hR R) | ((first | refine evC_seq ?_ | refine evC_block ?_); intro Ψ hΨ hΨ') | (refine evC_region ?_; intro R hR) | (refine hΨ _ ?_; clear hΨ hΨ' Ψ) | refine evC_skip ?_ | refine evC_ret ?_ | refine evC_exit ?_) | ((with_reducible refine hΨ' _ _ ?_ ?_); (focus (simp; done)); clear hΨ hΨ' Ψ) | ((with_reducible apply evC_cond); rfl; rfl; all_goals (intro hc; first | (cases hc; done) | (try simp only at hc))))))
    all_goals (refine ⟨by simp, ⟨_, ?_, AV.le_refl _⟩, leH_get (by simp [leH, hget])⟩; simp only [Tryd.results13, resL, ldA, oneOf, go_sem])
end Go.Proofs.YtgdjkkapgghdbaaDoor

