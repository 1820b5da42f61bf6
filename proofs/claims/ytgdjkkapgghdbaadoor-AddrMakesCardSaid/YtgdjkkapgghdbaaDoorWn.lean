/-
  Words as numbers.
-/
import Derived.Test.YtgdjkkapgghdbaaDoorAvTy
import Derived.Test.YtgdjkkapgghdbaaDoorAvO
namespace Go.Proofs.YtgdjkkapgghdbaaDoor
open Go.RowKit
set_option linter.unusedVariables false
set_option linter.unusedSimpArgs false
set_option maxRecDepth 20000
set_option maxHeartbeats 2000000
abbrev vi (k : IntKind) (n : Int) : AV := .c (.v (.int k n))
abbrev vb (b : Bool) : AV := .c (.v (.bool b))
abbrev U (a : Int) : Prop := 0 ≤ a ∧ a ≤ 18446744073709551615
abbrev WW : Nat := 115792089237316195423570985008687907853269984665640564039457584007913129639936
def l0 (x : Nat) : Int := ((x % 18446744073709551616 : Nat) : Int)
def l1 (x : Nat) : Int := ((x / 18446744073709551616 % 18446744073709551616 : Nat) : Int)
def l2 (x : Nat) : Int := ((x / 18446744073709551616 / 18446744073709551616 % 18446744073709551616 : Nat) : Int)
def l3 (x : Nat) : Int := ((x / 18446744073709551616 / 18446744073709551616 / 18446744073709551616 % 18446744073709551616 : Nat) : Int)
theorem wrI {x : Int} (h1 : -9223372036854775808 ≤ x) (h2 : x ≤ 9223372036854775807) : IntKind.i64.wrap x = x := by
  unfold IntKind.wrap; simp [IntKind.bits, IntKind.signed]; omega
theorem wrU {x : Int} (h1 : 0 ≤ x) (h2 : x ≤ 18446744073709551615) : IntKind.u64.wrap x = x := by
  unfold IntKind.wrap; simp [IntKind.bits, IntKind.signed]; omega
theorem U0 (x : Nat) : U (l0 x) := by unfold l0; constructor <;> omega
theorem U1 (x : Nat) : U (l1 x) := by unfold l1; constructor <;> omega
theorem U2 (x : Nat) : U (l2 x) := by unfold l2; constructor <;> omega
theorem U3 (x : Nat) : U (l3 x) := by unfold l3; constructor <;> omega
abbrev w4 (a b c d : Int) : AV := .agg [vi .u64 a, vi .u64 b, vi .u64 c, vi .u64 d]
abbrev wN (x : Nat) : AV := w4 (l0 x) (l1 x) (l2 x) (l3 x)
theorem limbs_of {n s0 s1 s2 s3 : Nat} (h : n = s0 + 18446744073709551616 * (s1 + 18446744073709551616 * (s2 + 18446744073709551616 * s3))) (h0 : s0 < 18446744073709551616) (h1 : s1 < 18446744073709551616) (h2 : s2 < 18446744073709551616) (h3 : s3 < 18446744073709551616) :
    l0 n = s0 ∧ l1 n = s1 ∧ l2 n = s2 ∧ l3 n = s3 := by
  have e1 : n % 18446744073709551616 = s0 := by omega
  have q1 : n / 18446744073709551616 = s1 + 18446744073709551616 * (s2 + 18446744073709551616 * s3) := by omega
  have e2 : n / 18446744073709551616 % 18446744073709551616 = s1 := by omega
  have q2 : n / 18446744073709551616 / 18446744073709551616 = s2 + 18446744073709551616 * s3 := by rw [q1]; omega
  have e3 : n / 18446744073709551616 / 18446744073709551616 % 18446744073709551616 = s2 := by rw [q2]; omega
  have q3 : n / 18446744073709551616 / 18446744073709551616 / 18446744073709551616 = s3 := by rw [q2]; omega
  refine ⟨by unfold l0; rw [e1], by unfold l1; rw [e2], by unfold l2; rw [e3], by unfold l3; rw [q3, Nat.mod_eq_of_lt h3]⟩
theorem split_w {x : Nat} (h : x < WW) : ∃ a b c d : Nat, x = a + 18446744073709551616 * (b + 18446744073709551616 * (c + 18446744073709551616 * d)) ∧ a < 18446744073709551616 ∧ b < 18446744073709551616 ∧ c < 18446744073709551616 ∧ d < 18446744073709551616 ∧ l0 x = a ∧ l1 x = b ∧ l2 x = c ∧ l3 x = d := by
  have e : x = x % 18446744073709551616 + 18446744073709551616 * (x / 18446744073709551616 % 18446744073709551616 + 18446744073709551616 * (x / 18446744073709551616 / 18446744073709551616 % 18446744073709551616 + 18446744073709551616 * (x / 18446744073709551616 / 18446744073709551616 / 18446744073709551616))) := by omega
  have h3 : x / 18446744073709551616 / 18446744073709551616 / 18446744073709551616 < 18446744073709551616 := by
    have : x < 115792089237316195423570985008687907853269984665640564039457584007913129639936 := h
    omega
  exact ⟨_, _, _, _, e, Nat.mod_lt _ (by decide), Nat.mod_lt _ (by decide), Nat.mod_lt _ (by decide), h3, limbs_of e (Nat.mod_lt _ (by decide)) (Nat.mod_lt _ (by decide)) (Nat.mod_lt _ (by decide)) h3⟩
end Go.Proofs.YtgdjkkapgghdbaaDoor

