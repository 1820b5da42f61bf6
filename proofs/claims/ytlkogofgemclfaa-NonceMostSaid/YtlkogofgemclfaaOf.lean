/-
  The law NonceMost, reckoned.
-/
import Derived.Test.YtlkogofgemclfaaOc
namespace Go.Proofs.Ytlkogofgemclfaa
open Go.RowKit
set_option linter.unusedVariables false
set_option linter.unusedSimpArgs false
set_option maxRecDepth 20000
set_option maxHeartbeats 4000000
/-- an error, the same one; or the same nonces -/
theorem use_both (own : List N6) (hlen : own.length ≤ 49) (oko : ∀ n ∈ own, n.ok) (hok : okTo own own.length = true) (a b c d s : Int) (u0 : U a) (u1 : U b) (u2 : U c) (u3 : U d) (us : U s) :
    (∃ E : Int, (E == 0) = false ∧ Fn Try.prog 12 [nsl false own, vi .u64 a, w4 s b c d] [] (.tup [nilS, vi .i64 E]) [] ∧ Fn Try.prog 14 [nsl false own, vi .u64 a, w4 s b c d] [] (.tup [nilS, vi .i64 E]) []) ∨
    (∃ t : List N6, t.length ≤ 50 ∧ Fn Try.prog 12 [nsl false own, vi .u64 a, w4 s b c d] [] (.tup [.row 36 38 6 t.length, vi .i64 0]) [(36, rcN t)] ∧ Fn Try.prog 14 [nsl false own, vi .u64 a, w4 s b c d] [] (.tup [nsl false t, vi .i64 0]) []) := by
  have hl1 : own.length ≤ 1000 := by omega
  have hr := rises_of oko hok
  obtain ⟨us1, us2⟩ := id us
  by_cases ha : a = 0
  · subst ha
    exact .inl ⟨2, by decide, use_zero false own hl1 b c d s u1 u2 u3 us hok, refuse0_fn false own (by omega) b c d s⟩
  · have ha1 : (a != 0) = true := by simpa using ha
    have ha2 : (a == 0) = false := by simpa using ha
    have hni := nextIs_of oko hr u0 u1 u2 u3
    by_cases hs : nextL own a b c d 0 = s
    · by_cases hf : s = 18446744073709551615 ∨ s = 0 ∧ (own.length : Int) = 48
      · rw [hs] at hni
        exact .inl ⟨6, by decide, use_full false own hl1 a b c d s u1 u2 u3 us hok ha1 hni hf, refuse2_fn false own (by omega) a b c d s ha2 hs hf⟩
      · rw [not_or] at hf
        have hlt : s < 18446744073709551615 := by have := hf.1; omega
        exact .inr ⟨_, Nat.le_trans (insR_len _ _ _) (by omega), use_ok false own hl1 oko hok a b c d s u0 u1 u2 u3 us ha1 hs hlt hf.2, refuse_ok false own hl1 oko a b c d s u0 u1 u2 u3 us ha2 hs hlt hf.2⟩
    · have hs1 : (s != nextL own a b c d 0) = true := by simp only [bne_iff_ne]; exact fun e => hs e.symm
      exact .inl ⟨181, by decide, use_seq false own (by omega) hok a b c d s _ ha1 hs1 hni us u1 u2 u3, refuse1_fn false own (by omega) a b c d s ha2 hs1⟩
/-- as many keys -/
def mostL (n : Nat) : List N6 := (List.range n).map fun (i : Nat) => ⟨5, (i : Int), 0, 0, 0, 18446744073709551614⟩
theorem mostL_len (n : Nat) : (mostL n).length = n := by simp [mostL]
theorem mostL_succ (n : Nat) : mostL (n + 1) = mostL n ++ [⟨5, (n : Int), 0, 0, 0, 18446744073709551614⟩] := by simp [mostL, List.range_succ]
theorem mostL_ok (n : Nat) (h : n ≤ 48) : ∀ y ∈ mostL n, y.ok := fun y hy => by
  simp only [mostL, List.mem_map, List.mem_range] at hy
  obtain ⟨i, hi, rfl⟩ := hy
  exact ⟨⟨by simp only; omega, by simp only; omega⟩, ⟨by simp only; omega, by simp only; omega⟩, ⟨by simp only; omega, by simp only; omega⟩, ⟨by simp only; omega, by simp only; omega⟩, ⟨by simp only; omega, by simp only; omega⟩, ⟨by simp only; omega, by simp only; omega⟩⟩
theorem mostL_right (n : Nat) (h : n = 47 ∨ n = 48) : okTo (mostL n) (mostL n).length = true := by
  rcases h with rfl | rfl <;> decide
end Go.Proofs.Ytlkogofgemclfaa
