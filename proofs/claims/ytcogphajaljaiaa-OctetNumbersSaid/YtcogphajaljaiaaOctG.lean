/-
  Walks of layer 1 (octet): the reference's Window; padded, Ahead.
-/
import Derived.Test.YtcogphajaljaiaaOctF
namespace Go.Proofs.Ytcogphajaljaiaa
open Go.RowKit
set_option linter.unusedVariables false

theorem withinS_ok {N : Int} (h0 : 0 ≤ N) (h1 : N ≤ 4096) : withinS N = 0 := by unfold withinS; rw [if_neg (by omega), if_neg (by omega)]
theorem winE_neg {b : List UInt8} {f : Nat} {N : Int} (h : N < 0) : winE b f N = ([], 2) := by
  have : withinS N = 2 := by unfold withinS; rw [if_pos h]
  unfold winE madeS; rw [if_neg (by omega), this]
theorem winE_long {b : List UInt8} {f : Nat} {N : Int} (h : 4096 < N) : winE b f N = ([], 3) := by
  have : withinS N = 3 := by unfold withinS; rw [if_neg (by omega), if_pos (by omega)]
  unfold winE madeS; rw [if_neg (by omega), this]
theorem winE_ok {b : List UInt8} {f n : Nat} (h : n ≤ 4096) : winE b f (n : Int) = (winS b f n, 0) := by
  unfold winE madeS; rw [if_pos (withinS_ok (by omega) (by omega)), Int.toNat_natCast]

set_option maxRecDepth 20000 in
set_option maxHeartbeats 1000000 in
theorem refwindow_any {A : Option Addr} {n c B f : Nat} {N : Int} {b : List UInt8} {w : World} (hb : Sl w B 1 A n c (u8s b)) (hf : f < 18446744073709551616) :
    Calls Try.prog 11 #[.slice A n c, .int .u64 (f : Int), .int .i64 N] w (RetBE w (winE b f N)) := by
  have hn := hb.n_le; have hn' := hb.c_le'
  have hl := hb.len8
  have HL := hide hl
  have HB := hide (hb.tight (by omega)); clear hb hl
  by_cases hneg : N < 0
  · rw [winE_neg hneg]
    go_enter Try.func11, Try.ntmps11
    go_wp2
    go_ret2
    exact ⟨_, _, _, rfl, Ow.nil, Below.refl _ _⟩
  by_cases hlong : 4096 < N
  · rw [winE_long hlong]
    go_enter Try.func11, Try.ntmps11
    go_wp2
    go_ret2
    exact ⟨_, _, _, rfl, Ow.nil, Below.refl _ _⟩
  obtain ⟨m, rfl⟩ : ∃ m : Nat, N = (m : Int) := ⟨N.toNat, by omega⟩
  rw [winE_ok (by omega)]
  go_enter Try.func11, Try.ntmps11
  go_wp2
  go_loopw [8, 9, 10, 18] (fun o _ _ i wr => ∃ (k : Nat) (A' : Option Addr) (c' : Nat), k ≤ m ∧ i = .int .i64 k ∧ o = .slice A' k c' ∧ Ow wr w.heap.size 5 1 A' k c' (u8s (winS b f k)) ∧ Below w.heap.size w wr) (fun _ _ _ i _ => m - (intOf i).toNat)
  case atStart => exact ⟨0, none, 0, by omega, rfl, rfl, by simpa [winS, u8s] using Ow.nil, Below.refl _ _⟩
  case round =>
    obtain ⟨k, A', c', hk, rfl, rfl, how, hbw⟩ := hrel
    have HW := hide how; have HBW := hide hbw; clear how hbw
    have hsz := HBW.out.size
    by_cases hlt : k < m
    · by_cases hov : f + k < 18446744073709551616
      · go_wp2_with (first
          | (go_at_call 28; refine (at_any (i := f + k) (HB.out.below HBW.out) (by omega) hov).mono ?_; rintro e w1 ⟨rfl, rfl⟩)
          | (at_builtin; refine wpList_app rfl (.tmp 28) (.tmp 32) _ rfl w.heap.size 5 _ 1 1 Try.underlying22 u8info rfl (by omega) (by omega) A' k c' _ rfl (HW.out.alloc _) (wr.heap.size + 1) _ 1 _ (u8s [atS b (f + k)]) rfl (Sl.lit wr _ _ 1 1 (by unfold maxLen; omega) rfl) (u8s_one _) (by omega) (by simp only [World.size_alloc]; omega) ?_; intro A3 c3 w3 how3 hbl3))
        go_roundw
        case rel =>
          refine ⟨k + 1, _, _, by omega, by go_num, rfl, ?_, (HBW.out.alloc hsz _).trans hbl3⟩
          rw [winS_succ, u8s_append]
          exact how3
        case measure => simp [intOf]; omega
      · obtain ⟨q, hq, hqf⟩ : ∃ q : Nat, IntKind.u64.wrap ((f : Int) + (k : Int)) = (q : Int) ∧ q < f := by
          refine ⟨f + k - 18446744073709551616, ?_, by omega⟩
          rw [IntKind.wrap_u64]; omega
        have h0 : atS b (f + k) = atS b 18446744073709551615 := by
          have := HL.out
          unfold atS
          rw [List.getD, List.getD, List.getElem?_eq_none (by omega), List.getElem?_eq_none (by omega)]
        have H0 := hide h0; clear h0
        go_wp2_with (first
          | (go_at_call 28; refine (at_any (i := 18446744073709551615) (HB.out.below HBW.out) (by omega) (by omega)).mono ?_; rintro e w1 ⟨rfl, rfl⟩)
          | (at_builtin; refine wpList_app rfl (.tmp 28) (.tmp 32) _ rfl w.heap.size 5 _ 1 1 Try.underlying22 u8info rfl (by omega) (by omega) A' k c' _ rfl (HW.out.alloc _) (wr.heap.size + 1) _ 1 _ (u8s [atS b 18446744073709551615]) rfl (Sl.lit wr _ _ 1 1 (by unfold maxLen; omega) rfl) (u8s_one _) (by omega) (by simp only [World.size_alloc]; omega) ?_; intro A3 c3 w3 how3 hbl3))
        go_roundw
        case rel =>
          refine ⟨k + 1, _, _, by omega, by go_num, rfl, ?_, (HBW.out.alloc hsz _).trans hbl3⟩
          rw [winS_succ, u8s_append, H0.out]
          exact how3
        case measure => simp [intOf]; omega
    · obtain rfl : k = m := by omega
      go_wp2
      go_ret2
      exact ⟨_, _, _, rfl, HW.out, HBW.out⟩
end Go.Proofs.Ytcogphajaljaiaa
