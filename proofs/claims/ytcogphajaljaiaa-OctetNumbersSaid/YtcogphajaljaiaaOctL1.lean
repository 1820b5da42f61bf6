/-
  The law OctetWindows: its walk.
-/
import Derived.Test.YtcogphajaljaiaaOctW
import Derived.Deep.LoopGhost
namespace Go.Proofs.Ytcogphajaljaiaa
open Go.RowKit
set_option linter.unusedVariables false

/-- a window that is asked for: its cells -/
def askC (a : Nat × Int) : List Value := [.int .u64 (a.1 : Int), .int .i64 a.2]
theorem askC_len : ∀ a, (askC a).length = 2 := fun _ => rfl

theorem u8_inc (x : UInt8) : ((x.toNat : Int) + 1) % 256 = (((x + 1).toNat : Nat) : Int) := by
  rw [UInt8.toNat_add]
  have := x.toNat_lt
  simp

set_option maxRecDepth 20000 in
set_option maxHeartbeats 2000000 in
theorem law_windows {A L : Option Addr} {n c m d N M : Nat} {b : List UInt8} {asks : List (Nat × Int)} {w : World} (hb : Sl w N 1 A n c (u8s b)) (hl : Sl w M 2 L m d (sts askC asks))
    (hr : ∀ a ∈ asks, a.1 < 18446744073709551616) :
    Calls Try.prog 3 #[.slice A n c, .slice L m d] w (RetT w true) := by
  have hm := hl.n_le; have hm' := hl.c_le'
  have HB := hide hb; have HL := hide (hl.tight (by omega)); have HR := hide hr; clear hb hl hr
  go_enter Try.func3, Try.ntmps3
  go_wp2_with fail
  refine wakes_any.mono ?_
  rintro e w1 ⟨rfl, hb1⟩
  have HB1 := hide hb1; clear hb1
  go_wp2_with fail
  refine (few_any (HB.out.below HB1.out)).mono ?_
  rintro e w2 ⟨A2, n2, c2, rfl, ho2, hb2⟩
  have HB2 := hide (below_then HB1.out hb2)
  have S2 := hide ho2.sl
  go_wp2_with fail
  refine (few_any (HB.out.below HB2.out)).mono ?_
  rintro e w3 ⟨A3, n3, c3, rfl, ho3, hb3⟩
  have HB3 := hide (below_then HB2.out hb3)
  have O2 := hide ((S2.out.below hb3).mono (hb3.size))
  have O3 := hide ho3.sl
  have HL3 := hide (HL.out.below HB3.out)
  clear ho2 hb2 ho3 hb3 S2 HB1 HB2 HL
  go_wp2_with fail
  go_loopw [7, 8, 9, 10, 11, 12, 13, 22] (fun _ _ _ _ _ _ _ i wr => ∃ k : Nat, k ≤ m ∧ i = .int .i64 k ∧ Below w3.heap.size w3 wr) (fun _ _ _ _ _ _ _ i _ => m - (intOf i).toNat)
  case atStart => exact ⟨0, by omega, rfl, Below.refl _ _⟩
  case round =>
    obtain ⟨k, hk, rfl, hbw⟩ := hrel
    have HBW := hide hbw; clear hbw
    by_cases hlt : k < m
    case neg =>
      go_wp2_with fail
      go_ret
      exact ⟨rfl, below_then HB3.out HBW.out⟩
    case pos =>
    obtain ⟨lb, lo, ⟨f, M'⟩, rfl, hlb, hlw, hget, hcell⟩ := (HL3.out.below HBW.out).atS askC_len (by omega) hlt
    have hf : f < 18446744073709551616 := HR.out _ (List.mem_of_getElem? hget)
    have hc0 := hcell 0 (by omega)
    have hc1 := hcell 1 (by omega)
    simp only [askC, List.getElem?_cons_zero, List.getElem?_cons_succ, Nat.add_zero] at hc0 hc1
    clear hcell hget
    by_cases h12 : k = 12
    · subst h12
      go_wp2_with fail
      go_ret
      exact ⟨rfl, below_then HB3.out (below_step HBW.out _)⟩
    go_wp2_with fail
    have HW1 := hide (below_step HBW.out (.cells #[.int .u64 (f : Int), .int .i64 M'] 28))
    refine (window_any (O2.out.below HW1.out) hf).mono ?_
    rintro e w4 ⟨A4, n4, c4, rfl, ho4, hb4⟩
    have hq0 : w4.cell? ⟨wr.heap.size, 0, none⟩ = some (.int .u64 (f : Int)) := by rw [hb4.cell (p := ⟨wr.heap.size, 0, none⟩) (by simp)]; simp
    have hq1 : w4.cell? ⟨wr.heap.size, 1, none⟩ = some (.int .i64 M') := by rw [hb4.cell (p := ⟨wr.heap.size, 1, none⟩) (by simp)]; simp
    have HW4 := hide (below_of HW1.out hb4 (HW1.out.size))
    have hs4 := hb4.size
    have ho4' := ho4.mono (base' := w3.heap.size) HW1.out.size
    have H4 := hide ho4'
    clear ho4 ho4' hb4 hc0 hc1 hlw h12
    go_wp2_with fail
    refine (refwindow_any (O3.out.below HW4.out) hf).mono ?_
    rintro e w5 ⟨A5, n5, c5, rfl, ho5, hb5⟩
    have hs5 := hb5.size
    have HW5 := hide (below_of HW4.out hb5 (HW4.out.size))
    have H45 := hide (H4.out.below hb5)
    have H5 := hide ho5.sl
    clear ho5 hb5 H4 HW4 hq0 hq1
    go_wp2_with fail
    refine (same_any H45.out.sl H5.out).mono ?_
    rintro e w6 ⟨rfl, q, rfl⟩
    simp only [decide_true]
    have H46 := hide (H45.out.drewN q)
    have HW6 := hide (below_drewN HW5.out q)
    clear H5 H45
    go_wp2_with fail
    have hn4 := H46.out.sl.n_le; have hn4' := H46.out.sl.c_le'
    obtain ⟨wo, e⟩ : ∃ wo : World, wo = wr := ⟨_, rfl⟩
    subst e
    clear HBW HW1 HW5 hs4 hs5
    go_loopw [13, 58] (fun _ i wz => ∃ (j : Nat) (l' : List UInt8), j ≤ n4 ∧ i = .int .i64 j ∧ Ow wz w3.heap.size 5 1 A4 n4 c4 (u8s l') ∧ Below w3.heap.size w3 wz) (fun _ i _ => n4 - (intOf i).toNat)
    case atStart => exact ⟨0, _, by omega, rfl, H46.out, HW6.out⟩
    case round =>
      obtain ⟨j, l', hj, rfl, hoz, hbz⟩ := hrel
      have HOZ := hide hoz; have HBZ := hide hbz; clear hoz hbz
      by_cases hjn : j < n4
      · obtain ⟨g, x, rfl, hgb, hgs, hx, hcell, hfz⟩ := HOZ.out.at8 hjn
        have hst := HOZ.out.stored (k := j) (.int .u8 (((x + 1).toNat : Nat) : Int))
        rw [u8s_set] at hst
        have hinc := u8_inc x
        have HS := hide hst; have HI := hide hinc; clear hst hinc hx
        go_wp2_with fail
        go_roundw
        case rel =>
          refine ⟨j + 1, l'.set j (x + 1), by omega, by go_num, ?_, HBZ.out.setCell hgb _⟩
          rw [HI.out]
          exact HS.out
        case measure => simp [intOf]; omega
      · go_wp2_with fail
        refine (same_any (O2.out.below HBZ.out) (O3.out.below HBZ.out)).mono ?_
        rintro e w7 ⟨rfl, q7, rfl⟩
        simp only [decide_true]
        have HB7 := hide (below_drewN HBZ.out q7)
        go_wp2_with fail
        go_roundw
        case rel => exact ⟨k + 1, by omega, by go_num, HB7.out⟩
        case measure => simp [intOf]; omega
end Go.Proofs.Ytcogphajaljaiaa
