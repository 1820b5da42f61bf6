/-
  Walks of layer 1 (octet): numbers, and the reference's small functions.
-/
import Derived.Test.YtagkcmoloceheaaDoorOctC
import Derived.Test.YtagkcmoloceheaaDoorOctP
namespace Go.Proofs.YtagkcmoloceheaaDoor
open Go.RowKit
set_option linter.unusedVariables false

set_option maxRecDepth 20000 in
set_option maxHeartbeats 400000 in
theorem u64_any {A : Option Addr} {n c B : Nat} {b : List UInt8} {w : World} (hb : Sl w B 1 A n c (u8s b)) :
    Calls Tryd.prog 17 #[.slice A n c] w fun e w' => e = .returned (.int .u64 (numS b)) ∧ w = w' := by
  have hn := hb.n_le; have hn' := hb.c_le'
  have hl := hb.len8
  rcases Nat.lt_or_ge n 8 with h8 | h8
  · have h : numS (b.take n) = numS b := by rw [List.take_of_length_le (by omega)]
    have HL := hide h
    have HB := hide hb; clear hb hl h
    go_enter Tryd.func17, Tryd.ntmps17
    go_wp2
    go_loop [2, 4, 12] (fun x _ i => ∃ k : Nat, k ≤ n ∧ i = .int .i64 k ∧ x = .int .u64 (numS (b.take k))) (fun _ _ i => n - (intOf i).toNat)
    case atStart => exact ⟨0, Nat.zero_le _, rfl, rfl⟩
    case round =>
      obtain ⟨k, hk, rfl, rfl⟩ := hrel
      by_cases hlt : k < n
      · obtain ⟨g, o, x, hA, _, _, hx, hcell⟩ := HB.out.at8 hlt
        subst hA
        have HX := hide hx; clear hx
        have hlo := numS_lt (b.take k)
        have hx8 := u8_lt x
        have HS : Hid (_ = _) := or_shift (numS (b.take k)) x.toNat hlo x.toNat_lt
        go_wp2
        go_round
        case rel => exact ⟨k + 1, by omega, by go_num, by rw [take_snoc8 HX.out, numS_snoc, HS.out]; rfl⟩
        case measure => simp [intOf]; omega
      · go_wp2
        go_ret
        refine ⟨?_, rfl⟩
        obtain rfl : k = n := by omega
        rw [HL.out]; rfl
  · have hcut := hb.from_ (k := n - 8) (by omega)
    rw [if_neg (by omega), Nat.mul_one, u8s_drop] at hcut
    obtain ⟨g0, o0, e0, hg0⟩ := hb.lt_size (by omega) (by omega)
    subst e0
    obtain ⟨k0, h0⟩ : ∃ k0, k0 + 8 = n := ⟨n - 8, by omega⟩
    subst h0
    rw [Nat.add_sub_cancel, show k0 + 8 - k0 = 8 by omega, Option.map_some, add_none] at hcut
    have h : numS ((b.drop k0).take 8) = numS b := by
      have := numS_last b
      rw [hl, Nat.add_sub_cancel] at this
      rw [List.take_of_length_le (by rw [List.length_drop]; omega), this]
    generalize b.drop k0 = b' at hcut h
    have HL := hide h
    have HB := hide hcut; clear hcut hl h h8 hb
    go_enter Tryd.func17, Tryd.ntmps17
    go_wp2
    go_loop [2, 4, 12] (fun x _ i => ∃ k : Nat, k ≤ 8 ∧ i = .int .i64 k ∧ x = .int .u64 (numS (b'.take k))) (fun _ _ i => 8 - (intOf i).toNat)
    case atStart => exact ⟨0, Nat.zero_le _, rfl, rfl⟩
    case round =>
      obtain ⟨k, hk, rfl, rfl⟩ := hrel
      by_cases hlt : k < 8
      · obtain ⟨g, o, x, hA, _, _, hx, hcell⟩ := HB.out.at8 hlt
        simp only [Option.some.injEq, Addr.mk.injEq, and_true] at hA
        obtain ⟨rfl, rfl⟩ := hA
        have HX := hide hx; clear hx
        have hlo := numS_lt (b'.take k)
        have hx8 := u8_lt x
        have HS : Hid (_ = _) := or_shift (numS (b'.take k)) x.toNat hlo x.toNat_lt
        go_wp2
        go_round
        case rel => exact ⟨k + 1, by omega, by go_num, by rw [take_snoc8 HX.out, numS_snoc, HS.out]; rfl⟩
        case measure => simp [intOf]; omega
      · go_wp2
        go_ret
        refine ⟨?_, rfl⟩
        obtain rfl : k = 8 := by omega
        rw [HL.out]; rfl

set_option maxRecDepth 20000 in
set_option maxHeartbeats 400000 in
theorem refnoughts_any {A : Option Addr} {n c B : Nat} {b : List UInt8} {w : World} (hb : Sl w B 1 A n c (u8s b)) :
    Calls Tryd.prog 11 #[.slice A n c] w fun e w' => e = .returned (.int .i64 (zerosS b : Nat)) ∧ w = w' := by
  have hn := hb.n_le; have hn' := hb.c_le'
  have h : zerosS (b.take n) = zerosS b := by rw [List.take_of_length_le (by have := hb.len8; omega)]
  have HL := hide h
  have HB := hide hb; clear hb h
  go_enter Tryd.func11, Tryd.ntmps11
  go_wp2
  go_loop [3, 5, 8] (fun x _ i => ∃ k : Nat, k ≤ n ∧ i = .int .i64 k ∧ x = .int .i64 (zerosS (b.take k) : Nat)) (fun _ _ i => n - (intOf i).toNat)
  case atStart => exact ⟨0, Nat.zero_le _, rfl, rfl⟩
  case round =>
    obtain ⟨k, hk, rfl, rfl⟩ := hrel
    by_cases hlt : k < n
    · obtain ⟨g, o, x, rfl, _, _, hx, hcell⟩ := HB.out.at8 hlt
      have hz : zerosS (b.take k) ≤ k := Nat.le_trans (zerosS_le _) (List.length_take_le _ _)
      have h1 := zerosS_snoc (b.take k) x
      rw [← take_snoc8 hx] at h1
      have HX := hide h1; clear hx h1
      have hx8 := u8_lt x
      by_cases h0 : x = 0
      · subst h0
        rw [if_pos rfl] at HX
        have hb0 : (((0 : UInt8).toNat : Int) == 0) = true := rfl
        go_wp2
        go_round
        case rel => exact ⟨k + 1, by omega, by go_num, by rw [HX.out]; go_num⟩
        case measure => simp [intOf]; omega
      · rw [if_neg h0] at HX
        have hb0 : ((x.toNat : Int) == 0) = false := by
          simp
          intro h
          exact h0 (UInt8.toNat.inj (by simpa using h))
        clear h0
        go_wp2
        go_round
        case rel => exact ⟨k + 1, by omega, by go_num, by rw [HX.out]; rfl⟩
        case measure => simp [intOf]; omega
    · go_wp2
      go_ret
      refine ⟨?_, rfl⟩
      obtain rfl : k = n := by omega
      rw [HL.out]; rfl
end Go.Proofs.YtagkcmoloceheaaDoor

