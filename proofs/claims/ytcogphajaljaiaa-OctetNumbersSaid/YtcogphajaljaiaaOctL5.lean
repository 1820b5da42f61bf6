/-
  The law OctetNumbers: its walk. (Printed by gen_octl5.py.)
-/
import Derived.Test.YtcogphajaljaiaaOctL1
namespace Go.Proofs.Ytcogphajaljaiaa
open Go.RowKit
set_option linter.unusedVariables false

def u64C (x : Nat) : List Value := [.int .u64 (x : Int)]
theorem u64C_len : ∀ a, (u64C a).length = 1 := fun _ => rfl

set_option maxRecDepth 20000 in
set_option maxHeartbeats 4000000 in
theorem law_numbers {A L : Option Addr} {n c m d N M : Nat} {b : List UInt8} {nums : List Nat} {w : World} (hb : Sl w N 1 A n c (u8s b)) (hl : Sl w M 1 L m d (sts u64C nums)) (hr : ∀ x ∈ nums, x < 18446744073709551616) :
    Calls Try.prog 4 #[.slice A n c, .slice L m d] w (RetT w true) := by
  have hm := hl.n_le; have hm' := hl.c_le'
  have HB := hide (hb.tight (by omega)); have HL := hide (hl.tight (by omega)); have HR := hide hr; clear hb hl hr
  go_enter Try.func4, Try.ntmps4
  go_wp2_with fail
  refine (wakes_any).mono ?_
  rintro e w1 ⟨rfl, hb⟩
  have hs1 := hb.size
  have W := hide hb
  replace HB := hide (HB.out.below hb)
  replace HL := hide (HL.out.below hb)
  clear hb
  go_wp2_with fail
  refine (few_any HB.out).mono ?_
  rintro e w2 ⟨A2, n2, c2, rfl, ho, hb⟩
  have hs2 := hb.size
  replace W := hide (below_then W.out hb)
  replace HB := hide (HB.out.below hb)
  replace HL := hide (HL.out.below hb)
  have SB := hide ho.sl
  clear ho hb
  go_wp2_with fail
  refine (few_any SB.out).mono ?_
  rintro e w3 ⟨A3, n3, c3, rfl, ho, hb⟩
  have hs3 := hb.size
  replace W := hide (below_then W.out hb)
  replace HB := hide (HB.out.below hb)
  replace HL := hide (HL.out.below hb)
  replace SB := hide (SB.out.below hb)
  have SW := hide ho.sl
  clear ho hb
  rw [List.take_of_length_le (by rw [List.length_take]; omega)] at SW
  have hlb : (b.take 4097).length ≤ 4097 := List.length_take_le _ _
  generalize b.take 4097 = lb at *
  have HNB := hide SB.out.len8
  have hn2 : n2 ≤ 4097 := by have := HNB.out; omega
  have hn3 : n3 ≤ 4097 := by have h : lb.length = n3 := SW.out.len8; have := HNB.out; omega
  clear hlb HB
  go_wp2_with fail
  refine (u64_any SB.out).mono ?_
  rintro e w0 ⟨rfl, rfl⟩
  go_wp2_with fail
  refine (number_any SB.out).mono ?_
  rintro e w0 ⟨rfl, rfl⟩
  have hd : (some ⟨w3.heap.size, 0, none⟩ : Option Addr) = if n2 + 8 = 0 then some ⟨w3.heap.size, 0, none⟩ else Option.map (fun a : Addr => a.add (0 * 1)) (some ⟨w3.heap.size, 0, none⟩) := by simp [add_zero']
  have HD := hide hd; clear hd
  go_wp2_with (first
    | (at_make; refine wpList_mk2 rfl _ _ _ rfl 5 _ 1 Try.underlying22 u8info rfl _ _ _ _ n2 (n2 + 8) rfl rfl rfl (by omega) (by omega) (by omega) (by omega) ?_; intro w4 ho hb hsz4)
    | (show wpList _ _ _ (⟨some 30, _, _, _, _, _⟩ :: _) _ _; refine wpList_cp2 (.tmp 28) (.tmp 29) _ _ rfl 5 Try.underlying22 u8size rfl w3.heap.size 5 _ (n2 + 8) (n2 + 8) 0 _ ho n2 (by omega) (by omega) _ _ rfl HD.out _ _ n2 _ (u8s lb) rfl (SB.out.below hb) (u8s_one _) ?_; intro w5 ho5 hb5 hs5))
  have HR5 : Hid (Ow w5 w3.heap.size 5 1 (some ⟨w3.heap.size, 0, none⟩) (n2 + 8) (n2 + 8) (u8s (lb ++ List.replicate 8 0))) := by
    have e : splice (List.replicate (n2 + 8) (Value.int IntKind.u8 0)) 0 (List.take n2 (u8s lb)) = u8s (lb ++ List.replicate 8 0) := by
      have hl := HNB.out
      rw [List.take_of_length_le (by rw [u8s_length]; omega), u8s_append]
      unfold splice
      rw [List.take_zero, List.nil_append, List.drop_replicate, u8s_length, show n2 + 8 - (0 + lb.length) = 8 by omega]
      rfl
    rw [e] at ho5
    exact ho5
  have HB5 := hb.trans hb5
  have hs5 := HB5.size
  replace W := hide (below_then W.out HB5)
  replace HL := hide (HL.out.below HB5)
  replace SW := hide (SW.out.below HB5)
  clear ho hb ho5 hb5 SB HD HB5
  have SR := hide (show Sl w5 w5.heap.size 1 (some ⟨w3.heap.size, 0, none⟩) n2 (n2 + 8) (u8s lb) from by
    have h := HR5.out.sl.upto (m := n2) (by omega)
    rw [Nat.mul_one, u8s_take, List.take_append_of_le_length (by have := HNB.out; omega), List.take_of_length_le (by have := HNB.out; omega)] at h
    exact h)
  have SZ := hide (show Sl w5 w5.heap.size 1 (some ⟨w3.heap.size, n2, none⟩) 8 8 (u8s (List.replicate 8 0)) from by
    have h := HR5.out.sl.from_ (k := n2) (by omega)
    rw [Nat.mul_one, u8s_drop, if_neg (by omega), Option.map_some, add_none, Nat.zero_add, show n2 + 8 - n2 = 8 by omega, List.drop_append_of_le_length (by have := HNB.out; omega), List.drop_of_length_le (by have := HNB.out; omega)] at h
    exact h)
  clear HR5
  go_wp2_with fail
  go_loopw [7, 8, 9, 10, 33] (fun _ _ _ _ i wr => ∃ k : Nat, k ≤ m ∧ i = .int .i64 k ∧ Below w5.heap.size w5 wr) (fun _ _ _ _ i _ => m - (intOf i).toNat)
  case atStart => exact ⟨0, by omega, rfl, Below.refl _ _⟩
  case round =>
    obtain ⟨k, hk, rfl, hbw⟩ := hrel
    have V := hide hbw; clear hbw
    by_cases hlt : k < m
    case neg =>
      go_wp2_with fail
      go_ret
      exact ⟨rfl, below_then W.out V.out⟩
    case pos =>
    obtain ⟨lb', lo, x, rfl, hlb', hlw, hget, hcell⟩ := (HL.out.below V.out).atS u64C_len (by omega) hlt
    have hx : x < 18446744073709551616 := HR.out _ (List.mem_of_getElem? hget)
    have hc0 := hcell 0 (by omega)
    simp only [u64C, List.getElem?_cons_zero, Nat.add_zero, Nat.mul_one] at hc0
    clear hcell hget
    by_cases h12 : k = 12
    · subst h12
      go_wp2_with fail
      go_ret
      exact ⟨rfl, below_then W.out V.out⟩
    obtain ⟨wo, e⟩ : ∃ wo : World, wo = wr := ⟨_, rfl⟩
    subst e
    have T := hide (SR.out.below V.out)
    have U := hide (SW.out.below V.out)
    have hwo := V.out.size
    go_wp2_with fail
    refine (put64_any T.out hx (by omega)).mono ?_
    rintro e w6 ⟨A6, n6, c6, rfl, ho, hb⟩
    have hs6 := hb.size
    replace V := hide (below_then V.out hb)
    replace T := hide (T.out.below hb)
    replace U := hide (U.out.below hb)
    have Y := hide ho
    clear ho hb
    go_wp2_with fail
    refine (high_any (n := 8) hx (by omega)).mono ?_
    rintro e w7 ⟨A7, n7, c7, rfl, ho, hb⟩
    have hs7 := hb.size
    replace V := hide (below_then V.out hb)
    replace T := hide (T.out.below hb)
    replace U := hide (U.out.below hb)
    replace Y := hide (Y.out.below hb)
    have Q := hide ho.sl
    have hn7 : n7 ≤ 8 := by have h := ho.len8; rw [beS_length] at h; omega
    clear ho hb
    go_wp2_with fail
    refine (both_any U.out Q.out (by omega)).mono ?_
    rintro e w8 ⟨A8, n8, c8, rfl, ho, hb⟩
    have hs8 := hb.size
    replace V := hide (below_then V.out hb)
    replace T := hide (T.out.below hb)
    replace U := hide (U.out.below hb)
    replace Y := hide (Y.out.below hb)
    replace Q := hide (Q.out.below hb)
    have P := hide ho.sl
    clear ho hb Q
    go_wp2_with fail
    refine (same_any Y.out.sl P.out).mono ?_
    rintro e w9 ⟨rfl, q, rfl⟩
    simp only [decide_true]
    replace Y := hide (Y.out.drewN q)
    replace V := hide (below_drewN V.out q)
    have hsq : w8.heap.size ≤ (w8.drewN q).heap.size := Nat.le_refl _
    generalize w8.drewN q = w9 at *
    clear P T U
    go_wp2_with fail
    refine (u64_any Y.out.sl).mono ?_
    rintro e w0 ⟨rfl, rfl⟩
    rw [numS_beS _ _ hx]
    replace Y := hide (Y.out.mono (base' := w5.heap.size) (by omega))
    have hn6 := Y.out.sl.n_le; have hn6' := Y.out.sl.c_le'
    go_wp2_with fail
    go_loopw [10, 58] (fun _ i wz => ∃ (j : Nat) (l' : List UInt8), j ≤ n6 ∧ i = .int .i64 j ∧ Ow wz w5.heap.size 5 1 A6 n6 c6 (u8s l') ∧ Below w5.heap.size w5 wz) (fun _ i _ => n6 - (intOf i).toNat)
    case atStart => exact ⟨0, _, by omega, rfl, Y.out, V.out⟩
    case round =>
      obtain ⟨j, l', hj, rfl, hoz, hbz⟩ := hrel
      have HOZ := hide hoz; have HBZ := hide hbz; clear hoz hbz
      by_cases hjn : j < n6
      · obtain ⟨g, y, rfl, hgb, hgs, hy, hcell, hfz⟩ := HOZ.out.at8 hjn
        have hst := HOZ.out.stored (k := j) (.int .u8 (((y + 1).toNat : Nat) : Int))
        rw [u8s_set] at hst
        have hinc := u8_inc y
        have HS := hide hst; have HI := hide hinc; clear hst hinc hy
        go_wp2_with fail
        go_roundw
        case rel =>
          refine ⟨j + 1, l'.set j (y + 1), by omega, by go_num, ?_, HBZ.out.setCell hgb _⟩
          rw [HI.out]
          exact HS.out
        case measure => simp [intOf]; omega
      · go_wp2_with fail
        refine (same_any (SR.out.below HBZ.out) (SW.out.below HBZ.out)).mono ?_
        rintro e w7' ⟨rfl, q7, rfl⟩
        simp only [decide_true]
        have HB7 := hide (below_drewN HBZ.out q7)
        go_wp2_with fail
        refine (refnoughts_any (SZ.out.below HB7.out)).mono ?_
        rintro e w8' ⟨rfl, rfl⟩
        have hz8 : zerosS (List.replicate 8 0) = 8 := by decide
        rw [hz8]
        go_wp2_with fail
        go_roundw
        case rel => exact ⟨k + 1, by omega, by go_num, HB7.out⟩
        case measure => simp [intOf]; omega
end Go.Proofs.Ytcogphajaljaiaa
