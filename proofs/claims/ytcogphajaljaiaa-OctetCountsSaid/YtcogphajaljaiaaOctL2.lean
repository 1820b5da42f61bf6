/-
  The law OctetCounts: its walk. (Printed by gen_octl2.py.)
-/
import Derived.Test.YtcogphajaljaiaaOctW
namespace Go.Proofs.Ytcogphajaljaiaa
open Go.RowKit

def RetZY (w : World) (l : List UInt8) : Ending → World → Prop := fun e w' =>
  ∃ z y : Nat, e = .returned (.tuple #[.int .i64 z, .int .i64 y]) ∧ Hid (z = zerosS l ∧ z + y = l.length) ∧ Below w.heap.size w w'
theorem noughts_zy {A : Option Addr} {n c N : Nat} {xs : List UInt8} {w : World} (hx : Sl w N 1 A n c (u8s xs)) :
    Calls Try.prog 22 #[.slice A n c] w (RetZY w xs) :=
  (noughts_any hx).mono fun _ _ ⟨he, hb⟩ => ⟨_, _, he, ⟨rfl, by have := zerosS_le xs; omega⟩, hb⟩
theorem some_n {A : Option Addr} {n c N : Nat} {xs : List UInt8} {w : World} (hx : Sl w N 1 A n c (u8s xs)) (hn : n ≤ 300) :
    Calls Try.prog 19 #[.slice A n c] w fun e w' => ∃ A' c', e = .returned (.slice A' n c') ∧ Ow w' w.heap.size 5 1 A' n c' (u8s xs) ∧ Below w.heap.size w w' := by
  have h := some_any hx
  rw [List.take_of_length_le (by have := hx.len8; omega)] at h
  refine h.mono fun e w' h => ?_
  obtain ⟨A', n', c', rfl, ho, hb⟩ := h
  obtain rfl : n = n' := by rw [← hx.len8, ← ho.len8]
  exact ⟨A', c', rfl, ho, hb⟩

set_option maxRecDepth 20000 in
set_option maxHeartbeats 4000000 in
theorem law_counts {A B : Option Addr} {n c m d N M : Nat} {a b : List UInt8} {w : World} (ha : Sl w N 1 A n c (u8s a)) (hb : Sl w M 1 B m d (u8s b)) :
    Calls Try.prog 7 #[.slice A n c, .slice B m d] w (RetT w true) := by
  have HA := hide (ha.tight (by omega)); have HB := hide (hb.tight (by omega)); clear ha hb
  go_enter Try.func7, Try.ntmps7
  go_wp2_with fail
  refine (wakes_any).mono ?_
  rintro e w1 ⟨rfl, hb⟩
  have hs1 := hb.size
  have W := hide hb
  replace HA := hide (HA.out.below hb)
  replace HB := hide (HB.out.below hb)
  clear hb
  go_wp2_with fail
  refine (some_any HA.out).mono ?_
  rintro e w2 ⟨A2, n2, c2, rfl, ho, hb⟩
  have hs2 := hb.size
  replace W := hide (below_then W.out hb)
  replace HA := hide (HA.out.below hb)
  replace HB := hide (HB.out.below hb)
  have SA := hide ho.sl
  clear ho hb
  go_wp2_with fail
  refine (some_any HB.out).mono ?_
  rintro e w3 ⟨A3, n3, c3, rfl, ho, hb⟩
  have hs3 := hb.size
  replace W := hide (below_then W.out hb)
  replace HA := hide (HA.out.below hb)
  replace HB := hide (HB.out.below hb)
  replace SA := hide (SA.out.below hb)
  have SB := hide ho.sl
  have hla : (a.take 300).length ≤ 300 := List.length_take_le _ _
  have hlb : (b.take 300).length ≤ 300 := List.length_take_le _ _
  clear ho hb
  generalize a.take 300 = la at *
  generalize b.take 300 = lb at *
  have HNA := hide SA.out.len8; have HNB := hide SB.out.len8
  have hn2 : n2 ≤ 300 := by have := HNA.out; omega
  have hn3 : n3 ≤ 300 := by have := HNB.out; omega
  clear hla hlb HA HB
  go_wp2_with fail
  refine (noughts_zy SA.out).mono ?_
  rintro e w4 ⟨z4, y4, rfl, H4, hb⟩
  have hs4 := hb.size
  replace W := hide (below_then W.out hb)
  replace SA := hide (SA.out.below hb)
  replace SB := hide (SB.out.below hb)
  have hz4 : z4 ≤ 300 := by have := H4.out.2; have := HNA.out; omega
  have hy4 : y4 ≤ 300 := by have := H4.out.2; have := HNA.out; omega
  clear hb
  go_wp2_with fail
  refine (noughts_zy SB.out).mono ?_
  rintro e w5 ⟨z5, y5, rfl, H5, hb⟩
  have hs5 := hb.size
  replace W := hide (below_then W.out hb)
  replace SA := hide (SA.out.below hb)
  replace SB := hide (SB.out.below hb)
  have hz5 : z5 ≤ 300 := by have := H5.out.2; have := HNB.out; omega
  have hy5 : y5 ≤ 300 := by have := H5.out.2; have := HNB.out; omega
  clear hb
  go_wp2_with fail
  refine (some_n SA.out (by omega)).mono ?_
  rintro e w6 ⟨A6, c6, rfl, ho, hb⟩
  have hs6 := hb.size
  replace W := hide (below_then W.out hb)
  replace SA := hide (SA.out.below hb)
  replace SB := hide (SB.out.below hb)
  have OC := hide ho
  clear ho hb
  go_wp2_with (at_builtin; show wpList _ _ _ (⟨some 31, _, _, _, _, _⟩ :: _) _ _; refine wpList_app rfl (.tmp 29) (.tmp 30) _ rfl w5.heap.size 5 _ 1 1 Try.underlying22 u8info rfl (by omega) (by omega) _ _ _ _ rfl OC.out _ _ n3 _ (u8s lb) rfl SB.out (u8s_one _) (by omega) (by omega) ?_; intro A7 c7 w7 ho hb)
  have hs7 := hb.size
  replace W := hide (W.out.trans (hb.mono (by omega)))
  replace SA := hide ((SA.out.mono (by omega)).belowB hb)
  replace SB := hide ((SB.out.mono (by omega)).belowB hb)
  replace OC := hide ho
  clear ho hb
  rw [← u8s_append] at OC
  go_wp2_with fail
  refine (noughts_zy OC.out.sl).mono ?_
  rintro e w8 ⟨z6, y6, rfl, H6, hb⟩
  have hs8 := hb.size
  replace W := hide (below_then W.out hb)
  replace SA := hide (SA.out.below hb)
  replace SB := hide (SB.out.below hb)
  replace OC := hide (OC.out.below hb)
  have hz6 : ((z6 : Int) == z4 + z5) = true := by
    have h1 := H4.out.1; have h2 := H5.out.1; have h3 := H6.out.1
    rw [zerosS_append] at h3
    simp; omega
  have hy6 : ((y6 : Int) == y4 + y5) = true := by
    have h1 := H4.out; have h2 := H5.out; have h3 := H6.out
    rw [zerosS_append, List.length_append] at h3
    simp; omega
  have hzy : ((z4 : Int) + y4 == n2) = true := by
    have h1 := H4.out.2; have h2 := HNA.out
    simp; omega
  clear hb
  clear OC
  go_wp2_with fail
  refine (some_n SA.out (by omega)).mono ?_
  rintro e w9 ⟨A9, c9, rfl, ho, hb⟩
  have hs9 := hb.size
  replace W := hide (below_then W.out hb)
  replace SA := hide (SA.out.below hb)
  replace SB := hide (SB.out.below hb)
  have P1 := hide ho
  clear ho hb
  go_wp2_with (at_builtin; show wpList _ _ _ (⟨some 59, _, _, _, _, _⟩ :: _) _ _; refine wpList_app rfl (.tmp 57) (.tmp 58) _ rfl w8.heap.size 5 _ 1 1 Try.underlying22 u8info rfl (by omega) (by omega) _ _ _ _ rfl P1.out _ _ n3 _ (u8s lb) rfl SB.out (u8s_one _) (by omega) (by omega) ?_; intro A10 c10 w10 ho hb)
  have hs10 := hb.size
  replace W := hide (W.out.trans (hb.mono (by omega)))
  replace SA := hide ((SA.out.mono (by omega)).belowB hb)
  replace SB := hide ((SB.out.mono (by omega)).belowB hb)
  replace P1 := hide ho
  clear ho hb
  rw [← u8s_append] at P1
  replace P1 := hide P1.out.sl
  go_wp2_with fail
  refine (some_n SB.out (by omega)).mono ?_
  rintro e w11 ⟨A11, c11, rfl, ho, hb⟩
  have hs11 := hb.size
  replace W := hide (below_then W.out hb)
  replace SA := hide (SA.out.below hb)
  replace SB := hide (SB.out.below hb)
  replace P1 := hide (P1.out.below hb)
  have P2 := hide ho
  clear ho hb
  go_wp2_with (at_builtin; show wpList _ _ _ (⟨some 63, _, _, _, _, _⟩ :: _) _ _; refine wpList_app rfl (.tmp 61) (.tmp 62) _ rfl w10.heap.size 5 _ 1 1 Try.underlying22 u8info rfl (by omega) (by omega) _ _ _ _ rfl P2.out _ _ n2 _ (u8s la) rfl SA.out (u8s_one _) (by omega) (by omega) ?_; intro A12 c12 w12 ho hb)
  have hs12 := hb.size
  replace W := hide (W.out.trans (hb.mono (by omega)))
  replace SA := hide ((SA.out.mono (by omega)).belowB hb)
  replace SB := hide ((SB.out.mono (by omega)).belowB hb)
  replace P1 := hide ((P1.out.mono (by omega)).belowB hb)
  replace P2 := hide ho
  clear ho hb
  rw [← u8s_append] at P2
  replace P2 := hide P2.out.sl
  go_wp2_with fail
  refine (oequal_any P1.out P2.out).mono ?_
  rintro e w0 ⟨rfl, rfl⟩
  clear P1 P2
  go_wp2_with fail
  refine (some_n SA.out (by omega)).mono ?_
  rintro e w13 ⟨A13, c13, rfl, ho, hb⟩
  have hs13 := hb.size
  replace W := hide (below_then W.out hb)
  replace SA := hide (SA.out.below hb)
  replace SB := hide (SB.out.below hb)
  have P1 := hide ho
  clear ho hb
  go_wp2_with (at_builtin; show wpList _ _ _ (⟨some 68, _, _, _, _, _⟩ :: _) _ _; refine wpList_app rfl (.tmp 66) (.tmp 67) _ rfl w12.heap.size 5 _ 1 1 Try.underlying22 u8info rfl (by omega) (by omega) _ _ _ _ rfl P1.out _ _ n3 _ (u8s lb) rfl SB.out (u8s_one _) (by omega) (by omega) ?_; intro A14 c14 w14 ho hb)
  have hs14 := hb.size
  replace W := hide (W.out.trans (hb.mono (by omega)))
  replace SA := hide ((SA.out.mono (by omega)).belowB hb)
  replace SB := hide ((SB.out.mono (by omega)).belowB hb)
  replace P1 := hide ho
  clear ho hb
  rw [← u8s_append] at P1
  replace P1 := hide P1.out.sl
  go_wp2_with fail
  refine (some_n SB.out (by omega)).mono ?_
  rintro e w15 ⟨A15, c15, rfl, ho, hb⟩
  have hs15 := hb.size
  replace W := hide (below_then W.out hb)
  replace SA := hide (SA.out.below hb)
  replace SB := hide (SB.out.below hb)
  replace P1 := hide (P1.out.below hb)
  have P2 := hide ho
  clear ho hb
  go_wp2_with (at_builtin; show wpList _ _ _ (⟨some 72, _, _, _, _, _⟩ :: _) _ _; refine wpList_app rfl (.tmp 70) (.tmp 71) _ rfl w14.heap.size 5 _ 1 1 Try.underlying22 u8info rfl (by omega) (by omega) _ _ _ _ rfl P2.out _ _ n2 _ (u8s la) rfl SA.out (u8s_one _) (by omega) (by omega) ?_; intro A16 c16 w16 ho hb)
  have hs16 := hb.size
  replace W := hide (W.out.trans (hb.mono (by omega)))
  replace SA := hide ((SA.out.mono (by omega)).belowB hb)
  replace SB := hide ((SB.out.mono (by omega)).belowB hb)
  replace P1 := hide ((P1.out.mono (by omega)).belowB hb)
  replace P2 := hide ho
  clear ho hb
  rw [← u8s_append] at P2
  replace P2 := hide P2.out.sl
  go_wp2_with fail
  refine (bequal_any P1.out P2.out).mono ?_
  rintro e w0 ⟨rfl, rfl⟩
  go_wp2_with fail
  go_ret
  exact ⟨by simp, W.out⟩
end Go.Proofs.Ytcogphajaljaiaa
