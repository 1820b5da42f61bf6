/-
  The law OctetShows: its walk. (Printed by gen_octl3.py.)
-/
import Derived.Test.YtcogphajaljaiaaOctQ
namespace Go.Proofs.Ytcogphajaljaiaa
open Go.RowKit

set_option maxRecDepth 20000 in
set_option maxHeartbeats 4000000 in
theorem law_shows {A B : Option Addr} {n c m d N M at_ : Nat} {a b : List UInt8} {w : World} (ha : Sl w N 1 A n c (u8s a)) (hb : Sl w M 1 B m d (u8s b)) (hat : at_ < 18446744073709551616) :
    Calls Try.prog 5 #[.slice A n c, .slice B m d, .int .u64 (at_ : Int)] w (RetT w true) := by
  have HA := hide (ha.tight (by omega)); have HB := hide (hb.tight (by omega)); clear ha hb
  go_enter Try.func5, Try.ntmps5
  go_wp2_with fail
  refine (wakes_any).mono ?_
  rintro e w1 ⟨rfl, hb⟩
  have hs1 := hb.size
  have W := hide hb
  replace HA := hide (HA.out.below hb)
  replace HB := hide (HB.out.below hb)
  clear hb
  go_wp2_with fail
  refine (some_any HA.out).mono ?_
  rintro e w2 ⟨A2, n2, c2, rfl, ho, hb⟩
  have hs2 := hb.size
  replace W := hide (below_then W.out hb)
  replace HA := hide (HA.out.below hb)
  replace HB := hide (HB.out.below hb)
  have SA := hide ho.sl
  clear ho hb
  go_wp2_with fail
  refine (some_any HB.out).mono ?_
  rintro e w3 ⟨A3, n3, c3, rfl, ho, hb⟩
  have hs3 := hb.size
  replace W := hide (below_then W.out hb)
  replace HA := hide (HA.out.below hb)
  replace HB := hide (HB.out.below hb)
  replace SA := hide (SA.out.below hb)
  have SB := hide ho.sl
  have hla : (a.take 300).length ≤ 300 := List.length_take_le _ _
  have hlb : (b.take 300).length ≤ 300 := List.length_take_le _ _
  clear ho hb
  generalize a.take 300 = la at *
  generalize b.take 300 = lb at *
  have HNA := hide SA.out.len8; have HNB := hide SB.out.len8
  have hn2 : n2 ≤ 300 := by have := HNA.out; omega
  have hn3 : n3 ≤ 300 := by have := HNB.out; omega
  clear hla hlb HA HB
  obtain ⟨p, hp, hp4⟩ : ∃ p : Nat, (at_ : Int) % 400 = (p : Int) ∧ p < 400 := ⟨at_ % 400, by omega, by omega⟩
  obtain ⟨o, ho1, ho2, ho3, ho4, ho5⟩ := over_shows la lb p (by have := HNA.out; omega) (by have := HNB.out; omega) hp4
  have K1 := hide ho1; have K2 := hide ho2; have K3 := hide ho3; have K4 := hide ho4; have K5 := hide ho5
  clear ho1 ho2 ho3 ho4 ho5
  rw [HNB.out] at K2 K4
  go_wp2_with fail
  refine Calls.mono (R := RetBE _ (o, 0)) (by have h := over_any (at_ := p) SA.out SB.out (by omega) (by omega); rw [K1.out] at h; exact h) ?_
  rintro e w4 ⟨A4, n4, c4, rfl, ho, hb⟩
  have hs4 := hb.size
  replace W := hide (below_then W.out hb)
  replace SA := hide (SA.out.below hb)
  replace SB := hide (SB.out.below hb)
  have SO := hide ho.sl; clear ho hb
  have hno : n2 ≤ n4 := by have h1 : o.length = n4 := SO.out.len8; have h2 := HNA.out; have h3 := K5.out; omega
  go_wp2_with fail
  refine Calls.mono (R := RetBE _ (lb, 0)) (by have h := window_any (f := p) (N := ((n3 : Nat) : Int)) SO.out (by omega); rw [winE_ok (by omega)] at h; rw [K2.out] at h; exact h) ?_
  rintro e w5 ⟨A5, n5, c5, rfl, ho, hb⟩
  have hs5 := hb.size
  replace W := hide (below_then W.out hb)
  replace SA := hide (SA.out.below hb)
  replace SB := hide (SB.out.below hb)
  replace SO := hide (SO.out.below hb)
  have SW := hide ho.sl; clear ho hb
  go_wp2_with fail
  refine (bequal_any SW.out SB.out).mono ?_
  rintro e w0 ⟨rfl, rfl⟩
  simp only [decide_true]
  clear SW
  go_wp2_with fail
  refine Calls.mono (R := RetBE _ (winS la 0 p, 0)) (by have h := window_any (f := 0) (N := ((p : Nat) : Int)) SO.out (by omega); rw [winE_ok (by omega)] at h; rw [K3.out] at h; exact h) ?_
  rintro e w6 ⟨A6, n6, c6, rfl, ho, hb⟩
  have hs6 := hb.size
  replace W := hide (below_then W.out hb)
  replace SA := hide (SA.out.below hb)
  replace SB := hide (SB.out.below hb)
  replace SO := hide (SO.out.below hb)
  have X1 := hide ho.sl; clear ho hb
  go_wp2_with fail
  refine Calls.mono (R := RetBE _ (winS la 0 p, 0)) (by have h := window_any (f := 0) (N := ((p : Nat) : Int)) SA.out (by omega); rw [winE_ok (by omega)] at h; skip; exact h) ?_
  rintro e w7 ⟨A7, n7, c7, rfl, ho, hb⟩
  have hs7 := hb.size
  replace W := hide (below_then W.out hb)
  replace SA := hide (SA.out.below hb)
  replace SB := hide (SB.out.below hb)
  replace SO := hide (SO.out.below hb)
  replace X1 := hide (X1.out.below hb)
  have X2 := hide ho.sl; clear ho hb
  go_wp2_with fail
  refine Calls.mono (R := RetBE _ (winS la (p + n3) 700, 0)) (by have h := window_any (f := (p + n3)) (N := ((700 : Nat) : Int)) SO.out (by omega); rw [winE_ok (by omega)] at h; rw [K4.out] at h; exact h) ?_
  rintro e w8 ⟨A8, n8, c8, rfl, ho, hb⟩
  have hs8 := hb.size
  replace W := hide (below_then W.out hb)
  replace SA := hide (SA.out.below hb)
  replace SB := hide (SB.out.below hb)
  replace SO := hide (SO.out.below hb)
  replace X1 := hide (X1.out.below hb)
  replace X2 := hide (X2.out.below hb)
  have X3 := hide ho.sl; clear ho hb
  go_wp2_with fail
  refine Calls.mono (R := RetBE _ (winS la (p + n3) 700, 0)) (by have h := window_any (f := (p + n3)) (N := ((700 : Nat) : Int)) SA.out (by omega); rw [winE_ok (by omega)] at h; skip; exact h) ?_
  rintro e w9 ⟨A9, n9, c9, rfl, ho, hb⟩
  have hs9 := hb.size
  replace W := hide (below_then W.out hb)
  replace SA := hide (SA.out.below hb)
  replace SB := hide (SB.out.below hb)
  replace SO := hide (SO.out.below hb)
  replace X1 := hide (X1.out.below hb)
  replace X2 := hide (X2.out.below hb)
  replace X3 := hide (X3.out.below hb)
  have X4 := hide ho.sl; clear ho hb
  go_wp2_with fail
  refine (bequal_any X1.out X2.out).mono ?_
  rintro e w0 ⟨rfl, rfl⟩
  simp only [decide_true]
  go_wp2_with fail
  refine (bequal_any X3.out X4.out).mono ?_
  rintro e w0 ⟨rfl, rfl⟩
  simp only [decide_true]
  go_wp2_with fail
  go_ret
  exact ⟨rfl, W.out⟩
end Go.Proofs.Ytcogphajaljaiaa
