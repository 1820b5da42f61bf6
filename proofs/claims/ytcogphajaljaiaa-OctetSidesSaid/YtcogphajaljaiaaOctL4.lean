/-
  The law OctetSides: its walk. (Printed by gen_octl4.py.)
-/
import Derived.Test.YtcogphajaljaiaaOctQ
namespace Go.Proofs.Ytcogphajaljaiaa
open Go.RowKit

theorem side_num (s : Int) : ∃ m : Nat, m < 300 ∧ wrap64 ((IntKind.u64.wrap s).tmod 300) = (m : Int) := by
  have h : IntKind.u64.wrap s = s % 18446744073709551616 := IntKind.wrap_u64 s
  refine ⟨((s % 18446744073709551616) % 300).toNat, by omega, ?_⟩
  rw [h, Int.tmod_eq_emod_of_nonneg (by omega), IntWalk.wrap64_in _ ⟨by omega, by omega⟩]
  omega

theorem side_from (la : List UInt8) (fr m0 m1 : Nat) (hf : fr < 18446744073709551616) (hm : m0 < 300) (hl : la.length ≤ 300) :
    ∃ q : Nat, (fr : Int) + min (m0 : Int) (18446744073709551615 - fr) = (q : Int) ∧ q < 18446744073709551616 ∧ winS la q m1 = winS la (fr + m0) m1 := by
  by_cases hov : fr + m0 < 18446744073709551616
  · exact ⟨fr + m0, by omega, hov, rfl⟩
  · exact ⟨18446744073709551615, by omega, by omega, by rw [winS_far _ _ _ (by omega), winS_far _ _ _ (by omega)]⟩

set_option maxRecDepth 20000 in
set_option maxHeartbeats 4000000 in
theorem law_sides {A : Option Addr} {n c N fr : Nat} {s0 s1 : Int} {a : List UInt8} {w : World} (ha : Sl w N 1 A n c (u8s a)) (hfr : fr < 18446744073709551616)
    (h0 : -9223372036854775808 ≤ s0 ∧ s0 ≤ 9223372036854775807) (h1 : -9223372036854775808 ≤ s1 ∧ s1 ≤ 9223372036854775807) :
    Calls Try.prog 6 #[.slice A n c, .int .u64 (fr : Int), .agg #[.int .i64 s0, .int .i64 s1]] w (RetT w true) := by
  have HA := hide (ha.tight (by omega)); clear ha
  go_enter Try.func6, Try.ntmps6
  go_wp2_with fail
  refine wakes_any.mono ?_
  rintro e w1 ⟨rfl, hb⟩
  have hs1 := hb.size
  have W := hide (below_then (below_alloc w _) hb)
  replace HA := hide ((HA.out.alloc _).below hb)
  simp only [World.size_alloc] at hs1
  have hc0 : w1.cell? ⟨w.heap.size, 0, none⟩ = some (.int .i64 s0) := by rw [hb.cell (p := ⟨w.heap.size, 0, none⟩) (by simp)]; simp
  have hc1 : w1.cell? ⟨w.heap.size, 1, none⟩ = some (.int .i64 s1) := by rw [hb.cell (p := ⟨w.heap.size, 1, none⟩) (by simp)]; simp
  clear hb
  go_wp2_with fail
  refine (some_any HA.out).mono ?_
  rintro e w2 ⟨A2, n2, c2, rfl, ho, hb⟩
  have hq0 : w2.cell? ⟨w.heap.size, 0, none⟩ = some (.int .i64 s0) := by rw [hb.cell (p := ⟨w.heap.size, 0, none⟩) (by simp only []; omega)]; exact hc0
  have hq1 : w2.cell? ⟨w.heap.size, 1, none⟩ = some (.int .i64 s1) := by rw [hb.cell (p := ⟨w.heap.size, 1, none⟩) (by simp only []; omega)]; exact hc1
  have hs2 := hb.size
  replace W := hide (below_then W.out hb)
  have SA := hide ho.sl
  clear ho hb hc0 hc1 HA
  have hla : (a.take 300).length ≤ 300 := List.length_take_le _ _
  generalize a.take 300 = la at *
  have HNA := hide SA.out.len8
  have hn2 : n2 ≤ 300 := by have := HNA.out; omega
  clear hla
  obtain ⟨m0, hm0, em0⟩ := side_num s0
  obtain ⟨m1, hm1, em1⟩ := side_num s1
  go_wp2_with fail
  go_quiet (fail)
  rw [em0, em1]
  replace SA := hide (SA.out.drewN nq)
  replace W := hide (below_drewN W.out nq)
  have hsz : w2.heap.size ≤ (w2.drewN nq).heap.size := Nat.le_refl _
  generalize w2.drewN nq = wq at *
  clear em0 em1 h0 h1 hq0 hq1
  obtain ⟨q, hq, hql, hqe⟩ := side_from la fr m0 m1 hfr hm0 (by have := HNA.out; omega)
  have HQ := hide hq; have HE := hide hqe; clear hq hqe
  go_wp2_with fail
  refine Calls.mono (R := RetBE _ (winS la fr m0, 0)) (by have h := window_any (f := fr) (N := ((m0 : Nat) : Int)) SA.out (by omega); rw [winE_ok (by omega)] at h; exact h) ?_
  rintro e w3 ⟨A3, n3, c3, rfl, ho, hb⟩
  have hs3 := hb.size
  replace W := hide (below_then W.out hb)
  replace SA := hide (SA.out.below hb)
  have X1 := hide ho; clear ho hb
  have HX1 := hide (fun a (h : A3 = some a) => (X1.out.block a h).2)
  go_wp2_with fail
  rw [HQ.out]
  refine Calls.mono (R := RetBE _ (winS la q m1, 0)) (by have h := window_any (f := q) (N := ((m1 : Nat) : Int)) SA.out (by omega); rw [winE_ok (by omega)] at h; exact h) ?_
  rintro e w4 ⟨A4, n4, c4, rfl, ho, hb⟩
  have hs4 := hb.size
  replace W := hide (below_then W.out hb)
  replace SA := hide (SA.out.below hb)
  replace X1 := hide (X1.out.below hb)
  have X2 := hide ho; clear ho hb
  go_wp2_with fail
  refine Calls.mono (R := RetBE _ (winS la fr (m0 + m1), 0)) (by have h := window_any (f := fr) (N := ((m0 : Int) + m1)) SA.out (by omega); rw [show ((m0 : Int) + m1) = (((m0 + m1) : Nat) : Int) from by omega, winE_ok (by omega)] at h; exact h) ?_
  rintro e w5 ⟨A5, n5, c5, rfl, ho, hb⟩
  have hs5 := hb.size
  replace W := hide (below_then W.out hb)
  replace SA := hide (SA.out.below hb)
  replace X1 := hide (X1.out.below hb)
  replace X2 := hide (X2.out.below hb)
  have X3 := hide ho; clear ho hb
  have hx1 : n3 ≤ 300 := by have h : (winS la fr m0).length = n3 := X1.out.len8; rw [winS_length] at h; omega
  have hx2 : n4 ≤ 300 := by have h : (winS la q m1).length = n4 := X2.out.len8; rw [winS_length] at h; omega
  have hne : ∀ a b, A3 = some a → A5 = some b → a.block ≠ b.block := fun a b h1 h2 => by
    have h3 := HX1.out a h1
    have h4 := (X3.out.block b h2).1
    omega
  have HNE := hide hne
  clear hne HX1
  go_wp2_with (at_builtin; show wpList _ _ _ (⟨some 71, _, _, _, _, _⟩ :: _) _ _; refine wpList_app_far rfl (.tmp 69) (.tmp 70) _ rfl wq.heap.size 5 _ 1 1 Try.underlying22 u8info rfl (by omega) (by omega) _ _ _ _ rfl X1.out _ _ n4 _ (u8s (winS la q m1)) rfl X2.out.sl (u8s_one _) (by omega) (by omega) ?_; intro A6 c6 w6 ho hb hfar)
  rw [← u8s_append, HE.out, winS_sides] at ho
  have HO := hide ho
  have H3 := hide (X3.out.sl.farA hfar HNE.out)
  replace W := hide (W.out.trans (hb.mono (by omega)))
  clear ho hb hfar X1 X2 X3
  go_wp2_with fail
  refine (bequal_any HO.out.sl H3.out).mono ?_
  rintro e w0 ⟨rfl, rfl⟩
  simp only [decide_true]
  go_wp2_with fail
  go_ret
  exact ⟨rfl, W.out⟩
end Go.Proofs.Ytcogphajaljaiaa
