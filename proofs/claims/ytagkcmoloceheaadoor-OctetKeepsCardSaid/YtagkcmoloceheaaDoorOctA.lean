/-
  Walks of layer 1 (octet): the small functions.
-/
import Derived.Test.YtagkcmoloceheaaDoorRows
import Derived.Test.YtagkcmoloceheaaDoorBase
namespace Go.Proofs.YtagkcmoloceheaaDoor
open Go.RowKit
set_option linter.unusedVariables false

theorem u8info : (Tryd.prog.info? 5).map (fun i => (i.zero, i.size, i.bytes)) = some (some (.int .u8 0), 1, 1) := by kernel_rfl
theorem u8size : (Tryd.prog.info? 5).map (·.size) = some 1 := by kernel_rfl

/-- a row of bytes of the call's own comes back -/
def RetB (w : World) (L : List UInt8) : Ending → World → Prop := fun e w' =>
  ∃ A n c, e = .returned (.slice A n c) ∧ Ow w' w.heap.size 5 1 A n c (u8s L) ∧ Below w.heap.size w w'

set_option maxHeartbeats 400000 in
theorem same_any {A B : Option Addr} {n m c d N M : Nat} {xs ys : List UInt8} {w : World} (hx : Sl w N 1 A n c (u8s xs)) (hy : Sl w M 1 B m d (u8s ys)) :
    Calls Tryd.prog 8 #[.slice A n c, .slice B m d] w fun e w' => e = .returned (.bool (decide (xs = ys))) ∧ ∃ k, w' = w.drewN k := by
  have hxl := hx.len8
  have hyl := hy.len8
  have hn := hx.n_le; have hn' := hx.c_le'
  have hm := hy.n_le; have hm' := hy.c_le'
  by_cases hnm : n = m
  case neg =>
    have hd : ((n : Int) == (m : Int)) = false := by simp; omega
    have hne : xs ≠ ys := by intro h; subst h; omega
    have H := hide hne; clear hne hnm hxl hyl hx hy
    go_enter Tryd.func8, Tryd.ntmps8
    go_wp2
    go_ret
    exact ⟨by simp [H.out], 0, rfl⟩
  case pos =>
  subst hnm
  have Hx := hide hxl; have Hy := hide hyl; clear hxl hyl
  have HX := hide hx; have HY := hide hy; clear hx hy
  go_enter Tryd.func8, Tryd.ntmps8
  go_wp2
  go_loopw [5, 13] (fun _ i wr => ∃ k q : Nat, k ≤ n ∧ i = .int .i64 k ∧ wr = w.drewN q ∧ xs.take k = ys.take k) (fun _ i _ => n - (intOf i).toNat)
  case atStart => exact ⟨0, 0, Nat.zero_le _, rfl, rfl, rfl⟩
  case round =>
    obtain ⟨k, q, hk, rfl, rfl, heq⟩ := hrel
    have HE := hide heq; clear heq
    by_cases hlt : k < n
    · obtain ⟨b, o, x, rfl, _, _, hx1, hcu⟩ := HX.out.at8 hlt
      obtain ⟨b2, o2, y, rfl, _, _, hy1, hcv⟩ := HY.out.at8 hlt
      have HB := hide hx1; have HB2 := hide hy1; clear hx1 hy1
      go_wp2
      go_quiet (fail)
      go_wp2
      · have hne : ((x.toNat : Int) != y.toNat) = true := by assumption
        go_ret
        refine ⟨?_, _, by rw [World.drewN_drewN]⟩
        have hne : xs ≠ ys := by
          rintro rfl
          have := HB.out.symm.trans HB2.out
          injection this with this
          subst this
          simp at hne
        simp [hne]
      · have heq : ((x.toNat : Int) != y.toNat) = false := by assumption
        go_roundw
        case rel =>
          refine ⟨k + 1, _, by omega, by go_num, rfl, ?_⟩
          have : x = y := by
            apply UInt8.toNat.inj
            have : (x.toNat : Int) = y.toNat := by simpa using heq
            omega
          rw [List.take_add_one, List.take_add_one, HE.out, HB.out, HB2.out, this]
        case measure => simp [intOf]; omega
    · go_wp2
      go_ret
      refine ⟨?_, _, rfl⟩
      have h1 := HE.out
      rw [List.take_of_length_le (by have := Hx.out; omega), List.take_of_length_le (by have := Hy.out; omega)] at h1
      simp [h1]

set_option maxHeartbeats 400000 in
theorem clone_any {A : Option Addr} {n c N : Nat} {xs : List UInt8} {w : World} (hx : Sl w N 1 A n c (u8s xs)) (hb : n ≤ 140737488355328) :
    Calls Tryd.prog 24 #[.slice A n c] w (RetB w xs) := by
  cases A with
  | none =>
    obtain ⟨rfl, rfl, h0⟩ := hx.of_none
    have H : xs = [] := by cases xs with | nil => rfl | cons => cases h0
    subst H
    clear hx h0
    have he := fun w => Lib.run_eql_slice_nil (P := Tryd.prog) w 25 5 none 0 0 0 0 Tryd.underlying25
    go_enter Tryd.func24, Tryd.ntmps24
    go_wp2
    go_ret
    exact ⟨none, 0, 0, rfl, Ow.nil, Below.refl _ _⟩
  | some ad =>
    have HX := hide hx; clear hx
    have he := fun w => Lib.run_eql_slice_nil (P := Tryd.prog) w 25 5 (some ad) n c 0 0 Tryd.underlying25
    go_enter Tryd.func24, Tryd.ntmps24
    go_wp2_with (
      (at_builtin
       refine wpList_app rfl (.tmp 5) (.tmp 6) _ rfl w.heap.size 5 _ 1 1 Tryd.underlying25 u8info rfl (by omega) (by omega) _ 0 0 [] rfl
         ?own _ _ n _ (u8s xs) rfl (HX.out.alloc _) (u8s_one _) (by omega) (by simp) ?_))
    case own => exact World.ownsRow_lit w #[] 0 (Nat.le_refl _) (by simp) rfl
    intro A' c' w' how hbl
    go_wp2
    go_ret
    exact ⟨_, _, _, rfl, by simpa using how, (below_alloc w _).trans hbl⟩

set_option maxHeartbeats 400000 in
theorem few_any {A : Option Addr} {n c N : Nat} {xs : List UInt8} {w : World} (hx : Sl w N 1 A n c (u8s xs)) :
    Calls Tryd.prog 6 #[.slice A n c] w (RetB w (xs.take 4097)) := by
  have hn := hx.n_le; have hn' := hx.c_le'
  have hl := hx.len8
  have hcut := (hx.upto (m := min n 4097) (by omega))
  rw [u8s_take, Nat.mul_one] at hcut
  have e : xs.take (min n 4097) = xs.take 4097 := by rw [← hl, Nat.min_comm, List.take_eq_take_iff]; omega
  rw [e] at hcut
  have HX := hide hcut; clear hcut hx hl e
  by_cases h : n ≤ 4097
  · have e : min n 4097 = n := by omega
    rw [e] at HX
    go_enter Tryd.func6, Tryd.ntmps6
    go_wp2_with (go_at_call 24; refine (clone_any HX.out (by omega)).mono ?_; rintro e w1 ⟨A1, n1, c1, rfl, ho, hb⟩)
    go_ret
    exact ⟨_, _, _, rfl, ho, hb⟩
  · have e : min n 4097 = 4097 := by omega
    rw [e] at HX
    go_enter Tryd.func6, Tryd.ntmps6
    go_wp2_with (go_at_call 24; refine (clone_any HX.out (by omega)).mono ?_; rintro e w1 ⟨A1, n1, c1, rfl, ho, hb⟩)
    go_ret
    exact ⟨_, _, _, rfl, ho, hb⟩
end Go.Proofs.YtagkcmoloceheaaDoor
