/-
  Walks of layer 1 (octet): Put64, High, the reference's Window; padded, Ahead.
-/
import Derived.Test.YtagkcmoloceheaaDoorOctE
namespace Go.Proofs.YtagkcmoloceheaaDoor
open Go.RowKit
set_option linter.unusedVariables false

theorem byte_wrap (x : Nat) : IntKind.u8.wrap (x : Int) = ((UInt8.ofNat (x % 256)).toNat : Int) := by
  rw [IntKind.wrap_u8]; simp
theorem byte_mod (x : Nat) : (x : Int) % 256 = ((UInt8.ofNat (x % 256)).toNat : Int) := by
  rw [← byte_wrap, IntKind.wrap_u8]
theorem div256 (x j : Nat) : x / 256 ^ j / 256 = x / 256 ^ (j + 1) := by rw [Nat.div_div_eq_div_mul, Nat.pow_succ]

set_option maxRecDepth 20000 in
set_option maxHeartbeats 1000000 in
theorem put64_any {A : Option Addr} {n c N x : Nat} {b : List UInt8} {w : World} (hb : Sl w N 1 A n c (u8s b)) (hx : x < 18446744073709551616) (hn : n ≤ 140737488355320) :
    Calls Tryd.prog 21 #[.slice A n c, .int .u64 (x : Int)] w (RetB w (b ++ beS 8 x)) := by
  have hnc := hb.n_le; have hn' := hb.c_le'
  have hl := hb.len8
  have HL := hide hl
  have HB := hide hb; clear hb hl
  have h : (some ⟨w.heap.size, 0, none⟩ : Option Addr) = if n + 8 = 0 then some ⟨w.heap.size, 0, none⟩ else Option.map (fun a : Addr => a.add (0 * 1)) (some ⟨w.heap.size, 0, none⟩) := by simp [add_zero']
  have HD := hide h; clear h
  go_enter Tryd.func21, Tryd.ntmps21
  go_wp2
  go_step3
  go_wp2_with (first
    | (at_make; refine wpList_mk rfl _ _ _ rfl 5 _ 1 Tryd.underlying25 u8info rfl _ _ _ _ (n + 8) rfl rfl (by omega) (by omega) (by omega) (by omega) ?_; intro w2 how hbl hsz)
    | (show wpList _ _ _ (⟨some 13, _, _, _, _, _⟩ :: _) _ _; refine wpList_cp (.tmp 11) (.tmp 12) _ _ rfl 5 Tryd.underlying25 u8size rfl w.heap.size 5 _ (n + 8) (n + 8) 0 _ how (by omega) (by omega) _ _ rfl HD.out N _ _ _ (u8s b) rfl (HB.out.below hbl) (u8s_one _) ?_; intro w3 ho3 hb3 hs3))
  have e0 : splice (List.replicate (n + 8) (Value.int IntKind.u8 0)) 0 (List.take (n + 8 - 0) (u8s b)) = u8s (b ++ (List.replicate (8 - 0) 0 ++ beS 0 x)) := by
    have hl := HL.out
    rw [Nat.sub_zero, List.take_of_length_le (by rw [u8s_length]; omega), u8s_append]
    unfold splice
    rw [List.take_zero, List.nil_append, List.drop_replicate, u8s_length, show n + 8 - (0 + b.length) = 8 by omega]
    rfl
  rw [e0] at ho3
  have HO3 := hide ho3
  have HB3 := hide (hbl.trans hb3)
  clear e0 ho3 how hbl hb3 hsz hs3
  go_step3
  go_wp2
  go_loopw [1, 6] (fun u v wr => ∃ j y m : Nat, j ≤ 8 ∧ Hid (y = x / 256 ^ j) ∧ y < 18446744073709551616 ∧ m + j = n + 8 ∧ u = .int .u64 y ∧ v = .int .i64 m ∧
      Ow wr w.heap.size 5 1 (some ⟨w.heap.size, 0, none⟩) (n + 8) (n + 8) (u8s (b ++ (List.replicate (8 - j) 0 ++ beS j x))) ∧ Below w.heap.size w wr) (fun _ v _ => (intOf v).toNat)
  case atStart => exact ⟨0, x, n + 8, by omega, by rw [Nat.pow_zero, Nat.div_one]; rfl, hx, by omega, rfl, by go_num, HO3.out, HB3.out⟩
  case round =>
    obtain ⟨j, y, m, hj, HY, hy, hm, rfl, rfl, how, hbw⟩ := hrel
    have HW := hide how; have HBW := hide hbw
    clear how hbw HO3 HB3
    by_cases h0 : y = 0
    · subst h0
      have e : b ++ (List.replicate (8 - j) 0 ++ beS j x) = b ++ beS 8 x := by
        have h := beS_zero j x HY.out.symm (8 - j)
        rw [Nat.sub_add_cancel hj] at h
        rw [h]
      have HE := hide e; clear e
      go_wp2
      try rw [Exit.noGoto_ret]
      go_ret
      exact ⟨_, _, _, rfl, by rw [← HE.out]; exact HW.out, HBW.out⟩
    · have h1 : ((y : Int) == 0) = false := by simp; exact h0
      by_cases h8 : j = 8
      · have e : b ++ (List.replicate (8 - j) 0 ++ beS j x) = b ++ beS 8 x := by subst h8; simp
        have HE := hide e; clear e
        obtain rfl : m = n := by omega
        clear h0 h8
        go_wp2
        try rw [Exit.noGoto_ret]
        go_ret
        exact ⟨_, _, _, rfl, by rw [← HE.out]; exact HW.out, HBW.out⟩
      · obtain ⟨p, rfl⟩ : ∃ p, m = p + 1 := ⟨m - 1, by omega⟩
        have hlt : n ≤ p := by omega
        obtain ⟨g, z, hA, _, hgs, _, hcell, hfz⟩ := HW.out.at8 (k := p) (by omega)
        simp only [Option.some.injEq, Addr.mk.injEq, and_true] at hA
        subst hA
        have hst := HW.out.stored (k := p) (.int .u8 (((UInt8.ofNat (x / 256 ^ j % 256)).toNat : Nat) : Int))
        rw [u8s_set] at hst
        have hz := set_zeros b (8 - j) j x (by omega)
        rw [show b.length + (8 - j - 1) = p by have := HL.out; omega, show 8 - j - 1 = 8 - (j + 1) by omega] at hz
        rw [hz] at hst
        have hbyte := byte_mod y
        have e : UInt8.ofNat (y % 256) = UInt8.ofNat (x / 256 ^ j % 256) := by rw [HY.out]
        rw [e] at hbyte
        have HS := hide hst; have HBY := hide hbyte
        clear hst hz hbyte e h0
        go_wp2
        go_roundw
        case rel =>
          refine ⟨j + 1, y / 256, p, by omega, by rw [HY.out, div256]; exact rfl, by omega, by omega, by go_num, rfl, ?_, HBW.out.setCell (Nat.le_refl _) _⟩
          rw [HBY.out]
          exact HS.out
        case measure => simp [intOf]

theorem set_high (k j x : Nat) (hk : 0 < k) :
    (List.replicate k 0 ++ beS j x).set (k - 1) (UInt8.ofNat (x / 256 ^ j % 256)) = List.replicate (k - 1) 0 ++ beS (j + 1) x := by
  have := set_zeros [] k j x hk
  simpa using this

theorem winS_succ (b : List UInt8) (f k : Nat) : winS b f (k + 1) = winS b f k ++ [atS b (f + k)] := by
  unfold winS atS
  apply List.ext_getElem?
  intro i
  simp only [List.getElem?_append, List.getElem?_take, List.getElem?_drop, List.length_take, List.length_drop, List.length_replicate, List.getElem?_replicate, List.length_append]
  have hg : ∀ j, b[j]? = if j < b.length then b[j]? else none := by
    intro j; split
    · rfl
    · exact List.getElem?_eq_none (by omega)
  by_cases h1 : i < k
  · by_cases h2 : f + i < b.length
    · rw [if_pos (by omega), if_pos (by omega), if_pos (by omega), if_pos (by omega), if_pos (by omega)]
    · rw [if_neg (by omega), if_pos (by omega), if_pos (by omega), if_neg (by omega), if_pos (by omega)]
  · by_cases h3 : i = k
    · subst h3
      by_cases h2 : f + i < b.length
      · rw [if_pos (by omega), if_pos (by omega), if_neg (by omega)]
        rw [show i - (min i (b.length - f) + (i - (b.length - f))) = 0 by omega]
        simp [List.getD, List.getElem?_eq_getElem h2]
      · rw [if_neg (by omega), if_pos (by omega), if_neg (by omega)]
        rw [show i - (min i (b.length - f) + (i - (b.length - f))) = 0 by omega]
        simp [List.getD, List.getElem?_eq_none (show b.length ≤ f + i by omega)]
    · rw [if_neg (by omega), if_neg (by omega), if_neg (by omega)]
      rw [List.getElem?_eq_none]
      simp; omega
theorem winS_length (b : List UInt8) (f k : Nat) : (winS b f k).length = k := by
  unfold winS; simp; omega
end Go.Proofs.YtagkcmoloceheaaDoor

