/-
  The law's own 'wakes' of layer 1 (octet): it answers true.
-/
import Derived.Test.YtagkcmoloceheaaDoorOctH
namespace Go.Proofs.YtagkcmoloceheaaDoor
open Go.RowKit
set_option linter.unusedVariables false

theorem wk_window {A : Option Addr} {n c B : Nat} {w : World} (h : Sl w B 1 A n c (u8s [1, 2, 3])) :
    Calls Tryd.prog 22 #[.slice A n c, .int .u64 1, .int .i64 4] w (RetBE w ([2, 3, 0, 0], 0)) := by
  have e : winE [1, 2, 3] 1 4 = ([2, 3, 0, 0], 0) := by decide
  rw [← e]
  exact window_any (f := 1) h (by omega)
theorem wk_over {A C : Option Addr} {n c k d B M : Nat} {w : World} (h : Sl w B 1 A n c (u8s [1])) (h' : Sl w M 1 C k d (u8s [7])) :
    Calls Tryd.prog 23 #[.slice A n c, .int .u64 3, .slice C k d] w (RetBE w ([1, 0, 0, 7], 0)) := by
  have e : overE [1] 3 [7] = ([1, 0, 0, 7], 0) := by decide
  rw [← e]
  exact over_any (at_ := 3) h h' (by omega) (by have := h'.len8; simp at this; omega)
theorem wk_ahead {A : Option Addr} {n c B : Nat} {w : World} (h : Sl w B 1 A n c (u8s [7])) :
    Calls Tryd.prog 13 #[.slice A n c, .int .i64 3] w (RetBE w ([0, 0, 7], 0)) := by
  have e : aheadE [7] 3 = ([0, 0, 7], 0) := by decide
  rw [← e]
  exact ahead_any h (by omega)
theorem wk_noughts {A : Option Addr} {n c B : Nat} {w : World} (h : Sl w B 1 A n c (u8s [0, 7, 0])) :
    Calls Tryd.prog 7 #[.slice A n c] w fun e w' => e = .returned (.tuple #[.int .i64 2, .int .i64 1]) ∧ Below w.heap.size w w' := noughts_any h
theorem wk_put {A : Option Addr} {n c B : Nat} {w : World} (h : Sl w B 1 A n c (u8s [9])) :
    Calls Tryd.prog 21 #[.slice A n c, .int .u64 258] w (RetB w [9, 0, 0, 0, 0, 0, 0, 1, 2]) := by
  have e : [9] ++ beS 8 258 = [9, 0, 0, 0, 0, 0, 0, 1, 2] := by decide
  rw [← e]
  exact put64_any (x := 258) h (by omega) (by have := h.len8; simp at this; omega)
theorem wk_u64 {A : Option Addr} {n c B : Nat} {w : World} (h : Sl w B 1 A n c (u8s [9, 0, 0, 0, 0, 0, 0, 1, 2])) :
    Calls Tryd.prog 17 #[.slice A n c] w fun e w' => e = .returned (.int .u64 258) ∧ w = w' := by
  have e : numS [9, 0, 0, 0, 0, 0, 0, 1, 2] = 258 := by decide
  have := u64_any h
  rw [e] at this
  exact this
theorem eq_true {A B : Option Addr} {n m c d N M : Nat} {xs : List UInt8} {w : World} (hx : Sl w N 1 A n c (u8s xs)) (hy : Sl w M 1 B m d (u8s xs)) :
    Calls Tryd.prog 12 #[.slice A n c, .slice B m d] w fun e w' => e = .returned (.bool true) ∧ w = w' := by
  have := oequal_any hx hy
  simp only [decide_true] at this
  exact this
/-- a literal row -/
theorem lit8 {w : World} {cs : List Value} {l : List UInt8} {n g : Nat} (h : cs = u8s l) (hl : l.length = n) (hg : g = w.heap.size) (hn : n ≤ 4096) : Sl (w.alloc (.cells cs.toArray 5)) (g + 1) 1 (some ⟨g, 0, none⟩) n n (u8s l) := by
  subst h hg
  exact Sl.lit w _ _ _ _ (by unfold maxLen; omega) (by simp [u8s_length, hl])
theorem lit8a {w : World} {o : Obj} {cs : List Value} {l : List UInt8} {n g : Nat} (h : cs = u8s l) (hl : l.length = n) (hg : g = w.heap.size) (hn : n ≤ 4096) : Sl ((w.alloc (.cells cs.toArray 5)).alloc o) (g + 1) 1 (some ⟨g, 0, none⟩) n n (u8s l) :=
  (lit8 h hl hg hn).alloc o

set_option maxRecDepth 20000 in
set_option maxHeartbeats 1000000 in
theorem wakes_any {w : World} : Calls Tryd.prog 5 #[] w (RetT w true) := by
  go_enter Tryd.func5, Tryd.ntmps5
  go_wp2_with fail
  refine (wk_window (by exact lit8 rfl rfl (by simp) (by decide))).mono ?_
  rintro e w1 ⟨A1, n1, c1, rfl, ho1, hb1⟩
  have S1 := hide ho1.sl
  have HB := hide ((below_alloc w _).trans (hb1.mono (by simp only [World.size_alloc]; omega)))
  clear ho1 hb1
  go_wp2_with fail
  refine (wk_over (by exact lit8a rfl rfl rfl (by decide)) (by exact lit8 rfl rfl (by simp) (by decide))).mono ?_
  rintro e w2 ⟨A2, n2, c2, rfl, ho2, hb2⟩
  have S2 := hide ho2.sl
  have S1' := hide (((S1.out.alloc _).alloc _).below hb2)
  have HB2 := hide (below_then HB.out (((below_alloc w1 _).trans ((below_alloc _ _).mono (by simp only [World.size_alloc]; omega))).trans (hb2.mono (by simp only [World.size_alloc]; omega))))
  clear S1 HB ho2 hb2
  go_wp2_with fail
  refine (wk_ahead (by exact lit8 rfl rfl (by simp) (by decide))).mono ?_
  rintro e w3 ⟨A3, n3, c3, rfl, ho3, hb3⟩
  have S3 := hide ho3.sl
  have S1 := hide ((S1'.out.alloc _).below hb3)
  have S2' := hide ((S2.out.alloc _).below hb3)
  have HB := hide (below_then HB2.out ((below_alloc w2 _).trans (hb3.mono (by simp only [World.size_alloc]; omega))))
  clear S1' S2 HB2 ho3 hb3
  go_wp2_with fail
  refine (wk_noughts (by exact lit8 rfl rfl (by simp) (by decide))).mono ?_
  rintro e w4 ⟨rfl, hb4⟩
  have S1' := hide ((S1.out.alloc _).below hb4)
  have S2 := hide ((S2'.out.alloc _).below hb4)
  have S3' := hide ((S3.out.alloc _).below hb4)
  have HB2 := hide (below_then HB.out ((below_alloc w3 _).trans (hb4.mono (by simp only [World.size_alloc]; omega))))
  clear S1 S2' S3 HB hb4
  go_wp2_with fail
  refine (eq_true (S1'.out.alloc _) (by exact lit8 rfl rfl (by simp) (by decide))).mono ?_
  rintro e w5 ⟨rfl, rfl⟩
  go_wp2_with fail
  refine (eq_true ((S2.out.alloc _).alloc _) (by exact lit8 rfl rfl (by simp) (by decide))).mono ?_
  rintro e w5 ⟨rfl, rfl⟩
  go_wp2_with fail
  refine (eq_true (((S3'.out.alloc _).alloc _).alloc _) (by exact lit8 rfl rfl (by simp) (by decide))).mono ?_
  rintro e w5 ⟨rfl, rfl⟩
  go_wp2_with fail
  refine (wk_put (by exact lit8 rfl rfl (by simp) (by decide))).mono ?_
  rintro e w5 ⟨A5, n5, c5, rfl, ho5, hb5⟩
  go_wp2_with fail
  refine (wk_u64 ho5.sl).mono ?_
  rintro e w6 ⟨rfl, rfl⟩
  go_wp2_with fail
  go_ret
  refine ⟨rfl, ?_⟩
  exact below_then (below_step (below_step (below_step (below_step HB2.out _) _) _) _) hb5
end Go.Proofs.YtagkcmoloceheaaDoor
