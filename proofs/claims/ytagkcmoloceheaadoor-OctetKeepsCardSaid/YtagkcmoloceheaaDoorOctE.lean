/-
  Walks of layer 1 (octet): Equal, Noughts, some, Both, High, Put64; the reference's At and Window.
-/
import Derived.Test.YtagkcmoloceheaaDoorOctD
import Derived.Test.YtagkcmoloceheaaDoorBytes
namespace Go.Proofs.YtagkcmoloceheaaDoor
open Go.RowKit
set_option linter.unusedVariables false

set_option maxRecDepth 20000 in
set_option maxHeartbeats 400000 in
theorem bequal_any {A B : Option Addr} {n m c d N M : Nat} {xs ys : List UInt8} {w : World} (hx : Sl w N 1 A n c (u8s xs)) (hy : Sl w M 1 B m d (u8s ys)) :
    Calls Tryd.prog 19 #[.slice A n c, .slice B m d] w fun e w' => e = .returned (.bool (decide (xs = ys))) ∧ w = w' := by
  have h1 := conv8 Tryd.underlying25 Tryd.underlying5 Tryd.underlying9 hx
  have h2 := conv8 Tryd.underlying25 Tryd.underlying5 Tryd.underlying9 hy
  have h3 := str_eq xs ys
  have H3 := hide h3
  clear hx hy h3
  go_enter Tryd.func19, Tryd.ntmps19
  go_wp2
  go_ret
  exact ⟨by rw [← Bool.beq_eq_decide_eq] <;> rfl, rfl⟩

set_option maxRecDepth 20000 in
set_option maxHeartbeats 400000 in
theorem oequal_any {A B : Option Addr} {n m c d N M : Nat} {xs ys : List UInt8} {w : World} (hx : Sl w N 1 A n c (u8s xs)) (hy : Sl w M 1 B m d (u8s ys)) :
    Calls Tryd.prog 12 #[.slice A n c, .slice B m d] w fun e w' => e = .returned (.bool (decide (xs = ys))) ∧ w = w' := by
  have HX := hide hx; have HY := hide hy; clear hx hy
  go_enter Tryd.func12, Tryd.ntmps12
  go_wp2_with (go_at_call 19; refine (bequal_any HX.out HY.out).mono ?_; rintro e w1 ⟨rfl, rfl⟩)
  go_ret
  exact ⟨rfl, rfl⟩

set_option maxRecDepth 20000 in
set_option maxHeartbeats 400000 in
theorem bcount_any {A : Option Addr} {n c N b2 d : Nat} {xs : List UInt8} {w : World} (hx : Sl w N 1 A n c (u8s xs)) (hc2 : w.cell? ⟨b2, 0, none⟩ = some (.int .u8 0)) :
    Calls Tryd.prog 25 #[.slice A n c, .slice (some ⟨b2, 0, none⟩) 1 d] w fun e w' => e = .returned (.int .i64 (zerosS xs : Nat)) ∧ w = w' := by
  have h1 : (Extern.BytealgCount.count #[.slice A n c, .int .u8 0]).run Tryd.prog w = .ok (.int .i64 (zerosS xs : Nat)) w := count8 (P := Tryd.prog) hx 0
  have H1 := hide h1
  clear h1 hx
  go_enter Tryd.func25, Tryd.ntmps25
  go_wp2
  rw [run_callFunc_extern Tryd.func36 (by kernel_rfl) (by kernel_rfl) (by kernel_rfl) (e := Extern.BytealgCount.count) (by kernel_rfl), H1.out]
  simp only [Result.andThen]
  rw [Oper.upon_value]
  go_wp2
  go_ret
  exact ⟨rfl, rfl⟩

/-- Noughts: both numbers -/
def RetNN (w : World) (l : List UInt8) : Ending → World → Prop := fun e w' =>
  e = .returned (.tuple #[.int .i64 (zerosS l : Nat), .int .i64 (l.length - zerosS l : Nat)]) ∧ Below w.heap.size w w'
set_option maxRecDepth 20000 in
set_option maxHeartbeats 400000 in
theorem noughts_any {A : Option Addr} {n c N : Nat} {xs : List UInt8} {w : World} (hx : Sl w N 1 A n c (u8s xs)) :
    Calls Tryd.prog 7 #[.slice A n c] w (RetNN w xs) := by
  have hl := hx.len8
  have hz := zerosS_le xs
  have hn := hx.n_le; have hn' := hx.c_le'
  have h1 : ((xs.length - zerosS xs : Nat) : Int) = (n : Int) - (zerosS xs : Nat) := by omega
  have hz' : zerosS xs ≤ n := by omega
  have H1 := hide h1; have HX := hide hx
  clear hl hz h1 hx
  go_enter Tryd.func7, Tryd.ntmps7
  go_wp2_with (go_at_call 25; refine (bcount_any (HX.out.alloc _) (by simp)).mono ?_; rintro e w1 ⟨rfl, rfl⟩)
  go_ret2
  exact ⟨ret_ii rfl H1.out.symm, below_alloc _ _⟩

set_option maxRecDepth 20000 in
set_option maxHeartbeats 400000 in
theorem some_any {A : Option Addr} {n c N : Nat} {xs : List UInt8} {w : World} (hx : Sl w N 1 A n c (u8s xs)) :
    Calls Tryd.prog 16 #[.slice A n c] w (RetB w (xs.take 300)) := by
  have hn := hx.n_le; have hn' := hx.c_le'
  have hl := hx.len8
  have hcut := (hx.upto (m := min n 300) (by omega))
  rw [u8s_take, Nat.mul_one] at hcut
  have e : xs.take (min n 300) = xs.take 300 := by rw [← hl, Nat.min_comm, List.take_eq_take_iff]; omega
  rw [e] at hcut
  have e2 : (xs.take 300).take 4097 = xs.take 300 := by rw [List.take_take]; rfl
  have H2 := hide e2
  have HX := hide hcut; clear hcut hx hl e e2
  by_cases h : n ≤ 300
  · have e : min n 300 = n := by omega
    rw [e] at HX
    have hm : min (n : Int) 300 = n := by omega
    clear e
    go_enter Tryd.func16, Tryd.ntmps16
    go_wp2_with (go_at_call 6; refine (few_any HX.out).mono ?_; rintro e w1 ⟨A1, n1, c1, rfl, ho, hb⟩)
    go_ret
    rw [H2.out] at ho
    exact ⟨_, _, _, rfl, ho, hb⟩
  · have e : min n 300 = 300 := by omega
    rw [e] at HX
    have hm : min (n : Int) 300 = 300 := by omega
    clear e
    go_enter Tryd.func16, Tryd.ntmps16
    go_wp2_with (go_at_call 6; refine (few_any HX.out).mono ?_; rintro e w1 ⟨A1, n1, c1, rfl, ho, hb⟩)
    go_ret
    rw [H2.out] at ho
    exact ⟨_, _, _, rfl, ho, hb⟩

set_option maxRecDepth 20000 in
set_option maxHeartbeats 400000 in
theorem both_any {A B : Option Addr} {n m c d N M : Nat} {xs ys : List UInt8} {w : World} (hx : Sl w N 1 A n c (u8s xs)) (hy : Sl w M 1 B m d (u8s ys)) (hs : n + m ≤ 140737488355328) :
    Calls Tryd.prog 28 #[.slice A n c, .slice B m d] w (RetB w (xs ++ ys)) := by
  have HX := hide hx; have HY := hide hy; clear hx hy
  go_enter Tryd.func28, Tryd.ntmps28
  go_wp2_with (first
    | (at_make; refine wpList_mk0 rfl _ _ _ rfl 5 _ 1 1 Tryd.underlying25 u8info _ _ _ (n + m) rfl rfl (by omega) (by omega) (by omega) ?_; intro w2 how hbl hsz)
    | (at_builtin; show wpList _ _ _ (⟨some 14, _, _, _, _, _⟩ :: _) _ _; refine wpList_app rfl (.tmp 12) (.tmp 13) _ rfl w.heap.size 5 _ 1 1 Tryd.underlying25 u8info rfl (by omega) (by omega) _ 0 _ [] rfl how N _ n _ (u8s xs) rfl (HX.out.below hbl) (u8s_one _) (by omega) (by omega) ?_; intro A3 c3 w3 how3 hbl3; simp only [Nat.zero_add, List.nil_append] at how3)
    | (at_builtin; show wpList _ _ _ (⟨some 16, _, _, _, _, _⟩ :: _) _ _; refine wpList_app rfl (.tmp 14) (.tmp 15) _ rfl w.heap.size 5 _ 1 1 Tryd.underlying25 u8info rfl (by omega) (by omega) _ _ _ _ rfl how3 w.heap.size _ m _ (u8s ys) rfl (((HY.out.tight (by omega)).below hbl).belowB hbl3) (u8s_one _) (by omega) (by have := hbl3.size; omega) ?_; intro A4 c4 w4 how4 hbl4))
  go_ret
  exact ⟨_, _, _, rfl, by rw [u8s_append]; simpa using how4, (hbl.trans hbl3).trans hbl4⟩

/-- the byte at a place -/
def atS (b : List UInt8) (i : Nat) : UInt8 := b.getD i 0
end Go.Proofs.YtagkcmoloceheaaDoor

