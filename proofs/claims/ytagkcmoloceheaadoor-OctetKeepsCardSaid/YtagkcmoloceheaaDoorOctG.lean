/-
  Walks of layer 1 (octet): the reference's Window; padded, Ahead.
-/
import Derived.Test.YtagkcmoloceheaaDoorOctF
namespace Go.Proofs.YtagkcmoloceheaaDoor
open Go.RowKit
set_option linter.unusedVariables false

theorem withinS_ok {N : Int} (h0 : 0 ≤ N) (h1 : N ≤ 4096) : withinS N = 0 := by unfold withinS; rw [if_neg (by omega), if_neg (by omega)]
theorem winE_neg {b : List UInt8} {f : Nat} {N : Int} (h : N < 0) : winE b f N = ([], 2) := by
  have : withinS N = 2 := by unfold withinS; rw [if_pos h]
  unfold winE madeS; rw [if_neg (by omega), this]
theorem winE_long {b : List UInt8} {f : Nat} {N : Int} (h : 4096 < N) : winE b f N = ([], 3) := by
  have : withinS N = 3 := by unfold withinS; rw [if_neg (by omega), if_pos (by omega)]
  unfold winE madeS; rw [if_neg (by omega), this]
theorem winE_ok {b : List UInt8} {f n : Nat} (h : n ≤ 4096) : winE b f (n : Int) = (winS b f n, 0) := by
  unfold winE madeS; rw [if_pos (withinS_ok (by omega) (by omega)), Int.toNat_natCast]

end Go.Proofs.YtagkcmoloceheaaDoor

