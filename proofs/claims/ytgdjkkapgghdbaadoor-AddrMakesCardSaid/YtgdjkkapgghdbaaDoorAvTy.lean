/-
  What the program says of its types.
-/
import Derived.Test.YtgdjkkapgghdbaaDoorAvW
import Derived.Test.YtgdjkkapgghdbaaDoorProg
import Derived.KernelRfl
namespace Go.Proofs.YtgdjkkapgghdbaaDoor

theorem ty3 :
    (szT Tryd.prog 3 = some 1) ∧
    (aggT Tryd.prog 3 = some false) ∧
    (undT Tryd.prog 3 = true) ∧
    (boolT Tryd.prog 3 = false) ∧
    (intT Tryd.prog 3 = some .i64) ∧
    (zeroT Tryd.prog 3 = some [.int .i64 0]) := by
  refine ⟨?_, ?_, ?_, ?_, ?_, ?_⟩ <;> kernel_rfl

theorem ty4 :
    (szT Tryd.prog 4 = some 1) ∧
    (aggT Tryd.prog 4 = some false) ∧
    (undT Tryd.prog 4 = true) ∧
    (boolT Tryd.prog 4 = true) ∧
    (zeroT Tryd.prog 4 = some [.bool false]) := by
  refine ⟨?_, ?_, ?_, ?_, ?_⟩ <;> kernel_rfl

theorem ty5 :
    (szT Tryd.prog 5 = some 1) ∧
    (aggT Tryd.prog 5 = some false) ∧
    (undT Tryd.prog 5 = true) ∧
    (boolT Tryd.prog 5 = false) ∧
    (intT Tryd.prog 5 = some .u8) ∧
    (zeroT Tryd.prog 5 = some [.int .u8 0]) := by
  refine ⟨?_, ?_, ?_, ?_, ?_, ?_⟩ <;> kernel_rfl

theorem ty22 :
    (szT Tryd.prog 22 = some 1) ∧
    (aggT Tryd.prog 22 = some false) ∧
    (undT Tryd.prog 22 = true) ∧
    (boolT Tryd.prog 22 = false) ∧
    (intT Tryd.prog 22 = some .u64) ∧
    (zeroT Tryd.prog 22 = some [.int .u64 0]) := by
  refine ⟨?_, ?_, ?_, ?_, ?_, ?_⟩ <;> kernel_rfl

theorem ty23 :
    (szT Tryd.prog 23 = some 1) ∧
    (aggT Tryd.prog 23 = some false) ∧
    (undT Tryd.prog 23 = true) ∧
    (boolT Tryd.prog 23 = false) ∧
    (intT Tryd.prog 23 = some .u64) ∧
    (zeroT Tryd.prog 23 = some [.int .u64 0]) := by
  refine ⟨?_, ?_, ?_, ?_, ?_, ?_⟩ <;> kernel_rfl

theorem ty25 :
    (szT Tryd.prog 25 = some 4) ∧
    (aggT Tryd.prog 25 = some true) ∧
    (undT Tryd.prog 25 = true) ∧
    (boolT Tryd.prog 25 = false) ∧
    (zeroT Tryd.prog 25 = some [.int .u64 0, .int .u64 0, .int .u64 0, .int .u64 0]) ∧
    (eqTy Tryd.prog 6 25 = true) ∧
    (Tryd.prog.eqGuardType Tryd.prog.depth 25 = false) ∧
    (arrT Tryd.prog 25 = some (4, 1, false)) ∧
    (plT Tryd.prog 25 = some [(0, 1), (1, 1), (2, 1), (3, 1)]) := by
  refine ⟨?_, ?_, ?_, ?_, ?_, ?_, ?_, ?_, ?_⟩ <;> kernel_rfl

theorem ty26 :
    (szT Tryd.prog 26 = some 1) ∧
    (aggT Tryd.prog 26 = some false) ∧
    (undT Tryd.prog 26 = true) ∧
    (boolT Tryd.prog 26 = false) ∧
    (zeroT Tryd.prog 26 = some [.slice none 0 0]) ∧
    (slcT Tryd.prog 26 = some (5, 1, 1)) ∧
    (slcZ Tryd.prog 26 = some (5, 1, 1)) := by
  refine ⟨?_, ?_, ?_, ?_, ?_, ?_, ?_⟩ <;> kernel_rfl

theorem ty34 :
    (szT Tryd.prog 34 = some 1) ∧
    (aggT Tryd.prog 34 = some false) ∧
    (undT Tryd.prog 34 = true) ∧
    (boolT Tryd.prog 34 = false) ∧
    (intT Tryd.prog 34 = some .i64) ∧
    (zeroT Tryd.prog 34 = some [.int .i64 0]) := by
  refine ⟨?_, ?_, ?_, ?_, ?_, ?_⟩ <;> kernel_rfl

theorem ty37 :
    (szT Tryd.prog 37 = some 1) ∧
    (aggT Tryd.prog 37 = some false) ∧
    (undT Tryd.prog 37 = true) ∧
    (boolT Tryd.prog 37 = false) ∧
    (zeroT Tryd.prog 37 = some [.slice none 0 0]) ∧
    (slcT Tryd.prog 37 = some (23, 1, 8)) ∧
    (slcZ Tryd.prog 37 = some (23, 1, 8)) := by
  refine ⟨?_, ?_, ?_, ?_, ?_, ?_, ?_⟩ <;> kernel_rfl

theorem ty41 :
    (szT Tryd.prog 41 = some 32) ∧
    (aggT Tryd.prog 41 = some true) ∧
    (undT Tryd.prog 41 = true) ∧
    (boolT Tryd.prog 41 = false) ∧
    (zeroT Tryd.prog 41 = some [.int .u8 0, .int .u8 0, .int .u8 0, .int .u8 0, .int .u8 0, .int .u8 0, .int .u8 0, .int .u8 0, .int .u8 0, .int .u8 0, .int .u8 0, .int .u8 0, .int .u8 0, .int .u8 0, .int .u8 0, .int .u8 0, .int .u8 0, .int .u8 0, .int .u8 0, .int .u8 0, .int .u8 0, .int .u8 0, .int .u8 0, .int .u8 0, .int .u8 0, .int .u8 0, .int .u8 0, .int .u8 0, .int .u8 0, .int .u8 0, .int .u8 0, .int .u8 0]) ∧
    (eqTy Tryd.prog 6 41 = true) ∧
    (Tryd.prog.eqGuardType Tryd.prog.depth 41 = false) ∧
    (arrT Tryd.prog 41 = some (32, 1, false)) ∧
    (plT Tryd.prog 41 = some [(0, 1), (1, 1), (2, 1), (3, 1), (4, 1), (5, 1), (6, 1), (7, 1), (8, 1), (9, 1), (10, 1), (11, 1), (12, 1), (13, 1), (14, 1), (15, 1), (16, 1), (17, 1), (18, 1), (19, 1), (20, 1), (21, 1), (22, 1), (23, 1), (24, 1), (25, 1), (26, 1), (27, 1), (28, 1), (29, 1), (30, 1), (31, 1)]) := by
  refine ⟨?_, ?_, ?_, ?_, ?_, ?_, ?_, ?_, ?_⟩ <;> kernel_rfl

theorem ty50 :
    (szT Tryd.prog 50 = some 1) ∧
    (aggT Tryd.prog 50 = some false) ∧
    (undT Tryd.prog 50 = true) ∧
    (boolT Tryd.prog 50 = false) ∧
    (intT Tryd.prog 50 = some .u64) ∧
    (zeroT Tryd.prog 50 = some [.int .u64 0]) := by
  refine ⟨?_, ?_, ?_, ?_, ?_, ?_⟩ <;> kernel_rfl

theorem ty58 :
    (szT Tryd.prog 58 = some 25) ∧
    (aggT Tryd.prog 58 = some true) ∧
    (undT Tryd.prog 58 = true) ∧
    (boolT Tryd.prog 58 = false) ∧
    (zeroT Tryd.prog 58 = some [.int .u64 0, .int .u64 0, .int .u64 0, .int .u64 0, .int .u64 0, .int .u64 0, .int .u64 0, .int .u64 0, .int .u64 0, .int .u64 0, .int .u64 0, .int .u64 0, .int .u64 0, .int .u64 0, .int .u64 0, .int .u64 0, .int .u64 0, .int .u64 0, .int .u64 0, .int .u64 0, .int .u64 0, .int .u64 0, .int .u64 0, .int .u64 0, .int .u64 0]) ∧
    (eqTy Tryd.prog 6 58 = true) ∧
    (Tryd.prog.eqGuardType Tryd.prog.depth 58 = false) ∧
    (arrT Tryd.prog 58 = some (25, 1, false)) ∧
    (plT Tryd.prog 58 = some [(0, 1), (1, 1), (2, 1), (3, 1), (4, 1), (5, 1), (6, 1), (7, 1), (8, 1), (9, 1), (10, 1), (11, 1), (12, 1), (13, 1), (14, 1), (15, 1), (16, 1), (17, 1), (18, 1), (19, 1), (20, 1), (21, 1), (22, 1), (23, 1), (24, 1)]) := by
  refine ⟨?_, ?_, ?_, ?_, ?_, ?_, ?_, ?_, ?_⟩ <;> kernel_rfl

theorem ty63 :
    (szT Tryd.prog 63 = some 1) ∧
    (aggT Tryd.prog 63 = some false) ∧
    (undT Tryd.prog 63 = true) ∧
    (boolT Tryd.prog 63 = false) ∧
    (zeroT Tryd.prog 63 = some [.slice none 0 0]) ∧
    (slcT Tryd.prog 63 = some (26, 1, 24)) ∧
    (slcZ Tryd.prog 63 = some (26, 1, 24)) := by
  refine ⟨?_, ?_, ?_, ?_, ?_, ?_, ?_⟩ <;> kernel_rfl

theorem ty71 :
    (szT Tryd.prog 71 = some 24) ∧
    (aggT Tryd.prog 71 = some true) ∧
    (undT Tryd.prog 71 = true) ∧
    (boolT Tryd.prog 71 = false) ∧
    (zeroT Tryd.prog 71 = some [.int .u64 0, .int .u64 0, .int .u64 0, .int .u64 0, .int .u64 0, .int .u64 0, .int .u64 0, .int .u64 0, .int .u64 0, .int .u64 0, .int .u64 0, .int .u64 0, .int .u64 0, .int .u64 0, .int .u64 0, .int .u64 0, .int .u64 0, .int .u64 0, .int .u64 0, .int .u64 0, .int .u64 0, .int .u64 0, .int .u64 0, .int .u64 0]) ∧
    (eqTy Tryd.prog 6 71 = true) ∧
    (Tryd.prog.eqGuardType Tryd.prog.depth 71 = false) ∧
    (arrT Tryd.prog 71 = some (24, 1, false)) ∧
    (plT Tryd.prog 71 = some [(0, 1), (1, 1), (2, 1), (3, 1), (4, 1), (5, 1), (6, 1), (7, 1), (8, 1), (9, 1), (10, 1), (11, 1), (12, 1), (13, 1), (14, 1), (15, 1), (16, 1), (17, 1), (18, 1), (19, 1), (20, 1), (21, 1), (22, 1), (23, 1)]) := by
  refine ⟨?_, ?_, ?_, ?_, ?_, ?_, ?_, ?_, ?_⟩ <;> kernel_rfl

theorem ty98 :
    (szT Tryd.prog 98 = some 5) ∧
    (aggT Tryd.prog 98 = some true) ∧
    (undT Tryd.prog 98 = true) ∧
    (boolT Tryd.prog 98 = false) ∧
    (zeroT Tryd.prog 98 = some [.int .u64 0, .int .u64 0, .int .u64 0, .int .u64 0, .int .u64 0]) ∧
    (eqTy Tryd.prog 6 98 = true) ∧
    (Tryd.prog.eqGuardType Tryd.prog.depth 98 = false) ∧
    (arrT Tryd.prog 98 = some (5, 1, false)) ∧
    (plT Tryd.prog 98 = some [(0, 1), (1, 1), (2, 1), (3, 1), (4, 1)]) := by
  refine ⟨?_, ?_, ?_, ?_, ?_, ?_, ?_, ?_, ?_⟩ <;> kernel_rfl

theorem ty100 :
    (szT Tryd.prog 100 = some 25) ∧
    (aggT Tryd.prog 100 = some true) ∧
    (undT Tryd.prog 100 = true) ∧
    (boolT Tryd.prog 100 = false) ∧
    (zeroT Tryd.prog 100 = some [.int .i64 0, .int .i64 0, .int .i64 0, .int .i64 0, .int .i64 0, .int .i64 0, .int .i64 0, .int .i64 0, .int .i64 0, .int .i64 0, .int .i64 0, .int .i64 0, .int .i64 0, .int .i64 0, .int .i64 0, .int .i64 0, .int .i64 0, .int .i64 0, .int .i64 0, .int .i64 0, .int .i64 0, .int .i64 0, .int .i64 0, .int .i64 0, .int .i64 0]) ∧
    (eqTy Tryd.prog 6 100 = true) ∧
    (Tryd.prog.eqGuardType Tryd.prog.depth 100 = false) ∧
    (arrT Tryd.prog 100 = some (25, 1, false)) ∧
    (plT Tryd.prog 100 = some [(0, 1), (1, 1), (2, 1), (3, 1), (4, 1), (5, 1), (6, 1), (7, 1), (8, 1), (9, 1), (10, 1), (11, 1), (12, 1), (13, 1), (14, 1), (15, 1), (16, 1), (17, 1), (18, 1), (19, 1), (20, 1), (21, 1), (22, 1), (23, 1), (24, 1)]) := by
  refine ⟨?_, ?_, ?_, ?_, ?_, ?_, ?_, ?_, ?_⟩ <;> kernel_rfl

attribute [go_sem] ty3 ty4 ty5 ty22 ty23 ty25 ty26 ty34 ty37 ty41 ty50 ty58 ty63 ty71 ty98 ty100
attribute [go_sem] St.free freeH evO ofV AV.cells pickAV evz bne_self_eq_false forall_const Nat.reduceBEq Nat.reduceBNe Nat.reduceAdd Nat.reduceLT Nat.reduceLeDiff Nat.reduceEqDiff Int.reduceLE Int.reduceLT Int.reduceToNat Nat.reduceMul Nat.reduceSub Nat.reduceDiv Nat.reduceMod reduceCtorEq
attribute [go_sem ↓] reduceIte

end Go.Proofs.YtgdjkkapgghdbaaDoor

