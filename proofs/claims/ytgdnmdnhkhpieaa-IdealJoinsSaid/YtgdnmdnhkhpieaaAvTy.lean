/-
  What the program says of its types.
-/
import Derived.Test.YtgdnmdnhkhpieaaAvW
import Derived.Test.YtgdnmdnhkhpieaaProg
import Derived.KernelRfl
set_option linter.unusedSimpArgs false
set_option linter.unusedVariables false
namespace Go.Proofs.Ytgdnmdnhkhpieaa

theorem ty3 :
    (szT Try.prog 3 = some 1) ∧
    (aggT Try.prog 3 = some false) ∧
    (undT Try.prog 3 = true) ∧
    (boolT Try.prog 3 = false) ∧
    (intT Try.prog 3 = some .i64) ∧
    (zeroT Try.prog 3 = some [.int .i64 0]) := by
  refine ⟨?_, ?_, ?_, ?_, ?_, ?_⟩ <;> kernel_rfl

theorem ty4 :
    (szT Try.prog 4 = some 1) ∧
    (aggT Try.prog 4 = some false) ∧
    (undT Try.prog 4 = true) ∧
    (boolT Try.prog 4 = true) ∧
    (zeroT Try.prog 4 = some [.bool false]) := by
  refine ⟨?_, ?_, ?_, ?_, ?_⟩ <;> kernel_rfl

theorem ty5 :
    (szT Try.prog 5 = some 1) ∧
    (aggT Try.prog 5 = some false) ∧
    (undT Try.prog 5 = true) ∧
    (boolT Try.prog 5 = false) ∧
    (intT Try.prog 5 = some .u8) ∧
    (zeroT Try.prog 5 = some [.int .u8 0]) := by
  refine ⟨?_, ?_, ?_, ?_, ?_, ?_⟩ <;> kernel_rfl

theorem ty22 :
    (szT Try.prog 22 = some 1) ∧
    (aggT Try.prog 22 = some false) ∧
    (undT Try.prog 22 = true) ∧
    (boolT Try.prog 22 = false) ∧
    (zeroT Try.prog 22 = some [.slice none 0 0]) ∧
    (slcT Try.prog 22 = some (58, 8, 96)) ∧
    (slcZ Try.prog 22 = some (58, 8, 96)) := by
  refine ⟨?_, ?_, ?_, ?_, ?_, ?_, ?_⟩ <;> kernel_rfl

theorem ty24 :
    (szT Try.prog 24 = some 1) ∧
    (aggT Try.prog 24 = some true) ∧
    (undT Try.prog 24 = true) ∧
    (boolT Try.prog 24 = false) ∧
    (zeroT Try.prog 24 = some [.slice none 0 0]) ∧
    (plT Try.prog 24 = some [(0, 1)]) ∧
    (fldT Try.prog 24 0 = some (0, 1, false)) := by
  refine ⟨?_, ?_, ?_, ?_, ?_, ?_, ?_⟩ <;> kernel_rfl

theorem ty25 :
    (szT Try.prog 25 = some 1) ∧
    (aggT Try.prog 25 = some false) ∧
    (undT Try.prog 25 = true) ∧
    (boolT Try.prog 25 = false) ∧
    (zeroT Try.prog 25 = some [.slice none 0 0]) ∧
    (slcT Try.prog 25 = some (66, 11, 88)) ∧
    (slcZ Try.prog 25 = some (66, 11, 88)) := by
  refine ⟨?_, ?_, ?_, ?_, ?_, ?_, ?_⟩ <;> kernel_rfl

theorem ty27 :
    (szT Try.prog 27 = some 1) ∧
    (aggT Try.prog 27 = some true) ∧
    (undT Try.prog 27 = true) ∧
    (boolT Try.prog 27 = false) ∧
    (zeroT Try.prog 27 = some [.slice none 0 0]) ∧
    (plT Try.prog 27 = some [(0, 1)]) ∧
    (fldT Try.prog 27 0 = some (0, 1, false)) := by
  refine ⟨?_, ?_, ?_, ?_, ?_, ?_, ?_⟩ <;> kernel_rfl

theorem ty28 :
    (szT Try.prog 28 = some 1) ∧
    (aggT Try.prog 28 = some false) ∧
    (undT Try.prog 28 = true) ∧
    (boolT Try.prog 28 = false) ∧
    (zeroT Try.prog 28 = some [.slice none 0 0]) ∧
    (slcT Try.prog 28 = some (69, 6, 48)) ∧
    (slcZ Try.prog 28 = some (69, 6, 48)) := by
  refine ⟨?_, ?_, ?_, ?_, ?_, ?_, ?_⟩ <;> kernel_rfl

theorem ty30 :
    (szT Try.prog 30 = some 3) ∧
    (aggT Try.prog 30 = some true) ∧
    (undT Try.prog 30 = true) ∧
    (boolT Try.prog 30 = false) ∧
    (zeroT Try.prog 30 = some [.slice none 0 0, .slice none 0 0, .slice none 0 0]) ∧
    (plT Try.prog 30 = some [(0, 1), (1, 1), (2, 1)]) ∧
    (fldT Try.prog 30 0 = some (0, 1, true)) ∧
    (fldT Try.prog 30 1 = some (1, 1, true)) ∧
    (fldT Try.prog 30 2 = some (2, 1, false)) := by
  refine ⟨?_, ?_, ?_, ?_, ?_, ?_, ?_, ?_, ?_⟩ <;> kernel_rfl

theorem ty31 :
    (szT Try.prog 31 = some 1) ∧
    (aggT Try.prog 31 = some false) ∧
    (undT Try.prog 31 = true) ∧
    (boolT Try.prog 31 = false) ∧
    (zeroT Try.prog 31 = some [.slice none 0 0]) ∧
    (slcT Try.prog 31 = some (71, 12, 88)) ∧
    (slcZ Try.prog 31 = some (71, 12, 88)) := by
  refine ⟨?_, ?_, ?_, ?_, ?_, ?_, ?_⟩ <;> kernel_rfl

theorem ty32 :
    (szT Try.prog 32 = some 1) ∧
    (aggT Try.prog 32 = some false) ∧
    (undT Try.prog 32 = true) ∧
    (boolT Try.prog 32 = false) ∧
    (intT Try.prog 32 = some .u64) ∧
    (zeroT Try.prog 32 = some [.int .u64 0]) := by
  refine ⟨?_, ?_, ?_, ?_, ?_, ?_⟩ <;> kernel_rfl

theorem ty33 :
    (szT Try.prog 33 = some 1) ∧
    (aggT Try.prog 33 = some false) ∧
    (undT Try.prog 33 = true) ∧
    (boolT Try.prog 33 = false) ∧
    (intT Try.prog 33 = some .u64) ∧
    (zeroT Try.prog 33 = some [.int .u64 0]) := by
  refine ⟨?_, ?_, ?_, ?_, ?_, ?_⟩ <;> kernel_rfl

theorem ty35 :
    (szT Try.prog 35 = some 4) ∧
    (aggT Try.prog 35 = some true) ∧
    (undT Try.prog 35 = true) ∧
    (boolT Try.prog 35 = false) ∧
    (zeroT Try.prog 35 = some [.int .u64 0, .int .u64 0, .int .u64 0, .int .u64 0]) ∧
    (eqTy Try.prog 6 35 = true) ∧
    (Try.prog.eqGuardType Try.prog.depth 35 = false) ∧
    (arrT Try.prog 35 = some (4, 1, false)) ∧
    (plT Try.prog 35 = some [(0, 1), (1, 1), (2, 1), (3, 1)]) := by
  refine ⟨?_, ?_, ?_, ?_, ?_, ?_, ?_, ?_, ?_⟩ <;> kernel_rfl

theorem ty37 :
    (szT Try.prog 37 = some 16) ∧
    (aggT Try.prog 37 = some true) ∧
    (undT Try.prog 37 = true) ∧
    (boolT Try.prog 37 = false) ∧
    (zeroT Try.prog 37 = some [.slice none 0 0, .slice none 0 0, .slice none 0 0, .slice none 0 0, .slice none 0 0, .slice none 0 0, .slice none 0 0, .int .u64 0, .int .u64 0, .int .u64 0, .int .u64 0, .int .u64 0, .int .u64 0, .int .u64 0, .int .u64 0, .int .u64 0]) ∧
    (plT Try.prog 37 = some [(0, 3), (3, 3), (6, 1), (7, 1), (8, 4), (12, 4)]) ∧
    (fldT Try.prog 37 0 = some (0, 3, true)) ∧
    (fldT Try.prog 37 1 = some (3, 3, true)) ∧
    (fldT Try.prog 37 2 = some (6, 1, false)) ∧
    (fldT Try.prog 37 3 = some (7, 1, false)) ∧
    (fldT Try.prog 37 4 = some (8, 4, true)) ∧
    (fldT Try.prog 37 5 = some (12, 4, true)) := by
  refine ⟨?_, ?_, ?_, ?_, ?_, ?_, ?_, ?_, ?_, ?_, ?_, ?_⟩ <;> kernel_rfl

theorem ty38 :
    (szT Try.prog 38 = some 1) ∧
    (aggT Try.prog 38 = some false) ∧
    (undT Try.prog 38 = true) ∧
    (boolT Try.prog 38 = false) ∧
    (zeroT Try.prog 38 = some [.nilFunc]) := by
  refine ⟨?_, ?_, ?_, ?_, ?_⟩ <;> kernel_rfl

theorem ty41 :
    (szT Try.prog 41 = some 1) ∧
    (aggT Try.prog 41 = some false) ∧
    (undT Try.prog 41 = true) ∧
    (boolT Try.prog 41 = false) ∧
    (intT Try.prog 41 = some .i64) ∧
    (zeroT Try.prog 41 = some [.int .i64 0]) := by
  refine ⟨?_, ?_, ?_, ?_, ?_, ?_⟩ <;> kernel_rfl

theorem ty55 :
    (szT Try.prog 55 = some 1) ∧
    (aggT Try.prog 55 = some false) ∧
    (undT Try.prog 55 = true) ∧
    (boolT Try.prog 55 = false) ∧
    (zeroT Try.prog 55 = some [.slice none 0 0]) ∧
    (slcT Try.prog 55 = some (5, 1, 1)) ∧
    (slcZ Try.prog 55 = some (5, 1, 1)) := by
  refine ⟨?_, ?_, ?_, ?_, ?_, ?_, ?_⟩ <;> kernel_rfl

theorem ty56 :
    (szT Try.prog 56 = some 1) ∧
    (aggT Try.prog 56 = some false) ∧
    (undT Try.prog 56 = true) ∧
    (boolT Try.prog 56 = false) ∧
    (zeroT Try.prog 56 = some [.slice none 0 0]) ∧
    (slcT Try.prog 56 = some (63, 8, 64)) ∧
    (slcZ Try.prog 56 = some (63, 8, 64)) := by
  refine ⟨?_, ?_, ?_, ?_, ?_, ?_, ?_⟩ <;> kernel_rfl

theorem ty58 :
    (szT Try.prog 58 = some 8) ∧
    (aggT Try.prog 58 = some true) ∧
    (undT Try.prog 58 = true) ∧
    (boolT Try.prog 58 = false) ∧
    (zeroT Try.prog 58 = some [.int .u64 0, .int .u64 0, .int .u64 0, .int .u64 0, .int .u64 0, .int .u64 0, .slice none 0 0, .slice none 0 0]) ∧
    (plT Try.prog 58 = some [(0, 1), (1, 4), (5, 1), (6, 1), (7, 1)]) ∧
    (fldT Try.prog 58 0 = some (0, 1, false)) ∧
    (fldT Try.prog 58 1 = some (1, 4, true)) ∧
    (fldT Try.prog 58 2 = some (5, 1, false)) ∧
    (fldT Try.prog 58 3 = some (6, 1, false)) ∧
    (fldT Try.prog 58 4 = some (7, 1, false)) := by
  refine ⟨?_, ?_, ?_, ?_, ?_, ?_, ?_, ?_, ?_, ?_, ?_⟩ <;> kernel_rfl

theorem ty63 :
    (szT Try.prog 63 = some 8) ∧
    (aggT Try.prog 63 = some true) ∧
    (undT Try.prog 63 = true) ∧
    (boolT Try.prog 63 = false) ∧
    (zeroT Try.prog 63 = some [.int .u64 0, .int .u64 0, .int .u64 0, .int .u64 0, .int .u64 0, .int .u64 0, .int .u64 0, .int .u64 0]) ∧
    (eqTy Try.prog 6 63 = true) ∧
    (Try.prog.eqGuardType Try.prog.depth 63 = false) ∧
    (plT Try.prog 63 = some [(0, 4), (4, 4)]) ∧
    (fldT Try.prog 63 0 = some (0, 4, true)) ∧
    (fldT Try.prog 63 1 = some (4, 4, true)) := by
  refine ⟨?_, ?_, ?_, ?_, ?_, ?_, ?_, ?_, ?_, ?_⟩ <;> kernel_rfl

theorem ty66 :
    (szT Try.prog 66 = some 11) ∧
    (aggT Try.prog 66 = some true) ∧
    (undT Try.prog 66 = true) ∧
    (boolT Try.prog 66 = false) ∧
    (zeroT Try.prog 66 = some [.int .u64 0, .int .u64 0, .int .u64 0, .int .u64 0, .int .u64 0, .int .u64 0, .int .u64 0, .int .u64 0, .int .u64 0, .int .u64 0, .int .u64 0]) ∧
    (eqTy Try.prog 6 66 = true) ∧
    (Try.prog.eqGuardType Try.prog.depth 66 = false) ∧
    (plT Try.prog 66 = some [(0, 1), (1, 4), (5, 4), (9, 1), (10, 1)]) ∧
    (fldT Try.prog 66 0 = some (0, 1, false)) ∧
    (fldT Try.prog 66 1 = some (1, 4, true)) ∧
    (fldT Try.prog 66 2 = some (5, 4, true)) ∧
    (fldT Try.prog 66 3 = some (9, 1, false)) ∧
    (fldT Try.prog 66 4 = some (10, 1, false)) := by
  refine ⟨?_, ?_, ?_, ?_, ?_, ?_, ?_, ?_, ?_, ?_, ?_, ?_, ?_⟩ <;> kernel_rfl

theorem ty69 :
    (szT Try.prog 69 = some 6) ∧
    (aggT Try.prog 69 = some true) ∧
    (undT Try.prog 69 = true) ∧
    (boolT Try.prog 69 = false) ∧
    (zeroT Try.prog 69 = some [.int .u64 0, .int .u64 0, .int .u64 0, .int .u64 0, .int .u64 0, .int .u64 0]) ∧
    (eqTy Try.prog 6 69 = true) ∧
    (Try.prog.eqGuardType Try.prog.depth 69 = false) ∧
    (plT Try.prog 69 = some [(0, 1), (1, 4), (5, 1)]) ∧
    (fldT Try.prog 69 0 = some (0, 1, false)) ∧
    (fldT Try.prog 69 1 = some (1, 4, true)) ∧
    (fldT Try.prog 69 2 = some (5, 1, false)) := by
  refine ⟨?_, ?_, ?_, ?_, ?_, ?_, ?_, ?_, ?_, ?_, ?_⟩ <;> kernel_rfl

theorem ty71 :
    (szT Try.prog 71 = some 12) ∧
    (aggT Try.prog 71 = some true) ∧
    (undT Try.prog 71 = true) ∧
    (boolT Try.prog 71 = false) ∧
    (zeroT Try.prog 71 = some [.int .u64 0, .int .u64 0, .int .u64 0, .int .u64 0, .int .u64 0, .int .u64 0, .int .u64 0, .int .u64 0, .int .u64 0, .int .u64 0, .bool false, .bool false]) ∧
    (plT Try.prog 71 = some [(0, 1), (1, 4), (5, 4), (9, 1), (10, 1), (11, 1)]) ∧
    (fldT Try.prog 71 0 = some (0, 1, false)) ∧
    (fldT Try.prog 71 1 = some (1, 4, true)) ∧
    (fldT Try.prog 71 2 = some (5, 4, true)) ∧
    (fldT Try.prog 71 3 = some (9, 1, false)) ∧
    (fldT Try.prog 71 4 = some (10, 1, false)) ∧
    (fldT Try.prog 71 5 = some (11, 1, false)) := by
  refine ⟨?_, ?_, ?_, ?_, ?_, ?_, ?_, ?_, ?_, ?_, ?_, ?_⟩ <;> kernel_rfl

theorem ty75 :
    (szT Try.prog 75 = some 5) ∧
    (aggT Try.prog 75 = some true) ∧
    (undT Try.prog 75 = true) ∧
    (boolT Try.prog 75 = false) ∧
    (zeroT Try.prog 75 = some [.bool false, .int .u64 0, .int .u64 0, .int .u64 0, .int .u64 0]) ∧
    (plT Try.prog 75 = some [(0, 1), (1, 4)]) ∧
    (fldT Try.prog 75 0 = some (0, 1, false)) ∧
    (fldT Try.prog 75 1 = some (1, 4, true)) := by
  refine ⟨?_, ?_, ?_, ?_, ?_, ?_, ?_, ?_⟩ <;> kernel_rfl

theorem ty81 :
    (szT Try.prog 81 = some 1) ∧
    (aggT Try.prog 81 = some false) ∧
    (undT Try.prog 81 = true) ∧
    (boolT Try.prog 81 = false) ∧
    (zeroT Try.prog 81 = some [.slice none 0 0]) ∧
    (slcT Try.prog 81 = some (35, 4, 32)) ∧
    (slcZ Try.prog 81 = some (35, 4, 32)) := by
  refine ⟨?_, ?_, ?_, ?_, ?_, ?_, ?_⟩ <;> kernel_rfl

theorem ty83 :
    (szT Try.prog 83 = some 5) ∧
    (aggT Try.prog 83 = some true) ∧
    (undT Try.prog 83 = true) ∧
    (boolT Try.prog 83 = false) ∧
    (zeroT Try.prog 83 = some [.nilFunc, .nilFunc, .nilFunc, .nilFunc, .nilFunc]) ∧
    (arrT Try.prog 83 = some (5, 1, false)) ∧
    (plT Try.prog 83 = some [(0, 1), (1, 1), (2, 1), (3, 1), (4, 1)]) := by
  refine ⟨?_, ?_, ?_, ?_, ?_, ?_, ?_⟩ <;> kernel_rfl

theorem ty86 :
    (szT Try.prog 86 = some 5) ∧
    (aggT Try.prog 86 = some true) ∧
    (undT Try.prog 86 = true) ∧
    (boolT Try.prog 86 = false) ∧
    (zeroT Try.prog 86 = some [.int .u64 0, .int .u64 0, .int .u64 0, .int .u64 0, .int .i64 0]) ∧
    (eqTy Try.prog 6 86 = true) ∧
    (Try.prog.eqGuardType Try.prog.depth 86 = false) ∧
    (plT Try.prog 86 = some [(0, 4), (4, 1)]) ∧
    (fldT Try.prog 86 0 = some (0, 4, true)) ∧
    (fldT Try.prog 86 1 = some (4, 1, false)) := by
  refine ⟨?_, ?_, ?_, ?_, ?_, ?_, ?_, ?_, ?_, ?_⟩ <;> kernel_rfl

theorem ty95 :
    (szT Try.prog 95 = some 1) ∧
    (aggT Try.prog 95 = some false) ∧
    (undT Try.prog 95 = true) ∧
    (boolT Try.prog 95 = false) ∧
    (zeroT Try.prog 95 = some [.slice none 0 0]) ∧
    (slcT Try.prog 95 = some (30, 3, 72)) ∧
    (slcZ Try.prog 95 = some (30, 3, 72)) := by
  refine ⟨?_, ?_, ?_, ?_, ?_, ?_, ?_⟩ <;> kernel_rfl

theorem ty118 :
    (szT Try.prog 118 = some 1) ∧
    (aggT Try.prog 118 = some false) ∧
    (undT Try.prog 118 = true) ∧
    (boolT Try.prog 118 = false) ∧
    (zeroT Try.prog 118 = some [.slice none 0 0]) ∧
    (slcT Try.prog 118 = some (3, 1, 8)) ∧
    (slcZ Try.prog 118 = some (3, 1, 8)) := by
  refine ⟨?_, ?_, ?_, ?_, ?_, ?_, ?_⟩ <;> kernel_rfl

theorem ty131 :
    (szT Try.prog 131 = some 5) ∧
    (aggT Try.prog 131 = some true) ∧
    (undT Try.prog 131 = true) ∧
    (boolT Try.prog 131 = false) ∧
    (zeroT Try.prog 131 = some [.int .u64 0, .int .u64 0, .int .u64 0, .int .u64 0, .int .u64 0]) ∧
    (eqTy Try.prog 6 131 = true) ∧
    (Try.prog.eqGuardType Try.prog.depth 131 = false) ∧
    (plT Try.prog 131 = some [(0, 1), (1, 4)]) ∧
    (fldT Try.prog 131 0 = some (0, 1, false)) ∧
    (fldT Try.prog 131 1 = some (1, 4, true)) := by
  refine ⟨?_, ?_, ?_, ?_, ?_, ?_, ?_, ?_, ?_, ?_⟩ <;> kernel_rfl

theorem ty141 :
    (szT Try.prog 141 = some 1) ∧
    (aggT Try.prog 141 = some false) ∧
    (undT Try.prog 141 = true) ∧
    (boolT Try.prog 141 = false) ∧
    (intT Try.prog 141 = some .u64) ∧
    (zeroT Try.prog 141 = some [.int .u64 0]) := by
  refine ⟨?_, ?_, ?_, ?_, ?_, ?_⟩ <;> kernel_rfl

attribute [go_sem] ty3 ty4 ty5 ty22 ty24 ty25 ty27 ty28 ty30 ty31 ty32 ty33 ty35 ty37 ty38 ty41 ty55 ty56 ty58 ty63 ty66 ty69 ty71 ty75 ty81 ty83 ty86 ty95 ty118 ty131 ty141
attribute [go_sem] St.free freeH evO ofV AV.cells pickAV evz bne_self_eq_false forall_const Nat.reduceBEq Nat.reduceBNe Nat.reduceAdd Nat.reduceLT Nat.reduceLeDiff Nat.reduceEqDiff Int.reduceLE Int.reduceLT Int.reduceToNat Nat.reduceMul Nat.reduceSub Nat.reduceDiv Nat.reduceMod reduceCtorEq
attribute [go_sem ↓] reduceIte

end Go.Proofs.Ytgdnmdnhkhpieaa
