/-
  What the program says of its types.
-/
import Derived.Test.YtgdnmdnhkhpieaaGreatAvW
import Derived.Test.YtgdnmdnhkhpieaaGreatProg
import Derived.KernelRfl
set_option linter.unusedSimpArgs false
set_option linter.unusedVariables false
namespace Go.Proofs.YtgdnmdnhkhpieaaGreat

theorem ty3 :
    (szT Tryz.prog 3 = some 1) ∧
    (aggT Tryz.prog 3 = some false) ∧
    (undT Tryz.prog 3 = true) ∧
    (boolT Tryz.prog 3 = false) ∧
    (intT Tryz.prog 3 = some .i64) ∧
    (zeroT Tryz.prog 3 = some [.int .i64 0]) := by
  refine ⟨?_, ?_, ?_, ?_, ?_, ?_⟩ <;> kernel_rfl

theorem ty4 :
    (szT Tryz.prog 4 = some 1) ∧
    (aggT Tryz.prog 4 = some false) ∧
    (undT Tryz.prog 4 = true) ∧
    (boolT Tryz.prog 4 = true) ∧
    (zeroT Tryz.prog 4 = some [.bool false]) := by
  refine ⟨?_, ?_, ?_, ?_, ?_⟩ <;> kernel_rfl

theorem ty5 :
    (szT Tryz.prog 5 = some 1) ∧
    (aggT Tryz.prog 5 = some false) ∧
    (undT Tryz.prog 5 = true) ∧
    (boolT Tryz.prog 5 = false) ∧
    (intT Tryz.prog 5 = some .u8) ∧
    (zeroT Tryz.prog 5 = some [.int .u8 0]) := by
  refine ⟨?_, ?_, ?_, ?_, ?_, ?_⟩ <;> kernel_rfl

theorem ty22 :
    (szT Tryz.prog 22 = some 1) ∧
    (aggT Tryz.prog 22 = some false) ∧
    (undT Tryz.prog 22 = true) ∧
    (boolT Tryz.prog 22 = false) ∧
    (zeroT Tryz.prog 22 = some [.slice none 0 0]) ∧
    (slcT Tryz.prog 22 = some (57, 8, 96)) ∧
    (slcZ Tryz.prog 22 = some (57, 8, 96)) := by
  refine ⟨?_, ?_, ?_, ?_, ?_, ?_, ?_⟩ <;> kernel_rfl

theorem ty24 :
    (szT Tryz.prog 24 = some 1) ∧
    (aggT Tryz.prog 24 = some true) ∧
    (undT Tryz.prog 24 = true) ∧
    (boolT Tryz.prog 24 = false) ∧
    (zeroT Tryz.prog 24 = some [.slice none 0 0]) ∧
    (plT Tryz.prog 24 = some [(0, 1)]) ∧
    (fldT Tryz.prog 24 0 = some (0, 1, false)) := by
  refine ⟨?_, ?_, ?_, ?_, ?_, ?_, ?_⟩ <;> kernel_rfl

theorem ty25 :
    (szT Tryz.prog 25 = some 1) ∧
    (aggT Tryz.prog 25 = some false) ∧
    (undT Tryz.prog 25 = true) ∧
    (boolT Tryz.prog 25 = false) ∧
    (zeroT Tryz.prog 25 = some [.slice none 0 0]) ∧
    (slcT Tryz.prog 25 = some (65, 11, 88)) ∧
    (slcZ Tryz.prog 25 = some (65, 11, 88)) := by
  refine ⟨?_, ?_, ?_, ?_, ?_, ?_, ?_⟩ <;> kernel_rfl

theorem ty27 :
    (szT Tryz.prog 27 = some 1) ∧
    (aggT Tryz.prog 27 = some true) ∧
    (undT Tryz.prog 27 = true) ∧
    (boolT Tryz.prog 27 = false) ∧
    (zeroT Tryz.prog 27 = some [.slice none 0 0]) ∧
    (plT Tryz.prog 27 = some [(0, 1)]) ∧
    (fldT Tryz.prog 27 0 = some (0, 1, false)) := by
  refine ⟨?_, ?_, ?_, ?_, ?_, ?_, ?_⟩ <;> kernel_rfl

theorem ty28 :
    (szT Tryz.prog 28 = some 1) ∧
    (aggT Tryz.prog 28 = some false) ∧
    (undT Tryz.prog 28 = true) ∧
    (boolT Tryz.prog 28 = false) ∧
    (zeroT Tryz.prog 28 = some [.slice none 0 0]) ∧
    (slcT Tryz.prog 28 = some (68, 6, 48)) ∧
    (slcZ Tryz.prog 28 = some (68, 6, 48)) := by
  refine ⟨?_, ?_, ?_, ?_, ?_, ?_, ?_⟩ <;> kernel_rfl

theorem ty30 :
    (szT Tryz.prog 30 = some 3) ∧
    (aggT Tryz.prog 30 = some true) ∧
    (undT Tryz.prog 30 = true) ∧
    (boolT Tryz.prog 30 = false) ∧
    (zeroT Tryz.prog 30 = some [.slice none 0 0, .slice none 0 0, .slice none 0 0]) ∧
    (plT Tryz.prog 30 = some [(0, 1), (1, 1), (2, 1)]) ∧
    (fldT Tryz.prog 30 0 = some (0, 1, true)) ∧
    (fldT Tryz.prog 30 1 = some (1, 1, true)) ∧
    (fldT Tryz.prog 30 2 = some (2, 1, false)) := by
  refine ⟨?_, ?_, ?_, ?_, ?_, ?_, ?_, ?_, ?_⟩ <;> kernel_rfl

theorem ty31 :
    (szT Tryz.prog 31 = some 1) ∧
    (aggT Tryz.prog 31 = some false) ∧
    (undT Tryz.prog 31 = true) ∧
    (boolT Tryz.prog 31 = false) ∧
    (zeroT Tryz.prog 31 = some [.slice none 0 0]) ∧
    (slcT Tryz.prog 31 = some (42, 1, 8)) ∧
    (slcZ Tryz.prog 31 = some (42, 1, 8)) := by
  refine ⟨?_, ?_, ?_, ?_, ?_, ?_, ?_⟩ <;> kernel_rfl

theorem ty32 :
    (szT Tryz.prog 32 = some 1) ∧
    (aggT Tryz.prog 32 = some false) ∧
    (undT Tryz.prog 32 = true) ∧
    (boolT Tryz.prog 32 = false) ∧
    (zeroT Tryz.prog 32 = some [.nilFunc]) := by
  refine ⟨?_, ?_, ?_, ?_, ?_⟩ <;> kernel_rfl

theorem ty35 :
    (szT Tryz.prog 35 = some 1) ∧
    (aggT Tryz.prog 35 = some false) ∧
    (undT Tryz.prog 35 = true) ∧
    (boolT Tryz.prog 35 = false) ∧
    (intT Tryz.prog 35 = some .u64) ∧
    (zeroT Tryz.prog 35 = some [.int .u64 0]) := by
  refine ⟨?_, ?_, ?_, ?_, ?_, ?_⟩ <;> kernel_rfl

theorem ty37 :
    (szT Tryz.prog 37 = some 4) ∧
    (aggT Tryz.prog 37 = some true) ∧
    (undT Tryz.prog 37 = true) ∧
    (boolT Tryz.prog 37 = false) ∧
    (zeroT Tryz.prog 37 = some [.int .u64 0, .int .u64 0, .int .u64 0, .int .u64 0]) ∧
    (eqTy Tryz.prog 6 37 = true) ∧
    (Tryz.prog.eqGuardType Tryz.prog.depth 37 = false) ∧
    (arrT Tryz.prog 37 = some (4, 1, false)) ∧
    (plT Tryz.prog 37 = some [(0, 1), (1, 1), (2, 1), (3, 1)]) := by
  refine ⟨?_, ?_, ?_, ?_, ?_, ?_, ?_, ?_, ?_⟩ <;> kernel_rfl

theorem ty42 :
    (szT Tryz.prog 42 = some 1) ∧
    (aggT Tryz.prog 42 = some false) ∧
    (undT Tryz.prog 42 = true) ∧
    (boolT Tryz.prog 42 = false) ∧
    (intT Tryz.prog 42 = some .u64) ∧
    (zeroT Tryz.prog 42 = some [.int .u64 0]) := by
  refine ⟨?_, ?_, ?_, ?_, ?_, ?_⟩ <;> kernel_rfl

theorem ty47 :
    (szT Tryz.prog 47 = some 1) ∧
    (aggT Tryz.prog 47 = some false) ∧
    (undT Tryz.prog 47 = true) ∧
    (boolT Tryz.prog 47 = false) ∧
    (intT Tryz.prog 47 = some .i64) ∧
    (zeroT Tryz.prog 47 = some [.int .i64 0]) := by
  refine ⟨?_, ?_, ?_, ?_, ?_, ?_⟩ <;> kernel_rfl

theorem ty50 :
    (szT Tryz.prog 50 = some 1) ∧
    (aggT Tryz.prog 50 = some false) ∧
    (undT Tryz.prog 50 = true) ∧
    (boolT Tryz.prog 50 = false) ∧
    (zeroT Tryz.prog 50 = some [.slice none 0 0]) ∧
    (slcT Tryz.prog 50 = some (91, 12, 88)) ∧
    (slcZ Tryz.prog 50 = some (91, 12, 88)) := by
  refine ⟨?_, ?_, ?_, ?_, ?_, ?_, ?_⟩ <;> kernel_rfl

theorem ty52 :
    (szT Tryz.prog 52 = some 16) ∧
    (aggT Tryz.prog 52 = some true) ∧
    (undT Tryz.prog 52 = true) ∧
    (boolT Tryz.prog 52 = false) ∧
    (zeroT Tryz.prog 52 = some [.slice none 0 0, .slice none 0 0, .slice none 0 0, .slice none 0 0, .slice none 0 0, .slice none 0 0, .slice none 0 0, .int .u64 0, .int .u64 0, .int .u64 0, .int .u64 0, .int .u64 0, .int .u64 0, .int .u64 0, .int .u64 0, .int .u64 0]) ∧
    (plT Tryz.prog 52 = some [(0, 3), (3, 3), (6, 1), (7, 1), (8, 4), (12, 4)]) ∧
    (fldT Tryz.prog 52 0 = some (0, 3, true)) ∧
    (fldT Tryz.prog 52 1 = some (3, 3, true)) ∧
    (fldT Tryz.prog 52 2 = some (6, 1, false)) ∧
    (fldT Tryz.prog 52 3 = some (7, 1, false)) ∧
    (fldT Tryz.prog 52 4 = some (8, 4, true)) ∧
    (fldT Tryz.prog 52 5 = some (12, 4, true)) := by
  refine ⟨?_, ?_, ?_, ?_, ?_, ?_, ?_, ?_, ?_, ?_, ?_, ?_⟩ <;> kernel_rfl

theorem ty54 :
    (szT Tryz.prog 54 = some 1) ∧
    (aggT Tryz.prog 54 = some false) ∧
    (undT Tryz.prog 54 = true) ∧
    (boolT Tryz.prog 54 = false) ∧
    (zeroT Tryz.prog 54 = some [.slice none 0 0]) ∧
    (slcT Tryz.prog 54 = some (5, 1, 1)) ∧
    (slcZ Tryz.prog 54 = some (5, 1, 1)) := by
  refine ⟨?_, ?_, ?_, ?_, ?_, ?_, ?_⟩ <;> kernel_rfl

theorem ty55 :
    (szT Tryz.prog 55 = some 1) ∧
    (aggT Tryz.prog 55 = some false) ∧
    (undT Tryz.prog 55 = true) ∧
    (boolT Tryz.prog 55 = false) ∧
    (zeroT Tryz.prog 55 = some [.slice none 0 0]) ∧
    (slcT Tryz.prog 55 = some (62, 8, 64)) ∧
    (slcZ Tryz.prog 55 = some (62, 8, 64)) := by
  refine ⟨?_, ?_, ?_, ?_, ?_, ?_, ?_⟩ <;> kernel_rfl

theorem ty57 :
    (szT Tryz.prog 57 = some 8) ∧
    (aggT Tryz.prog 57 = some true) ∧
    (undT Tryz.prog 57 = true) ∧
    (boolT Tryz.prog 57 = false) ∧
    (zeroT Tryz.prog 57 = some [.int .u64 0, .int .u64 0, .int .u64 0, .int .u64 0, .int .u64 0, .int .u64 0, .slice none 0 0, .slice none 0 0]) ∧
    (plT Tryz.prog 57 = some [(0, 1), (1, 4), (5, 1), (6, 1), (7, 1)]) ∧
    (fldT Tryz.prog 57 0 = some (0, 1, false)) ∧
    (fldT Tryz.prog 57 1 = some (1, 4, true)) ∧
    (fldT Tryz.prog 57 2 = some (5, 1, false)) ∧
    (fldT Tryz.prog 57 3 = some (6, 1, false)) ∧
    (fldT Tryz.prog 57 4 = some (7, 1, false)) := by
  refine ⟨?_, ?_, ?_, ?_, ?_, ?_, ?_, ?_, ?_, ?_, ?_⟩ <;> kernel_rfl

theorem ty62 :
    (szT Tryz.prog 62 = some 8) ∧
    (aggT Tryz.prog 62 = some true) ∧
    (undT Tryz.prog 62 = true) ∧
    (boolT Tryz.prog 62 = false) ∧
    (zeroT Tryz.prog 62 = some [.int .u64 0, .int .u64 0, .int .u64 0, .int .u64 0, .int .u64 0, .int .u64 0, .int .u64 0, .int .u64 0]) ∧
    (eqTy Tryz.prog 6 62 = true) ∧
    (Tryz.prog.eqGuardType Tryz.prog.depth 62 = false) ∧
    (plT Tryz.prog 62 = some [(0, 4), (4, 4)]) ∧
    (fldT Tryz.prog 62 0 = some (0, 4, true)) ∧
    (fldT Tryz.prog 62 1 = some (4, 4, true)) := by
  refine ⟨?_, ?_, ?_, ?_, ?_, ?_, ?_, ?_, ?_, ?_⟩ <;> kernel_rfl

theorem ty65 :
    (szT Tryz.prog 65 = some 11) ∧
    (aggT Tryz.prog 65 = some true) ∧
    (undT Tryz.prog 65 = true) ∧
    (boolT Tryz.prog 65 = false) ∧
    (zeroT Tryz.prog 65 = some [.int .u64 0, .int .u64 0, .int .u64 0, .int .u64 0, .int .u64 0, .int .u64 0, .int .u64 0, .int .u64 0, .int .u64 0, .int .u64 0, .int .u64 0]) ∧
    (eqTy Tryz.prog 6 65 = true) ∧
    (Tryz.prog.eqGuardType Tryz.prog.depth 65 = false) ∧
    (plT Tryz.prog 65 = some [(0, 1), (1, 4), (5, 4), (9, 1), (10, 1)]) ∧
    (fldT Tryz.prog 65 0 = some (0, 1, false)) ∧
    (fldT Tryz.prog 65 1 = some (1, 4, true)) ∧
    (fldT Tryz.prog 65 2 = some (5, 4, true)) ∧
    (fldT Tryz.prog 65 3 = some (9, 1, false)) ∧
    (fldT Tryz.prog 65 4 = some (10, 1, false)) := by
  refine ⟨?_, ?_, ?_, ?_, ?_, ?_, ?_, ?_, ?_, ?_, ?_, ?_, ?_⟩ <;> kernel_rfl

theorem ty68 :
    (szT Tryz.prog 68 = some 6) ∧
    (aggT Tryz.prog 68 = some true) ∧
    (undT Tryz.prog 68 = true) ∧
    (boolT Tryz.prog 68 = false) ∧
    (zeroT Tryz.prog 68 = some [.int .u64 0, .int .u64 0, .int .u64 0, .int .u64 0, .int .u64 0, .int .u64 0]) ∧
    (eqTy Tryz.prog 6 68 = true) ∧
    (Tryz.prog.eqGuardType Tryz.prog.depth 68 = false) ∧
    (plT Tryz.prog 68 = some [(0, 1), (1, 4), (5, 1)]) ∧
    (fldT Tryz.prog 68 0 = some (0, 1, false)) ∧
    (fldT Tryz.prog 68 1 = some (1, 4, true)) ∧
    (fldT Tryz.prog 68 2 = some (5, 1, false)) := by
  refine ⟨?_, ?_, ?_, ?_, ?_, ?_, ?_, ?_, ?_, ?_, ?_⟩ <;> kernel_rfl

theorem ty75 :
    (szT Tryz.prog 75 = some 1) ∧
    (aggT Tryz.prog 75 = some false) ∧
    (undT Tryz.prog 75 = true) ∧
    (boolT Tryz.prog 75 = false) ∧
    (zeroT Tryz.prog 75 = some [.slice none 0 0]) ∧
    (slcT Tryz.prog 75 = some (3, 1, 8)) ∧
    (slcZ Tryz.prog 75 = some (3, 1, 8)) := by
  refine ⟨?_, ?_, ?_, ?_, ?_, ?_, ?_⟩ <;> kernel_rfl

theorem ty87 :
    (szT Tryz.prog 87 = some 5) ∧
    (aggT Tryz.prog 87 = some true) ∧
    (undT Tryz.prog 87 = true) ∧
    (boolT Tryz.prog 87 = false) ∧
    (zeroT Tryz.prog 87 = some [.bool false, .int .u64 0, .int .u64 0, .int .u64 0, .int .u64 0]) ∧
    (plT Tryz.prog 87 = some [(0, 1), (1, 4)]) ∧
    (fldT Tryz.prog 87 0 = some (0, 1, false)) ∧
    (fldT Tryz.prog 87 1 = some (1, 4, true)) := by
  refine ⟨?_, ?_, ?_, ?_, ?_, ?_, ?_, ?_⟩ <;> kernel_rfl

theorem ty91 :
    (szT Tryz.prog 91 = some 12) ∧
    (aggT Tryz.prog 91 = some true) ∧
    (undT Tryz.prog 91 = true) ∧
    (boolT Tryz.prog 91 = false) ∧
    (zeroT Tryz.prog 91 = some [.int .u64 0, .int .u64 0, .int .u64 0, .int .u64 0, .int .u64 0, .int .u64 0, .int .u64 0, .int .u64 0, .int .u64 0, .int .u64 0, .bool false, .bool false]) ∧
    (plT Tryz.prog 91 = some [(0, 1), (1, 4), (5, 4), (9, 1), (10, 1), (11, 1)]) ∧
    (fldT Tryz.prog 91 0 = some (0, 1, false)) ∧
    (fldT Tryz.prog 91 1 = some (1, 4, true)) ∧
    (fldT Tryz.prog 91 2 = some (5, 4, true)) ∧
    (fldT Tryz.prog 91 3 = some (9, 1, false)) ∧
    (fldT Tryz.prog 91 4 = some (10, 1, false)) ∧
    (fldT Tryz.prog 91 5 = some (11, 1, false)) := by
  refine ⟨?_, ?_, ?_, ?_, ?_, ?_, ?_, ?_, ?_, ?_, ?_, ?_⟩ <;> kernel_rfl

theorem ty94 :
    (szT Tryz.prog 94 = some 1) ∧
    (aggT Tryz.prog 94 = some false) ∧
    (undT Tryz.prog 94 = true) ∧
    (boolT Tryz.prog 94 = false) ∧
    (zeroT Tryz.prog 94 = some [.slice none 0 0]) ∧
    (slcT Tryz.prog 94 = some (37, 4, 32)) ∧
    (slcZ Tryz.prog 94 = some (37, 4, 32)) := by
  refine ⟨?_, ?_, ?_, ?_, ?_, ?_, ?_⟩ <;> kernel_rfl

theorem ty96 :
    (szT Tryz.prog 96 = some 5) ∧
    (aggT Tryz.prog 96 = some true) ∧
    (undT Tryz.prog 96 = true) ∧
    (boolT Tryz.prog 96 = false) ∧
    (zeroT Tryz.prog 96 = some [.nilFunc, .nilFunc, .nilFunc, .nilFunc, .nilFunc]) ∧
    (arrT Tryz.prog 96 = some (5, 1, false)) ∧
    (plT Tryz.prog 96 = some [(0, 1), (1, 1), (2, 1), (3, 1), (4, 1)]) := by
  refine ⟨?_, ?_, ?_, ?_, ?_, ?_, ?_⟩ <;> kernel_rfl

theorem ty106 :
    (szT Tryz.prog 106 = some 1) ∧
    (aggT Tryz.prog 106 = some false) ∧
    (undT Tryz.prog 106 = true) ∧
    (boolT Tryz.prog 106 = false) ∧
    (zeroT Tryz.prog 106 = some [.slice none 0 0]) ∧
    (slcT Tryz.prog 106 = some (30, 3, 72)) ∧
    (slcZ Tryz.prog 106 = some (30, 3, 72)) := by
  refine ⟨?_, ?_, ?_, ?_, ?_, ?_, ?_⟩ <;> kernel_rfl

theorem ty129 :
    (szT Tryz.prog 129 = some 5) ∧
    (aggT Tryz.prog 129 = some true) ∧
    (undT Tryz.prog 129 = true) ∧
    (boolT Tryz.prog 129 = false) ∧
    (zeroT Tryz.prog 129 = some [.int .u64 0, .int .u64 0, .int .u64 0, .int .u64 0, .int .u64 0]) ∧
    (eqTy Tryz.prog 6 129 = true) ∧
    (Tryz.prog.eqGuardType Tryz.prog.depth 129 = false) ∧
    (plT Tryz.prog 129 = some [(0, 1), (1, 4)]) ∧
    (fldT Tryz.prog 129 0 = some (0, 1, false)) ∧
    (fldT Tryz.prog 129 1 = some (1, 4, true)) := by
  refine ⟨?_, ?_, ?_, ?_, ?_, ?_, ?_, ?_, ?_, ?_⟩ <;> kernel_rfl

theorem ty139 :
    (szT Tryz.prog 139 = some 1) ∧
    (aggT Tryz.prog 139 = some false) ∧
    (undT Tryz.prog 139 = true) ∧
    (boolT Tryz.prog 139 = false) ∧
    (intT Tryz.prog 139 = some .u64) ∧
    (zeroT Tryz.prog 139 = some [.int .u64 0]) := by
  refine ⟨?_, ?_, ?_, ?_, ?_, ?_⟩ <;> kernel_rfl

attribute [go_sem] ty3 ty4 ty5 ty22 ty24 ty25 ty27 ty28 ty30 ty31 ty32 ty35 ty37 ty42 ty47 ty50 ty52 ty54 ty55 ty57 ty62 ty65 ty68 ty75 ty87 ty91 ty94 ty96 ty106 ty129 ty139
attribute [go_sem] St.free freeH evO ofV AV.cells pickAV evz bne_self_eq_false forall_const Nat.reduceBEq Nat.reduceBNe Nat.reduceAdd Nat.reduceLT Nat.reduceLeDiff Nat.reduceEqDiff Int.reduceLE Int.reduceLT Int.reduceToNat Nat.reduceMul Nat.reduceSub Nat.reduceDiv Nat.reduceMod reduceCtorEq
attribute [go_sem ↓] reduceIte

end Go.Proofs.YtgdnmdnhkhpieaaGreat
