/-
  What the program says of its types.
-/
import Derived.Test.YtmidmaeihpldhaaGreatAvW
import Derived.Test.YtmidmaeihpldhaaGreatProg
import Derived.KernelRfl
set_option linter.unusedSimpArgs false
set_option linter.unusedVariables false
namespace Go.Proofs.YtmidmaeihpldhaaGreat

theorem ty3 :
    (szT Tryz.prog 3 = some 1) ∧
    (aggT Tryz.prog 3 = some false) ∧
    (undT Tryz.prog 3 = true) ∧
    (boolT Tryz.prog 3 = false) ∧
    (intT Tryz.prog 3 = some .i64) ∧
    (zeroT Tryz.prog 3 = some [.int .i64 0]) := by
  refine ⟨?_, ?_, ?_, ?_, ?_, ?_⟩ <;> kernel_rfl

theorem ty4 :
    (szT Tryz.prog 4 = some 1) ∧
    (aggT Tryz.prog 4 = some false) ∧
    (undT Tryz.prog 4 = true) ∧
    (boolT Tryz.prog 4 = true) ∧
    (zeroT Tryz.prog 4 = some [.bool false]) := by
  refine ⟨?_, ?_, ?_, ?_, ?_⟩ <;> kernel_rfl

theorem ty5 :
    (szT Tryz.prog 5 = some 1) ∧
    (aggT Tryz.prog 5 = some false) ∧
    (undT Tryz.prog 5 = true) ∧
    (boolT Tryz.prog 5 = false) ∧
    (intT Tryz.prog 5 = some .u8) ∧
    (zeroT Tryz.prog 5 = some [.int .u8 0]) := by
  refine ⟨?_, ?_, ?_, ?_, ?_, ?_⟩ <;> kernel_rfl

theorem ty22 :
    (szT Tryz.prog 22 = some 1) ∧
    (aggT Tryz.prog 22 = some false) ∧
    (undT Tryz.prog 22 = true) ∧
    (boolT Tryz.prog 22 = false) ∧
    (zeroT Tryz.prog 22 = some [.slice none 0 0]) ∧
    (slcT Tryz.prog 22 = some (76, 8, 96)) ∧
    (slcZ Tryz.prog 22 = some (76, 8, 96)) := by
  refine ⟨?_, ?_, ?_, ?_, ?_, ?_, ?_⟩ <;> kernel_rfl

theorem ty24 :
    (szT Tryz.prog 24 = some 1) ∧
    (aggT Tryz.prog 24 = some true) ∧
    (undT Tryz.prog 24 = true) ∧
    (boolT Tryz.prog 24 = false) ∧
    (zeroT Tryz.prog 24 = some [.slice none 0 0]) ∧
    (plT Tryz.prog 24 = some [(0, 1)]) ∧
    (fldT Tryz.prog 24 0 = some (0, 1, false)) := by
  refine ⟨?_, ?_, ?_, ?_, ?_, ?_, ?_⟩ <;> kernel_rfl

theorem ty25 :
    (szT Tryz.prog 25 = some 1) ∧
    (aggT Tryz.prog 25 = some false) ∧
    (undT Tryz.prog 25 = true) ∧
    (boolT Tryz.prog 25 = false) ∧
    (zeroT Tryz.prog 25 = some [.slice none 0 0]) ∧
    (slcT Tryz.prog 25 = some (86, 11, 88)) ∧
    (slcZ Tryz.prog 25 = some (86, 11, 88)) := by
  refine ⟨?_, ?_, ?_, ?_, ?_, ?_, ?_⟩ <;> kernel_rfl

theorem ty27 :
    (szT Tryz.prog 27 = some 1) ∧
    (aggT Tryz.prog 27 = some true) ∧
    (undT Tryz.prog 27 = true) ∧
    (boolT Tryz.prog 27 = false) ∧
    (zeroT Tryz.prog 27 = some [.slice none 0 0]) ∧
    (plT Tryz.prog 27 = some [(0, 1)]) ∧
    (fldT Tryz.prog 27 0 = some (0, 1, false)) := by
  refine ⟨?_, ?_, ?_, ?_, ?_, ?_, ?_⟩ <;> kernel_rfl

theorem ty28 :
    (szT Tryz.prog 28 = some 1) ∧
    (aggT Tryz.prog 28 = some false) ∧
    (undT Tryz.prog 28 = true) ∧
    (boolT Tryz.prog 28 = false) ∧
    (zeroT Tryz.prog 28 = some [.slice none 0 0]) ∧
    (slcT Tryz.prog 28 = some (89, 6, 48)) ∧
    (slcZ Tryz.prog 28 = some (89, 6, 48)) := by
  refine ⟨?_, ?_, ?_, ?_, ?_, ?_, ?_⟩ <;> kernel_rfl

theorem ty30 :
    (szT Tryz.prog 30 = some 3) ∧
    (aggT Tryz.prog 30 = some true) ∧
    (undT Tryz.prog 30 = true) ∧
    (boolT Tryz.prog 30 = false) ∧
    (zeroT Tryz.prog 30 = some [.slice none 0 0, .slice none 0 0, .slice none 0 0]) ∧
    (plT Tryz.prog 30 = some [(0, 1), (1, 1), (2, 1)]) ∧
    (fldT Tryz.prog 30 0 = some (0, 1, true)) ∧
    (fldT Tryz.prog 30 1 = some (1, 1, true)) ∧
    (fldT Tryz.prog 30 2 = some (2, 1, false)) := by
  refine ⟨?_, ?_, ?_, ?_, ?_, ?_, ?_, ?_, ?_⟩ <;> kernel_rfl

theorem ty31 :
    (szT Tryz.prog 31 = some 1) ∧
    (aggT Tryz.prog 31 = some false) ∧
    (undT Tryz.prog 31 = true) ∧
    (boolT Tryz.prog 31 = false) ∧
    (zeroT Tryz.prog 31 = some [.slice none 0 0]) ∧
    (slcT Tryz.prog 31 = some (58, 1, 8)) ∧
    (slcZ Tryz.prog 31 = some (58, 1, 8)) := by
  refine ⟨?_, ?_, ?_, ?_, ?_, ?_, ?_⟩ <;> kernel_rfl

theorem ty32 :
    (szT Tryz.prog 32 = some 1) ∧
    (aggT Tryz.prog 32 = some false) ∧
    (undT Tryz.prog 32 = true) ∧
    (boolT Tryz.prog 32 = false) ∧
    (zeroT Tryz.prog 32 = some [.slice none 0 0]) ∧
    (slcT Tryz.prog 32 = some (92, 5, 40)) ∧
    (slcZ Tryz.prog 32 = some (92, 5, 40)) := by
  refine ⟨?_, ?_, ?_, ?_, ?_, ?_, ?_⟩ <;> kernel_rfl

theorem ty33 :
    (szT Tryz.prog 33 = some 1) ∧
    (aggT Tryz.prog 33 = some false) ∧
    (undT Tryz.prog 33 = true) ∧
    (boolT Tryz.prog 33 = false) ∧
    (zeroT Tryz.prog 33 = some [.slice none 0 0]) ∧
    (slcT Tryz.prog 33 = some (95, 9, 72)) ∧
    (slcZ Tryz.prog 33 = some (95, 9, 72)) := by
  refine ⟨?_, ?_, ?_, ?_, ?_, ?_, ?_⟩ <;> kernel_rfl

theorem ty35 :
    (szT Tryz.prog 35 = some 3) ∧
    (aggT Tryz.prog 35 = some true) ∧
    (undT Tryz.prog 35 = true) ∧
    (boolT Tryz.prog 35 = false) ∧
    (zeroT Tryz.prog 35 = some [.slice none 0 0, .slice none 0 0, .slice none 0 0]) ∧
    (plT Tryz.prog 35 = some [(0, 1), (1, 1), (2, 1)]) ∧
    (fldT Tryz.prog 35 0 = some (0, 1, false)) ∧
    (fldT Tryz.prog 35 1 = some (1, 1, false)) ∧
    (fldT Tryz.prog 35 2 = some (2, 1, false)) := by
  refine ⟨?_, ?_, ?_, ?_, ?_, ?_, ?_, ?_, ?_⟩ <;> kernel_rfl

theorem ty37 :
    (szT Tryz.prog 37 = some 6) ∧
    (aggT Tryz.prog 37 = some true) ∧
    (undT Tryz.prog 37 = true) ∧
    (boolT Tryz.prog 37 = false) ∧
    (zeroT Tryz.prog 37 = some [.slice none 0 0, .slice none 0 0, .slice none 0 0, .slice none 0 0, .slice none 0 0, .slice none 0 0]) ∧
    (plT Tryz.prog 37 = some [(0, 3), (3, 3)]) ∧
    (fldT Tryz.prog 37 0 = some (0, 3, true)) ∧
    (fldT Tryz.prog 37 1 = some (3, 3, true)) := by
  refine ⟨?_, ?_, ?_, ?_, ?_, ?_, ?_, ?_⟩ <;> kernel_rfl

theorem ty38 :
    (szT Tryz.prog 38 = some 1) ∧
    (aggT Tryz.prog 38 = some false) ∧
    (undT Tryz.prog 38 = true) ∧
    (boolT Tryz.prog 38 = false) ∧
    (zeroT Tryz.prog 38 = some [.slice none 0 0]) ∧
    (slcT Tryz.prog 38 = some (37, 6, 144)) ∧
    (slcZ Tryz.prog 38 = some (37, 6, 144)) := by
  refine ⟨?_, ?_, ?_, ?_, ?_, ?_, ?_⟩ <;> kernel_rfl

theorem ty40 :
    (szT Tryz.prog 40 = some 7) ∧
    (aggT Tryz.prog 40 = some true) ∧
    (undT Tryz.prog 40 = true) ∧
    (boolT Tryz.prog 40 = false) ∧
    (zeroT Tryz.prog 40 = some [.slice none 0 0, .slice none 0 0, .slice none 0 0, .slice none 0 0, .slice none 0 0, .slice none 0 0, .slice none 0 0]) ∧
    (plT Tryz.prog 40 = some [(0, 6), (6, 1)]) ∧
    (fldT Tryz.prog 40 0 = some (0, 6, true)) ∧
    (fldT Tryz.prog 40 1 = some (6, 1, false)) := by
  refine ⟨?_, ?_, ?_, ?_, ?_, ?_, ?_, ?_⟩ <;> kernel_rfl

theorem ty48 :
    (szT Tryz.prog 48 = some 1) ∧
    (aggT Tryz.prog 48 = some false) ∧
    (undT Tryz.prog 48 = true) ∧
    (boolT Tryz.prog 48 = false) ∧
    (intT Tryz.prog 48 = some .i64) ∧
    (zeroT Tryz.prog 48 = some [.int .i64 0]) := by
  refine ⟨?_, ?_, ?_, ?_, ?_, ?_⟩ <;> kernel_rfl

theorem ty57 :
    (szT Tryz.prog 57 = some 1) ∧
    (aggT Tryz.prog 57 = some false) ∧
    (undT Tryz.prog 57 = true) ∧
    (boolT Tryz.prog 57 = false) ∧
    (intT Tryz.prog 57 = some .u64) ∧
    (zeroT Tryz.prog 57 = some [.int .u64 0]) := by
  refine ⟨?_, ?_, ?_, ?_, ?_, ?_⟩ <;> kernel_rfl

theorem ty58 :
    (szT Tryz.prog 58 = some 1) ∧
    (aggT Tryz.prog 58 = some false) ∧
    (undT Tryz.prog 58 = true) ∧
    (boolT Tryz.prog 58 = false) ∧
    (intT Tryz.prog 58 = some .u64) ∧
    (zeroT Tryz.prog 58 = some [.int .u64 0]) := by
  refine ⟨?_, ?_, ?_, ?_, ?_, ?_⟩ <;> kernel_rfl

theorem ty72 :
    (szT Tryz.prog 72 = some 4) ∧
    (aggT Tryz.prog 72 = some true) ∧
    (undT Tryz.prog 72 = true) ∧
    (boolT Tryz.prog 72 = false) ∧
    (zeroT Tryz.prog 72 = some [.int .u64 0, .int .u64 0, .int .u64 0, .int .u64 0]) ∧
    (eqTy Tryz.prog 6 72 = true) ∧
    (Tryz.prog.eqGuardType Tryz.prog.depth 72 = false) ∧
    (arrT Tryz.prog 72 = some (4, 1, false)) ∧
    (plT Tryz.prog 72 = some [(0, 1), (1, 1), (2, 1), (3, 1)]) := by
  refine ⟨?_, ?_, ?_, ?_, ?_, ?_, ?_, ?_, ?_⟩ <;> kernel_rfl

theorem ty73 :
    (szT Tryz.prog 73 = some 1) ∧
    (aggT Tryz.prog 73 = some false) ∧
    (undT Tryz.prog 73 = true) ∧
    (boolT Tryz.prog 73 = false) ∧
    (zeroT Tryz.prog 73 = some [.slice none 0 0]) ∧
    (slcT Tryz.prog 73 = some (5, 1, 1)) ∧
    (slcZ Tryz.prog 73 = some (5, 1, 1)) := by
  refine ⟨?_, ?_, ?_, ?_, ?_, ?_, ?_⟩ <;> kernel_rfl

theorem ty74 :
    (szT Tryz.prog 74 = some 1) ∧
    (aggT Tryz.prog 74 = some false) ∧
    (undT Tryz.prog 74 = true) ∧
    (boolT Tryz.prog 74 = false) ∧
    (zeroT Tryz.prog 74 = some [.slice none 0 0]) ∧
    (slcT Tryz.prog 74 = some (83, 8, 64)) ∧
    (slcZ Tryz.prog 74 = some (83, 8, 64)) := by
  refine ⟨?_, ?_, ?_, ?_, ?_, ?_, ?_⟩ <;> kernel_rfl

theorem ty76 :
    (szT Tryz.prog 76 = some 8) ∧
    (aggT Tryz.prog 76 = some true) ∧
    (undT Tryz.prog 76 = true) ∧
    (boolT Tryz.prog 76 = false) ∧
    (zeroT Tryz.prog 76 = some [.int .u64 0, .int .u64 0, .int .u64 0, .int .u64 0, .int .u64 0, .int .u64 0, .slice none 0 0, .slice none 0 0]) ∧
    (plT Tryz.prog 76 = some [(0, 1), (1, 4), (5, 1), (6, 1), (7, 1)]) ∧
    (fldT Tryz.prog 76 0 = some (0, 1, false)) ∧
    (fldT Tryz.prog 76 1 = some (1, 4, true)) ∧
    (fldT Tryz.prog 76 2 = some (5, 1, false)) ∧
    (fldT Tryz.prog 76 3 = some (6, 1, false)) ∧
    (fldT Tryz.prog 76 4 = some (7, 1, false)) := by
  refine ⟨?_, ?_, ?_, ?_, ?_, ?_, ?_, ?_, ?_, ?_, ?_⟩ <;> kernel_rfl

theorem ty83 :
    (szT Tryz.prog 83 = some 8) ∧
    (aggT Tryz.prog 83 = some true) ∧
    (undT Tryz.prog 83 = true) ∧
    (boolT Tryz.prog 83 = false) ∧
    (zeroT Tryz.prog 83 = some [.int .u64 0, .int .u64 0, .int .u64 0, .int .u64 0, .int .u64 0, .int .u64 0, .int .u64 0, .int .u64 0]) ∧
    (eqTy Tryz.prog 6 83 = true) ∧
    (Tryz.prog.eqGuardType Tryz.prog.depth 83 = false) ∧
    (plT Tryz.prog 83 = some [(0, 4), (4, 4)]) ∧
    (fldT Tryz.prog 83 0 = some (0, 4, true)) ∧
    (fldT Tryz.prog 83 1 = some (4, 4, true)) := by
  refine ⟨?_, ?_, ?_, ?_, ?_, ?_, ?_, ?_, ?_, ?_⟩ <;> kernel_rfl

theorem ty86 :
    (szT Tryz.prog 86 = some 11) ∧
    (aggT Tryz.prog 86 = some true) ∧
    (undT Tryz.prog 86 = true) ∧
    (boolT Tryz.prog 86 = false) ∧
    (zeroT Tryz.prog 86 = some [.int .u64 0, .int .u64 0, .int .u64 0, .int .u64 0, .int .u64 0, .int .u64 0, .int .u64 0, .int .u64 0, .int .u64 0, .int .u64 0, .int .u64 0]) ∧
    (eqTy Tryz.prog 6 86 = true) ∧
    (Tryz.prog.eqGuardType Tryz.prog.depth 86 = false) ∧
    (plT Tryz.prog 86 = some [(0, 1), (1, 4), (5, 4), (9, 1), (10, 1)]) ∧
    (fldT Tryz.prog 86 0 = some (0, 1, false)) ∧
    (fldT Tryz.prog 86 1 = some (1, 4, true)) ∧
    (fldT Tryz.prog 86 2 = some (5, 4, true)) ∧
    (fldT Tryz.prog 86 3 = some (9, 1, false)) ∧
    (fldT Tryz.prog 86 4 = some (10, 1, false)) := by
  refine ⟨?_, ?_, ?_, ?_, ?_, ?_, ?_, ?_, ?_, ?_, ?_, ?_, ?_⟩ <;> kernel_rfl

theorem ty89 :
    (szT Tryz.prog 89 = some 6) ∧
    (aggT Tryz.prog 89 = some true) ∧
    (undT Tryz.prog 89 = true) ∧
    (boolT Tryz.prog 89 = false) ∧
    (zeroT Tryz.prog 89 = some [.int .u64 0, .int .u64 0, .int .u64 0, .int .u64 0, .int .u64 0, .int .u64 0]) ∧
    (eqTy Tryz.prog 6 89 = true) ∧
    (Tryz.prog.eqGuardType Tryz.prog.depth 89 = false) ∧
    (plT Tryz.prog 89 = some [(0, 1), (1, 4), (5, 1)]) ∧
    (fldT Tryz.prog 89 0 = some (0, 1, false)) ∧
    (fldT Tryz.prog 89 1 = some (1, 4, true)) ∧
    (fldT Tryz.prog 89 2 = some (5, 1, false)) := by
  refine ⟨?_, ?_, ?_, ?_, ?_, ?_, ?_, ?_, ?_, ?_, ?_⟩ <;> kernel_rfl

theorem ty92 :
    (szT Tryz.prog 92 = some 5) ∧
    (aggT Tryz.prog 92 = some true) ∧
    (undT Tryz.prog 92 = true) ∧
    (boolT Tryz.prog 92 = false) ∧
    (zeroT Tryz.prog 92 = some [.int .u64 0, .int .u64 0, .int .u64 0, .int .u64 0, .int .u64 0]) ∧
    (eqTy Tryz.prog 6 92 = true) ∧
    (Tryz.prog.eqGuardType Tryz.prog.depth 92 = false) ∧
    (plT Tryz.prog 92 = some [(0, 1), (1, 4)]) ∧
    (fldT Tryz.prog 92 0 = some (0, 1, false)) ∧
    (fldT Tryz.prog 92 1 = some (1, 4, true)) := by
  refine ⟨?_, ?_, ?_, ?_, ?_, ?_, ?_, ?_, ?_, ?_⟩ <;> kernel_rfl

theorem ty95 :
    (szT Tryz.prog 95 = some 9) ∧
    (aggT Tryz.prog 95 = some true) ∧
    (undT Tryz.prog 95 = true) ∧
    (boolT Tryz.prog 95 = false) ∧
    (zeroT Tryz.prog 95 = some [.int .u64 0, .int .u64 0, .int .u64 0, .int .u64 0, .int .u64 0, .int .u64 0, .int .u64 0, .int .u64 0, .int .u64 0]) ∧
    (eqTy Tryz.prog 6 95 = true) ∧
    (Tryz.prog.eqGuardType Tryz.prog.depth 95 = false) ∧
    (plT Tryz.prog 95 = some [(0, 5), (5, 4)]) ∧
    (fldT Tryz.prog 95 0 = some (0, 5, true)) ∧
    (fldT Tryz.prog 95 1 = some (5, 4, true)) := by
  refine ⟨?_, ?_, ?_, ?_, ?_, ?_, ?_, ?_, ?_, ?_⟩ <;> kernel_rfl

theorem ty119 :
    (szT Tryz.prog 119 = some 7) ∧
    (aggT Tryz.prog 119 = some true) ∧
    (undT Tryz.prog 119 = true) ∧
    (boolT Tryz.prog 119 = false) ∧
    (zeroT Tryz.prog 119 = some [.slice none 0 0, .slice none 0 0, .slice none 0 0, .slice none 0 0, .slice none 0 0, .slice none 0 0, .slice none 0 0]) ∧
    (plT Tryz.prog 119 = some [(0, 7)]) ∧
    (fldT Tryz.prog 119 0 = some (0, 7, true)) := by
  refine ⟨?_, ?_, ?_, ?_, ?_, ?_, ?_⟩ <;> kernel_rfl

theorem ty122 :
    (szT Tryz.prog 122 = some 1) ∧
    (aggT Tryz.prog 122 = some false) ∧
    (undT Tryz.prog 122 = true) ∧
    (boolT Tryz.prog 122 = false) ∧
    (zeroT Tryz.prog 122 = some [.nilFunc]) := by
  refine ⟨?_, ?_, ?_, ?_, ?_⟩ <;> kernel_rfl

theorem ty124 :
    (szT Tryz.prog 124 = some 1) ∧
    (aggT Tryz.prog 124 = some false) ∧
    (undT Tryz.prog 124 = true) ∧
    (boolT Tryz.prog 124 = false) ∧
    (zeroT Tryz.prog 124 = some [.nilFunc]) := by
  refine ⟨?_, ?_, ?_, ?_, ?_⟩ <;> kernel_rfl

theorem ty143 :
    (szT Tryz.prog 143 = some 5) ∧
    (aggT Tryz.prog 143 = some true) ∧
    (undT Tryz.prog 143 = true) ∧
    (boolT Tryz.prog 143 = false) ∧
    (zeroT Tryz.prog 143 = some [.int .u64 0, .int .u64 0, .int .u64 0, .int .u64 0, .int .u64 0]) ∧
    (eqTy Tryz.prog 6 143 = true) ∧
    (Tryz.prog.eqGuardType Tryz.prog.depth 143 = false) ∧
    (plT Tryz.prog 143 = some [(0, 1), (1, 4)]) ∧
    (fldT Tryz.prog 143 0 = some (0, 1, false)) ∧
    (fldT Tryz.prog 143 1 = some (1, 4, true)) := by
  refine ⟨?_, ?_, ?_, ?_, ?_, ?_, ?_, ?_, ?_, ?_⟩ <;> kernel_rfl

theorem ty165 :
    (szT Tryz.prog 165 = some 1) ∧
    (aggT Tryz.prog 165 = some false) ∧
    (undT Tryz.prog 165 = true) ∧
    (boolT Tryz.prog 165 = false) ∧
    (zeroT Tryz.prog 165 = some [.slice none 0 0]) ∧
    (slcT Tryz.prog 165 = some (72, 4, 32)) ∧
    (slcZ Tryz.prog 165 = some (72, 4, 32)) := by
  refine ⟨?_, ?_, ?_, ?_, ?_, ?_, ?_⟩ <;> kernel_rfl

theorem ty176 :
    (szT Tryz.prog 176 = some 1) ∧
    (aggT Tryz.prog 176 = some false) ∧
    (undT Tryz.prog 176 = true) ∧
    (boolT Tryz.prog 176 = false) ∧
    (zeroT Tryz.prog 176 = some [.slice none 0 0]) ∧
    (slcT Tryz.prog 176 = some (3, 1, 8)) ∧
    (slcZ Tryz.prog 176 = some (3, 1, 8)) := by
  refine ⟨?_, ?_, ?_, ?_, ?_, ?_, ?_⟩ <;> kernel_rfl

attribute [go_sem] ty3 ty4 ty5 ty22 ty24 ty25 ty27 ty28 ty30 ty31 ty32 ty33 ty35 ty37 ty38 ty40 ty48 ty57 ty58 ty72 ty73 ty74 ty76 ty83 ty86 ty89 ty92 ty95 ty119 ty122 ty124 ty143 ty165 ty176
attribute [go_sem] St.free freeH evO ofV AV.cells pickAV evz bne_self_eq_false forall_const Nat.reduceBEq Nat.reduceBNe Nat.reduceAdd Nat.reduceLT Nat.reduceLeDiff Nat.reduceEqDiff Int.reduceLE Int.reduceLT Int.reduceToNat Nat.reduceMul Nat.reduceSub Nat.reduceDiv Nat.reduceMod reduceCtorEq
attribute [go_sem ↓] reduceIte

end Go.Proofs.YtmidmaeihpldhaaGreat
