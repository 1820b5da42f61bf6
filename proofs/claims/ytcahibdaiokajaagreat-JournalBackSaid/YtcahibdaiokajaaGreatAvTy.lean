/-
  What the program says of its types.
-/
import Derived.Test.YtcahibdaiokajaaGreatAvW
import Derived.Test.YtcahibdaiokajaaGreatProg
import Derived.KernelRfl
set_option linter.unusedSimpArgs false
set_option linter.unusedVariables false
namespace Go.Proofs.YtcahibdaiokajaaGreat

theorem ty3 :
    (szT Tryz.prog 3 = some 1) ∧
    (aggT Tryz.prog 3 = some false) ∧
    (undT Tryz.prog 3 = true) ∧
    (boolT Tryz.prog 3 = false) ∧
    (intT Tryz.prog 3 = some .i64) ∧
    (zeroT Tryz.prog 3 = some [.int .i64 0]) := by
  refine ⟨?_, ?_, ?_, ?_, ?_, ?_⟩ <;> kernel_rfl

theorem ty4 :
    (szT Tryz.prog 4 = some 1) ∧
    (aggT Tryz.prog 4 = some false) ∧
    (undT Tryz.prog 4 = true) ∧
    (boolT Tryz.prog 4 = true) ∧
    (zeroT Tryz.prog 4 = some [.bool false]) := by
  refine ⟨?_, ?_, ?_, ?_, ?_⟩ <;> kernel_rfl

theorem ty5 :
    (szT Tryz.prog 5 = some 1) ∧
    (aggT Tryz.prog 5 = some false) ∧
    (undT Tryz.prog 5 = true) ∧
    (boolT Tryz.prog 5 = false) ∧
    (intT Tryz.prog 5 = some .u8) ∧
    (zeroT Tryz.prog 5 = some [.int .u8 0]) := by
  refine ⟨?_, ?_, ?_, ?_, ?_, ?_⟩ <;> kernel_rfl

theorem ty22 :
    (szT Tryz.prog 22 = some 1) ∧
    (aggT Tryz.prog 22 = some false) ∧
    (undT Tryz.prog 22 = true) ∧
    (boolT Tryz.prog 22 = false) ∧
    (zeroT Tryz.prog 22 = some [.slice none 0 0]) ∧
    (slcT Tryz.prog 22 = some (69, 8, 96)) ∧
    (slcZ Tryz.prog 22 = some (69, 8, 96)) := by
  refine ⟨?_, ?_, ?_, ?_, ?_, ?_, ?_⟩ <;> kernel_rfl

theorem ty24 :
    (szT Tryz.prog 24 = some 1) ∧
    (aggT Tryz.prog 24 = some true) ∧
    (undT Tryz.prog 24 = true) ∧
    (boolT Tryz.prog 24 = false) ∧
    (zeroT Tryz.prog 24 = some [.slice none 0 0]) ∧
    (plT Tryz.prog 24 = some [(0, 1)]) ∧
    (fldT Tryz.prog 24 0 = some (0, 1, false)) := by
  refine ⟨?_, ?_, ?_, ?_, ?_, ?_, ?_⟩ <;> kernel_rfl

theorem ty25 :
    (szT Tryz.prog 25 = some 1) ∧
    (aggT Tryz.prog 25 = some false) ∧
    (undT Tryz.prog 25 = true) ∧
    (boolT Tryz.prog 25 = false) ∧
    (zeroT Tryz.prog 25 = some [.slice none 0 0]) ∧
    (slcT Tryz.prog 25 = some (79, 11, 88)) ∧
    (slcZ Tryz.prog 25 = some (79, 11, 88)) := by
  refine ⟨?_, ?_, ?_, ?_, ?_, ?_, ?_⟩ <;> kernel_rfl

theorem ty27 :
    (szT Tryz.prog 27 = some 1) ∧
    (aggT Tryz.prog 27 = some true) ∧
    (undT Tryz.prog 27 = true) ∧
    (boolT Tryz.prog 27 = false) ∧
    (zeroT Tryz.prog 27 = some [.slice none 0 0]) ∧
    (plT Tryz.prog 27 = some [(0, 1)]) ∧
    (fldT Tryz.prog 27 0 = some (0, 1, false)) := by
  refine ⟨?_, ?_, ?_, ?_, ?_, ?_, ?_⟩ <;> kernel_rfl

theorem ty28 :
    (szT Tryz.prog 28 = some 1) ∧
    (aggT Tryz.prog 28 = some false) ∧
    (undT Tryz.prog 28 = true) ∧
    (boolT Tryz.prog 28 = false) ∧
    (zeroT Tryz.prog 28 = some [.slice none 0 0]) ∧
    (slcT Tryz.prog 28 = some (82, 6, 48)) ∧
    (slcZ Tryz.prog 28 = some (82, 6, 48)) := by
  refine ⟨?_, ?_, ?_, ?_, ?_, ?_, ?_⟩ <;> kernel_rfl

theorem ty30 :
    (szT Tryz.prog 30 = some 3) ∧
    (aggT Tryz.prog 30 = some true) ∧
    (undT Tryz.prog 30 = true) ∧
    (boolT Tryz.prog 30 = false) ∧
    (zeroT Tryz.prog 30 = some [.slice none 0 0, .slice none 0 0, .slice none 0 0]) ∧
    (plT Tryz.prog 30 = some [(0, 1), (1, 1), (2, 1)]) ∧
    (fldT Tryz.prog 30 0 = some (0, 1, true)) ∧
    (fldT Tryz.prog 30 1 = some (1, 1, true)) ∧
    (fldT Tryz.prog 30 2 = some (2, 1, false)) := by
  refine ⟨?_, ?_, ?_, ?_, ?_, ?_, ?_, ?_, ?_⟩ <;> kernel_rfl

theorem ty31 :
    (szT Tryz.prog 31 = some 1) ∧
    (aggT Tryz.prog 31 = some false) ∧
    (undT Tryz.prog 31 = true) ∧
    (boolT Tryz.prog 31 = false) ∧
    (zeroT Tryz.prog 31 = some [.slice none 0 0]) ∧
    (slcT Tryz.prog 31 = some (63, 1, 8)) ∧
    (slcZ Tryz.prog 31 = some (63, 1, 8)) := by
  refine ⟨?_, ?_, ?_, ?_, ?_, ?_, ?_⟩ <;> kernel_rfl

theorem ty32 :
    (szT Tryz.prog 32 = some 1) ∧
    (aggT Tryz.prog 32 = some false) ∧
    (undT Tryz.prog 32 = true) ∧
    (boolT Tryz.prog 32 = false) ∧
    (zeroT Tryz.prog 32 = some [.slice none 0 0]) ∧
    (slcT Tryz.prog 32 = some (86, 5, 40)) ∧
    (slcZ Tryz.prog 32 = some (86, 5, 40)) := by
  refine ⟨?_, ?_, ?_, ?_, ?_, ?_, ?_⟩ <;> kernel_rfl

theorem ty33 :
    (szT Tryz.prog 33 = some 1) ∧
    (aggT Tryz.prog 33 = some false) ∧
    (undT Tryz.prog 33 = true) ∧
    (boolT Tryz.prog 33 = false) ∧
    (zeroT Tryz.prog 33 = some [.slice none 0 0]) ∧
    (slcT Tryz.prog 33 = some (89, 9, 72)) ∧
    (slcZ Tryz.prog 33 = some (89, 9, 72)) := by
  refine ⟨?_, ?_, ?_, ?_, ?_, ?_, ?_⟩ <;> kernel_rfl

theorem ty35 :
    (szT Tryz.prog 35 = some 3) ∧
    (aggT Tryz.prog 35 = some true) ∧
    (undT Tryz.prog 35 = true) ∧
    (boolT Tryz.prog 35 = false) ∧
    (zeroT Tryz.prog 35 = some [.slice none 0 0, .slice none 0 0, .slice none 0 0]) ∧
    (plT Tryz.prog 35 = some [(0, 1), (1, 1), (2, 1)]) ∧
    (fldT Tryz.prog 35 0 = some (0, 1, false)) ∧
    (fldT Tryz.prog 35 1 = some (1, 1, false)) ∧
    (fldT Tryz.prog 35 2 = some (2, 1, false)) := by
  refine ⟨?_, ?_, ?_, ?_, ?_, ?_, ?_, ?_, ?_⟩ <;> kernel_rfl

theorem ty37 :
    (szT Tryz.prog 37 = some 6) ∧
    (aggT Tryz.prog 37 = some true) ∧
    (undT Tryz.prog 37 = true) ∧
    (boolT Tryz.prog 37 = false) ∧
    (zeroT Tryz.prog 37 = some [.slice none 0 0, .slice none 0 0, .slice none 0 0, .slice none 0 0, .slice none 0 0, .slice none 0 0]) ∧
    (plT Tryz.prog 37 = some [(0, 3), (3, 3)]) ∧
    (fldT Tryz.prog 37 0 = some (0, 3, true)) ∧
    (fldT Tryz.prog 37 1 = some (3, 3, true)) := by
  refine ⟨?_, ?_, ?_, ?_, ?_, ?_, ?_, ?_⟩ <;> kernel_rfl

theorem ty38 :
    (szT Tryz.prog 38 = some 1) ∧
    (aggT Tryz.prog 38 = some false) ∧
    (undT Tryz.prog 38 = true) ∧
    (boolT Tryz.prog 38 = false) ∧
    (zeroT Tryz.prog 38 = some [.slice none 0 0]) ∧
    (slcT Tryz.prog 38 = some (37, 6, 144)) ∧
    (slcZ Tryz.prog 38 = some (37, 6, 144)) := by
  refine ⟨?_, ?_, ?_, ?_, ?_, ?_, ?_⟩ <;> kernel_rfl

theorem ty40 :
    (szT Tryz.prog 40 = some 7) ∧
    (aggT Tryz.prog 40 = some true) ∧
    (undT Tryz.prog 40 = true) ∧
    (boolT Tryz.prog 40 = false) ∧
    (zeroT Tryz.prog 40 = some [.slice none 0 0, .slice none 0 0, .slice none 0 0, .slice none 0 0, .slice none 0 0, .slice none 0 0, .slice none 0 0]) ∧
    (plT Tryz.prog 40 = some [(0, 6), (6, 1)]) ∧
    (fldT Tryz.prog 40 0 = some (0, 6, true)) ∧
    (fldT Tryz.prog 40 1 = some (6, 1, false)) := by
  refine ⟨?_, ?_, ?_, ?_, ?_, ?_, ?_, ?_⟩ <;> kernel_rfl

theorem ty45 :
    (szT Tryz.prog 45 = some 1) ∧
    (aggT Tryz.prog 45 = some false) ∧
    (undT Tryz.prog 45 = true) ∧
    (boolT Tryz.prog 45 = false) ∧
    (intT Tryz.prog 45 = some .i64) ∧
    (zeroT Tryz.prog 45 = some [.int .i64 0]) := by
  refine ⟨?_, ?_, ?_, ?_, ?_, ?_⟩ <;> kernel_rfl

theorem ty54 :
    (szT Tryz.prog 54 = some 1) ∧
    (aggT Tryz.prog 54 = some false) ∧
    (undT Tryz.prog 54 = true) ∧
    (boolT Tryz.prog 54 = false) ∧
    (zeroT Tryz.prog 54 = some [.slice none 0 0]) ∧
    (slcT Tryz.prog 54 = some (108, 8, 160)) ∧
    (slcZ Tryz.prog 54 = some (108, 8, 160)) := by
  refine ⟨?_, ?_, ?_, ?_, ?_, ?_, ?_⟩ <;> kernel_rfl

theorem ty62 :
    (szT Tryz.prog 62 = some 1) ∧
    (aggT Tryz.prog 62 = some false) ∧
    (undT Tryz.prog 62 = true) ∧
    (boolT Tryz.prog 62 = false) ∧
    (intT Tryz.prog 62 = some .u64) ∧
    (zeroT Tryz.prog 62 = some [.int .u64 0]) := by
  refine ⟨?_, ?_, ?_, ?_, ?_, ?_⟩ <;> kernel_rfl

theorem ty63 :
    (szT Tryz.prog 63 = some 1) ∧
    (aggT Tryz.prog 63 = some false) ∧
    (undT Tryz.prog 63 = true) ∧
    (boolT Tryz.prog 63 = false) ∧
    (intT Tryz.prog 63 = some .u64) ∧
    (zeroT Tryz.prog 63 = some [.int .u64 0]) := by
  refine ⟨?_, ?_, ?_, ?_, ?_, ?_⟩ <;> kernel_rfl

theorem ty65 :
    (szT Tryz.prog 65 = some 4) ∧
    (aggT Tryz.prog 65 = some true) ∧
    (undT Tryz.prog 65 = true) ∧
    (boolT Tryz.prog 65 = false) ∧
    (zeroT Tryz.prog 65 = some [.int .u64 0, .int .u64 0, .int .u64 0, .int .u64 0]) ∧
    (eqTy Tryz.prog 6 65 = true) ∧
    (Tryz.prog.eqGuardType Tryz.prog.depth 65 = false) ∧
    (arrT Tryz.prog 65 = some (4, 1, false)) ∧
    (plT Tryz.prog 65 = some [(0, 1), (1, 1), (2, 1), (3, 1)]) := by
  refine ⟨?_, ?_, ?_, ?_, ?_, ?_, ?_, ?_, ?_⟩ <;> kernel_rfl

theorem ty66 :
    (szT Tryz.prog 66 = some 1) ∧
    (aggT Tryz.prog 66 = some false) ∧
    (undT Tryz.prog 66 = true) ∧
    (boolT Tryz.prog 66 = false) ∧
    (zeroT Tryz.prog 66 = some [.slice none 0 0]) ∧
    (slcT Tryz.prog 66 = some (5, 1, 1)) ∧
    (slcZ Tryz.prog 66 = some (5, 1, 1)) := by
  refine ⟨?_, ?_, ?_, ?_, ?_, ?_, ?_⟩ <;> kernel_rfl

theorem ty67 :
    (szT Tryz.prog 67 = some 1) ∧
    (aggT Tryz.prog 67 = some false) ∧
    (undT Tryz.prog 67 = true) ∧
    (boolT Tryz.prog 67 = false) ∧
    (zeroT Tryz.prog 67 = some [.slice none 0 0]) ∧
    (slcT Tryz.prog 67 = some (76, 8, 64)) ∧
    (slcZ Tryz.prog 67 = some (76, 8, 64)) := by
  refine ⟨?_, ?_, ?_, ?_, ?_, ?_, ?_⟩ <;> kernel_rfl

theorem ty69 :
    (szT Tryz.prog 69 = some 8) ∧
    (aggT Tryz.prog 69 = some true) ∧
    (undT Tryz.prog 69 = true) ∧
    (boolT Tryz.prog 69 = false) ∧
    (zeroT Tryz.prog 69 = some [.int .u64 0, .int .u64 0, .int .u64 0, .int .u64 0, .int .u64 0, .int .u64 0, .slice none 0 0, .slice none 0 0]) ∧
    (plT Tryz.prog 69 = some [(0, 1), (1, 4), (5, 1), (6, 1), (7, 1)]) ∧
    (fldT Tryz.prog 69 0 = some (0, 1, false)) ∧
    (fldT Tryz.prog 69 1 = some (1, 4, true)) ∧
    (fldT Tryz.prog 69 2 = some (5, 1, false)) ∧
    (fldT Tryz.prog 69 3 = some (6, 1, false)) ∧
    (fldT Tryz.prog 69 4 = some (7, 1, false)) := by
  refine ⟨?_, ?_, ?_, ?_, ?_, ?_, ?_, ?_, ?_, ?_, ?_⟩ <;> kernel_rfl

theorem ty76 :
    (szT Tryz.prog 76 = some 8) ∧
    (aggT Tryz.prog 76 = some true) ∧
    (undT Tryz.prog 76 = true) ∧
    (boolT Tryz.prog 76 = false) ∧
    (zeroT Tryz.prog 76 = some [.int .u64 0, .int .u64 0, .int .u64 0, .int .u64 0, .int .u64 0, .int .u64 0, .int .u64 0, .int .u64 0]) ∧
    (eqTy Tryz.prog 6 76 = true) ∧
    (Tryz.prog.eqGuardType Tryz.prog.depth 76 = false) ∧
    (plT Tryz.prog 76 = some [(0, 4), (4, 4)]) ∧
    (fldT Tryz.prog 76 0 = some (0, 4, true)) ∧
    (fldT Tryz.prog 76 1 = some (4, 4, true)) := by
  refine ⟨?_, ?_, ?_, ?_, ?_, ?_, ?_, ?_, ?_, ?_⟩ <;> kernel_rfl

theorem ty79 :
    (szT Tryz.prog 79 = some 11) ∧
    (aggT Tryz.prog 79 = some true) ∧
    (undT Tryz.prog 79 = true) ∧
    (boolT Tryz.prog 79 = false) ∧
    (zeroT Tryz.prog 79 = some [.int .u64 0, .int .u64 0, .int .u64 0, .int .u64 0, .int .u64 0, .int .u64 0, .int .u64 0, .int .u64 0, .int .u64 0, .int .u64 0, .int .u64 0]) ∧
    (eqTy Tryz.prog 6 79 = true) ∧
    (Tryz.prog.eqGuardType Tryz.prog.depth 79 = false) ∧
    (plT Tryz.prog 79 = some [(0, 1), (1, 4), (5, 4), (9, 1), (10, 1)]) ∧
    (fldT Tryz.prog 79 0 = some (0, 1, false)) ∧
    (fldT Tryz.prog 79 1 = some (1, 4, true)) ∧
    (fldT Tryz.prog 79 2 = some (5, 4, true)) ∧
    (fldT Tryz.prog 79 3 = some (9, 1, false)) ∧
    (fldT Tryz.prog 79 4 = some (10, 1, false)) := by
  refine ⟨?_, ?_, ?_, ?_, ?_, ?_, ?_, ?_, ?_, ?_, ?_, ?_, ?_⟩ <;> kernel_rfl

theorem ty82 :
    (szT Tryz.prog 82 = some 6) ∧
    (aggT Tryz.prog 82 = some true) ∧
    (undT Tryz.prog 82 = true) ∧
    (boolT Tryz.prog 82 = false) ∧
    (zeroT Tryz.prog 82 = some [.int .u64 0, .int .u64 0, .int .u64 0, .int .u64 0, .int .u64 0, .int .u64 0]) ∧
    (eqTy Tryz.prog 6 82 = true) ∧
    (Tryz.prog.eqGuardType Tryz.prog.depth 82 = false) ∧
    (plT Tryz.prog 82 = some [(0, 1), (1, 4), (5, 1)]) ∧
    (fldT Tryz.prog 82 0 = some (0, 1, false)) ∧
    (fldT Tryz.prog 82 1 = some (1, 4, true)) ∧
    (fldT Tryz.prog 82 2 = some (5, 1, false)) := by
  refine ⟨?_, ?_, ?_, ?_, ?_, ?_, ?_, ?_, ?_, ?_, ?_⟩ <;> kernel_rfl

theorem ty86 :
    (szT Tryz.prog 86 = some 5) ∧
    (aggT Tryz.prog 86 = some true) ∧
    (undT Tryz.prog 86 = true) ∧
    (boolT Tryz.prog 86 = false) ∧
    (zeroT Tryz.prog 86 = some [.int .u64 0, .int .u64 0, .int .u64 0, .int .u64 0, .int .u64 0]) ∧
    (eqTy Tryz.prog 6 86 = true) ∧
    (Tryz.prog.eqGuardType Tryz.prog.depth 86 = false) ∧
    (plT Tryz.prog 86 = some [(0, 1), (1, 4)]) ∧
    (fldT Tryz.prog 86 0 = some (0, 1, false)) ∧
    (fldT Tryz.prog 86 1 = some (1, 4, true)) := by
  refine ⟨?_, ?_, ?_, ?_, ?_, ?_, ?_, ?_, ?_, ?_⟩ <;> kernel_rfl

theorem ty89 :
    (szT Tryz.prog 89 = some 9) ∧
    (aggT Tryz.prog 89 = some true) ∧
    (undT Tryz.prog 89 = true) ∧
    (boolT Tryz.prog 89 = false) ∧
    (zeroT Tryz.prog 89 = some [.int .u64 0, .int .u64 0, .int .u64 0, .int .u64 0, .int .u64 0, .int .u64 0, .int .u64 0, .int .u64 0, .int .u64 0]) ∧
    (eqTy Tryz.prog 6 89 = true) ∧
    (Tryz.prog.eqGuardType Tryz.prog.depth 89 = false) ∧
    (plT Tryz.prog 89 = some [(0, 5), (5, 4)]) ∧
    (fldT Tryz.prog 89 0 = some (0, 5, true)) ∧
    (fldT Tryz.prog 89 1 = some (5, 4, true)) := by
  refine ⟨?_, ?_, ?_, ?_, ?_, ?_, ?_, ?_, ?_, ?_⟩ <;> kernel_rfl

theorem ty93 :
    (szT Tryz.prog 93 = some 7) ∧
    (aggT Tryz.prog 93 = some true) ∧
    (undT Tryz.prog 93 = true) ∧
    (boolT Tryz.prog 93 = false) ∧
    (zeroT Tryz.prog 93 = some [.slice none 0 0, .slice none 0 0, .slice none 0 0, .slice none 0 0, .slice none 0 0, .slice none 0 0, .slice none 0 0]) ∧
    (plT Tryz.prog 93 = some [(0, 7)]) ∧
    (fldT Tryz.prog 93 0 = some (0, 7, true)) := by
  refine ⟨?_, ?_, ?_, ?_, ?_, ?_, ?_⟩ <;> kernel_rfl

theorem ty94 :
    (szT Tryz.prog 94 = some 1) ∧
    (aggT Tryz.prog 94 = some false) ∧
    (undT Tryz.prog 94 = true) ∧
    (boolT Tryz.prog 94 = false) ∧
    (zeroT Tryz.prog 94 = some [.nilFunc]) := by
  refine ⟨?_, ?_, ?_, ?_, ?_⟩ <;> kernel_rfl

theorem ty108 :
    (szT Tryz.prog 108 = some 8) ∧
    (aggT Tryz.prog 108 = some true) ∧
    (undT Tryz.prog 108 = true) ∧
    (boolT Tryz.prog 108 = false) ∧
    (zeroT Tryz.prog 108 = some [.int .i64 0, .int .i64 0, .slice none 0 0, .slice none 0 0, .slice none 0 0, .slice none 0 0, .slice none 0 0, .slice none 0 0]) ∧
    (plT Tryz.prog 108 = some [(0, 1), (1, 1), (2, 3), (5, 3)]) ∧
    (fldT Tryz.prog 108 0 = some (0, 1, false)) ∧
    (fldT Tryz.prog 108 1 = some (1, 1, false)) ∧
    (fldT Tryz.prog 108 2 = some (2, 3, true)) ∧
    (fldT Tryz.prog 108 3 = some (5, 3, true)) := by
  refine ⟨?_, ?_, ?_, ?_, ?_, ?_, ?_, ?_, ?_, ?_⟩ <;> kernel_rfl

theorem ty111 :
    (szT Tryz.prog 111 = some 1) ∧
    (aggT Tryz.prog 111 = some false) ∧
    (undT Tryz.prog 111 = true) ∧
    (boolT Tryz.prog 111 = false) ∧
    (zeroT Tryz.prog 111 = some [.nilFunc]) := by
  refine ⟨?_, ?_, ?_, ?_, ?_⟩ <;> kernel_rfl

theorem ty124 :
    (szT Tryz.prog 124 = some 5) ∧
    (aggT Tryz.prog 124 = some true) ∧
    (undT Tryz.prog 124 = true) ∧
    (boolT Tryz.prog 124 = false) ∧
    (zeroT Tryz.prog 124 = some [.int .u64 0, .int .u64 0, .int .u64 0, .int .u64 0, .int .u64 0]) ∧
    (eqTy Tryz.prog 6 124 = true) ∧
    (Tryz.prog.eqGuardType Tryz.prog.depth 124 = false) ∧
    (plT Tryz.prog 124 = some [(0, 1), (1, 4)]) ∧
    (fldT Tryz.prog 124 0 = some (0, 1, false)) ∧
    (fldT Tryz.prog 124 1 = some (1, 4, true)) := by
  refine ⟨?_, ?_, ?_, ?_, ?_, ?_, ?_, ?_, ?_, ?_⟩ <;> kernel_rfl

theorem ty132 :
    (szT Tryz.prog 132 = some 1) ∧
    (aggT Tryz.prog 132 = some false) ∧
    (undT Tryz.prog 132 = true) ∧
    (boolT Tryz.prog 132 = false) ∧
    (intT Tryz.prog 132 = some .u64) ∧
    (zeroT Tryz.prog 132 = some [.int .u64 0]) := by
  refine ⟨?_, ?_, ?_, ?_, ?_, ?_⟩ <;> kernel_rfl

theorem ty143 :
    (szT Tryz.prog 143 = some 1) ∧
    (aggT Tryz.prog 143 = some false) ∧
    (undT Tryz.prog 143 = true) ∧
    (boolT Tryz.prog 143 = false) ∧
    (zeroT Tryz.prog 143 = some [.slice none 0 0]) ∧
    (slcT Tryz.prog 143 = some (65, 4, 32)) ∧
    (slcZ Tryz.prog 143 = some (65, 4, 32)) := by
  refine ⟨?_, ?_, ?_, ?_, ?_, ?_, ?_⟩ <;> kernel_rfl

theorem ty158 :
    (szT Tryz.prog 158 = some 1) ∧
    (aggT Tryz.prog 158 = some false) ∧
    (undT Tryz.prog 158 = true) ∧
    (boolT Tryz.prog 158 = false) ∧
    (zeroT Tryz.prog 158 = some [.slice none 0 0]) ∧
    (slcT Tryz.prog 158 = some (3, 1, 8)) ∧
    (slcZ Tryz.prog 158 = some (3, 1, 8)) := by
  refine ⟨?_, ?_, ?_, ?_, ?_, ?_, ?_⟩ <;> kernel_rfl

attribute [go_sem] ty3 ty4 ty5 ty22 ty24 ty25 ty27 ty28 ty30 ty31 ty32 ty33 ty35 ty37 ty38 ty40 ty45 ty54 ty62 ty63 ty65 ty66 ty67 ty69 ty76 ty79 ty82 ty86 ty89 ty93 ty94 ty108 ty111 ty124 ty132 ty143 ty158
attribute [go_sem] St.free freeH evO ofV AV.cells pickAV evz bne_self_eq_false forall_const Nat.reduceBEq Nat.reduceBNe Nat.reduceAdd Nat.reduceLT Nat.reduceLeDiff Nat.reduceEqDiff Int.reduceLE Int.reduceLT Int.reduceToNat Nat.reduceMul Nat.reduceSub Nat.reduceDiv Nat.reduceMod reduceCtorEq
attribute [go_sem ↓] reduceIte

end Go.Proofs.YtcahibdaiokajaaGreat
