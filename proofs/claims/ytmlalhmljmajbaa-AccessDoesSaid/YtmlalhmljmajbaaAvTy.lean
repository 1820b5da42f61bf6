/-
  What the program says of its types.
-/
import Derived.Test.YtmlalhmljmajbaaAvW
import Derived.Test.YtmlalhmljmajbaaProg
import Derived.KernelRfl
namespace Go.Proofs.Ytmlalhmljmajbaa

theorem ty1 :
    (szT Try.prog 1 = some 1) ∧
    (aggT Try.prog 1 = some false) ∧
    (undT Try.prog 1 = true) ∧
    (boolT Try.prog 1 = false) ∧
    (zeroT Try.prog 1 = some [.nilFunc]) := by
  refine ⟨?_, ?_, ?_, ?_, ?_⟩ <;> kernel_rfl

theorem ty2 :
    (szT Try.prog 2 = some 1) ∧
    (aggT Try.prog 2 = some false) ∧
    (undT Try.prog 2 = true) ∧
    (boolT Try.prog 2 = false) ∧
    (intT Try.prog 2 = some .i64) ∧
    (zeroT Try.prog 2 = some [.int .i64 0]) := by
  refine ⟨?_, ?_, ?_, ?_, ?_, ?_⟩ <;> kernel_rfl

theorem ty3 :
    (szT Try.prog 3 = some 1) ∧
    (aggT Try.prog 3 = some false) ∧
    (undT Try.prog 3 = true) ∧
    (boolT Try.prog 3 = false) ∧
    (intT Try.prog 3 = some .i64) ∧
    (zeroT Try.prog 3 = some [.int .i64 0]) := by
  refine ⟨?_, ?_, ?_, ?_, ?_, ?_⟩ <;> kernel_rfl

theorem ty4 :
    (szT Try.prog 4 = some 1) ∧
    (aggT Try.prog 4 = some false) ∧
    (undT Try.prog 4 = true) ∧
    (boolT Try.prog 4 = true) ∧
    (zeroT Try.prog 4 = some [.bool false]) := by
  refine ⟨?_, ?_, ?_, ?_, ?_⟩ <;> kernel_rfl

theorem ty5 :
    (szT Try.prog 5 = some 1) ∧
    (aggT Try.prog 5 = some false) ∧
    (undT Try.prog 5 = true) ∧
    (boolT Try.prog 5 = false) ∧
    (intT Try.prog 5 = some .u8) ∧
    (zeroT Try.prog 5 = some [.int .u8 0]) := by
  refine ⟨?_, ?_, ?_, ?_, ?_, ?_⟩ <;> kernel_rfl

theorem ty6 :
    (szT Try.prog 6 = some 1) ∧
    (aggT Try.prog 6 = some false) ∧
    (undT Try.prog 6 = true) ∧
    (boolT Try.prog 6 = false) ∧
    (intT Try.prog 6 = some .u8) ∧
    (zeroT Try.prog 6 = some [.int .u8 0]) := by
  refine ⟨?_, ?_, ?_, ?_, ?_, ?_⟩ <;> kernel_rfl

theorem ty7 :
    (szT Try.prog 7 = some 4) ∧
    (aggT Try.prog 7 = some true) ∧
    (undT Try.prog 7 = true) ∧
    (boolT Try.prog 7 = false) ∧
    (zeroT Try.prog 7 = some [.int .i64 0, .int .i64 0, .bool false, .int .u8 0]) ∧
    (plT Try.prog 7 = some [(0, 1), (1, 1), (2, 1), (3, 1)]) ∧
    (fldT Try.prog 7 0 = some (0, 1, false)) ∧
    (fldT Try.prog 7 1 = some (1, 1, false)) ∧
    (fldT Try.prog 7 2 = some (2, 1, false)) ∧
    (fldT Try.prog 7 3 = some (3, 1, false)) := by
  refine ⟨?_, ?_, ?_, ?_, ?_, ?_, ?_, ?_, ?_, ?_⟩ <;> kernel_rfl

theorem ty8 :
    (szT Try.prog 8 = some 4) ∧
    (aggT Try.prog 8 = some true) ∧
    (undT Try.prog 8 = true) ∧
    (boolT Try.prog 8 = false) ∧
    (zeroT Try.prog 8 = some [.int .i64 0, .int .i64 0, .bool false, .int .u8 0]) ∧
    (plT Try.prog 8 = some [(0, 1), (1, 1), (2, 1), (3, 1)]) ∧
    (fldT Try.prog 8 0 = some (0, 1, false)) ∧
    (fldT Try.prog 8 1 = some (1, 1, false)) ∧
    (fldT Try.prog 8 2 = some (2, 1, false)) ∧
    (fldT Try.prog 8 3 = some (3, 1, false)) := by
  refine ⟨?_, ?_, ?_, ?_, ?_, ?_, ?_, ?_, ?_, ?_⟩ <;> kernel_rfl

theorem ty12 :
    (szT Try.prog 12 = some 1) ∧
    (aggT Try.prog 12 = some false) ∧
    (undT Try.prog 12 = true) ∧
    (boolT Try.prog 12 = false) ∧
    (intT Try.prog 12 = some .u64) ∧
    (zeroT Try.prog 12 = some [.int .u64 0]) := by
  refine ⟨?_, ?_, ?_, ?_, ?_, ?_⟩ <;> kernel_rfl

theorem ty13 :
    (szT Try.prog 13 = some 2) ∧
    (aggT Try.prog 13 = some true) ∧
    (undT Try.prog 13 = true) ∧
    (boolT Try.prog 13 = false) ∧
    (plT Try.prog 13 = some [(0, 1), (1, 1)]) ∧
    (fldT Try.prog 13 0 = some (0, 1, false)) ∧
    (fldT Try.prog 13 1 = some (1, 1, false)) := by
  refine ⟨?_, ?_, ?_, ?_, ?_, ?_, ?_⟩ <;> kernel_rfl

theorem ty14 :
    (szT Try.prog 14 = some 2) ∧
    (aggT Try.prog 14 = some true) ∧
    (undT Try.prog 14 = true) ∧
    (boolT Try.prog 14 = false) ∧
    (plT Try.prog 14 = some [(0, 1), (1, 1)]) ∧
    (fldT Try.prog 14 0 = some (0, 1, false)) ∧
    (fldT Try.prog 14 1 = some (1, 1, false)) := by
  refine ⟨?_, ?_, ?_, ?_, ?_, ?_, ?_⟩ <;> kernel_rfl

theorem ty15 :
    (szT Try.prog 15 = some 1) ∧
    (aggT Try.prog 15 = some false) ∧
    (undT Try.prog 15 = true) ∧
    (boolT Try.prog 15 = false) ∧
    (zeroT Try.prog 15 = some [.pointer none]) := by
  refine ⟨?_, ?_, ?_, ?_, ?_⟩ <;> kernel_rfl

theorem ty16 :
    (szT Try.prog 16 = some 1) ∧
    (aggT Try.prog 16 = some false) ∧
    (undT Try.prog 16 = true) ∧
    (boolT Try.prog 16 = false) ∧
    (zeroT Try.prog 16 = some [.pointer none]) := by
  refine ⟨?_, ?_, ?_, ?_, ?_⟩ <;> kernel_rfl

theorem ty17 :
    (szT Try.prog 17 = some 1) ∧
    (aggT Try.prog 17 = some false) ∧
    (undT Try.prog 17 = true) ∧
    (boolT Try.prog 17 = false) ∧
    (zeroT Try.prog 17 = some [.pointer none]) := by
  refine ⟨?_, ?_, ?_, ?_, ?_⟩ <;> kernel_rfl

theorem ty18 :
    (szT Try.prog 18 = some 1) ∧
    (aggT Try.prog 18 = some true) ∧
    (undT Try.prog 18 = true) ∧
    (boolT Try.prog 18 = false) ∧
    (zeroT Try.prog 18 = some [.pointer none]) ∧
    (plT Try.prog 18 = some [(0, 1)]) ∧
    (fldT Try.prog 18 0 = some (0, 1, false)) := by
  refine ⟨?_, ?_, ?_, ?_, ?_, ?_, ?_⟩ <;> kernel_rfl

theorem ty19 :
    (szT Try.prog 19 = some 1) ∧
    (aggT Try.prog 19 = some true) ∧
    (undT Try.prog 19 = true) ∧
    (boolT Try.prog 19 = false) ∧
    (zeroT Try.prog 19 = some [.pointer none]) ∧
    (plT Try.prog 19 = some [(0, 1)]) ∧
    (fldT Try.prog 19 0 = some (0, 1, false)) := by
  refine ⟨?_, ?_, ?_, ?_, ?_, ?_, ?_⟩ <;> kernel_rfl

theorem ty21 :
    (szT Try.prog 21 = some 1) ∧
    (aggT Try.prog 21 = some false) ∧
    (undT Try.prog 21 = true) ∧
    (boolT Try.prog 21 = false) ∧
    (intT Try.prog 21 = some .i32) ∧
    (zeroT Try.prog 21 = some [.int .i32 0]) := by
  refine ⟨?_, ?_, ?_, ?_, ?_, ?_⟩ <;> kernel_rfl

theorem ty22 :
    (szT Try.prog 22 = some 1) ∧
    (aggT Try.prog 22 = some false) ∧
    (undT Try.prog 22 = true) ∧
    (boolT Try.prog 22 = false) ∧
    (zeroT Try.prog 22 = some [.slice none 0 0]) ∧
    (slcT Try.prog 22 = some (24, 1, 8)) ∧
    (slcZ Try.prog 22 = some (24, 1, 8)) := by
  refine ⟨?_, ?_, ?_, ?_, ?_, ?_, ?_⟩ <;> kernel_rfl

theorem ty23 :
    (szT Try.prog 23 = some 1) ∧
    (aggT Try.prog 23 = some false) ∧
    (undT Try.prog 23 = true) ∧
    (boolT Try.prog 23 = false) ∧
    (intT Try.prog 23 = some .u64) ∧
    (zeroT Try.prog 23 = some [.int .u64 0]) := by
  refine ⟨?_, ?_, ?_, ?_, ?_, ?_⟩ <;> kernel_rfl

theorem ty24 :
    (szT Try.prog 24 = some 1) ∧
    (aggT Try.prog 24 = some false) ∧
    (undT Try.prog 24 = true) ∧
    (boolT Try.prog 24 = false) ∧
    (intT Try.prog 24 = some .u64) ∧
    (zeroT Try.prog 24 = some [.int .u64 0]) := by
  refine ⟨?_, ?_, ?_, ?_, ?_, ?_⟩ <;> kernel_rfl

theorem ty25 :
    (szT Try.prog 25 = some 4) ∧
    (aggT Try.prog 25 = some true) ∧
    (undT Try.prog 25 = true) ∧
    (boolT Try.prog 25 = false) ∧
    (zeroT Try.prog 25 = some [.int .u64 0, .int .u64 0, .int .u64 0, .int .u64 0]) ∧
    (eqTy Try.prog 6 25 = true) ∧
    (Try.prog.eqGuardType Try.prog.depth 25 = false) ∧
    (arrT Try.prog 25 = some (4, 1, false)) ∧
    (plT Try.prog 25 = some [(0, 1), (1, 1), (2, 1), (3, 1)]) := by
  refine ⟨?_, ?_, ?_, ?_, ?_, ?_, ?_, ?_, ?_⟩ <;> kernel_rfl

theorem ty26 :
    (szT Try.prog 26 = some 4) ∧
    (aggT Try.prog 26 = some true) ∧
    (undT Try.prog 26 = true) ∧
    (boolT Try.prog 26 = false) ∧
    (zeroT Try.prog 26 = some [.int .u64 0, .int .u64 0, .int .u64 0, .int .u64 0]) ∧
    (eqTy Try.prog 6 26 = true) ∧
    (Try.prog.eqGuardType Try.prog.depth 26 = false) ∧
    (arrT Try.prog 26 = some (4, 1, false)) ∧
    (plT Try.prog 26 = some [(0, 1), (1, 1), (2, 1), (3, 1)]) := by
  refine ⟨?_, ?_, ?_, ?_, ?_, ?_, ?_, ?_, ?_⟩ <;> kernel_rfl

theorem ty27 :
    (szT Try.prog 27 = some 5) ∧
    (aggT Try.prog 27 = some true) ∧
    (undT Try.prog 27 = true) ∧
    (boolT Try.prog 27 = false) ∧
    (zeroT Try.prog 27 = some [.int .u64 0, .int .u64 0, .int .u64 0, .int .u64 0, .int .u64 0]) ∧
    (eqTy Try.prog 6 27 = true) ∧
    (Try.prog.eqGuardType Try.prog.depth 27 = false) ∧
    (plT Try.prog 27 = some [(0, 1), (1, 4)]) ∧
    (fldT Try.prog 27 0 = some (0, 1, false)) ∧
    (fldT Try.prog 27 1 = some (1, 4, true)) := by
  refine ⟨?_, ?_, ?_, ?_, ?_, ?_, ?_, ?_, ?_, ?_⟩ <;> kernel_rfl

theorem ty28 :
    (szT Try.prog 28 = some 5) ∧
    (aggT Try.prog 28 = some true) ∧
    (undT Try.prog 28 = true) ∧
    (boolT Try.prog 28 = false) ∧
    (zeroT Try.prog 28 = some [.int .u64 0, .int .u64 0, .int .u64 0, .int .u64 0, .int .u64 0]) ∧
    (eqTy Try.prog 6 28 = true) ∧
    (Try.prog.eqGuardType Try.prog.depth 28 = false) ∧
    (plT Try.prog 28 = some [(0, 1), (1, 4)]) ∧
    (fldT Try.prog 28 0 = some (0, 1, false)) ∧
    (fldT Try.prog 28 1 = some (1, 4, true)) := by
  refine ⟨?_, ?_, ?_, ?_, ?_, ?_, ?_, ?_, ?_, ?_⟩ <;> kernel_rfl

theorem ty29 :
    (szT Try.prog 29 = some 1) ∧
    (aggT Try.prog 29 = some false) ∧
    (undT Try.prog 29 = true) ∧
    (boolT Try.prog 29 = false) ∧
    (zeroT Try.prog 29 = some [.nilFunc]) := by
  refine ⟨?_, ?_, ?_, ?_, ?_⟩ <;> kernel_rfl

theorem ty30 :
    (szT Try.prog 30 = some 1) ∧
    (aggT Try.prog 30 = some false) ∧
    (undT Try.prog 30 = true) ∧
    (boolT Try.prog 30 = false) ∧
    (zeroT Try.prog 30 = some [.slice none 0 0]) ∧
    (slcT Try.prog 30 = some (28, 5, 40)) ∧
    (slcZ Try.prog 30 = some (28, 5, 40)) := by
  refine ⟨?_, ?_, ?_, ?_, ?_, ?_, ?_⟩ <;> kernel_rfl

theorem ty31 :
    (szT Try.prog 31 = some 1) ∧
    (aggT Try.prog 31 = some false) ∧
    (undT Try.prog 31 = true) ∧
    (boolT Try.prog 31 = false) ∧
    (zeroT Try.prog 31 = some [.slice none 0 0]) ∧
    (slcT Try.prog 31 = some (67, 9, 72)) ∧
    (slcZ Try.prog 31 = some (67, 9, 72)) := by
  refine ⟨?_, ?_, ?_, ?_, ?_, ?_, ?_⟩ <;> kernel_rfl

theorem ty32 :
    (szT Try.prog 32 = some 3) ∧
    (aggT Try.prog 32 = some true) ∧
    (undT Try.prog 32 = true) ∧
    (boolT Try.prog 32 = false) ∧
    (zeroT Try.prog 32 = some [.slice none 0 0, .slice none 0 0, .slice none 0 0]) ∧
    (plT Try.prog 32 = some [(0, 1), (1, 1), (2, 1)]) ∧
    (fldT Try.prog 32 0 = some (0, 1, false)) ∧
    (fldT Try.prog 32 1 = some (1, 1, false)) ∧
    (fldT Try.prog 32 2 = some (2, 1, false)) := by
  refine ⟨?_, ?_, ?_, ?_, ?_, ?_, ?_, ?_, ?_⟩ <;> kernel_rfl

theorem ty33 :
    (szT Try.prog 33 = some 3) ∧
    (aggT Try.prog 33 = some true) ∧
    (undT Try.prog 33 = true) ∧
    (boolT Try.prog 33 = false) ∧
    (zeroT Try.prog 33 = some [.slice none 0 0, .slice none 0 0, .slice none 0 0]) ∧
    (plT Try.prog 33 = some [(0, 1), (1, 1), (2, 1)]) ∧
    (fldT Try.prog 33 0 = some (0, 1, false)) ∧
    (fldT Try.prog 33 1 = some (1, 1, false)) ∧
    (fldT Try.prog 33 2 = some (2, 1, false)) := by
  refine ⟨?_, ?_, ?_, ?_, ?_, ?_, ?_, ?_, ?_⟩ <;> kernel_rfl

theorem ty34 :
    (szT Try.prog 34 = some 1) ∧
    (aggT Try.prog 34 = some false) ∧
    (undT Try.prog 34 = true) ∧
    (boolT Try.prog 34 = false) ∧
    (intT Try.prog 34 = some .i64) ∧
    (zeroT Try.prog 34 = some [.int .i64 0]) := by
  refine ⟨?_, ?_, ?_, ?_, ?_, ?_⟩ <;> kernel_rfl

theorem ty36 :
    (szT Try.prog 36 = some 1) ∧
    (aggT Try.prog 36 = some false) ∧
    (undT Try.prog 36 = true) ∧
    (boolT Try.prog 36 = false) ∧
    (zeroT Try.prog 36 = some [.nilFunc]) := by
  refine ⟨?_, ?_, ?_, ?_, ?_⟩ <;> kernel_rfl

theorem ty38 :
    (szT Try.prog 38 = some 1) ∧
    (aggT Try.prog 38 = some false) ∧
    (undT Try.prog 38 = true) ∧
    (boolT Try.prog 38 = false) ∧
    (zeroT Try.prog 38 = some [.nilFunc]) := by
  refine ⟨?_, ?_, ?_, ?_, ?_⟩ <;> kernel_rfl

theorem ty39 :
    (szT Try.prog 39 = some 1) ∧
    (aggT Try.prog 39 = some false) ∧
    (undT Try.prog 39 = true) ∧
    (boolT Try.prog 39 = false) ∧
    (zeroT Try.prog 39 = some [.nilFunc]) := by
  refine ⟨?_, ?_, ?_, ?_, ?_⟩ <;> kernel_rfl

theorem ty40 :
    (szT Try.prog 40 = some 1) ∧
    (aggT Try.prog 40 = some false) ∧
    (undT Try.prog 40 = true) ∧
    (boolT Try.prog 40 = false) ∧
    (zeroT Try.prog 40 = some [.nilFunc]) := by
  refine ⟨?_, ?_, ?_, ?_, ?_⟩ <;> kernel_rfl

theorem ty41 :
    (szT Try.prog 41 = some 1) ∧
    (aggT Try.prog 41 = some false) ∧
    (undT Try.prog 41 = true) ∧
    (boolT Try.prog 41 = false) ∧
    (zeroT Try.prog 41 = some [.nilFunc]) := by
  refine ⟨?_, ?_, ?_, ?_, ?_⟩ <;> kernel_rfl

theorem ty42 :
    (szT Try.prog 42 = some 1) ∧
    (aggT Try.prog 42 = some false) ∧
    (undT Try.prog 42 = true) ∧
    (boolT Try.prog 42 = false) ∧
    (zeroT Try.prog 42 = some [.nilFunc]) := by
  refine ⟨?_, ?_, ?_, ?_, ?_⟩ <;> kernel_rfl

theorem ty44 :
    (szT Try.prog 44 = some 1) ∧
    (aggT Try.prog 44 = some false) ∧
    (undT Try.prog 44 = true) ∧
    (boolT Try.prog 44 = false) ∧
    (zeroT Try.prog 44 = some [.nilFunc]) := by
  refine ⟨?_, ?_, ?_, ?_, ?_⟩ <;> kernel_rfl

theorem ty45 :
    (szT Try.prog 45 = some 1) ∧
    (aggT Try.prog 45 = some false) ∧
    (undT Try.prog 45 = true) ∧
    (boolT Try.prog 45 = false) ∧
    (zeroT Try.prog 45 = some [.nilFunc]) := by
  refine ⟨?_, ?_, ?_, ?_, ?_⟩ <;> kernel_rfl

theorem ty46 :
    (szT Try.prog 46 = some 1) ∧
    (aggT Try.prog 46 = some false) ∧
    (undT Try.prog 46 = true) ∧
    (boolT Try.prog 46 = false) ∧
    (zeroT Try.prog 46 = some [.nilFunc]) := by
  refine ⟨?_, ?_, ?_, ?_, ?_⟩ <;> kernel_rfl

theorem ty47 :
    (szT Try.prog 47 = some 1) ∧
    (aggT Try.prog 47 = some false) ∧
    (undT Try.prog 47 = true) ∧
    (boolT Try.prog 47 = false) ∧
    (zeroT Try.prog 47 = some [.nilFunc]) := by
  refine ⟨?_, ?_, ?_, ?_, ?_⟩ <;> kernel_rfl

theorem ty48 :
    (szT Try.prog 48 = some 1) ∧
    (aggT Try.prog 48 = some false) ∧
    (undT Try.prog 48 = true) ∧
    (boolT Try.prog 48 = false) ∧
    (zeroT Try.prog 48 = some [.nilFunc]) := by
  refine ⟨?_, ?_, ?_, ?_, ?_⟩ <;> kernel_rfl

theorem ty49 :
    (szT Try.prog 49 = some 1) ∧
    (aggT Try.prog 49 = some false) ∧
    (undT Try.prog 49 = true) ∧
    (boolT Try.prog 49 = false) ∧
    (zeroT Try.prog 49 = some [.nilFunc]) := by
  refine ⟨?_, ?_, ?_, ?_, ?_⟩ <;> kernel_rfl

theorem ty50 :
    (szT Try.prog 50 = some 1) ∧
    (aggT Try.prog 50 = some false) ∧
    (undT Try.prog 50 = true) ∧
    (boolT Try.prog 50 = false) ∧
    (zeroT Try.prog 50 = some [.nilFunc]) := by
  refine ⟨?_, ?_, ?_, ?_, ?_⟩ <;> kernel_rfl

theorem ty52 :
    (szT Try.prog 52 = some 1) ∧
    (aggT Try.prog 52 = some false) ∧
    (undT Try.prog 52 = true) ∧
    (boolT Try.prog 52 = false) ∧
    (zeroT Try.prog 52 = some [.nilFunc]) := by
  refine ⟨?_, ?_, ?_, ?_, ?_⟩ <;> kernel_rfl

theorem ty53 :
    (szT Try.prog 53 = some 1) ∧
    (aggT Try.prog 53 = some false) ∧
    (undT Try.prog 53 = true) ∧
    (boolT Try.prog 53 = false) ∧
    (zeroT Try.prog 53 = some [.nilFunc]) := by
  refine ⟨?_, ?_, ?_, ?_, ?_⟩ <;> kernel_rfl

theorem ty54 :
    (szT Try.prog 54 = some 1) ∧
    (aggT Try.prog 54 = some false) ∧
    (undT Try.prog 54 = true) ∧
    (boolT Try.prog 54 = false) ∧
    (zeroT Try.prog 54 = some [.slice none 0 0]) ∧
    (slcT Try.prog 54 = some (56, 10, 80)) ∧
    (slcZ Try.prog 54 = some (56, 10, 80)) := by
  refine ⟨?_, ?_, ?_, ?_, ?_, ?_, ?_⟩ <;> kernel_rfl

theorem ty55 :
    (szT Try.prog 55 = some 10) ∧
    (aggT Try.prog 55 = some true) ∧
    (undT Try.prog 55 = true) ∧
    (boolT Try.prog 55 = false) ∧
    (zeroT Try.prog 55 = some [.int .i64 0, .int .u64 0, .int .u64 0, .int .u64 0, .int .u64 0, .int .u64 0, .int .u64 0, .int .u64 0, .int .u64 0, .int .u64 0]) ∧
    (eqTy Try.prog 6 55 = true) ∧
    (Try.prog.eqGuardType Try.prog.depth 55 = false) ∧
    (plT Try.prog 55 = some [(0, 1), (1, 5), (6, 4)]) ∧
    (fldT Try.prog 55 0 = some (0, 1, false)) ∧
    (fldT Try.prog 55 1 = some (1, 5, true)) ∧
    (fldT Try.prog 55 2 = some (6, 4, true)) := by
  refine ⟨?_, ?_, ?_, ?_, ?_, ?_, ?_, ?_, ?_, ?_, ?_⟩ <;> kernel_rfl

theorem ty56 :
    (szT Try.prog 56 = some 10) ∧
    (aggT Try.prog 56 = some true) ∧
    (undT Try.prog 56 = true) ∧
    (boolT Try.prog 56 = false) ∧
    (zeroT Try.prog 56 = some [.int .i64 0, .int .u64 0, .int .u64 0, .int .u64 0, .int .u64 0, .int .u64 0, .int .u64 0, .int .u64 0, .int .u64 0, .int .u64 0]) ∧
    (eqTy Try.prog 6 56 = true) ∧
    (Try.prog.eqGuardType Try.prog.depth 56 = false) ∧
    (plT Try.prog 56 = some [(0, 1), (1, 5), (6, 4)]) ∧
    (fldT Try.prog 56 0 = some (0, 1, false)) ∧
    (fldT Try.prog 56 1 = some (1, 5, true)) ∧
    (fldT Try.prog 56 2 = some (6, 4, true)) := by
  refine ⟨?_, ?_, ?_, ?_, ?_, ?_, ?_, ?_, ?_, ?_, ?_⟩ <;> kernel_rfl

theorem ty57 :
    (szT Try.prog 57 = some 1) ∧
    (aggT Try.prog 57 = some false) ∧
    (undT Try.prog 57 = true) ∧
    (boolT Try.prog 57 = false) ∧
    (zeroT Try.prog 57 = some [.nilFunc]) := by
  refine ⟨?_, ?_, ?_, ?_, ?_⟩ <;> kernel_rfl

theorem ty58 :
    (szT Try.prog 58 = some 1) ∧
    (aggT Try.prog 58 = some false) ∧
    (undT Try.prog 58 = true) ∧
    (boolT Try.prog 58 = false) ∧
    (zeroT Try.prog 58 = some [.nilFunc]) := by
  refine ⟨?_, ?_, ?_, ?_, ?_⟩ <;> kernel_rfl

theorem ty59 :
    (szT Try.prog 59 = some 1) ∧
    (aggT Try.prog 59 = some false) ∧
    (undT Try.prog 59 = true) ∧
    (boolT Try.prog 59 = false) ∧
    (zeroT Try.prog 59 = some [.nilFunc]) := by
  refine ⟨?_, ?_, ?_, ?_, ?_⟩ <;> kernel_rfl

theorem ty60 :
    (szT Try.prog 60 = some 1) ∧
    (aggT Try.prog 60 = some false) ∧
    (undT Try.prog 60 = true) ∧
    (boolT Try.prog 60 = false) ∧
    (intT Try.prog 60 = some .u64) ∧
    (zeroT Try.prog 60 = some [.int .u64 0]) := by
  refine ⟨?_, ?_, ?_, ?_, ?_, ?_⟩ <;> kernel_rfl

theorem ty61 :
    (szT Try.prog 61 = some 1) ∧
    (aggT Try.prog 61 = some false) ∧
    (undT Try.prog 61 = true) ∧
    (boolT Try.prog 61 = false) ∧
    (zeroT Try.prog 61 = some [.nilFunc]) := by
  refine ⟨?_, ?_, ?_, ?_, ?_⟩ <;> kernel_rfl

theorem ty62 :
    (szT Try.prog 62 = some 1) ∧
    (aggT Try.prog 62 = some false) ∧
    (undT Try.prog 62 = true) ∧
    (boolT Try.prog 62 = false) ∧
    (zeroT Try.prog 62 = some [.nilFunc]) := by
  refine ⟨?_, ?_, ?_, ?_, ?_⟩ <;> kernel_rfl

theorem ty63 :
    (szT Try.prog 63 = some 1) ∧
    (aggT Try.prog 63 = some false) ∧
    (undT Try.prog 63 = true) ∧
    (boolT Try.prog 63 = false) ∧
    (zeroT Try.prog 63 = some [.nilFunc]) := by
  refine ⟨?_, ?_, ?_, ?_, ?_⟩ <;> kernel_rfl

theorem ty64 :
    (szT Try.prog 64 = some 1) ∧
    (aggT Try.prog 64 = some false) ∧
    (undT Try.prog 64 = true) ∧
    (boolT Try.prog 64 = false) ∧
    (zeroT Try.prog 64 = some [.nilFunc]) := by
  refine ⟨?_, ?_, ?_, ?_, ?_⟩ <;> kernel_rfl

theorem ty65 :
    (szT Try.prog 65 = some 1) ∧
    (aggT Try.prog 65 = some false) ∧
    (undT Try.prog 65 = true) ∧
    (boolT Try.prog 65 = false) ∧
    (zeroT Try.prog 65 = some [.nilFunc]) := by
  refine ⟨?_, ?_, ?_, ?_, ?_⟩ <;> kernel_rfl

theorem ty66 :
    (szT Try.prog 66 = some 9) ∧
    (aggT Try.prog 66 = some true) ∧
    (undT Try.prog 66 = true) ∧
    (boolT Try.prog 66 = false) ∧
    (zeroT Try.prog 66 = some [.int .u64 0, .int .u64 0, .int .u64 0, .int .u64 0, .int .u64 0, .int .u64 0, .int .u64 0, .int .u64 0, .int .u64 0]) ∧
    (eqTy Try.prog 6 66 = true) ∧
    (Try.prog.eqGuardType Try.prog.depth 66 = false) ∧
    (plT Try.prog 66 = some [(0, 5), (5, 4)]) ∧
    (fldT Try.prog 66 0 = some (0, 5, true)) ∧
    (fldT Try.prog 66 1 = some (5, 4, true)) := by
  refine ⟨?_, ?_, ?_, ?_, ?_, ?_, ?_, ?_, ?_, ?_⟩ <;> kernel_rfl

theorem ty67 :
    (szT Try.prog 67 = some 9) ∧
    (aggT Try.prog 67 = some true) ∧
    (undT Try.prog 67 = true) ∧
    (boolT Try.prog 67 = false) ∧
    (zeroT Try.prog 67 = some [.int .u64 0, .int .u64 0, .int .u64 0, .int .u64 0, .int .u64 0, .int .u64 0, .int .u64 0, .int .u64 0, .int .u64 0]) ∧
    (eqTy Try.prog 6 67 = true) ∧
    (Try.prog.eqGuardType Try.prog.depth 67 = false) ∧
    (plT Try.prog 67 = some [(0, 5), (5, 4)]) ∧
    (fldT Try.prog 67 0 = some (0, 5, true)) ∧
    (fldT Try.prog 67 1 = some (5, 4, true)) := by
  refine ⟨?_, ?_, ?_, ?_, ?_, ?_, ?_, ?_, ?_, ?_⟩ <;> kernel_rfl

theorem ty68 :
    (szT Try.prog 68 = some 1) ∧
    (aggT Try.prog 68 = some false) ∧
    (undT Try.prog 68 = true) ∧
    (boolT Try.prog 68 = false) ∧
    (zeroT Try.prog 68 = some [.nilFunc]) := by
  refine ⟨?_, ?_, ?_, ?_, ?_⟩ <;> kernel_rfl

theorem ty69 :
    (szT Try.prog 69 = some 1) ∧
    (aggT Try.prog 69 = some false) ∧
    (undT Try.prog 69 = true) ∧
    (boolT Try.prog 69 = false) ∧
    (zeroT Try.prog 69 = some [.nilFunc]) := by
  refine ⟨?_, ?_, ?_, ?_, ?_⟩ <;> kernel_rfl

theorem ty70 :
    (szT Try.prog 70 = some 1) ∧
    (aggT Try.prog 70 = some false) ∧
    (undT Try.prog 70 = true) ∧
    (boolT Try.prog 70 = false) ∧
    (zeroT Try.prog 70 = some [.nilFunc]) := by
  refine ⟨?_, ?_, ?_, ?_, ?_⟩ <;> kernel_rfl

theorem ty72 :
    (szT Try.prog 72 = some 1) ∧
    (aggT Try.prog 72 = some false) ∧
    (undT Try.prog 72 = true) ∧
    (boolT Try.prog 72 = false) ∧
    (zeroT Try.prog 72 = some [.nilFunc]) := by
  refine ⟨?_, ?_, ?_, ?_, ?_⟩ <;> kernel_rfl

theorem ty73 :
    (szT Try.prog 73 = some 1) ∧
    (aggT Try.prog 73 = some false) ∧
    (undT Try.prog 73 = true) ∧
    (boolT Try.prog 73 = false) ∧
    (zeroT Try.prog 73 = some [.nilFunc]) := by
  refine ⟨?_, ?_, ?_, ?_, ?_⟩ <;> kernel_rfl

theorem ty74 :
    (szT Try.prog 74 = some 1) ∧
    (aggT Try.prog 74 = some false) ∧
    (undT Try.prog 74 = true) ∧
    (boolT Try.prog 74 = false) ∧
    (zeroT Try.prog 74 = some [.nilFunc]) := by
  refine ⟨?_, ?_, ?_, ?_, ?_⟩ <;> kernel_rfl

theorem ty75 :
    (szT Try.prog 75 = some 1) ∧
    (aggT Try.prog 75 = some false) ∧
    (undT Try.prog 75 = true) ∧
    (boolT Try.prog 75 = false) ∧
    (zeroT Try.prog 75 = some [.nilFunc]) := by
  refine ⟨?_, ?_, ?_, ?_, ?_⟩ <;> kernel_rfl

theorem ty76 :
    (szT Try.prog 76 = some 1) ∧
    (aggT Try.prog 76 = some false) ∧
    (undT Try.prog 76 = true) ∧
    (boolT Try.prog 76 = false) ∧
    (zeroT Try.prog 76 = some [.nilFunc]) := by
  refine ⟨?_, ?_, ?_, ?_, ?_⟩ <;> kernel_rfl

theorem ty77 :
    (szT Try.prog 77 = some 1) ∧
    (aggT Try.prog 77 = some false) ∧
    (undT Try.prog 77 = true) ∧
    (boolT Try.prog 77 = false) ∧
    (zeroT Try.prog 77 = some [.nilFunc]) := by
  refine ⟨?_, ?_, ?_, ?_, ?_⟩ <;> kernel_rfl

theorem ty78 :
    (szT Try.prog 78 = some 1) ∧
    (aggT Try.prog 78 = some false) ∧
    (undT Try.prog 78 = true) ∧
    (boolT Try.prog 78 = false) ∧
    (zeroT Try.prog 78 = some [.nilFunc]) := by
  refine ⟨?_, ?_, ?_, ?_, ?_⟩ <;> kernel_rfl

theorem ty79 :
    (szT Try.prog 79 = some 1) ∧
    (aggT Try.prog 79 = some false) ∧
    (undT Try.prog 79 = true) ∧
    (boolT Try.prog 79 = false) ∧
    (zeroT Try.prog 79 = some [.nilFunc]) := by
  refine ⟨?_, ?_, ?_, ?_, ?_⟩ <;> kernel_rfl

theorem ty80 :
    (szT Try.prog 80 = some 1) ∧
    (aggT Try.prog 80 = some false) ∧
    (undT Try.prog 80 = true) ∧
    (boolT Try.prog 80 = false) ∧
    (zeroT Try.prog 80 = some [.nilFunc]) := by
  refine ⟨?_, ?_, ?_, ?_, ?_⟩ <;> kernel_rfl

theorem ty81 :
    (szT Try.prog 81 = some 1) ∧
    (aggT Try.prog 81 = some false) ∧
    (undT Try.prog 81 = true) ∧
    (boolT Try.prog 81 = false) ∧
    (zeroT Try.prog 81 = some [.nilFunc]) := by
  refine ⟨?_, ?_, ?_, ?_, ?_⟩ <;> kernel_rfl

theorem ty83 :
    (szT Try.prog 83 = some 1) ∧
    (aggT Try.prog 83 = some false) ∧
    (undT Try.prog 83 = true) ∧
    (boolT Try.prog 83 = false) ∧
    (zeroT Try.prog 83 = some [.nilFunc]) := by
  refine ⟨?_, ?_, ?_, ?_, ?_⟩ <;> kernel_rfl

theorem ty84 :
    (szT Try.prog 84 = some 1) ∧
    (aggT Try.prog 84 = some false) ∧
    (undT Try.prog 84 = true) ∧
    (boolT Try.prog 84 = false) ∧
    (zeroT Try.prog 84 = some [.nilFunc]) := by
  refine ⟨?_, ?_, ?_, ?_, ?_⟩ <;> kernel_rfl

theorem ty85 :
    (szT Try.prog 85 = some 1) ∧
    (aggT Try.prog 85 = some false) ∧
    (undT Try.prog 85 = true) ∧
    (boolT Try.prog 85 = false) ∧
    (zeroT Try.prog 85 = some [.nilFunc]) := by
  refine ⟨?_, ?_, ?_, ?_, ?_⟩ <;> kernel_rfl

theorem ty86 :
    (szT Try.prog 86 = some 1) ∧
    (aggT Try.prog 86 = some false) ∧
    (undT Try.prog 86 = true) ∧
    (boolT Try.prog 86 = false) ∧
    (zeroT Try.prog 86 = some [.nilFunc]) := by
  refine ⟨?_, ?_, ?_, ?_, ?_⟩ <;> kernel_rfl

theorem ty87 :
    (szT Try.prog 87 = some 1) ∧
    (aggT Try.prog 87 = some false) ∧
    (undT Try.prog 87 = true) ∧
    (boolT Try.prog 87 = false) ∧
    (zeroT Try.prog 87 = some [.nilFunc]) := by
  refine ⟨?_, ?_, ?_, ?_, ?_⟩ <;> kernel_rfl

theorem ty88 :
    (szT Try.prog 88 = some 1) ∧
    (aggT Try.prog 88 = some false) ∧
    (undT Try.prog 88 = true) ∧
    (boolT Try.prog 88 = false) ∧
    (zeroT Try.prog 88 = some [.nilFunc]) := by
  refine ⟨?_, ?_, ?_, ?_, ?_⟩ <;> kernel_rfl

theorem ty89 :
    (szT Try.prog 89 = some 1) ∧
    (aggT Try.prog 89 = some false) ∧
    (undT Try.prog 89 = true) ∧
    (boolT Try.prog 89 = false) ∧
    (zeroT Try.prog 89 = some [.nilFunc]) := by
  refine ⟨?_, ?_, ?_, ?_, ?_⟩ <;> kernel_rfl

theorem ty90 :
    (szT Try.prog 90 = some 1) ∧
    (aggT Try.prog 90 = some false) ∧
    (undT Try.prog 90 = true) ∧
    (boolT Try.prog 90 = false) ∧
    (zeroT Try.prog 90 = some [.nilFunc]) := by
  refine ⟨?_, ?_, ?_, ?_, ?_⟩ <;> kernel_rfl

theorem ty91 :
    (szT Try.prog 91 = some 1) ∧
    (aggT Try.prog 91 = some false) ∧
    (undT Try.prog 91 = true) ∧
    (boolT Try.prog 91 = false) ∧
    (zeroT Try.prog 91 = some [.slice none 0 0]) ∧
    (slcT Try.prog 91 = some (3, 1, 8)) ∧
    (slcZ Try.prog 91 = some (3, 1, 8)) := by
  refine ⟨?_, ?_, ?_, ?_, ?_, ?_, ?_⟩ <;> kernel_rfl

theorem ty92 :
    (szT Try.prog 92 = some 1) ∧
    (aggT Try.prog 92 = some false) ∧
    (undT Try.prog 92 = true) ∧
    (boolT Try.prog 92 = false) ∧
    (zeroT Try.prog 92 = some [.nilFunc]) := by
  refine ⟨?_, ?_, ?_, ?_, ?_⟩ <;> kernel_rfl

theorem ty93 :
    (szT Try.prog 93 = some 1) ∧
    (aggT Try.prog 93 = some false) ∧
    (undT Try.prog 93 = true) ∧
    (boolT Try.prog 93 = false) ∧
    (zeroT Try.prog 93 = some [.nilFunc]) := by
  refine ⟨?_, ?_, ?_, ?_, ?_⟩ <;> kernel_rfl

theorem ty94 :
    (szT Try.prog 94 = some 1) ∧
    (aggT Try.prog 94 = some false) ∧
    (undT Try.prog 94 = true) ∧
    (boolT Try.prog 94 = false) ∧
    (zeroT Try.prog 94 = some [.nilFunc]) := by
  refine ⟨?_, ?_, ?_, ?_, ?_⟩ <;> kernel_rfl

theorem ty95 :
    (szT Try.prog 95 = some 1) ∧
    (aggT Try.prog 95 = some false) ∧
    (undT Try.prog 95 = true) ∧
    (boolT Try.prog 95 = false) ∧
    (zeroT Try.prog 95 = some [.nilFunc]) := by
  refine ⟨?_, ?_, ?_, ?_, ?_⟩ <;> kernel_rfl

theorem ty96 :
    (szT Try.prog 96 = some 1) ∧
    (aggT Try.prog 96 = some false) ∧
    (undT Try.prog 96 = true) ∧
    (boolT Try.prog 96 = false) ∧
    (zeroT Try.prog 96 = some [.nilFunc]) := by
  refine ⟨?_, ?_, ?_, ?_, ?_⟩ <;> kernel_rfl

theorem ty97 :
    (szT Try.prog 97 = some 1) ∧
    (aggT Try.prog 97 = some false) ∧
    (undT Try.prog 97 = true) ∧
    (boolT Try.prog 97 = false) ∧
    (zeroT Try.prog 97 = some [.nilFunc]) := by
  refine ⟨?_, ?_, ?_, ?_, ?_⟩ <;> kernel_rfl

theorem ty99 :
    (szT Try.prog 99 = some 1) ∧
    (aggT Try.prog 99 = some false) ∧
    (undT Try.prog 99 = true) ∧
    (boolT Try.prog 99 = false) ∧
    (zeroT Try.prog 99 = some [.nilFunc]) := by
  refine ⟨?_, ?_, ?_, ?_, ?_⟩ <;> kernel_rfl

theorem ty100 :
    (szT Try.prog 100 = some 1) ∧
    (aggT Try.prog 100 = some false) ∧
    (undT Try.prog 100 = true) ∧
    (boolT Try.prog 100 = false) ∧
    (zeroT Try.prog 100 = some [.nilFunc]) := by
  refine ⟨?_, ?_, ?_, ?_, ?_⟩ <;> kernel_rfl

theorem ty102 :
    (szT Try.prog 102 = some 1) ∧
    (aggT Try.prog 102 = some false) ∧
    (undT Try.prog 102 = true) ∧
    (boolT Try.prog 102 = false) ∧
    (zeroT Try.prog 102 = some [.nilFunc]) := by
  refine ⟨?_, ?_, ?_, ?_, ?_⟩ <;> kernel_rfl

theorem ty103 :
    (szT Try.prog 103 = some 1) ∧
    (aggT Try.prog 103 = some false) ∧
    (undT Try.prog 103 = true) ∧
    (boolT Try.prog 103 = false) ∧
    (zeroT Try.prog 103 = some [.nilFunc]) := by
  refine ⟨?_, ?_, ?_, ?_, ?_⟩ <;> kernel_rfl

theorem ty104 :
    (szT Try.prog 104 = some 1) ∧
    (aggT Try.prog 104 = some false) ∧
    (undT Try.prog 104 = true) ∧
    (boolT Try.prog 104 = false) ∧
    (zeroT Try.prog 104 = some [.nilFunc]) := by
  refine ⟨?_, ?_, ?_, ?_, ?_⟩ <;> kernel_rfl

theorem ty105 :
    (szT Try.prog 105 = some 1) ∧
    (aggT Try.prog 105 = some false) ∧
    (undT Try.prog 105 = true) ∧
    (boolT Try.prog 105 = false) ∧
    (zeroT Try.prog 105 = some [.nilFunc]) := by
  refine ⟨?_, ?_, ?_, ?_, ?_⟩ <;> kernel_rfl

theorem ty106 :
    (szT Try.prog 106 = some 1) ∧
    (aggT Try.prog 106 = some false) ∧
    (undT Try.prog 106 = true) ∧
    (boolT Try.prog 106 = false) ∧
    (zeroT Try.prog 106 = some [.nilFunc]) := by
  refine ⟨?_, ?_, ?_, ?_, ?_⟩ <;> kernel_rfl

theorem ty107 :
    (szT Try.prog 107 = some 1) ∧
    (aggT Try.prog 107 = some false) ∧
    (undT Try.prog 107 = true) ∧
    (boolT Try.prog 107 = false) ∧
    (zeroT Try.prog 107 = some [.nilFunc]) := by
  refine ⟨?_, ?_, ?_, ?_, ?_⟩ <;> kernel_rfl

theorem ty108 :
    (szT Try.prog 108 = some 1) ∧
    (aggT Try.prog 108 = some false) ∧
    (undT Try.prog 108 = true) ∧
    (boolT Try.prog 108 = false) ∧
    (zeroT Try.prog 108 = some [.nilFunc]) := by
  refine ⟨?_, ?_, ?_, ?_, ?_⟩ <;> kernel_rfl

theorem ty109 :
    (szT Try.prog 109 = some 1) ∧
    (aggT Try.prog 109 = some false) ∧
    (undT Try.prog 109 = true) ∧
    (boolT Try.prog 109 = false) ∧
    (zeroT Try.prog 109 = some [.nilFunc]) := by
  refine ⟨?_, ?_, ?_, ?_, ?_⟩ <;> kernel_rfl

theorem ty110 :
    (szT Try.prog 110 = some 1) ∧
    (aggT Try.prog 110 = some false) ∧
    (undT Try.prog 110 = true) ∧
    (boolT Try.prog 110 = false) ∧
    (intT Try.prog 110 = some .i64) ∧
    (zeroT Try.prog 110 = some [.int .i64 0]) := by
  refine ⟨?_, ?_, ?_, ?_, ?_, ?_⟩ <;> kernel_rfl

theorem ty112 :
    (szT Try.prog 112 = some 1) ∧
    (aggT Try.prog 112 = some false) ∧
    (undT Try.prog 112 = true) ∧
    (boolT Try.prog 112 = false) ∧
    (zeroT Try.prog 112 = some [.nilFunc]) := by
  refine ⟨?_, ?_, ?_, ?_, ?_⟩ <;> kernel_rfl

theorem ty113 :
    (szT Try.prog 113 = some 1) ∧
    (aggT Try.prog 113 = some false) ∧
    (undT Try.prog 113 = true) ∧
    (boolT Try.prog 113 = false) ∧
    (zeroT Try.prog 113 = some [.nilFunc]) := by
  refine ⟨?_, ?_, ?_, ?_, ?_⟩ <;> kernel_rfl

theorem ty114 :
    (szT Try.prog 114 = some 1) ∧
    (aggT Try.prog 114 = some false) ∧
    (undT Try.prog 114 = true) ∧
    (boolT Try.prog 114 = false) ∧
    (zeroT Try.prog 114 = some [.nilFunc]) := by
  refine ⟨?_, ?_, ?_, ?_, ?_⟩ <;> kernel_rfl

theorem ty115 :
    (szT Try.prog 115 = some 1) ∧
    (aggT Try.prog 115 = some false) ∧
    (undT Try.prog 115 = true) ∧
    (boolT Try.prog 115 = false) ∧
    (zeroT Try.prog 115 = some [.nilFunc]) := by
  refine ⟨?_, ?_, ?_, ?_, ?_⟩ <;> kernel_rfl

theorem ty116 :
    (szT Try.prog 116 = some 1) ∧
    (aggT Try.prog 116 = some false) ∧
    (undT Try.prog 116 = true) ∧
    (boolT Try.prog 116 = false) ∧
    (zeroT Try.prog 116 = some [.nilFunc]) := by
  refine ⟨?_, ?_, ?_, ?_, ?_⟩ <;> kernel_rfl

theorem ty117 :
    (szT Try.prog 117 = some 1) ∧
    (aggT Try.prog 117 = some false) ∧
    (undT Try.prog 117 = true) ∧
    (boolT Try.prog 117 = false) ∧
    (intT Try.prog 117 = some .u32) ∧
    (zeroT Try.prog 117 = some [.int .u32 0]) := by
  refine ⟨?_, ?_, ?_, ?_, ?_, ?_⟩ <;> kernel_rfl

theorem ty118 :
    (szT Try.prog 118 = some 1) ∧
    (aggT Try.prog 118 = some false) ∧
    (undT Try.prog 118 = true) ∧
    (boolT Try.prog 118 = false) ∧
    (zeroT Try.prog 118 = some [.nilFunc]) := by
  refine ⟨?_, ?_, ?_, ?_, ?_⟩ <;> kernel_rfl

theorem ty119 :
    (szT Try.prog 119 = some 1) ∧
    (aggT Try.prog 119 = some false) ∧
    (undT Try.prog 119 = true) ∧
    (boolT Try.prog 119 = false) ∧
    (zeroT Try.prog 119 = some [.nilFunc]) := by
  refine ⟨?_, ?_, ?_, ?_, ?_⟩ <;> kernel_rfl

theorem ty120 :
    (szT Try.prog 120 = some 1) ∧
    (aggT Try.prog 120 = some false) ∧
    (undT Try.prog 120 = true) ∧
    (boolT Try.prog 120 = false) ∧
    (zeroT Try.prog 120 = some [.nilFunc]) := by
  refine ⟨?_, ?_, ?_, ?_, ?_⟩ <;> kernel_rfl

theorem ty121 :
    (szT Try.prog 121 = some 1) ∧
    (aggT Try.prog 121 = some false) ∧
    (undT Try.prog 121 = true) ∧
    (boolT Try.prog 121 = false) ∧
    (intT Try.prog 121 = some .u64) ∧
    (zeroT Try.prog 121 = some [.int .u64 0]) := by
  refine ⟨?_, ?_, ?_, ?_, ?_, ?_⟩ <;> kernel_rfl

theorem ty122 :
    (szT Try.prog 122 = some 1) ∧
    (aggT Try.prog 122 = some false) ∧
    (undT Try.prog 122 = true) ∧
    (boolT Try.prog 122 = false) ∧
    (zeroT Try.prog 122 = some [.nilFunc]) := by
  refine ⟨?_, ?_, ?_, ?_, ?_⟩ <;> kernel_rfl

theorem ty123 :
    (szT Try.prog 123 = some 1) ∧
    (aggT Try.prog 123 = some false) ∧
    (undT Try.prog 123 = true) ∧
    (boolT Try.prog 123 = false) ∧
    (zeroT Try.prog 123 = some [.nilFunc]) := by
  refine ⟨?_, ?_, ?_, ?_, ?_⟩ <;> kernel_rfl

theorem ty124 :
    (szT Try.prog 124 = some 1) ∧
    (aggT Try.prog 124 = some false) ∧
    (undT Try.prog 124 = true) ∧
    (boolT Try.prog 124 = false) ∧
    (zeroT Try.prog 124 = some [.nilFunc]) := by
  refine ⟨?_, ?_, ?_, ?_, ?_⟩ <;> kernel_rfl

theorem ty125 :
    (szT Try.prog 125 = some 1) ∧
    (aggT Try.prog 125 = some false) ∧
    (undT Try.prog 125 = true) ∧
    (boolT Try.prog 125 = false) ∧
    (zeroT Try.prog 125 = some [.pointer none]) := by
  refine ⟨?_, ?_, ?_, ?_, ?_⟩ <;> kernel_rfl

theorem ty126 :
    (szT Try.prog 126 = some 1) ∧
    (aggT Try.prog 126 = some false) ∧
    (undT Try.prog 126 = true) ∧
    (boolT Try.prog 126 = false) ∧
    (zeroT Try.prog 126 = some [.nilFunc]) := by
  refine ⟨?_, ?_, ?_, ?_, ?_⟩ <;> kernel_rfl

theorem ty127 :
    (szT Try.prog 127 = some 1) ∧
    (aggT Try.prog 127 = some false) ∧
    (undT Try.prog 127 = true) ∧
    (boolT Try.prog 127 = false) ∧
    (zeroT Try.prog 127 = some [.nilFunc]) := by
  refine ⟨?_, ?_, ?_, ?_, ?_⟩ <;> kernel_rfl

theorem ty128 :
    (szT Try.prog 128 = some 1) ∧
    (aggT Try.prog 128 = some false) ∧
    (undT Try.prog 128 = true) ∧
    (boolT Try.prog 128 = false) ∧
    (zeroT Try.prog 128 = some [.pointer none]) := by
  refine ⟨?_, ?_, ?_, ?_, ?_⟩ <;> kernel_rfl

theorem ty130 :
    (szT Try.prog 130 = some 1) ∧
    (aggT Try.prog 130 = some false) ∧
    (undT Try.prog 130 = true) ∧
    (boolT Try.prog 130 = false) ∧
    (zeroT Try.prog 130 = some [.nilFunc]) := by
  refine ⟨?_, ?_, ?_, ?_, ?_⟩ <;> kernel_rfl

theorem ty131 :
    (szT Try.prog 131 = some 1) ∧
    (aggT Try.prog 131 = some false) ∧
    (undT Try.prog 131 = true) ∧
    (boolT Try.prog 131 = false) ∧
    (zeroT Try.prog 131 = some [.nilFunc]) := by
  refine ⟨?_, ?_, ?_, ?_, ?_⟩ <;> kernel_rfl

theorem ty132 :
    (szT Try.prog 132 = some 1) ∧
    (aggT Try.prog 132 = some false) ∧
    (undT Try.prog 132 = true) ∧
    (boolT Try.prog 132 = false) ∧
    (zeroT Try.prog 132 = some [.nilFunc]) := by
  refine ⟨?_, ?_, ?_, ?_, ?_⟩ <;> kernel_rfl

theorem ty133 :
    (szT Try.prog 133 = some 1) ∧
    (aggT Try.prog 133 = some false) ∧
    (undT Try.prog 133 = true) ∧
    (boolT Try.prog 133 = false) ∧
    (zeroT Try.prog 133 = some [.nilFunc]) := by
  refine ⟨?_, ?_, ?_, ?_, ?_⟩ <;> kernel_rfl

theorem ty134 :
    (szT Try.prog 134 = some 4) ∧
    (aggT Try.prog 134 = some true) ∧
    (undT Try.prog 134 = true) ∧
    (boolT Try.prog 134 = false) ∧
    (plT Try.prog 134 = some [(0, 1), (1, 1), (2, 1), (3, 1)]) ∧
    (fldT Try.prog 134 0 = some (0, 1, false)) ∧
    (fldT Try.prog 134 1 = some (1, 1, false)) ∧
    (fldT Try.prog 134 2 = some (2, 1, false)) ∧
    (fldT Try.prog 134 3 = some (3, 1, false)) := by
  refine ⟨?_, ?_, ?_, ?_, ?_, ?_, ?_, ?_, ?_⟩ <;> kernel_rfl

theorem ty135 :
    (szT Try.prog 135 = some 4) ∧
    (aggT Try.prog 135 = some true) ∧
    (undT Try.prog 135 = true) ∧
    (boolT Try.prog 135 = false) ∧
    (plT Try.prog 135 = some [(0, 1), (1, 1), (2, 1), (3, 1)]) ∧
    (fldT Try.prog 135 0 = some (0, 1, false)) ∧
    (fldT Try.prog 135 1 = some (1, 1, false)) ∧
    (fldT Try.prog 135 2 = some (2, 1, false)) ∧
    (fldT Try.prog 135 3 = some (3, 1, false)) := by
  refine ⟨?_, ?_, ?_, ?_, ?_, ?_, ?_, ?_, ?_⟩ <;> kernel_rfl

theorem ty136 :
    (szT Try.prog 136 = some 0) ∧
    (aggT Try.prog 136 = some true) ∧
    (undT Try.prog 136 = true) ∧
    (boolT Try.prog 136 = false) ∧
    (zeroT Try.prog 136 = some []) ∧
    (arrT Try.prog 136 = some (0, 1, false)) ∧
    (plT Try.prog 136 = some []) := by
  refine ⟨?_, ?_, ?_, ?_, ?_, ?_, ?_⟩ <;> kernel_rfl

theorem ty137 :
    (szT Try.prog 137 = some 0) ∧
    (aggT Try.prog 137 = some true) ∧
    (undT Try.prog 137 = true) ∧
    (boolT Try.prog 137 = false) ∧
    (zeroT Try.prog 137 = some []) ∧
    (plT Try.prog 137 = some [(0, 0)]) ∧
    (fldT Try.prog 137 0 = some (0, 0, true)) := by
  refine ⟨?_, ?_, ?_, ?_, ?_, ?_, ?_⟩ <;> kernel_rfl

theorem ty138 :
    (szT Try.prog 138 = some 0) ∧
    (aggT Try.prog 138 = some true) ∧
    (undT Try.prog 138 = true) ∧
    (boolT Try.prog 138 = false) ∧
    (zeroT Try.prog 138 = some []) ∧
    (plT Try.prog 138 = some [(0, 0)]) ∧
    (fldT Try.prog 138 0 = some (0, 0, true)) := by
  refine ⟨?_, ?_, ?_, ?_, ?_, ?_, ?_⟩ <;> kernel_rfl

theorem ty139 :
    (szT Try.prog 139 = some 1) ∧
    (aggT Try.prog 139 = some false) ∧
    (undT Try.prog 139 = true) ∧
    (boolT Try.prog 139 = false) ∧
    (zeroT Try.prog 139 = some [.nilFunc]) := by
  refine ⟨?_, ?_, ?_, ?_, ?_⟩ <;> kernel_rfl

theorem ty140 :
    (szT Try.prog 140 = some 1) ∧
    (aggT Try.prog 140 = some false) ∧
    (undT Try.prog 140 = true) ∧
    (boolT Try.prog 140 = false) ∧
    (intT Try.prog 140 = some .u8) ∧
    (zeroT Try.prog 140 = some [.int .u8 0]) := by
  refine ⟨?_, ?_, ?_, ?_, ?_, ?_⟩ <;> kernel_rfl

theorem ty141 :
    (szT Try.prog 141 = some 1) ∧
    (aggT Try.prog 141 = some false) ∧
    (undT Try.prog 141 = true) ∧
    (boolT Try.prog 141 = false) ∧
    (intT Try.prog 141 = some .u8) ∧
    (zeroT Try.prog 141 = some [.int .u8 0]) := by
  refine ⟨?_, ?_, ?_, ?_, ?_, ?_⟩ <;> kernel_rfl

theorem ty142 :
    (szT Try.prog 142 = some 1) ∧
    (aggT Try.prog 142 = some false) ∧
    (undT Try.prog 142 = true) ∧
    (boolT Try.prog 142 = false) ∧
    (zeroT Try.prog 142 = some [.nilFunc]) := by
  refine ⟨?_, ?_, ?_, ?_, ?_⟩ <;> kernel_rfl

theorem ty143 :
    (szT Try.prog 143 = some 1) ∧
    (aggT Try.prog 143 = some false) ∧
    (undT Try.prog 143 = true) ∧
    (boolT Try.prog 143 = false) ∧
    (zeroT Try.prog 143 = some [.pointer none]) := by
  refine ⟨?_, ?_, ?_, ?_, ?_⟩ <;> kernel_rfl

theorem ty144 :
    (szT Try.prog 144 = some 1) ∧
    (aggT Try.prog 144 = some false) ∧
    (undT Try.prog 144 = true) ∧
    (boolT Try.prog 144 = false) ∧
    (intT Try.prog 144 = some .i32) ∧
    (zeroT Try.prog 144 = some [.int .i32 0]) := by
  refine ⟨?_, ?_, ?_, ?_, ?_, ?_⟩ <;> kernel_rfl

theorem ty145 :
    (szT Try.prog 145 = some 1) ∧
    (aggT Try.prog 145 = some false) ∧
    (undT Try.prog 145 = true) ∧
    (boolT Try.prog 145 = false) ∧
    (intT Try.prog 145 = some .i32) ∧
    (zeroT Try.prog 145 = some [.int .i32 0]) := by
  refine ⟨?_, ?_, ?_, ?_, ?_, ?_⟩ <;> kernel_rfl

theorem ty146 :
    (szT Try.prog 146 = some 11) ∧
    (aggT Try.prog 146 = some true) ∧
    (undT Try.prog 146 = true) ∧
    (boolT Try.prog 146 = false) ∧
    (zeroT Try.prog 146 = some [.int .u64 0, .int .u64 0, .int .u32 0, .int .u8 0, .int .u8 0, .int .u8 0, .int .u8 0, .nilFunc, .pointer none, .int .i32 0, .int .i32 0]) ∧
    (plT Try.prog 146 = some [(0, 1), (1, 1), (2, 1), (3, 1), (4, 1), (5, 1), (6, 1), (7, 1), (8, 1), (9, 1), (10, 1)]) ∧
    (fldT Try.prog 146 0 = some (0, 1, false)) ∧
    (fldT Try.prog 146 1 = some (1, 1, false)) ∧
    (fldT Try.prog 146 2 = some (2, 1, false)) ∧
    (fldT Try.prog 146 3 = some (3, 1, false)) ∧
    (fldT Try.prog 146 4 = some (4, 1, false)) ∧
    (fldT Try.prog 146 5 = some (5, 1, false)) ∧
    (fldT Try.prog 146 6 = some (6, 1, false)) ∧
    (fldT Try.prog 146 7 = some (7, 1, false)) ∧
    (fldT Try.prog 146 8 = some (8, 1, false)) ∧
    (fldT Try.prog 146 9 = some (9, 1, false)) ∧
    (fldT Try.prog 146 10 = some (10, 1, false)) := by
  refine ⟨?_, ?_, ?_, ?_, ?_, ?_, ?_, ?_, ?_, ?_, ?_, ?_, ?_, ?_, ?_, ?_, ?_⟩ <;> kernel_rfl

theorem ty147 :
    (szT Try.prog 147 = some 11) ∧
    (aggT Try.prog 147 = some true) ∧
    (undT Try.prog 147 = true) ∧
    (boolT Try.prog 147 = false) ∧
    (zeroT Try.prog 147 = some [.int .u64 0, .int .u64 0, .int .u32 0, .int .u8 0, .int .u8 0, .int .u8 0, .int .u8 0, .nilFunc, .pointer none, .int .i32 0, .int .i32 0]) ∧
    (plT Try.prog 147 = some [(0, 1), (1, 1), (2, 1), (3, 1), (4, 1), (5, 1), (6, 1), (7, 1), (8, 1), (9, 1), (10, 1)]) ∧
    (fldT Try.prog 147 0 = some (0, 1, false)) ∧
    (fldT Try.prog 147 1 = some (1, 1, false)) ∧
    (fldT Try.prog 147 2 = some (2, 1, false)) ∧
    (fldT Try.prog 147 3 = some (3, 1, false)) ∧
    (fldT Try.prog 147 4 = some (4, 1, false)) ∧
    (fldT Try.prog 147 5 = some (5, 1, false)) ∧
    (fldT Try.prog 147 6 = some (6, 1, false)) ∧
    (fldT Try.prog 147 7 = some (7, 1, false)) ∧
    (fldT Try.prog 147 8 = some (8, 1, false)) ∧
    (fldT Try.prog 147 9 = some (9, 1, false)) ∧
    (fldT Try.prog 147 10 = some (10, 1, false)) := by
  refine ⟨?_, ?_, ?_, ?_, ?_, ?_, ?_, ?_, ?_, ?_, ?_, ?_, ?_, ?_, ?_, ?_, ?_⟩ <;> kernel_rfl

attribute [go_sem] ty1 ty2 ty3 ty4 ty5 ty6 ty7 ty8 ty12 ty13 ty14 ty15 ty16 ty17 ty18 ty19 ty21 ty22 ty23 ty24 ty25 ty26 ty27 ty28 ty29 ty30 ty31 ty32 ty33 ty34 ty36 ty38 ty39 ty40 ty41 ty42 ty44 ty45 ty46 ty47 ty48 ty49 ty50 ty52 ty53 ty54 ty55 ty56 ty57 ty58 ty59 ty60 ty61 ty62 ty63 ty64 ty65 ty66 ty67 ty68 ty69 ty70 ty72 ty73 ty74 ty75 ty76 ty77 ty78 ty79 ty80 ty81 ty83 ty84 ty85 ty86 ty87 ty88 ty89 ty90 ty91 ty92 ty93 ty94 ty95 ty96 ty97 ty99 ty100 ty102 ty103 ty104 ty105 ty106 ty107 ty108 ty109 ty110 ty112 ty113 ty114 ty115 ty116 ty117 ty118 ty119 ty120 ty121 ty122 ty123 ty124 ty125 ty126 ty127 ty128 ty130 ty131 ty132 ty133 ty134 ty135 ty136 ty137 ty138 ty139 ty140 ty141 ty142 ty143 ty144 ty145 ty146 ty147
attribute [go_sem] St.free freeH evO ofV AV.cells pickAV evz bne_self_eq_false forall_const Nat.reduceBEq Nat.reduceBNe Nat.reduceAdd Nat.reduceLT Nat.reduceLeDiff Nat.reduceEqDiff Int.reduceLE Int.reduceLT Int.reduceToNat Nat.reduceMul Nat.reduceSub Nat.reduceDiv Nat.reduceMod reduceCtorEq
attribute [go_sem ↓] reduceIte

end Go.Proofs.Ytmlalhmljmajbaa

