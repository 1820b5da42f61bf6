/-
  What the program says of its types.
-/
import Derived.Test.YtlkogofgemclfaaAvW
import Derived.Test.YtlkogofgemclfaaProg
import Derived.KernelRfl
namespace Go.Proofs.Ytlkogofgemclfaa

theorem ty1 :
    (szT Try.prog 1 = some 1) ∧
    (aggT Try.prog 1 = some false) ∧
    (undT Try.prog 1 = true) ∧
    (boolT Try.prog 1 = false) ∧
    (zeroT Try.prog 1 = some [.nilFunc]) := by
  refine ⟨?_, ?_, ?_, ?_, ?_⟩ <;> kernel_rfl

theorem ty2 :
    (szT Try.prog 2 = some 1) ∧
    (aggT Try.prog 2 = some false) ∧
    (undT Try.prog 2 = true) ∧
    (boolT Try.prog 2 = false) ∧
    (intT Try.prog 2 = some .i64) ∧
    (zeroT Try.prog 2 = some [.int .i64 0]) := by
  refine ⟨?_, ?_, ?_, ?_, ?_, ?_⟩ <;> kernel_rfl

theorem ty3 :
    (szT Try.prog 3 = some 1) ∧
    (aggT Try.prog 3 = some false) ∧
    (undT Try.prog 3 = true) ∧
    (boolT Try.prog 3 = false) ∧
    (intT Try.prog 3 = some .i64) ∧
    (zeroT Try.prog 3 = some [.int .i64 0]) := by
  refine ⟨?_, ?_, ?_, ?_, ?_, ?_⟩ <;> kernel_rfl

theorem ty4 :
    (szT Try.prog 4 = some 1) ∧
    (aggT Try.prog 4 = some false) ∧
    (undT Try.prog 4 = true) ∧
    (boolT Try.prog 4 = true) ∧
    (zeroT Try.prog 4 = some [.bool false]) := by
  refine ⟨?_, ?_, ?_, ?_, ?_⟩ <;> kernel_rfl

theorem ty5 :
    (szT Try.prog 5 = some 1) ∧
    (aggT Try.prog 5 = some false) ∧
    (undT Try.prog 5 = true) ∧
    (boolT Try.prog 5 = false) ∧
    (intT Try.prog 5 = some .u8) ∧
    (zeroT Try.prog 5 = some [.int .u8 0]) := by
  refine ⟨?_, ?_, ?_, ?_, ?_, ?_⟩ <;> kernel_rfl

theorem ty6 :
    (szT Try.prog 6 = some 1) ∧
    (aggT Try.prog 6 = some false) ∧
    (undT Try.prog 6 = true) ∧
    (boolT Try.prog 6 = false) ∧
    (intT Try.prog 6 = some .u8) ∧
    (zeroT Try.prog 6 = some [.int .u8 0]) := by
  refine ⟨?_, ?_, ?_, ?_, ?_, ?_⟩ <;> kernel_rfl

theorem ty7 :
    (szT Try.prog 7 = some 4) ∧
    (aggT Try.prog 7 = some true) ∧
    (undT Try.prog 7 = true) ∧
    (boolT Try.prog 7 = false) ∧
    (zeroT Try.prog 7 = some [.int .i64 0, .int .i64 0, .bool false, .int .u8 0]) ∧
    (plT Try.prog 7 = some [(0, 1), (1, 1), (2, 1), (3, 1)]) ∧
    (fldT Try.prog 7 0 = some (0, 1, false)) ∧
    (fldT Try.prog 7 1 = some (1, 1, false)) ∧
    (fldT Try.prog 7 2 = some (2, 1, false)) ∧
    (fldT Try.prog 7 3 = some (3, 1, false)) := by
  refine ⟨?_, ?_, ?_, ?_, ?_, ?_, ?_, ?_, ?_, ?_⟩ <;> kernel_rfl

theorem ty8 :
    (szT Try.prog 8 = some 4) ∧
    (aggT Try.prog 8 = some true) ∧
    (undT Try.prog 8 = true) ∧
    (boolT Try.prog 8 = false) ∧
    (zeroT Try.prog 8 = some [.int .i64 0, .int .i64 0, .bool false, .int .u8 0]) ∧
    (plT Try.prog 8 = some [(0, 1), (1, 1), (2, 1), (3, 1)]) ∧
    (fldT Try.prog 8 0 = some (0, 1, false)) ∧
    (fldT Try.prog 8 1 = some (1, 1, false)) ∧
    (fldT Try.prog 8 2 = some (2, 1, false)) ∧
    (fldT Try.prog 8 3 = some (3, 1, false)) := by
  refine ⟨?_, ?_, ?_, ?_, ?_, ?_, ?_, ?_, ?_, ?_⟩ <;> kernel_rfl

theorem ty12 :
    (szT Try.prog 12 = some 1) ∧
    (aggT Try.prog 12 = some false) ∧
    (undT Try.prog 12 = true) ∧
    (boolT Try.prog 12 = false) ∧
    (intT Try.prog 12 = some .u64) ∧
    (zeroT Try.prog 12 = some [.int .u64 0]) := by
  refine ⟨?_, ?_, ?_, ?_, ?_, ?_⟩ <;> kernel_rfl

theorem ty13 :
    (szT Try.prog 13 = some 2) ∧
    (aggT Try.prog 13 = some true) ∧
    (undT Try.prog 13 = true) ∧
    (boolT Try.prog 13 = false) ∧
    (plT Try.prog 13 = some [(0, 1), (1, 1)]) ∧
    (fldT Try.prog 13 0 = some (0, 1, false)) ∧
    (fldT Try.prog 13 1 = some (1, 1, false)) := by
  refine ⟨?_, ?_, ?_, ?_, ?_, ?_, ?_⟩ <;> kernel_rfl

theorem ty14 :
    (szT Try.prog 14 = some 2) ∧
    (aggT Try.prog 14 = some true) ∧
    (undT Try.prog 14 = true) ∧
    (boolT Try.prog 14 = false) ∧
    (plT Try.prog 14 = some [(0, 1), (1, 1)]) ∧
    (fldT Try.prog 14 0 = some (0, 1, false)) ∧
    (fldT Try.prog 14 1 = some (1, 1, false)) := by
  refine ⟨?_, ?_, ?_, ?_, ?_, ?_, ?_⟩ <;> kernel_rfl

theorem ty15 :
    (szT Try.prog 15 = some 1) ∧
    (aggT Try.prog 15 = some false) ∧
    (undT Try.prog 15 = true) ∧
    (boolT Try.prog 15 = false) ∧
    (zeroT Try.prog 15 = some [.pointer none]) := by
  refine ⟨?_, ?_, ?_, ?_, ?_⟩ <;> kernel_rfl

theorem ty16 :
    (szT Try.prog 16 = some 1) ∧
    (aggT Try.prog 16 = some false) ∧
    (undT Try.prog 16 = true) ∧
    (boolT Try.prog 16 = false) ∧
    (zeroT Try.prog 16 = some [.pointer none]) := by
  refine ⟨?_, ?_, ?_, ?_, ?_⟩ <;> kernel_rfl

theorem ty17 :
    (szT Try.prog 17 = some 1) ∧
    (aggT Try.prog 17 = some false) ∧
    (undT Try.prog 17 = true) ∧
    (boolT Try.prog 17 = false) ∧
    (zeroT Try.prog 17 = some [.pointer none]) := by
  refine ⟨?_, ?_, ?_, ?_, ?_⟩ <;> kernel_rfl

theorem ty18 :
    (szT Try.prog 18 = some 1) ∧
    (aggT Try.prog 18 = some true) ∧
    (undT Try.prog 18 = true) ∧
    (boolT Try.prog 18 = false) ∧
    (zeroT Try.prog 18 = some [.pointer none]) ∧
    (plT Try.prog 18 = some [(0, 1)]) ∧
    (fldT Try.prog 18 0 = some (0, 1, false)) := by
  refine ⟨?_, ?_, ?_, ?_, ?_, ?_, ?_⟩ <;> kernel_rfl

theorem ty19 :
    (szT Try.prog 19 = some 1) ∧
    (aggT Try.prog 19 = some true) ∧
    (undT Try.prog 19 = true) ∧
    (boolT Try.prog 19 = false) ∧
    (zeroT Try.prog 19 = some [.pointer none]) ∧
    (plT Try.prog 19 = some [(0, 1)]) ∧
    (fldT Try.prog 19 0 = some (0, 1, false)) := by
  refine ⟨?_, ?_, ?_, ?_, ?_, ?_, ?_⟩ <;> kernel_rfl

theorem ty21 :
    (szT Try.prog 21 = some 1) ∧
    (aggT Try.prog 21 = some false) ∧
    (undT Try.prog 21 = true) ∧
    (boolT Try.prog 21 = false) ∧
    (intT Try.prog 21 = some .i32) ∧
    (zeroT Try.prog 21 = some [.int .i32 0]) := by
  refine ⟨?_, ?_, ?_, ?_, ?_, ?_⟩ <;> kernel_rfl

theorem ty22 :
    (szT Try.prog 22 = some 1) ∧
    (aggT Try.prog 22 = some false) ∧
    (undT Try.prog 22 = true) ∧
    (boolT Try.prog 22 = false) ∧
    (zeroT Try.prog 22 = some [.slice none 0 0]) ∧
    (slcT Try.prog 22 = some (38, 6, 48)) ∧
    (slcZ Try.prog 22 = some (38, 6, 48)) := by
  refine ⟨?_, ?_, ?_, ?_, ?_, ?_, ?_⟩ <;> kernel_rfl

theorem ty23 :
    (szT Try.prog 23 = some 1) ∧
    (aggT Try.prog 23 = some false) ∧
    (undT Try.prog 23 = true) ∧
    (boolT Try.prog 23 = false) ∧
    (zeroT Try.prog 23 = some [.slice none 0 0]) ∧
    (slcT Try.prog 23 = some (31, 5, 40)) ∧
    (slcZ Try.prog 23 = some (31, 5, 40)) := by
  refine ⟨?_, ?_, ?_, ?_, ?_, ?_, ?_⟩ <;> kernel_rfl

theorem ty24 :
    (szT Try.prog 24 = some 1) ∧
    (aggT Try.prog 24 = some false) ∧
    (undT Try.prog 24 = true) ∧
    (boolT Try.prog 24 = false) ∧
    (zeroT Try.prog 24 = some [.nilFunc]) := by
  refine ⟨?_, ?_, ?_, ?_, ?_⟩ <;> kernel_rfl

theorem ty25 :
    (szT Try.prog 25 = some 1) ∧
    (aggT Try.prog 25 = some false) ∧
    (undT Try.prog 25 = true) ∧
    (boolT Try.prog 25 = false) ∧
    (zeroT Try.prog 25 = some [.nilFunc]) := by
  refine ⟨?_, ?_, ?_, ?_, ?_⟩ <;> kernel_rfl

theorem ty26 :
    (szT Try.prog 26 = some 1) ∧
    (aggT Try.prog 26 = some false) ∧
    (undT Try.prog 26 = true) ∧
    (boolT Try.prog 26 = false) ∧
    (intT Try.prog 26 = some .u64) ∧
    (zeroT Try.prog 26 = some [.int .u64 0]) := by
  refine ⟨?_, ?_, ?_, ?_, ?_, ?_⟩ <;> kernel_rfl

theorem ty27 :
    (szT Try.prog 27 = some 1) ∧
    (aggT Try.prog 27 = some false) ∧
    (undT Try.prog 27 = true) ∧
    (boolT Try.prog 27 = false) ∧
    (intT Try.prog 27 = some .u64) ∧
    (zeroT Try.prog 27 = some [.int .u64 0]) := by
  refine ⟨?_, ?_, ?_, ?_, ?_, ?_⟩ <;> kernel_rfl

theorem ty28 :
    (szT Try.prog 28 = some 4) ∧
    (aggT Try.prog 28 = some true) ∧
    (undT Try.prog 28 = true) ∧
    (boolT Try.prog 28 = false) ∧
    (zeroT Try.prog 28 = some [.int .u64 0, .int .u64 0, .int .u64 0, .int .u64 0]) ∧
    (eqTy Try.prog 6 28 = true) ∧
    (Try.prog.eqGuardType Try.prog.depth 28 = false) ∧
    (arrT Try.prog 28 = some (4, 1, false)) ∧
    (plT Try.prog 28 = some [(0, 1), (1, 1), (2, 1), (3, 1)]) := by
  refine ⟨?_, ?_, ?_, ?_, ?_, ?_, ?_, ?_, ?_⟩ <;> kernel_rfl

theorem ty29 :
    (szT Try.prog 29 = some 4) ∧
    (aggT Try.prog 29 = some true) ∧
    (undT Try.prog 29 = true) ∧
    (boolT Try.prog 29 = false) ∧
    (zeroT Try.prog 29 = some [.int .u64 0, .int .u64 0, .int .u64 0, .int .u64 0]) ∧
    (eqTy Try.prog 6 29 = true) ∧
    (Try.prog.eqGuardType Try.prog.depth 29 = false) ∧
    (arrT Try.prog 29 = some (4, 1, false)) ∧
    (plT Try.prog 29 = some [(0, 1), (1, 1), (2, 1), (3, 1)]) := by
  refine ⟨?_, ?_, ?_, ?_, ?_, ?_, ?_, ?_, ?_⟩ <;> kernel_rfl

theorem ty30 :
    (szT Try.prog 30 = some 5) ∧
    (aggT Try.prog 30 = some true) ∧
    (undT Try.prog 30 = true) ∧
    (boolT Try.prog 30 = false) ∧
    (zeroT Try.prog 30 = some [.int .u64 0, .int .u64 0, .int .u64 0, .int .u64 0, .int .u64 0]) ∧
    (eqTy Try.prog 6 30 = true) ∧
    (Try.prog.eqGuardType Try.prog.depth 30 = false) ∧
    (plT Try.prog 30 = some [(0, 1), (1, 4)]) ∧
    (fldT Try.prog 30 0 = some (0, 1, false)) ∧
    (fldT Try.prog 30 1 = some (1, 4, true)) := by
  refine ⟨?_, ?_, ?_, ?_, ?_, ?_, ?_, ?_, ?_, ?_⟩ <;> kernel_rfl

theorem ty31 :
    (szT Try.prog 31 = some 5) ∧
    (aggT Try.prog 31 = some true) ∧
    (undT Try.prog 31 = true) ∧
    (boolT Try.prog 31 = false) ∧
    (zeroT Try.prog 31 = some [.int .u64 0, .int .u64 0, .int .u64 0, .int .u64 0, .int .u64 0]) ∧
    (eqTy Try.prog 6 31 = true) ∧
    (Try.prog.eqGuardType Try.prog.depth 31 = false) ∧
    (plT Try.prog 31 = some [(0, 1), (1, 4)]) ∧
    (fldT Try.prog 31 0 = some (0, 1, false)) ∧
    (fldT Try.prog 31 1 = some (1, 4, true)) := by
  refine ⟨?_, ?_, ?_, ?_, ?_, ?_, ?_, ?_, ?_, ?_⟩ <;> kernel_rfl

theorem ty32 :
    (szT Try.prog 32 = some 1) ∧
    (aggT Try.prog 32 = some false) ∧
    (undT Try.prog 32 = true) ∧
    (boolT Try.prog 32 = false) ∧
    (intT Try.prog 32 = some .i64) ∧
    (zeroT Try.prog 32 = some [.int .i64 0]) := by
  refine ⟨?_, ?_, ?_, ?_, ?_, ?_⟩ <;> kernel_rfl

theorem ty34 :
    (szT Try.prog 34 = some 1) ∧
    (aggT Try.prog 34 = some false) ∧
    (undT Try.prog 34 = true) ∧
    (boolT Try.prog 34 = false) ∧
    (zeroT Try.prog 34 = some [.nilFunc]) := by
  refine ⟨?_, ?_, ?_, ?_, ?_⟩ <;> kernel_rfl

theorem ty35 :
    (szT Try.prog 35 = some 1) ∧
    (aggT Try.prog 35 = some false) ∧
    (undT Try.prog 35 = true) ∧
    (boolT Try.prog 35 = false) ∧
    (zeroT Try.prog 35 = some [.nilFunc]) := by
  refine ⟨?_, ?_, ?_, ?_, ?_⟩ <;> kernel_rfl

theorem ty36 :
    (szT Try.prog 36 = some 1) ∧
    (aggT Try.prog 36 = some false) ∧
    (undT Try.prog 36 = true) ∧
    (boolT Try.prog 36 = false) ∧
    (zeroT Try.prog 36 = some [.nilFunc]) := by
  refine ⟨?_, ?_, ?_, ?_, ?_⟩ <;> kernel_rfl

theorem ty37 :
    (szT Try.prog 37 = some 6) ∧
    (aggT Try.prog 37 = some true) ∧
    (undT Try.prog 37 = true) ∧
    (boolT Try.prog 37 = false) ∧
    (zeroT Try.prog 37 = some [.int .u64 0, .int .u64 0, .int .u64 0, .int .u64 0, .int .u64 0, .int .u64 0]) ∧
    (eqTy Try.prog 6 37 = true) ∧
    (Try.prog.eqGuardType Try.prog.depth 37 = false) ∧
    (plT Try.prog 37 = some [(0, 1), (1, 4), (5, 1)]) ∧
    (fldT Try.prog 37 0 = some (0, 1, false)) ∧
    (fldT Try.prog 37 1 = some (1, 4, true)) ∧
    (fldT Try.prog 37 2 = some (5, 1, false)) := by
  refine ⟨?_, ?_, ?_, ?_, ?_, ?_, ?_, ?_, ?_, ?_, ?_⟩ <;> kernel_rfl

theorem ty38 :
    (szT Try.prog 38 = some 6) ∧
    (aggT Try.prog 38 = some true) ∧
    (undT Try.prog 38 = true) ∧
    (boolT Try.prog 38 = false) ∧
    (zeroT Try.prog 38 = some [.int .u64 0, .int .u64 0, .int .u64 0, .int .u64 0, .int .u64 0, .int .u64 0]) ∧
    (eqTy Try.prog 6 38 = true) ∧
    (Try.prog.eqGuardType Try.prog.depth 38 = false) ∧
    (plT Try.prog 38 = some [(0, 1), (1, 4), (5, 1)]) ∧
    (fldT Try.prog 38 0 = some (0, 1, false)) ∧
    (fldT Try.prog 38 1 = some (1, 4, true)) ∧
    (fldT Try.prog 38 2 = some (5, 1, false)) := by
  refine ⟨?_, ?_, ?_, ?_, ?_, ?_, ?_, ?_, ?_, ?_, ?_⟩ <;> kernel_rfl

theorem ty39 :
    (szT Try.prog 39 = some 1) ∧
    (aggT Try.prog 39 = some false) ∧
    (undT Try.prog 39 = true) ∧
    (boolT Try.prog 39 = false) ∧
    (zeroT Try.prog 39 = some [.nilFunc]) := by
  refine ⟨?_, ?_, ?_, ?_, ?_⟩ <;> kernel_rfl

theorem ty40 :
    (szT Try.prog 40 = some 1) ∧
    (aggT Try.prog 40 = some false) ∧
    (undT Try.prog 40 = true) ∧
    (boolT Try.prog 40 = false) ∧
    (zeroT Try.prog 40 = some [.slice none 0 0]) ∧
    (slcT Try.prog 40 = some (29, 4, 32)) ∧
    (slcZ Try.prog 40 = some (29, 4, 32)) := by
  refine ⟨?_, ?_, ?_, ?_, ?_, ?_, ?_⟩ <;> kernel_rfl

theorem ty41 :
    (szT Try.prog 41 = some 1) ∧
    (aggT Try.prog 41 = some false) ∧
    (undT Try.prog 41 = true) ∧
    (boolT Try.prog 41 = false) ∧
    (zeroT Try.prog 41 = some [.slice none 0 0]) ∧
    (slcT Try.prog 41 = some (26, 1, 8)) ∧
    (slcZ Try.prog 41 = some (26, 1, 8)) := by
  refine ⟨?_, ?_, ?_, ?_, ?_, ?_, ?_⟩ <;> kernel_rfl

theorem ty43 :
    (szT Try.prog 43 = some 1) ∧
    (aggT Try.prog 43 = some false) ∧
    (undT Try.prog 43 = true) ∧
    (boolT Try.prog 43 = false) ∧
    (zeroT Try.prog 43 = some [.nilFunc]) := by
  refine ⟨?_, ?_, ?_, ?_, ?_⟩ <;> kernel_rfl

theorem ty45 :
    (szT Try.prog 45 = some 1) ∧
    (aggT Try.prog 45 = some false) ∧
    (undT Try.prog 45 = true) ∧
    (boolT Try.prog 45 = false) ∧
    (zeroT Try.prog 45 = some [.nilFunc]) := by
  refine ⟨?_, ?_, ?_, ?_, ?_⟩ <;> kernel_rfl

theorem ty46 :
    (szT Try.prog 46 = some 1) ∧
    (aggT Try.prog 46 = some false) ∧
    (undT Try.prog 46 = true) ∧
    (boolT Try.prog 46 = false) ∧
    (zeroT Try.prog 46 = some [.nilFunc]) := by
  refine ⟨?_, ?_, ?_, ?_, ?_⟩ <;> kernel_rfl

theorem ty47 :
    (szT Try.prog 47 = some 1) ∧
    (aggT Try.prog 47 = some false) ∧
    (undT Try.prog 47 = true) ∧
    (boolT Try.prog 47 = false) ∧
    (zeroT Try.prog 47 = some [.nilFunc]) := by
  refine ⟨?_, ?_, ?_, ?_, ?_⟩ <;> kernel_rfl

theorem ty48 :
    (szT Try.prog 48 = some 1) ∧
    (aggT Try.prog 48 = some false) ∧
    (undT Try.prog 48 = true) ∧
    (boolT Try.prog 48 = false) ∧
    (zeroT Try.prog 48 = some [.nilFunc]) := by
  refine ⟨?_, ?_, ?_, ?_, ?_⟩ <;> kernel_rfl

theorem ty49 :
    (szT Try.prog 49 = some 1) ∧
    (aggT Try.prog 49 = some false) ∧
    (undT Try.prog 49 = true) ∧
    (boolT Try.prog 49 = false) ∧
    (zeroT Try.prog 49 = some [.slice none 0 0]) ∧
    (slcT Try.prog 49 = some (27, 1, 8)) ∧
    (slcZ Try.prog 49 = some (27, 1, 8)) := by
  refine ⟨?_, ?_, ?_, ?_, ?_, ?_, ?_⟩ <;> kernel_rfl

theorem ty50 :
    (szT Try.prog 50 = some 1) ∧
    (aggT Try.prog 50 = some false) ∧
    (undT Try.prog 50 = true) ∧
    (boolT Try.prog 50 = false) ∧
    (zeroT Try.prog 50 = some [.nilFunc]) := by
  refine ⟨?_, ?_, ?_, ?_, ?_⟩ <;> kernel_rfl

theorem ty51 :
    (szT Try.prog 51 = some 1) ∧
    (aggT Try.prog 51 = some false) ∧
    (undT Try.prog 51 = true) ∧
    (boolT Try.prog 51 = false) ∧
    (zeroT Try.prog 51 = some [.map none]) := by
  refine ⟨?_, ?_, ?_, ?_, ?_⟩ <;> kernel_rfl

theorem ty52 :
    (szT Try.prog 52 = some 1) ∧
    (aggT Try.prog 52 = some false) ∧
    (undT Try.prog 52 = true) ∧
    (boolT Try.prog 52 = false) ∧
    (zeroT Try.prog 52 = some [.nilFunc]) := by
  refine ⟨?_, ?_, ?_, ?_, ?_⟩ <;> kernel_rfl

theorem ty53 :
    (szT Try.prog 53 = some 5) ∧
    (aggT Try.prog 53 = some true) ∧
    (undT Try.prog 53 = true) ∧
    (boolT Try.prog 53 = false) ∧
    (zeroT Try.prog 53 = some [.int .u64 0, .int .u64 0, .int .u64 0, .int .u64 0, .int .u64 0]) ∧
    (eqTy Try.prog 6 53 = true) ∧
    (Try.prog.eqGuardType Try.prog.depth 53 = false) ∧
    (plT Try.prog 53 = some [(0, 1), (1, 4)]) ∧
    (fldT Try.prog 53 0 = some (0, 1, false)) ∧
    (fldT Try.prog 53 1 = some (1, 4, true)) := by
  refine ⟨?_, ?_, ?_, ?_, ?_, ?_, ?_, ?_, ?_, ?_⟩ <;> kernel_rfl

theorem ty54 :
    (szT Try.prog 54 = some 5) ∧
    (aggT Try.prog 54 = some true) ∧
    (undT Try.prog 54 = true) ∧
    (boolT Try.prog 54 = false) ∧
    (zeroT Try.prog 54 = some [.int .u64 0, .int .u64 0, .int .u64 0, .int .u64 0, .int .u64 0]) ∧
    (eqTy Try.prog 6 54 = true) ∧
    (Try.prog.eqGuardType Try.prog.depth 54 = false) ∧
    (plT Try.prog 54 = some [(0, 1), (1, 4)]) ∧
    (fldT Try.prog 54 0 = some (0, 1, false)) ∧
    (fldT Try.prog 54 1 = some (1, 4, true)) := by
  refine ⟨?_, ?_, ?_, ?_, ?_, ?_, ?_, ?_, ?_, ?_⟩ <;> kernel_rfl

theorem ty55 :
    (szT Try.prog 55 = some 1) ∧
    (aggT Try.prog 55 = some false) ∧
    (undT Try.prog 55 = true) ∧
    (boolT Try.prog 55 = false) ∧
    (zeroT Try.prog 55 = some [.nilFunc]) := by
  refine ⟨?_, ?_, ?_, ?_, ?_⟩ <;> kernel_rfl

theorem ty56 :
    (szT Try.prog 56 = some 1) ∧
    (aggT Try.prog 56 = some false) ∧
    (undT Try.prog 56 = true) ∧
    (boolT Try.prog 56 = false) ∧
    (zeroT Try.prog 56 = some [.nilFunc]) := by
  refine ⟨?_, ?_, ?_, ?_, ?_⟩ <;> kernel_rfl

theorem ty57 :
    (szT Try.prog 57 = some 1) ∧
    (aggT Try.prog 57 = some false) ∧
    (undT Try.prog 57 = true) ∧
    (boolT Try.prog 57 = false) ∧
    (zeroT Try.prog 57 = some [.nilFunc]) := by
  refine ⟨?_, ?_, ?_, ?_, ?_⟩ <;> kernel_rfl

theorem ty58 :
    (szT Try.prog 58 = some 1) ∧
    (aggT Try.prog 58 = some false) ∧
    (undT Try.prog 58 = true) ∧
    (boolT Try.prog 58 = false) ∧
    (zeroT Try.prog 58 = some [.nilFunc]) := by
  refine ⟨?_, ?_, ?_, ?_, ?_⟩ <;> kernel_rfl

theorem ty59 :
    (szT Try.prog 59 = some 1) ∧
    (aggT Try.prog 59 = some false) ∧
    (undT Try.prog 59 = true) ∧
    (boolT Try.prog 59 = false) ∧
    (zeroT Try.prog 59 = some [.nilFunc]) := by
  refine ⟨?_, ?_, ?_, ?_, ?_⟩ <;> kernel_rfl

theorem ty61 :
    (szT Try.prog 61 = some 1) ∧
    (aggT Try.prog 61 = some false) ∧
    (undT Try.prog 61 = true) ∧
    (boolT Try.prog 61 = false) ∧
    (zeroT Try.prog 61 = some [.nilFunc]) := by
  refine ⟨?_, ?_, ?_, ?_, ?_⟩ <;> kernel_rfl

theorem ty62 :
    (szT Try.prog 62 = some 1) ∧
    (aggT Try.prog 62 = some false) ∧
    (undT Try.prog 62 = true) ∧
    (boolT Try.prog 62 = false) ∧
    (zeroT Try.prog 62 = some [.nilFunc]) := by
  refine ⟨?_, ?_, ?_, ?_, ?_⟩ <;> kernel_rfl

theorem ty63 :
    (szT Try.prog 63 = some 1) ∧
    (aggT Try.prog 63 = some false) ∧
    (undT Try.prog 63 = true) ∧
    (boolT Try.prog 63 = false) ∧
    (zeroT Try.prog 63 = some [.nilFunc]) := by
  refine ⟨?_, ?_, ?_, ?_, ?_⟩ <;> kernel_rfl

theorem ty64 :
    (szT Try.prog 64 = some 1) ∧
    (aggT Try.prog 64 = some false) ∧
    (undT Try.prog 64 = true) ∧
    (boolT Try.prog 64 = false) ∧
    (zeroT Try.prog 64 = some [.nilFunc]) := by
  refine ⟨?_, ?_, ?_, ?_, ?_⟩ <;> kernel_rfl

theorem ty65 :
    (szT Try.prog 65 = some 1) ∧
    (aggT Try.prog 65 = some false) ∧
    (undT Try.prog 65 = true) ∧
    (boolT Try.prog 65 = false) ∧
    (zeroT Try.prog 65 = some [.slice none 0 0]) ∧
    (slcT Try.prog 65 = some (22, 1, 24)) ∧
    (slcZ Try.prog 65 = some (22, 1, 24)) := by
  refine ⟨?_, ?_, ?_, ?_, ?_, ?_, ?_⟩ <;> kernel_rfl

theorem ty66 :
    (szT Try.prog 66 = some 1) ∧
    (aggT Try.prog 66 = some false) ∧
    (undT Try.prog 66 = true) ∧
    (boolT Try.prog 66 = false) ∧
    (zeroT Try.prog 66 = some [.nilFunc]) := by
  refine ⟨?_, ?_, ?_, ?_, ?_⟩ <;> kernel_rfl

theorem ty67 :
    (szT Try.prog 67 = some 1) ∧
    (aggT Try.prog 67 = some false) ∧
    (undT Try.prog 67 = true) ∧
    (boolT Try.prog 67 = false) ∧
    (zeroT Try.prog 67 = some [.nilFunc]) := by
  refine ⟨?_, ?_, ?_, ?_, ?_⟩ <;> kernel_rfl

theorem ty68 :
    (szT Try.prog 68 = some 1) ∧
    (aggT Try.prog 68 = some false) ∧
    (undT Try.prog 68 = true) ∧
    (boolT Try.prog 68 = false) ∧
    (zeroT Try.prog 68 = some [.nilFunc]) := by
  refine ⟨?_, ?_, ?_, ?_, ?_⟩ <;> kernel_rfl

theorem ty69 :
    (szT Try.prog 69 = some 1) ∧
    (aggT Try.prog 69 = some false) ∧
    (undT Try.prog 69 = true) ∧
    (boolT Try.prog 69 = false) ∧
    (zeroT Try.prog 69 = some [.nilFunc]) := by
  refine ⟨?_, ?_, ?_, ?_, ?_⟩ <;> kernel_rfl

theorem ty70 :
    (szT Try.prog 70 = some 5) ∧
    (aggT Try.prog 70 = some true) ∧
    (undT Try.prog 70 = true) ∧
    (boolT Try.prog 70 = false) ∧
    (zeroT Try.prog 70 = some [.int .u64 0, .int .u64 0, .int .u64 0, .int .u64 0, .int .u64 0]) ∧
    (eqTy Try.prog 6 70 = true) ∧
    (Try.prog.eqGuardType Try.prog.depth 70 = false) ∧
    (plT Try.prog 70 = some [(0, 1), (1, 4)]) ∧
    (fldT Try.prog 70 0 = some (0, 1, false)) ∧
    (fldT Try.prog 70 1 = some (1, 4, true)) := by
  refine ⟨?_, ?_, ?_, ?_, ?_, ?_, ?_, ?_, ?_, ?_⟩ <;> kernel_rfl

theorem ty71 :
    (szT Try.prog 71 = some 5) ∧
    (aggT Try.prog 71 = some true) ∧
    (undT Try.prog 71 = true) ∧
    (boolT Try.prog 71 = false) ∧
    (zeroT Try.prog 71 = some [.int .u64 0, .int .u64 0, .int .u64 0, .int .u64 0, .int .u64 0]) ∧
    (eqTy Try.prog 6 71 = true) ∧
    (Try.prog.eqGuardType Try.prog.depth 71 = false) ∧
    (plT Try.prog 71 = some [(0, 1), (1, 4)]) ∧
    (fldT Try.prog 71 0 = some (0, 1, false)) ∧
    (fldT Try.prog 71 1 = some (1, 4, true)) := by
  refine ⟨?_, ?_, ?_, ?_, ?_, ?_, ?_, ?_, ?_, ?_⟩ <;> kernel_rfl

theorem ty72 :
    (szT Try.prog 72 = some 1) ∧
    (aggT Try.prog 72 = some false) ∧
    (undT Try.prog 72 = true) ∧
    (boolT Try.prog 72 = false) ∧
    (zeroT Try.prog 72 = some [.nilFunc]) := by
  refine ⟨?_, ?_, ?_, ?_, ?_⟩ <;> kernel_rfl

theorem ty73 :
    (szT Try.prog 73 = some 1) ∧
    (aggT Try.prog 73 = some false) ∧
    (undT Try.prog 73 = true) ∧
    (boolT Try.prog 73 = false) ∧
    (zeroT Try.prog 73 = some [.nilFunc]) := by
  refine ⟨?_, ?_, ?_, ?_, ?_⟩ <;> kernel_rfl

theorem ty74 :
    (szT Try.prog 74 = some 1) ∧
    (aggT Try.prog 74 = some false) ∧
    (undT Try.prog 74 = true) ∧
    (boolT Try.prog 74 = false) ∧
    (zeroT Try.prog 74 = some [.nilFunc]) := by
  refine ⟨?_, ?_, ?_, ?_, ?_⟩ <;> kernel_rfl

theorem ty75 :
    (szT Try.prog 75 = some 1) ∧
    (aggT Try.prog 75 = some false) ∧
    (undT Try.prog 75 = true) ∧
    (boolT Try.prog 75 = false) ∧
    (zeroT Try.prog 75 = some [.nilFunc]) := by
  refine ⟨?_, ?_, ?_, ?_, ?_⟩ <;> kernel_rfl

theorem ty76 :
    (szT Try.prog 76 = some 1) ∧
    (aggT Try.prog 76 = some false) ∧
    (undT Try.prog 76 = true) ∧
    (boolT Try.prog 76 = false) ∧
    (zeroT Try.prog 76 = some [.nilFunc]) := by
  refine ⟨?_, ?_, ?_, ?_, ?_⟩ <;> kernel_rfl

theorem ty77 :
    (szT Try.prog 77 = some 1) ∧
    (aggT Try.prog 77 = some false) ∧
    (undT Try.prog 77 = true) ∧
    (boolT Try.prog 77 = false) ∧
    (zeroT Try.prog 77 = some [.nilFunc]) := by
  refine ⟨?_, ?_, ?_, ?_, ?_⟩ <;> kernel_rfl

theorem ty78 :
    (szT Try.prog 78 = some 1) ∧
    (aggT Try.prog 78 = some false) ∧
    (undT Try.prog 78 = true) ∧
    (boolT Try.prog 78 = false) ∧
    (zeroT Try.prog 78 = some [.nilFunc]) := by
  refine ⟨?_, ?_, ?_, ?_, ?_⟩ <;> kernel_rfl

theorem ty79 :
    (szT Try.prog 79 = some 1) ∧
    (aggT Try.prog 79 = some false) ∧
    (undT Try.prog 79 = true) ∧
    (boolT Try.prog 79 = false) ∧
    (zeroT Try.prog 79 = some [.nilFunc]) := by
  refine ⟨?_, ?_, ?_, ?_, ?_⟩ <;> kernel_rfl

theorem ty80 :
    (szT Try.prog 80 = some 1) ∧
    (aggT Try.prog 80 = some false) ∧
    (undT Try.prog 80 = true) ∧
    (boolT Try.prog 80 = false) ∧
    (zeroT Try.prog 80 = some [.nilFunc]) := by
  refine ⟨?_, ?_, ?_, ?_, ?_⟩ <;> kernel_rfl

theorem ty81 :
    (szT Try.prog 81 = some 1) ∧
    (aggT Try.prog 81 = some false) ∧
    (undT Try.prog 81 = true) ∧
    (boolT Try.prog 81 = false) ∧
    (zeroT Try.prog 81 = some [.nilFunc]) := by
  refine ⟨?_, ?_, ?_, ?_, ?_⟩ <;> kernel_rfl

theorem ty83 :
    (szT Try.prog 83 = some 1) ∧
    (aggT Try.prog 83 = some false) ∧
    (undT Try.prog 83 = true) ∧
    (boolT Try.prog 83 = false) ∧
    (zeroT Try.prog 83 = some [.nilFunc]) := by
  refine ⟨?_, ?_, ?_, ?_, ?_⟩ <;> kernel_rfl

theorem ty84 :
    (szT Try.prog 84 = some 1) ∧
    (aggT Try.prog 84 = some false) ∧
    (undT Try.prog 84 = true) ∧
    (boolT Try.prog 84 = false) ∧
    (zeroT Try.prog 84 = some [.nilFunc]) := by
  refine ⟨?_, ?_, ?_, ?_, ?_⟩ <;> kernel_rfl

theorem ty85 :
    (szT Try.prog 85 = some 1) ∧
    (aggT Try.prog 85 = some false) ∧
    (undT Try.prog 85 = true) ∧
    (boolT Try.prog 85 = false) ∧
    (zeroT Try.prog 85 = some [.nilFunc]) := by
  refine ⟨?_, ?_, ?_, ?_, ?_⟩ <;> kernel_rfl

theorem ty86 :
    (szT Try.prog 86 = some 1) ∧
    (aggT Try.prog 86 = some false) ∧
    (undT Try.prog 86 = true) ∧
    (boolT Try.prog 86 = false) ∧
    (zeroT Try.prog 86 = some [.nilFunc]) := by
  refine ⟨?_, ?_, ?_, ?_, ?_⟩ <;> kernel_rfl

theorem ty87 :
    (szT Try.prog 87 = some 1) ∧
    (aggT Try.prog 87 = some false) ∧
    (undT Try.prog 87 = true) ∧
    (boolT Try.prog 87 = false) ∧
    (zeroT Try.prog 87 = some [.nilFunc]) := by
  refine ⟨?_, ?_, ?_, ?_, ?_⟩ <;> kernel_rfl

theorem ty88 :
    (szT Try.prog 88 = some 1) ∧
    (aggT Try.prog 88 = some false) ∧
    (undT Try.prog 88 = true) ∧
    (boolT Try.prog 88 = false) ∧
    (zeroT Try.prog 88 = some [.nilFunc]) := by
  refine ⟨?_, ?_, ?_, ?_, ?_⟩ <;> kernel_rfl

theorem ty90 :
    (szT Try.prog 90 = some 1) ∧
    (aggT Try.prog 90 = some false) ∧
    (undT Try.prog 90 = true) ∧
    (boolT Try.prog 90 = false) ∧
    (zeroT Try.prog 90 = some [.nilFunc]) := by
  refine ⟨?_, ?_, ?_, ?_, ?_⟩ <;> kernel_rfl

theorem ty92 :
    (szT Try.prog 92 = some 1) ∧
    (aggT Try.prog 92 = some false) ∧
    (undT Try.prog 92 = true) ∧
    (boolT Try.prog 92 = false) ∧
    (zeroT Try.prog 92 = some [.nilFunc]) := by
  refine ⟨?_, ?_, ?_, ?_, ?_⟩ <;> kernel_rfl

theorem ty93 :
    (szT Try.prog 93 = some 1) ∧
    (aggT Try.prog 93 = some false) ∧
    (undT Try.prog 93 = true) ∧
    (boolT Try.prog 93 = false) ∧
    (intT Try.prog 93 = some .u64) ∧
    (zeroT Try.prog 93 = some [.int .u64 0]) := by
  refine ⟨?_, ?_, ?_, ?_, ?_, ?_⟩ <;> kernel_rfl

theorem ty94 :
    (szT Try.prog 94 = some 1) ∧
    (aggT Try.prog 94 = some false) ∧
    (undT Try.prog 94 = true) ∧
    (boolT Try.prog 94 = false) ∧
    (zeroT Try.prog 94 = some [.nilFunc]) := by
  refine ⟨?_, ?_, ?_, ?_, ?_⟩ <;> kernel_rfl

theorem ty95 :
    (szT Try.prog 95 = some 1) ∧
    (aggT Try.prog 95 = some false) ∧
    (undT Try.prog 95 = true) ∧
    (boolT Try.prog 95 = false) ∧
    (zeroT Try.prog 95 = some [.slice none 0 0]) ∧
    (slcT Try.prog 95 = some (3, 1, 8)) ∧
    (slcZ Try.prog 95 = some (3, 1, 8)) := by
  refine ⟨?_, ?_, ?_, ?_, ?_, ?_, ?_⟩ <;> kernel_rfl

theorem ty96 :
    (szT Try.prog 96 = some 1) ∧
    (aggT Try.prog 96 = some false) ∧
    (undT Try.prog 96 = true) ∧
    (boolT Try.prog 96 = false) ∧
    (zeroT Try.prog 96 = some [.nilFunc]) := by
  refine ⟨?_, ?_, ?_, ?_, ?_⟩ <;> kernel_rfl

theorem ty97 :
    (szT Try.prog 97 = some 1) ∧
    (aggT Try.prog 97 = some false) ∧
    (undT Try.prog 97 = true) ∧
    (boolT Try.prog 97 = false) ∧
    (zeroT Try.prog 97 = some [.nilFunc]) := by
  refine ⟨?_, ?_, ?_, ?_, ?_⟩ <;> kernel_rfl

theorem ty98 :
    (szT Try.prog 98 = some 1) ∧
    (aggT Try.prog 98 = some false) ∧
    (undT Try.prog 98 = true) ∧
    (boolT Try.prog 98 = false) ∧
    (zeroT Try.prog 98 = some [.nilFunc]) := by
  refine ⟨?_, ?_, ?_, ?_, ?_⟩ <;> kernel_rfl

theorem ty99 :
    (szT Try.prog 99 = some 4) ∧
    (aggT Try.prog 99 = some true) ∧
    (undT Try.prog 99 = true) ∧
    (boolT Try.prog 99 = false) ∧
    (plT Try.prog 99 = some [(0, 1), (1, 1), (2, 1), (3, 1)]) ∧
    (fldT Try.prog 99 0 = some (0, 1, false)) ∧
    (fldT Try.prog 99 1 = some (1, 1, false)) ∧
    (fldT Try.prog 99 2 = some (2, 1, false)) ∧
    (fldT Try.prog 99 3 = some (3, 1, false)) := by
  refine ⟨?_, ?_, ?_, ?_, ?_, ?_, ?_, ?_, ?_⟩ <;> kernel_rfl

theorem ty100 :
    (szT Try.prog 100 = some 4) ∧
    (aggT Try.prog 100 = some true) ∧
    (undT Try.prog 100 = true) ∧
    (boolT Try.prog 100 = false) ∧
    (plT Try.prog 100 = some [(0, 1), (1, 1), (2, 1), (3, 1)]) ∧
    (fldT Try.prog 100 0 = some (0, 1, false)) ∧
    (fldT Try.prog 100 1 = some (1, 1, false)) ∧
    (fldT Try.prog 100 2 = some (2, 1, false)) ∧
    (fldT Try.prog 100 3 = some (3, 1, false)) := by
  refine ⟨?_, ?_, ?_, ?_, ?_, ?_, ?_, ?_, ?_⟩ <;> kernel_rfl

theorem ty101 :
    (szT Try.prog 101 = some 0) ∧
    (aggT Try.prog 101 = some true) ∧
    (undT Try.prog 101 = true) ∧
    (boolT Try.prog 101 = false) ∧
    (zeroT Try.prog 101 = some []) ∧
    (arrT Try.prog 101 = some (0, 1, false)) ∧
    (plT Try.prog 101 = some []) := by
  refine ⟨?_, ?_, ?_, ?_, ?_, ?_, ?_⟩ <;> kernel_rfl

theorem ty102 :
    (szT Try.prog 102 = some 0) ∧
    (aggT Try.prog 102 = some true) ∧
    (undT Try.prog 102 = true) ∧
    (boolT Try.prog 102 = false) ∧
    (zeroT Try.prog 102 = some []) ∧
    (plT Try.prog 102 = some [(0, 0)]) ∧
    (fldT Try.prog 102 0 = some (0, 0, true)) := by
  refine ⟨?_, ?_, ?_, ?_, ?_, ?_, ?_⟩ <;> kernel_rfl

theorem ty103 :
    (szT Try.prog 103 = some 0) ∧
    (aggT Try.prog 103 = some true) ∧
    (undT Try.prog 103 = true) ∧
    (boolT Try.prog 103 = false) ∧
    (zeroT Try.prog 103 = some []) ∧
    (plT Try.prog 103 = some [(0, 0)]) ∧
    (fldT Try.prog 103 0 = some (0, 0, true)) := by
  refine ⟨?_, ?_, ?_, ?_, ?_, ?_, ?_⟩ <;> kernel_rfl

theorem ty104 :
    (szT Try.prog 104 = some 1) ∧
    (aggT Try.prog 104 = some false) ∧
    (undT Try.prog 104 = true) ∧
    (boolT Try.prog 104 = false) ∧
    (zeroT Try.prog 104 = some [.nilFunc]) := by
  refine ⟨?_, ?_, ?_, ?_, ?_⟩ <;> kernel_rfl

theorem ty105 :
    (szT Try.prog 105 = some 1) ∧
    (aggT Try.prog 105 = some false) ∧
    (undT Try.prog 105 = true) ∧
    (boolT Try.prog 105 = false) ∧
    (intT Try.prog 105 = some .u32) ∧
    (zeroT Try.prog 105 = some [.int .u32 0]) := by
  refine ⟨?_, ?_, ?_, ?_, ?_, ?_⟩ <;> kernel_rfl

theorem ty106 :
    (szT Try.prog 106 = some 1) ∧
    (aggT Try.prog 106 = some false) ∧
    (undT Try.prog 106 = true) ∧
    (boolT Try.prog 106 = false) ∧
    (intT Try.prog 106 = some .u8) ∧
    (zeroT Try.prog 106 = some [.int .u8 0]) := by
  refine ⟨?_, ?_, ?_, ?_, ?_, ?_⟩ <;> kernel_rfl

theorem ty107 :
    (szT Try.prog 107 = some 1) ∧
    (aggT Try.prog 107 = some false) ∧
    (undT Try.prog 107 = true) ∧
    (boolT Try.prog 107 = false) ∧
    (intT Try.prog 107 = some .u8) ∧
    (zeroT Try.prog 107 = some [.int .u8 0]) := by
  refine ⟨?_, ?_, ?_, ?_, ?_, ?_⟩ <;> kernel_rfl

theorem ty108 :
    (szT Try.prog 108 = some 1) ∧
    (aggT Try.prog 108 = some false) ∧
    (undT Try.prog 108 = true) ∧
    (boolT Try.prog 108 = false) ∧
    (zeroT Try.prog 108 = some [.nilFunc]) := by
  refine ⟨?_, ?_, ?_, ?_, ?_⟩ <;> kernel_rfl

theorem ty109 :
    (szT Try.prog 109 = some 1) ∧
    (aggT Try.prog 109 = some false) ∧
    (undT Try.prog 109 = true) ∧
    (boolT Try.prog 109 = false) ∧
    (zeroT Try.prog 109 = some [.pointer none]) := by
  refine ⟨?_, ?_, ?_, ?_, ?_⟩ <;> kernel_rfl

theorem ty110 :
    (szT Try.prog 110 = some 1) ∧
    (aggT Try.prog 110 = some false) ∧
    (undT Try.prog 110 = true) ∧
    (boolT Try.prog 110 = false) ∧
    (intT Try.prog 110 = some .i32) ∧
    (zeroT Try.prog 110 = some [.int .i32 0]) := by
  refine ⟨?_, ?_, ?_, ?_, ?_, ?_⟩ <;> kernel_rfl

theorem ty111 :
    (szT Try.prog 111 = some 1) ∧
    (aggT Try.prog 111 = some false) ∧
    (undT Try.prog 111 = true) ∧
    (boolT Try.prog 111 = false) ∧
    (intT Try.prog 111 = some .i32) ∧
    (zeroT Try.prog 111 = some [.int .i32 0]) := by
  refine ⟨?_, ?_, ?_, ?_, ?_, ?_⟩ <;> kernel_rfl

theorem ty112 :
    (szT Try.prog 112 = some 11) ∧
    (aggT Try.prog 112 = some true) ∧
    (undT Try.prog 112 = true) ∧
    (boolT Try.prog 112 = false) ∧
    (zeroT Try.prog 112 = some [.int .u64 0, .int .u64 0, .int .u32 0, .int .u8 0, .int .u8 0, .int .u8 0, .int .u8 0, .nilFunc, .pointer none, .int .i32 0, .int .i32 0]) ∧
    (plT Try.prog 112 = some [(0, 1), (1, 1), (2, 1), (3, 1), (4, 1), (5, 1), (6, 1), (7, 1), (8, 1), (9, 1), (10, 1)]) ∧
    (fldT Try.prog 112 0 = some (0, 1, false)) ∧
    (fldT Try.prog 112 1 = some (1, 1, false)) ∧
    (fldT Try.prog 112 2 = some (2, 1, false)) ∧
    (fldT Try.prog 112 3 = some (3, 1, false)) ∧
    (fldT Try.prog 112 4 = some (4, 1, false)) ∧
    (fldT Try.prog 112 5 = some (5, 1, false)) ∧
    (fldT Try.prog 112 6 = some (6, 1, false)) ∧
    (fldT Try.prog 112 7 = some (7, 1, false)) ∧
    (fldT Try.prog 112 8 = some (8, 1, false)) ∧
    (fldT Try.prog 112 9 = some (9, 1, false)) ∧
    (fldT Try.prog 112 10 = some (10, 1, false)) := by
  refine ⟨?_, ?_, ?_, ?_, ?_, ?_, ?_, ?_, ?_, ?_, ?_, ?_, ?_, ?_, ?_, ?_, ?_⟩ <;> kernel_rfl

theorem ty113 :
    (szT Try.prog 113 = some 11) ∧
    (aggT Try.prog 113 = some true) ∧
    (undT Try.prog 113 = true) ∧
    (boolT Try.prog 113 = false) ∧
    (zeroT Try.prog 113 = some [.int .u64 0, .int .u64 0, .int .u32 0, .int .u8 0, .int .u8 0, .int .u8 0, .int .u8 0, .nilFunc, .pointer none, .int .i32 0, .int .i32 0]) ∧
    (plT Try.prog 113 = some [(0, 1), (1, 1), (2, 1), (3, 1), (4, 1), (5, 1), (6, 1), (7, 1), (8, 1), (9, 1), (10, 1)]) ∧
    (fldT Try.prog 113 0 = some (0, 1, false)) ∧
    (fldT Try.prog 113 1 = some (1, 1, false)) ∧
    (fldT Try.prog 113 2 = some (2, 1, false)) ∧
    (fldT Try.prog 113 3 = some (3, 1, false)) ∧
    (fldT Try.prog 113 4 = some (4, 1, false)) ∧
    (fldT Try.prog 113 5 = some (5, 1, false)) ∧
    (fldT Try.prog 113 6 = some (6, 1, false)) ∧
    (fldT Try.prog 113 7 = some (7, 1, false)) ∧
    (fldT Try.prog 113 8 = some (8, 1, false)) ∧
    (fldT Try.prog 113 9 = some (9, 1, false)) ∧
    (fldT Try.prog 113 10 = some (10, 1, false)) := by
  refine ⟨?_, ?_, ?_, ?_, ?_, ?_, ?_, ?_, ?_, ?_, ?_, ?_, ?_, ?_, ?_, ?_, ?_⟩ <;> kernel_rfl

attribute [go_sem] ty1 ty2 ty3 ty4 ty5 ty6 ty7 ty8 ty12 ty13 ty14 ty15 ty16 ty17 ty18 ty19 ty21 ty22 ty23 ty24 ty25 ty26 ty27 ty28 ty29 ty30 ty31 ty32 ty34 ty35 ty36 ty37 ty38 ty39 ty40 ty41 ty43 ty45 ty46 ty47 ty48 ty49 ty50 ty51 ty52 ty53 ty54 ty55 ty56 ty57 ty58 ty59 ty61 ty62 ty63 ty64 ty65 ty66 ty67 ty68 ty69 ty70 ty71 ty72 ty73 ty74 ty75 ty76 ty77 ty78 ty79 ty80 ty81 ty83 ty84 ty85 ty86 ty87 ty88 ty90 ty92 ty93 ty94 ty95 ty96 ty97 ty98 ty99 ty100 ty101 ty102 ty103 ty104 ty105 ty106 ty107 ty108 ty109 ty110 ty111 ty112 ty113
attribute [go_sem] St.free freeH evO ofV AV.cells pickAV evz bne_self_eq_false forall_const Nat.reduceBEq Nat.reduceBNe Nat.reduceAdd Nat.reduceLT Nat.reduceLeDiff Nat.reduceEqDiff Int.reduceLE Int.reduceLT Int.reduceToNat Nat.reduceMul Nat.reduceSub Nat.reduceDiv Nat.reduceMod reduceCtorEq
attribute [go_sem ↓] reduceIte

theorem agz : type_of% (And.intro @List.mem_cons (And.intro @List.not_mem_nil (And.intro @forall_eq_or_imp (And.intro @forall_eq @List.append_toArray)))) := And.intro @List.mem_cons (And.intro @List.not_mem_nil (And.intro @forall_eq_or_imp (And.intro @forall_eq @List.append_toArray)))

end Go.Proofs.Ytlkogofgemclfaa
