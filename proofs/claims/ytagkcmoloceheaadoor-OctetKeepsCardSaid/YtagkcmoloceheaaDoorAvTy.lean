/-
  What the program says of its types.
-/
import Derived.Test.YtagkcmoloceheaaDoorAvW
import Derived.Test.YtagkcmoloceheaaDoorProg
import Derived.KernelRfl
namespace Go.Proofs.YtagkcmoloceheaaDoor

theorem ty1 :
    (szT Tryd.prog 1 = some 1) ∧
    (aggT Tryd.prog 1 = some false) ∧
    (undT Tryd.prog 1 = true) ∧
    (boolT Tryd.prog 1 = false) ∧
    (zeroT Tryd.prog 1 = some [.nilFunc]) := by
  refine ⟨?_, ?_, ?_, ?_, ?_⟩ <;> kernel_rfl

theorem ty2 :
    (szT Tryd.prog 2 = some 1) ∧
    (aggT Tryd.prog 2 = some false) ∧
    (undT Tryd.prog 2 = true) ∧
    (boolT Tryd.prog 2 = false) ∧
    (intT Tryd.prog 2 = some .i64) ∧
    (zeroT Tryd.prog 2 = some [.int .i64 0]) := by
  refine ⟨?_, ?_, ?_, ?_, ?_, ?_⟩ <;> kernel_rfl

theorem ty3 :
    (szT Tryd.prog 3 = some 1) ∧
    (aggT Tryd.prog 3 = some false) ∧
    (undT Tryd.prog 3 = true) ∧
    (boolT Tryd.prog 3 = false) ∧
    (intT Tryd.prog 3 = some .i64) ∧
    (zeroT Tryd.prog 3 = some [.int .i64 0]) := by
  refine ⟨?_, ?_, ?_, ?_, ?_, ?_⟩ <;> kernel_rfl

theorem ty4 :
    (szT Tryd.prog 4 = some 1) ∧
    (aggT Tryd.prog 4 = some false) ∧
    (undT Tryd.prog 4 = true) ∧
    (boolT Tryd.prog 4 = true) ∧
    (zeroT Tryd.prog 4 = some [.bool false]) := by
  refine ⟨?_, ?_, ?_, ?_, ?_⟩ <;> kernel_rfl

theorem ty5 :
    (szT Tryd.prog 5 = some 1) ∧
    (aggT Tryd.prog 5 = some false) ∧
    (undT Tryd.prog 5 = true) ∧
    (boolT Tryd.prog 5 = false) ∧
    (intT Tryd.prog 5 = some .u8) ∧
    (zeroT Tryd.prog 5 = some [.int .u8 0]) := by
  refine ⟨?_, ?_, ?_, ?_, ?_, ?_⟩ <;> kernel_rfl

theorem ty6 :
    (szT Tryd.prog 6 = some 1) ∧
    (aggT Tryd.prog 6 = some false) ∧
    (undT Tryd.prog 6 = true) ∧
    (boolT Tryd.prog 6 = false) ∧
    (intT Tryd.prog 6 = some .u8) ∧
    (zeroT Tryd.prog 6 = some [.int .u8 0]) := by
  refine ⟨?_, ?_, ?_, ?_, ?_, ?_⟩ <;> kernel_rfl

theorem ty7 :
    (szT Tryd.prog 7 = some 4) ∧
    (aggT Tryd.prog 7 = some true) ∧
    (undT Tryd.prog 7 = true) ∧
    (boolT Tryd.prog 7 = false) ∧
    (zeroT Tryd.prog 7 = some [.int .i64 0, .int .i64 0, .bool false, .int .u8 0]) ∧
    (plT Tryd.prog 7 = some [(0, 1), (1, 1), (2, 1), (3, 1)]) ∧
    (fldT Tryd.prog 7 0 = some (0, 1, false)) ∧
    (fldT Tryd.prog 7 1 = some (1, 1, false)) ∧
    (fldT Tryd.prog 7 2 = some (2, 1, false)) ∧
    (fldT Tryd.prog 7 3 = some (3, 1, false)) := by
  refine ⟨?_, ?_, ?_, ?_, ?_, ?_, ?_, ?_, ?_, ?_⟩ <;> kernel_rfl

theorem ty8 :
    (szT Tryd.prog 8 = some 4) ∧
    (aggT Tryd.prog 8 = some true) ∧
    (undT Tryd.prog 8 = true) ∧
    (boolT Tryd.prog 8 = false) ∧
    (zeroT Tryd.prog 8 = some [.int .i64 0, .int .i64 0, .bool false, .int .u8 0]) ∧
    (plT Tryd.prog 8 = some [(0, 1), (1, 1), (2, 1), (3, 1)]) ∧
    (fldT Tryd.prog 8 0 = some (0, 1, false)) ∧
    (fldT Tryd.prog 8 1 = some (1, 1, false)) ∧
    (fldT Tryd.prog 8 2 = some (2, 1, false)) ∧
    (fldT Tryd.prog 8 3 = some (3, 1, false)) := by
  refine ⟨?_, ?_, ?_, ?_, ?_, ?_, ?_, ?_, ?_, ?_⟩ <;> kernel_rfl

theorem ty12 :
    (szT Tryd.prog 12 = some 1) ∧
    (aggT Tryd.prog 12 = some false) ∧
    (undT Tryd.prog 12 = true) ∧
    (boolT Tryd.prog 12 = false) ∧
    (intT Tryd.prog 12 = some .u64) ∧
    (zeroT Tryd.prog 12 = some [.int .u64 0]) := by
  refine ⟨?_, ?_, ?_, ?_, ?_, ?_⟩ <;> kernel_rfl

theorem ty13 :
    (szT Tryd.prog 13 = some 2) ∧
    (aggT Tryd.prog 13 = some true) ∧
    (undT Tryd.prog 13 = true) ∧
    (boolT Tryd.prog 13 = false) ∧
    (plT Tryd.prog 13 = some [(0, 1), (1, 1)]) ∧
    (fldT Tryd.prog 13 0 = some (0, 1, false)) ∧
    (fldT Tryd.prog 13 1 = some (1, 1, false)) := by
  refine ⟨?_, ?_, ?_, ?_, ?_, ?_, ?_⟩ <;> kernel_rfl

theorem ty14 :
    (szT Tryd.prog 14 = some 2) ∧
    (aggT Tryd.prog 14 = some true) ∧
    (undT Tryd.prog 14 = true) ∧
    (boolT Tryd.prog 14 = false) ∧
    (plT Tryd.prog 14 = some [(0, 1), (1, 1)]) ∧
    (fldT Tryd.prog 14 0 = some (0, 1, false)) ∧
    (fldT Tryd.prog 14 1 = some (1, 1, false)) := by
  refine ⟨?_, ?_, ?_, ?_, ?_, ?_, ?_⟩ <;> kernel_rfl

theorem ty15 :
    (szT Tryd.prog 15 = some 1) ∧
    (aggT Tryd.prog 15 = some false) ∧
    (undT Tryd.prog 15 = true) ∧
    (boolT Tryd.prog 15 = false) ∧
    (zeroT Tryd.prog 15 = some [.pointer none]) := by
  refine ⟨?_, ?_, ?_, ?_, ?_⟩ <;> kernel_rfl

theorem ty16 :
    (szT Tryd.prog 16 = some 1) ∧
    (aggT Tryd.prog 16 = some false) ∧
    (undT Tryd.prog 16 = true) ∧
    (boolT Tryd.prog 16 = false) ∧
    (zeroT Tryd.prog 16 = some [.pointer none]) := by
  refine ⟨?_, ?_, ?_, ?_, ?_⟩ <;> kernel_rfl

theorem ty17 :
    (szT Tryd.prog 17 = some 1) ∧
    (aggT Tryd.prog 17 = some false) ∧
    (undT Tryd.prog 17 = true) ∧
    (boolT Tryd.prog 17 = false) ∧
    (zeroT Tryd.prog 17 = some [.pointer none]) := by
  refine ⟨?_, ?_, ?_, ?_, ?_⟩ <;> kernel_rfl

theorem ty18 :
    (szT Tryd.prog 18 = some 1) ∧
    (aggT Tryd.prog 18 = some true) ∧
    (undT Tryd.prog 18 = true) ∧
    (boolT Tryd.prog 18 = false) ∧
    (zeroT Tryd.prog 18 = some [.pointer none]) ∧
    (plT Tryd.prog 18 = some [(0, 1)]) ∧
    (fldT Tryd.prog 18 0 = some (0, 1, false)) := by
  refine ⟨?_, ?_, ?_, ?_, ?_, ?_, ?_⟩ <;> kernel_rfl

theorem ty19 :
    (szT Tryd.prog 19 = some 1) ∧
    (aggT Tryd.prog 19 = some true) ∧
    (undT Tryd.prog 19 = true) ∧
    (boolT Tryd.prog 19 = false) ∧
    (zeroT Tryd.prog 19 = some [.pointer none]) ∧
    (plT Tryd.prog 19 = some [(0, 1)]) ∧
    (fldT Tryd.prog 19 0 = some (0, 1, false)) := by
  refine ⟨?_, ?_, ?_, ?_, ?_, ?_, ?_⟩ <;> kernel_rfl

theorem ty21 :
    (szT Tryd.prog 21 = some 1) ∧
    (aggT Tryd.prog 21 = some false) ∧
    (undT Tryd.prog 21 = true) ∧
    (boolT Tryd.prog 21 = false) ∧
    (intT Tryd.prog 21 = some .i32) ∧
    (zeroT Tryd.prog 21 = some [.int .i32 0]) := by
  refine ⟨?_, ?_, ?_, ?_, ?_, ?_⟩ <;> kernel_rfl

theorem ty22 :
    (szT Tryd.prog 22 = some 1) ∧
    (aggT Tryd.prog 22 = some false) ∧
    (undT Tryd.prog 22 = true) ∧
    (boolT Tryd.prog 22 = false) ∧
    (zeroT Tryd.prog 22 = some [.slice none 0 0]) ∧
    (slcT Tryd.prog 22 = some (25, 1, 24)) ∧
    (slcZ Tryd.prog 22 = some (25, 1, 24)) := by
  refine ⟨?_, ?_, ?_, ?_, ?_, ?_, ?_⟩ <;> kernel_rfl

theorem ty23 :
    (szT Tryd.prog 23 = some 1) ∧
    (aggT Tryd.prog 23 = some false) ∧
    (undT Tryd.prog 23 = true) ∧
    (boolT Tryd.prog 23 = false) ∧
    (zeroT Tryd.prog 23 = some [.slice none 0 0]) ∧
    (slcT Tryd.prog 23 = some (3, 1, 8)) ∧
    (slcZ Tryd.prog 23 = some (3, 1, 8)) := by
  refine ⟨?_, ?_, ?_, ?_, ?_, ?_, ?_⟩ <;> kernel_rfl

theorem ty24 :
    (szT Tryd.prog 24 = some 1) ∧
    (aggT Tryd.prog 24 = some false) ∧
    (undT Tryd.prog 24 = true) ∧
    (boolT Tryd.prog 24 = false) ∧
    (zeroT Tryd.prog 24 = some [.nilFunc]) := by
  refine ⟨?_, ?_, ?_, ?_, ?_⟩ <;> kernel_rfl

theorem ty25 :
    (szT Tryd.prog 25 = some 1) ∧
    (aggT Tryd.prog 25 = some false) ∧
    (undT Tryd.prog 25 = true) ∧
    (boolT Tryd.prog 25 = false) ∧
    (zeroT Tryd.prog 25 = some [.slice none 0 0]) ∧
    (slcT Tryd.prog 25 = some (5, 1, 1)) ∧
    (slcZ Tryd.prog 25 = some (5, 1, 1)) := by
  refine ⟨?_, ?_, ?_, ?_, ?_, ?_, ?_⟩ <;> kernel_rfl

theorem ty26 :
    (szT Tryd.prog 26 = some 1) ∧
    (aggT Tryd.prog 26 = some false) ∧
    (undT Tryd.prog 26 = true) ∧
    (boolT Tryd.prog 26 = false) ∧
    (zeroT Tryd.prog 26 = some [.nilFunc]) := by
  refine ⟨?_, ?_, ?_, ?_, ?_⟩ <;> kernel_rfl

theorem ty28 :
    (szT Tryd.prog 28 = some 1) ∧
    (aggT Tryd.prog 28 = some false) ∧
    (undT Tryd.prog 28 = true) ∧
    (boolT Tryd.prog 28 = false) ∧
    (zeroT Tryd.prog 28 = some [.nilFunc]) := by
  refine ⟨?_, ?_, ?_, ?_, ?_⟩ <;> kernel_rfl

theorem ty29 :
    (szT Tryd.prog 29 = some 1) ∧
    (aggT Tryd.prog 29 = some false) ∧
    (undT Tryd.prog 29 = true) ∧
    (boolT Tryd.prog 29 = false) ∧
    (zeroT Tryd.prog 29 = some [.nilFunc]) := by
  refine ⟨?_, ?_, ?_, ?_, ?_⟩ <;> kernel_rfl

theorem ty30 :
    (szT Tryd.prog 30 = some 1) ∧
    (aggT Tryd.prog 30 = some false) ∧
    (undT Tryd.prog 30 = true) ∧
    (boolT Tryd.prog 30 = false) ∧
    (zeroT Tryd.prog 30 = some [.nilFunc]) := by
  refine ⟨?_, ?_, ?_, ?_, ?_⟩ <;> kernel_rfl

theorem ty31 :
    (szT Tryd.prog 31 = some 1) ∧
    (aggT Tryd.prog 31 = some false) ∧
    (undT Tryd.prog 31 = true) ∧
    (boolT Tryd.prog 31 = false) ∧
    (intT Tryd.prog 31 = some .i64) ∧
    (zeroT Tryd.prog 31 = some [.int .i64 0]) := by
  refine ⟨?_, ?_, ?_, ?_, ?_, ?_⟩ <;> kernel_rfl

theorem ty33 :
    (szT Tryd.prog 33 = some 1) ∧
    (aggT Tryd.prog 33 = some false) ∧
    (undT Tryd.prog 33 = true) ∧
    (boolT Tryd.prog 33 = false) ∧
    (zeroT Tryd.prog 33 = some [.nilFunc]) := by
  refine ⟨?_, ?_, ?_, ?_, ?_⟩ <;> kernel_rfl

theorem ty34 :
    (szT Tryd.prog 34 = some 1) ∧
    (aggT Tryd.prog 34 = some false) ∧
    (undT Tryd.prog 34 = true) ∧
    (boolT Tryd.prog 34 = false) ∧
    (zeroT Tryd.prog 34 = some [.nilFunc]) := by
  refine ⟨?_, ?_, ?_, ?_, ?_⟩ <;> kernel_rfl

theorem ty35 :
    (szT Tryd.prog 35 = some 2) ∧
    (aggT Tryd.prog 35 = some true) ∧
    (undT Tryd.prog 35 = true) ∧
    (boolT Tryd.prog 35 = false) ∧
    (zeroT Tryd.prog 35 = some [.slice none 0 0, .slice none 0 0]) ∧
    (arrT Tryd.prog 35 = some (2, 1, false)) ∧
    (plT Tryd.prog 35 = some [(0, 1), (1, 1)]) := by
  refine ⟨?_, ?_, ?_, ?_, ?_, ?_, ?_⟩ <;> kernel_rfl

theorem ty36 :
    (szT Tryd.prog 36 = some 1) ∧
    (aggT Tryd.prog 36 = some false) ∧
    (undT Tryd.prog 36 = true) ∧
    (boolT Tryd.prog 36 = false) ∧
    (zeroT Tryd.prog 36 = some [.nilFunc]) := by
  refine ⟨?_, ?_, ?_, ?_, ?_⟩ <;> kernel_rfl

theorem ty37 :
    (szT Tryd.prog 37 = some 1) ∧
    (aggT Tryd.prog 37 = some false) ∧
    (undT Tryd.prog 37 = true) ∧
    (boolT Tryd.prog 37 = false) ∧
    (intT Tryd.prog 37 = some .u64) ∧
    (zeroT Tryd.prog 37 = some [.int .u64 0]) := by
  refine ⟨?_, ?_, ?_, ?_, ?_, ?_⟩ <;> kernel_rfl

theorem ty38 :
    (szT Tryd.prog 38 = some 1) ∧
    (aggT Tryd.prog 38 = some false) ∧
    (undT Tryd.prog 38 = true) ∧
    (boolT Tryd.prog 38 = false) ∧
    (zeroT Tryd.prog 38 = some [.nilFunc]) := by
  refine ⟨?_, ?_, ?_, ?_, ?_⟩ <;> kernel_rfl

theorem ty39 :
    (szT Tryd.prog 39 = some 1) ∧
    (aggT Tryd.prog 39 = some false) ∧
    (undT Tryd.prog 39 = true) ∧
    (boolT Tryd.prog 39 = false) ∧
    (intT Tryd.prog 39 = some .u64) ∧
    (zeroT Tryd.prog 39 = some [.int .u64 0]) := by
  refine ⟨?_, ?_, ?_, ?_, ?_, ?_⟩ <;> kernel_rfl

theorem ty40 :
    (szT Tryd.prog 40 = some 1) ∧
    (aggT Tryd.prog 40 = some false) ∧
    (undT Tryd.prog 40 = true) ∧
    (boolT Tryd.prog 40 = false) ∧
    (zeroT Tryd.prog 40 = some [.nilFunc]) := by
  refine ⟨?_, ?_, ?_, ?_, ?_⟩ <;> kernel_rfl

theorem ty41 :
    (szT Tryd.prog 41 = some 1) ∧
    (aggT Tryd.prog 41 = some false) ∧
    (undT Tryd.prog 41 = true) ∧
    (boolT Tryd.prog 41 = false) ∧
    (zeroT Tryd.prog 41 = some [.nilFunc]) := by
  refine ⟨?_, ?_, ?_, ?_, ?_⟩ <;> kernel_rfl

theorem ty42 :
    (szT Tryd.prog 42 = some 1) ∧
    (aggT Tryd.prog 42 = some false) ∧
    (undT Tryd.prog 42 = true) ∧
    (boolT Tryd.prog 42 = false) ∧
    (zeroT Tryd.prog 42 = some [.nilFunc]) := by
  refine ⟨?_, ?_, ?_, ?_, ?_⟩ <;> kernel_rfl

theorem ty43 :
    (szT Tryd.prog 43 = some 1) ∧
    (aggT Tryd.prog 43 = some false) ∧
    (undT Tryd.prog 43 = true) ∧
    (boolT Tryd.prog 43 = false) ∧
    (zeroT Tryd.prog 43 = some [.nilFunc]) := by
  refine ⟨?_, ?_, ?_, ?_, ?_⟩ <;> kernel_rfl

theorem ty44 :
    (szT Tryd.prog 44 = some 1) ∧
    (aggT Tryd.prog 44 = some false) ∧
    (undT Tryd.prog 44 = true) ∧
    (boolT Tryd.prog 44 = false) ∧
    (zeroT Tryd.prog 44 = some [.nilFunc]) := by
  refine ⟨?_, ?_, ?_, ?_, ?_⟩ <;> kernel_rfl

theorem ty45 :
    (szT Tryd.prog 45 = some 1) ∧
    (aggT Tryd.prog 45 = some false) ∧
    (undT Tryd.prog 45 = true) ∧
    (boolT Tryd.prog 45 = false) ∧
    (zeroT Tryd.prog 45 = some [.nilFunc]) := by
  refine ⟨?_, ?_, ?_, ?_, ?_⟩ <;> kernel_rfl

theorem ty46 :
    (szT Tryd.prog 46 = some 1) ∧
    (aggT Tryd.prog 46 = some false) ∧
    (undT Tryd.prog 46 = true) ∧
    (boolT Tryd.prog 46 = false) ∧
    (zeroT Tryd.prog 46 = some [.nilFunc]) := by
  refine ⟨?_, ?_, ?_, ?_, ?_⟩ <;> kernel_rfl

theorem ty47 :
    (szT Tryd.prog 47 = some 1) ∧
    (aggT Tryd.prog 47 = some false) ∧
    (undT Tryd.prog 47 = true) ∧
    (boolT Tryd.prog 47 = false) ∧
    (zeroT Tryd.prog 47 = some [.nilFunc]) := by
  refine ⟨?_, ?_, ?_, ?_, ?_⟩ <;> kernel_rfl

theorem ty48 :
    (szT Tryd.prog 48 = some 1) ∧
    (aggT Tryd.prog 48 = some false) ∧
    (undT Tryd.prog 48 = true) ∧
    (boolT Tryd.prog 48 = false) ∧
    (zeroT Tryd.prog 48 = some [.nilFunc]) := by
  refine ⟨?_, ?_, ?_, ?_, ?_⟩ <;> kernel_rfl

theorem ty49 :
    (szT Tryd.prog 49 = some 1) ∧
    (aggT Tryd.prog 49 = some false) ∧
    (undT Tryd.prog 49 = true) ∧
    (boolT Tryd.prog 49 = false) ∧
    (zeroT Tryd.prog 49 = some [.nilFunc]) := by
  refine ⟨?_, ?_, ?_, ?_, ?_⟩ <;> kernel_rfl

theorem ty50 :
    (szT Tryd.prog 50 = some 1) ∧
    (aggT Tryd.prog 50 = some false) ∧
    (undT Tryd.prog 50 = true) ∧
    (boolT Tryd.prog 50 = false) ∧
    (zeroT Tryd.prog 50 = some [.nilFunc]) := by
  refine ⟨?_, ?_, ?_, ?_, ?_⟩ <;> kernel_rfl

theorem ty51 :
    (szT Tryd.prog 51 = some 1) ∧
    (aggT Tryd.prog 51 = some false) ∧
    (undT Tryd.prog 51 = true) ∧
    (boolT Tryd.prog 51 = false) ∧
    (zeroT Tryd.prog 51 = some [.nilFunc]) := by
  refine ⟨?_, ?_, ?_, ?_, ?_⟩ <;> kernel_rfl

theorem ty52 :
    (szT Tryd.prog 52 = some 1) ∧
    (aggT Tryd.prog 52 = some false) ∧
    (undT Tryd.prog 52 = true) ∧
    (boolT Tryd.prog 52 = false) ∧
    (zeroT Tryd.prog 52 = some [.nilFunc]) := by
  refine ⟨?_, ?_, ?_, ?_, ?_⟩ <;> kernel_rfl

theorem ty53 :
    (szT Tryd.prog 53 = some 256) ∧
    (aggT Tryd.prog 53 = some true) ∧
    (undT Tryd.prog 53 = true) ∧
    (boolT Tryd.prog 53 = false) ∧
    (arrT Tryd.prog 53 = some (256, 1, false)) := by
  refine ⟨?_, ?_, ?_, ?_, ?_⟩ <;> kernel_rfl

theorem ty54 :
    (szT Tryd.prog 54 = some 256) ∧
    (aggT Tryd.prog 54 = some true) ∧
    (undT Tryd.prog 54 = true) ∧
    (boolT Tryd.prog 54 = false) ∧
    (arrT Tryd.prog 54 = some (256, 1, false)) := by
  refine ⟨?_, ?_, ?_, ?_, ?_⟩ <;> kernel_rfl

theorem ty56 :
    (szT Tryd.prog 56 = some 1) ∧
    (aggT Tryd.prog 56 = some false) ∧
    (undT Tryd.prog 56 = true) ∧
    (boolT Tryd.prog 56 = false) ∧
    (zeroT Tryd.prog 56 = some [.nilFunc]) := by
  refine ⟨?_, ?_, ?_, ?_, ?_⟩ <;> kernel_rfl

theorem ty57 :
    (szT Tryd.prog 57 = some 1) ∧
    (aggT Tryd.prog 57 = some false) ∧
    (undT Tryd.prog 57 = true) ∧
    (boolT Tryd.prog 57 = false) ∧
    (zeroT Tryd.prog 57 = some [.nilFunc]) := by
  refine ⟨?_, ?_, ?_, ?_, ?_⟩ <;> kernel_rfl

theorem ty58 :
    (szT Tryd.prog 58 = some 1) ∧
    (aggT Tryd.prog 58 = some false) ∧
    (undT Tryd.prog 58 = true) ∧
    (boolT Tryd.prog 58 = false) ∧
    (zeroT Tryd.prog 58 = some [.pointer none]) := by
  refine ⟨?_, ?_, ?_, ?_, ?_⟩ <;> kernel_rfl

theorem ty59 :
    (szT Tryd.prog 59 = some 1) ∧
    (aggT Tryd.prog 59 = some false) ∧
    (undT Tryd.prog 59 = true) ∧
    (boolT Tryd.prog 59 = false) ∧
    (zeroT Tryd.prog 59 = some [.nilFunc]) := by
  refine ⟨?_, ?_, ?_, ?_, ?_⟩ <;> kernel_rfl

theorem ty60 :
    (szT Tryd.prog 60 = some 1) ∧
    (aggT Tryd.prog 60 = some false) ∧
    (undT Tryd.prog 60 = true) ∧
    (boolT Tryd.prog 60 = false) ∧
    (zeroT Tryd.prog 60 = some [.nilFunc]) := by
  refine ⟨?_, ?_, ?_, ?_, ?_⟩ <;> kernel_rfl

theorem ty61 :
    (szT Tryd.prog 61 = some 1) ∧
    (aggT Tryd.prog 61 = some false) ∧
    (undT Tryd.prog 61 = true) ∧
    (boolT Tryd.prog 61 = false) ∧
    (zeroT Tryd.prog 61 = some [.nilFunc]) := by
  refine ⟨?_, ?_, ?_, ?_, ?_⟩ <;> kernel_rfl

theorem ty62 :
    (szT Tryd.prog 62 = some 1) ∧
    (aggT Tryd.prog 62 = some false) ∧
    (undT Tryd.prog 62 = true) ∧
    (boolT Tryd.prog 62 = false) ∧
    (zeroT Tryd.prog 62 = some [.nilFunc]) := by
  refine ⟨?_, ?_, ?_, ?_, ?_⟩ <;> kernel_rfl

theorem ty64 :
    (szT Tryd.prog 64 = some 1) ∧
    (aggT Tryd.prog 64 = some false) ∧
    (undT Tryd.prog 64 = true) ∧
    (boolT Tryd.prog 64 = false) ∧
    (zeroT Tryd.prog 64 = some [.nilFunc]) := by
  refine ⟨?_, ?_, ?_, ?_, ?_⟩ <;> kernel_rfl

theorem ty65 :
    (szT Tryd.prog 65 = some 1) ∧
    (aggT Tryd.prog 65 = some false) ∧
    (undT Tryd.prog 65 = true) ∧
    (boolT Tryd.prog 65 = false) ∧
    (zeroT Tryd.prog 65 = some [.nilFunc]) := by
  refine ⟨?_, ?_, ?_, ?_, ?_⟩ <;> kernel_rfl

theorem ty66 :
    (szT Tryd.prog 66 = some 1) ∧
    (aggT Tryd.prog 66 = some false) ∧
    (undT Tryd.prog 66 = true) ∧
    (boolT Tryd.prog 66 = false) ∧
    (intT Tryd.prog 66 = some .u32) ∧
    (zeroT Tryd.prog 66 = some [.int .u32 0]) := by
  refine ⟨?_, ?_, ?_, ?_, ?_, ?_⟩ <;> kernel_rfl

theorem ty68 :
    (szT Tryd.prog 68 = some 1) ∧
    (aggT Tryd.prog 68 = some false) ∧
    (undT Tryd.prog 68 = true) ∧
    (boolT Tryd.prog 68 = false) ∧
    (zeroT Tryd.prog 68 = some [.nilFunc]) := by
  refine ⟨?_, ?_, ?_, ?_, ?_⟩ <;> kernel_rfl

theorem ty69 :
    (szT Tryd.prog 69 = some 256) ∧
    (aggT Tryd.prog 69 = some true) ∧
    (undT Tryd.prog 69 = true) ∧
    (boolT Tryd.prog 69 = false) ∧
    (eqTy Tryd.prog 6 69 = true) ∧
    (Tryd.prog.eqGuardType Tryd.prog.depth 69 = false) ∧
    (arrT Tryd.prog 69 = some (256, 1, false)) := by
  refine ⟨?_, ?_, ?_, ?_, ?_, ?_, ?_⟩ <;> kernel_rfl

theorem ty70 :
    (szT Tryd.prog 70 = some 2) ∧
    (aggT Tryd.prog 70 = some true) ∧
    (undT Tryd.prog 70 = true) ∧
    (boolT Tryd.prog 70 = false) ∧
    (zeroT Tryd.prog 70 = some [.int .u8 0, .int .u8 0]) ∧
    (eqTy Tryd.prog 6 70 = true) ∧
    (Tryd.prog.eqGuardType Tryd.prog.depth 70 = false) ∧
    (plT Tryd.prog 70 = some [(0, 1), (1, 1)]) ∧
    (fldT Tryd.prog 70 0 = some (0, 1, false)) ∧
    (fldT Tryd.prog 70 1 = some (1, 1, false)) := by
  refine ⟨?_, ?_, ?_, ?_, ?_, ?_, ?_, ?_, ?_, ?_⟩ <;> kernel_rfl

theorem ty71 :
    (szT Tryd.prog 71 = some 2) ∧
    (aggT Tryd.prog 71 = some true) ∧
    (undT Tryd.prog 71 = true) ∧
    (boolT Tryd.prog 71 = false) ∧
    (zeroT Tryd.prog 71 = some [.int .u8 0, .int .u8 0]) ∧
    (eqTy Tryd.prog 6 71 = true) ∧
    (Tryd.prog.eqGuardType Tryd.prog.depth 71 = false) ∧
    (plT Tryd.prog 71 = some [(0, 1), (1, 1)]) ∧
    (fldT Tryd.prog 71 0 = some (0, 1, false)) ∧
    (fldT Tryd.prog 71 1 = some (1, 1, false)) := by
  refine ⟨?_, ?_, ?_, ?_, ?_, ?_, ?_, ?_, ?_, ?_⟩ <;> kernel_rfl

theorem ty72 :
    (szT Tryd.prog 72 = some 32) ∧
    (aggT Tryd.prog 72 = some true) ∧
    (undT Tryd.prog 72 = true) ∧
    (boolT Tryd.prog 72 = false) ∧
    (zeroT Tryd.prog 72 = some [.int .u8 0, .int .u8 0, .int .u8 0, .int .u8 0, .int .u8 0, .int .u8 0, .int .u8 0, .int .u8 0, .int .u8 0, .int .u8 0, .int .u8 0, .int .u8 0, .int .u8 0, .int .u8 0, .int .u8 0, .int .u8 0, .int .u8 0, .int .u8 0, .int .u8 0, .int .u8 0, .int .u8 0, .int .u8 0, .int .u8 0, .int .u8 0, .int .u8 0, .int .u8 0, .int .u8 0, .int .u8 0, .int .u8 0, .int .u8 0, .int .u8 0, .int .u8 0]) ∧
    (eqTy Tryd.prog 6 72 = true) ∧
    (Tryd.prog.eqGuardType Tryd.prog.depth 72 = false) ∧
    (arrT Tryd.prog 72 = some (16, 2, true)) ∧
    (plT Tryd.prog 72 = some [(0, 2), (2, 2), (4, 2), (6, 2), (8, 2), (10, 2), (12, 2), (14, 2), (16, 2), (18, 2), (20, 2), (22, 2), (24, 2), (26, 2), (28, 2), (30, 2)]) := by
  refine ⟨?_, ?_, ?_, ?_, ?_, ?_, ?_, ?_, ?_⟩ <;> kernel_rfl

theorem ty73 :
    (szT Tryd.prog 73 = some 1) ∧
    (aggT Tryd.prog 73 = some false) ∧
    (undT Tryd.prog 73 = true) ∧
    (boolT Tryd.prog 73 = false) ∧
    (zeroT Tryd.prog 73 = some [.nilFunc]) := by
  refine ⟨?_, ?_, ?_, ?_, ?_⟩ <;> kernel_rfl

theorem ty74 :
    (szT Tryd.prog 74 = some 4) ∧
    (aggT Tryd.prog 74 = some true) ∧
    (undT Tryd.prog 74 = true) ∧
    (boolT Tryd.prog 74 = false) ∧
    (plT Tryd.prog 74 = some [(0, 1), (1, 1), (2, 1), (3, 1)]) ∧
    (fldT Tryd.prog 74 0 = some (0, 1, false)) ∧
    (fldT Tryd.prog 74 1 = some (1, 1, false)) ∧
    (fldT Tryd.prog 74 2 = some (2, 1, false)) ∧
    (fldT Tryd.prog 74 3 = some (3, 1, false)) := by
  refine ⟨?_, ?_, ?_, ?_, ?_, ?_, ?_, ?_, ?_⟩ <;> kernel_rfl

theorem ty75 :
    (szT Tryd.prog 75 = some 4) ∧
    (aggT Tryd.prog 75 = some true) ∧
    (undT Tryd.prog 75 = true) ∧
    (boolT Tryd.prog 75 = false) ∧
    (plT Tryd.prog 75 = some [(0, 1), (1, 1), (2, 1), (3, 1)]) ∧
    (fldT Tryd.prog 75 0 = some (0, 1, false)) ∧
    (fldT Tryd.prog 75 1 = some (1, 1, false)) ∧
    (fldT Tryd.prog 75 2 = some (2, 1, false)) ∧
    (fldT Tryd.prog 75 3 = some (3, 1, false)) := by
  refine ⟨?_, ?_, ?_, ?_, ?_, ?_, ?_, ?_, ?_⟩ <;> kernel_rfl

theorem ty76 :
    (szT Tryd.prog 76 = some 0) ∧
    (aggT Tryd.prog 76 = some true) ∧
    (undT Tryd.prog 76 = true) ∧
    (boolT Tryd.prog 76 = false) ∧
    (zeroT Tryd.prog 76 = some []) ∧
    (arrT Tryd.prog 76 = some (0, 1, false)) ∧
    (plT Tryd.prog 76 = some []) := by
  refine ⟨?_, ?_, ?_, ?_, ?_, ?_, ?_⟩ <;> kernel_rfl

theorem ty77 :
    (szT Tryd.prog 77 = some 0) ∧
    (aggT Tryd.prog 77 = some true) ∧
    (undT Tryd.prog 77 = true) ∧
    (boolT Tryd.prog 77 = false) ∧
    (zeroT Tryd.prog 77 = some []) ∧
    (plT Tryd.prog 77 = some [(0, 0)]) ∧
    (fldT Tryd.prog 77 0 = some (0, 0, true)) := by
  refine ⟨?_, ?_, ?_, ?_, ?_, ?_, ?_⟩ <;> kernel_rfl

theorem ty78 :
    (szT Tryd.prog 78 = some 0) ∧
    (aggT Tryd.prog 78 = some true) ∧
    (undT Tryd.prog 78 = true) ∧
    (boolT Tryd.prog 78 = false) ∧
    (zeroT Tryd.prog 78 = some []) ∧
    (plT Tryd.prog 78 = some [(0, 0)]) ∧
    (fldT Tryd.prog 78 0 = some (0, 0, true)) := by
  refine ⟨?_, ?_, ?_, ?_, ?_, ?_, ?_⟩ <;> kernel_rfl

theorem ty79 :
    (szT Tryd.prog 79 = some 1) ∧
    (aggT Tryd.prog 79 = some false) ∧
    (undT Tryd.prog 79 = true) ∧
    (boolT Tryd.prog 79 = false) ∧
    (intT Tryd.prog 79 = some .u8) ∧
    (zeroT Tryd.prog 79 = some [.int .u8 0]) := by
  refine ⟨?_, ?_, ?_, ?_, ?_, ?_⟩ <;> kernel_rfl

theorem ty80 :
    (szT Tryd.prog 80 = some 1) ∧
    (aggT Tryd.prog 80 = some false) ∧
    (undT Tryd.prog 80 = true) ∧
    (boolT Tryd.prog 80 = false) ∧
    (intT Tryd.prog 80 = some .u8) ∧
    (zeroT Tryd.prog 80 = some [.int .u8 0]) := by
  refine ⟨?_, ?_, ?_, ?_, ?_, ?_⟩ <;> kernel_rfl

theorem ty81 :
    (szT Tryd.prog 81 = some 1) ∧
    (aggT Tryd.prog 81 = some false) ∧
    (undT Tryd.prog 81 = true) ∧
    (boolT Tryd.prog 81 = false) ∧
    (zeroT Tryd.prog 81 = some [.nilFunc]) := by
  refine ⟨?_, ?_, ?_, ?_, ?_⟩ <;> kernel_rfl

theorem ty82 :
    (szT Tryd.prog 82 = some 1) ∧
    (aggT Tryd.prog 82 = some false) ∧
    (undT Tryd.prog 82 = true) ∧
    (boolT Tryd.prog 82 = false) ∧
    (zeroT Tryd.prog 82 = some [.pointer none]) := by
  refine ⟨?_, ?_, ?_, ?_, ?_⟩ <;> kernel_rfl

theorem ty83 :
    (szT Tryd.prog 83 = some 1) ∧
    (aggT Tryd.prog 83 = some false) ∧
    (undT Tryd.prog 83 = true) ∧
    (boolT Tryd.prog 83 = false) ∧
    (intT Tryd.prog 83 = some .i32) ∧
    (zeroT Tryd.prog 83 = some [.int .i32 0]) := by
  refine ⟨?_, ?_, ?_, ?_, ?_, ?_⟩ <;> kernel_rfl

theorem ty84 :
    (szT Tryd.prog 84 = some 1) ∧
    (aggT Tryd.prog 84 = some false) ∧
    (undT Tryd.prog 84 = true) ∧
    (boolT Tryd.prog 84 = false) ∧
    (intT Tryd.prog 84 = some .i32) ∧
    (zeroT Tryd.prog 84 = some [.int .i32 0]) := by
  refine ⟨?_, ?_, ?_, ?_, ?_, ?_⟩ <;> kernel_rfl

theorem ty85 :
    (szT Tryd.prog 85 = some 11) ∧
    (aggT Tryd.prog 85 = some true) ∧
    (undT Tryd.prog 85 = true) ∧
    (boolT Tryd.prog 85 = false) ∧
    (zeroT Tryd.prog 85 = some [.int .u64 0, .int .u64 0, .int .u32 0, .int .u8 0, .int .u8 0, .int .u8 0, .int .u8 0, .nilFunc, .pointer none, .int .i32 0, .int .i32 0]) ∧
    (plT Tryd.prog 85 = some [(0, 1), (1, 1), (2, 1), (3, 1), (4, 1), (5, 1), (6, 1), (7, 1), (8, 1), (9, 1), (10, 1)]) ∧
    (fldT Tryd.prog 85 0 = some (0, 1, false)) ∧
    (fldT Tryd.prog 85 1 = some (1, 1, false)) ∧
    (fldT Tryd.prog 85 2 = some (2, 1, false)) ∧
    (fldT Tryd.prog 85 3 = some (3, 1, false)) ∧
    (fldT Tryd.prog 85 4 = some (4, 1, false)) ∧
    (fldT Tryd.prog 85 5 = some (5, 1, false)) ∧
    (fldT Tryd.prog 85 6 = some (6, 1, false)) ∧
    (fldT Tryd.prog 85 7 = some (7, 1, false)) ∧
    (fldT Tryd.prog 85 8 = some (8, 1, false)) ∧
    (fldT Tryd.prog 85 9 = some (9, 1, false)) ∧
    (fldT Tryd.prog 85 10 = some (10, 1, false)) := by
  refine ⟨?_, ?_, ?_, ?_, ?_, ?_, ?_, ?_, ?_, ?_, ?_, ?_, ?_, ?_, ?_, ?_, ?_⟩ <;> kernel_rfl

theorem ty86 :
    (szT Tryd.prog 86 = some 11) ∧
    (aggT Tryd.prog 86 = some true) ∧
    (undT Tryd.prog 86 = true) ∧
    (boolT Tryd.prog 86 = false) ∧
    (zeroT Tryd.prog 86 = some [.int .u64 0, .int .u64 0, .int .u32 0, .int .u8 0, .int .u8 0, .int .u8 0, .int .u8 0, .nilFunc, .pointer none, .int .i32 0, .int .i32 0]) ∧
    (plT Tryd.prog 86 = some [(0, 1), (1, 1), (2, 1), (3, 1), (4, 1), (5, 1), (6, 1), (7, 1), (8, 1), (9, 1), (10, 1)]) ∧
    (fldT Tryd.prog 86 0 = some (0, 1, false)) ∧
    (fldT Tryd.prog 86 1 = some (1, 1, false)) ∧
    (fldT Tryd.prog 86 2 = some (2, 1, false)) ∧
    (fldT Tryd.prog 86 3 = some (3, 1, false)) ∧
    (fldT Tryd.prog 86 4 = some (4, 1, false)) ∧
    (fldT Tryd.prog 86 5 = some (5, 1, false)) ∧
    (fldT Tryd.prog 86 6 = some (6, 1, false)) ∧
    (fldT Tryd.prog 86 7 = some (7, 1, false)) ∧
    (fldT Tryd.prog 86 8 = some (8, 1, false)) ∧
    (fldT Tryd.prog 86 9 = some (9, 1, false)) ∧
    (fldT Tryd.prog 86 10 = some (10, 1, false)) := by
  refine ⟨?_, ?_, ?_, ?_, ?_, ?_, ?_, ?_, ?_, ?_, ?_, ?_, ?_, ?_, ?_, ?_, ?_⟩ <;> kernel_rfl

attribute [go_sem] ty1 ty2 ty3 ty4 ty5 ty6 ty7 ty8 ty12 ty13 ty14 ty15 ty16 ty17 ty18 ty19 ty21 ty22 ty23 ty24 ty25 ty26 ty28 ty29 ty30 ty31 ty33 ty34 ty35 ty36 ty37 ty38 ty39 ty40 ty41 ty42 ty43 ty44 ty45 ty46 ty47 ty48 ty49 ty50 ty51 ty52 ty53 ty54 ty56 ty57 ty58 ty59 ty60 ty61 ty62 ty64 ty65 ty66 ty68 ty69 ty70 ty71 ty72 ty73 ty74 ty75 ty76 ty77 ty78 ty79 ty80 ty81 ty82 ty83 ty84 ty85 ty86
attribute [go_sem] St.free freeH evO ofV AV.cells pickAV evz bne_self_eq_false forall_const Nat.reduceBEq Nat.reduceBNe Nat.reduceAdd Nat.reduceLT Nat.reduceLeDiff Nat.reduceEqDiff Int.reduceLE Int.reduceLT Int.reduceToNat Nat.reduceMul Nat.reduceSub Nat.reduceDiv Nat.reduceMod reduceCtorEq
attribute [go_sem ↓] reduceIte

theorem agz : type_of% (And.intro @List.mem_cons (And.intro @List.not_mem_nil (And.intro @forall_eq_or_imp (And.intro @forall_eq @List.append_toArray)))) := And.intro @List.mem_cons (And.intro @List.not_mem_nil (And.intro @forall_eq_or_imp (And.intro @forall_eq @List.append_toArray)))

end Go.Proofs.YtagkcmoloceheaaDoor
