/-
  What the program says of its types.
-/
import Derived.Test.YtiggambibcohcaaAvW
import Derived.Test.YtiggambibcohcaaProg
import Derived.KernelRfl
namespace Go.Proofs.Ytiggambibcohcaa

theorem ty3 :
    (szT Try.prog 3 = some 1) ∧
    (aggT Try.prog 3 = some false) ∧
    (undT Try.prog 3 = true) ∧
    (boolT Try.prog 3 = false) ∧
    (intT Try.prog 3 = some .i64) ∧
    (zeroT Try.prog 3 = some [.int .i64 0]) := by
  refine ⟨?_, ?_, ?_, ?_, ?_, ?_⟩ <;> kernel_rfl

theorem ty4 :
    (szT Try.prog 4 = some 1) ∧
    (aggT Try.prog 4 = some false) ∧
    (undT Try.prog 4 = true) ∧
    (boolT Try.prog 4 = true) ∧
    (zeroT Try.prog 4 = some [.bool false]) := by
  refine ⟨?_, ?_, ?_, ?_, ?_⟩ <;> kernel_rfl

theorem ty5 :
    (szT Try.prog 5 = some 1) ∧
    (aggT Try.prog 5 = some false) ∧
    (undT Try.prog 5 = true) ∧
    (boolT Try.prog 5 = false) ∧
    (intT Try.prog 5 = some .u8) ∧
    (zeroT Try.prog 5 = some [.int .u8 0]) := by
  refine ⟨?_, ?_, ?_, ?_, ?_, ?_⟩ <;> kernel_rfl

theorem ty22 :
    (szT Try.prog 22 = some 1) ∧
    (aggT Try.prog 22 = some false) ∧
    (undT Try.prog 22 = true) ∧
    (boolT Try.prog 22 = false) ∧
    (zeroT Try.prog 22 = some [.slice none 0 0]) ∧
    (slcT Try.prog 22 = some (31, 8, 96)) ∧
    (slcZ Try.prog 22 = some (31, 8, 96)) := by
  refine ⟨?_, ?_, ?_, ?_, ?_, ?_, ?_⟩ <;> kernel_rfl

theorem ty24 :
    (szT Try.prog 24 = some 1) ∧
    (aggT Try.prog 24 = some false) ∧
    (undT Try.prog 24 = true) ∧
    (boolT Try.prog 24 = false) ∧
    (intT Try.prog 24 = some .u64) ∧
    (zeroT Try.prog 24 = some [.int .u64 0]) := by
  refine ⟨?_, ?_, ?_, ?_, ?_, ?_⟩ <;> kernel_rfl

theorem ty25 :
    (szT Try.prog 25 = some 1) ∧
    (aggT Try.prog 25 = some false) ∧
    (undT Try.prog 25 = true) ∧
    (boolT Try.prog 25 = false) ∧
    (intT Try.prog 25 = some .u64) ∧
    (zeroT Try.prog 25 = some [.int .u64 0]) := by
  refine ⟨?_, ?_, ?_, ?_, ?_, ?_⟩ <;> kernel_rfl

theorem ty27 :
    (szT Try.prog 27 = some 4) ∧
    (aggT Try.prog 27 = some true) ∧
    (undT Try.prog 27 = true) ∧
    (boolT Try.prog 27 = false) ∧
    (zeroT Try.prog 27 = some [.int .u64 0, .int .u64 0, .int .u64 0, .int .u64 0]) ∧
    (eqTy Try.prog 6 27 = true) ∧
    (Try.prog.eqGuardType Try.prog.depth 27 = false) ∧
    (arrT Try.prog 27 = some (4, 1, false)) ∧
    (plT Try.prog 27 = some [(0, 1), (1, 1), (2, 1), (3, 1)]) := by
  refine ⟨?_, ?_, ?_, ?_, ?_, ?_, ?_, ?_, ?_⟩ <;> kernel_rfl

theorem ty28 :
    (szT Try.prog 28 = some 1) ∧
    (aggT Try.prog 28 = some false) ∧
    (undT Try.prog 28 = true) ∧
    (boolT Try.prog 28 = false) ∧
    (zeroT Try.prog 28 = some [.slice none 0 0]) ∧
    (slcT Try.prog 28 = some (5, 1, 1)) ∧
    (slcZ Try.prog 28 = some (5, 1, 1)) := by
  refine ⟨?_, ?_, ?_, ?_, ?_, ?_, ?_⟩ <;> kernel_rfl

theorem ty29 :
    (szT Try.prog 29 = some 1) ∧
    (aggT Try.prog 29 = some false) ∧
    (undT Try.prog 29 = true) ∧
    (boolT Try.prog 29 = false) ∧
    (zeroT Try.prog 29 = some [.slice none 0 0]) ∧
    (slcT Try.prog 29 = some (42, 8, 64)) ∧
    (slcZ Try.prog 29 = some (42, 8, 64)) := by
  refine ⟨?_, ?_, ?_, ?_, ?_, ?_, ?_⟩ <;> kernel_rfl

theorem ty31 :
    (szT Try.prog 31 = some 8) ∧
    (aggT Try.prog 31 = some true) ∧
    (undT Try.prog 31 = true) ∧
    (boolT Try.prog 31 = false) ∧
    (zeroT Try.prog 31 = some [.int .u64 0, .int .u64 0, .int .u64 0, .int .u64 0, .int .u64 0, .int .u64 0, .slice none 0 0, .slice none 0 0]) ∧
    (plT Try.prog 31 = some [(0, 1), (1, 4), (5, 1), (6, 1), (7, 1)]) ∧
    (fldT Try.prog 31 0 = some (0, 1, false)) ∧
    (fldT Try.prog 31 1 = some (1, 4, true)) ∧
    (fldT Try.prog 31 2 = some (5, 1, false)) ∧
    (fldT Try.prog 31 3 = some (6, 1, false)) ∧
    (fldT Try.prog 31 4 = some (7, 1, false)) := by
  refine ⟨?_, ?_, ?_, ?_, ?_, ?_, ?_, ?_, ?_, ?_, ?_⟩ <;> kernel_rfl

theorem ty34 :
    (szT Try.prog 34 = some 1) ∧
    (aggT Try.prog 34 = some false) ∧
    (undT Try.prog 34 = true) ∧
    (boolT Try.prog 34 = false) ∧
    (intT Try.prog 34 = some .i64) ∧
    (zeroT Try.prog 34 = some [.int .i64 0]) := by
  refine ⟨?_, ?_, ?_, ?_, ?_, ?_⟩ <;> kernel_rfl

theorem ty38 :
    (szT Try.prog 38 = some 1) ∧
    (aggT Try.prog 38 = some true) ∧
    (undT Try.prog 38 = true) ∧
    (boolT Try.prog 38 = false) ∧
    (zeroT Try.prog 38 = some [.slice none 0 0]) ∧
    (plT Try.prog 38 = some [(0, 1)]) ∧
    (fldT Try.prog 38 0 = some (0, 1, false)) := by
  refine ⟨?_, ?_, ?_, ?_, ?_, ?_, ?_⟩ <;> kernel_rfl

theorem ty39 :
    (szT Try.prog 39 = some 1) ∧
    (aggT Try.prog 39 = some false) ∧
    (undT Try.prog 39 = true) ∧
    (boolT Try.prog 39 = false) ∧
    (zeroT Try.prog 39 = some [.slice none 0 0]) ∧
    (slcT Try.prog 39 = some (44, 23, 216)) ∧
    (slcZ Try.prog 39 = some (44, 23, 216)) := by
  refine ⟨?_, ?_, ?_, ?_, ?_, ?_, ?_⟩ <;> kernel_rfl

theorem ty42 :
    (szT Try.prog 42 = some 8) ∧
    (aggT Try.prog 42 = some true) ∧
    (undT Try.prog 42 = true) ∧
    (boolT Try.prog 42 = false) ∧
    (zeroT Try.prog 42 = some [.int .u64 0, .int .u64 0, .int .u64 0, .int .u64 0, .int .u64 0, .int .u64 0, .int .u64 0, .int .u64 0]) ∧
    (eqTy Try.prog 6 42 = true) ∧
    (Try.prog.eqGuardType Try.prog.depth 42 = false) ∧
    (plT Try.prog 42 = some [(0, 4), (4, 4)]) ∧
    (fldT Try.prog 42 0 = some (0, 4, true)) ∧
    (fldT Try.prog 42 1 = some (4, 4, true)) := by
  refine ⟨?_, ?_, ?_, ?_, ?_, ?_, ?_, ?_, ?_, ?_⟩ <;> kernel_rfl

theorem ty44 :
    (szT Try.prog 44 = some 23) ∧
    (aggT Try.prog 44 = some true) ∧
    (undT Try.prog 44 = true) ∧
    (boolT Try.prog 44 = false) ∧
    (zeroT Try.prog 44 = some [.int .i64 0, .int .u64 0, .int .u64 0, .int .u64 0, .int .u64 0, .int .u64 0, .int .u64 0, .int .u64 0, .int .u64 0, .int .u64 0, .int .u64 0, .int .u64 0, .int .u64 0, .int .u64 0, .int .u64 0, .int .u64 0, .int .u64 0, .int .u64 0, .int .u64 0, .int .u64 0, .int .u64 0, .slice none 0 0, .slice none 0 0]) ∧
    (plT Try.prog 44 = some [(0, 1), (1, 1), (2, 1), (3, 4), (7, 8), (15, 8)]) ∧
    (fldT Try.prog 44 0 = some (0, 1, false)) ∧
    (fldT Try.prog 44 1 = some (1, 1, false)) ∧
    (fldT Try.prog 44 2 = some (2, 1, false)) ∧
    (fldT Try.prog 44 3 = some (3, 4, true)) ∧
    (fldT Try.prog 44 4 = some (7, 8, true)) ∧
    (fldT Try.prog 44 5 = some (15, 8, true)) := by
  refine ⟨?_, ?_, ?_, ?_, ?_, ?_, ?_, ?_, ?_, ?_, ?_, ?_⟩ <;> kernel_rfl

theorem ty50 :
    (szT Try.prog 50 = some 1) ∧
    (aggT Try.prog 50 = some false) ∧
    (undT Try.prog 50 = true) ∧
    (boolT Try.prog 50 = false) ∧
    (intT Try.prog 50 = some .u64) ∧
    (zeroT Try.prog 50 = some [.int .u64 0]) := by
  refine ⟨?_, ?_, ?_, ?_, ?_, ?_⟩ <;> kernel_rfl

theorem ty51 :
    (szT Try.prog 51 = some 1) ∧
    (aggT Try.prog 51 = some false) ∧
    (undT Try.prog 51 = true) ∧
    (boolT Try.prog 51 = false) ∧
    (zeroT Try.prog 51 = some [.map none]) := by
  refine ⟨?_, ?_, ?_, ?_, ?_⟩ <;> kernel_rfl

theorem ty52 :
    (szT Try.prog 52 = some 2) ∧
    (aggT Try.prog 52 = some true) ∧
    (undT Try.prog 52 = true) ∧
    (boolT Try.prog 52 = false) ∧
    (zeroT Try.prog 52 = some [.slice none 0 0, .slice none 0 0]) ∧
    (arrT Try.prog 52 = some (2, 1, true)) ∧
    (plT Try.prog 52 = some [(0, 1), (1, 1)]) := by
  refine ⟨?_, ?_, ?_, ?_, ?_, ?_, ?_⟩ <;> kernel_rfl

theorem ty62 :
    (szT Try.prog 62 = some 1) ∧
    (aggT Try.prog 62 = some false) ∧
    (undT Try.prog 62 = true) ∧
    (boolT Try.prog 62 = false) ∧
    (zeroT Try.prog 62 = some [.slice none 0 0]) ∧
    (slcT Try.prog 62 = some (27, 4, 32)) ∧
    (slcZ Try.prog 62 = some (27, 4, 32)) := by
  refine ⟨?_, ?_, ?_, ?_, ?_, ?_, ?_⟩ <;> kernel_rfl

theorem ty105 :
    (szT Try.prog 105 = some 1) ∧
    (aggT Try.prog 105 = some false) ∧
    (undT Try.prog 105 = true) ∧
    (boolT Try.prog 105 = false) ∧
    (zeroT Try.prog 105 = some [.slice none 0 0]) ∧
    (slcT Try.prog 105 = some (3, 1, 8)) ∧
    (slcZ Try.prog 105 = some (3, 1, 8)) := by
  refine ⟨?_, ?_, ?_, ?_, ?_, ?_, ?_⟩ <;> kernel_rfl

attribute [go_sem] ty3 ty4 ty5 ty22 ty24 ty25 ty27 ty28 ty29 ty31 ty34 ty38 ty39 ty42 ty44 ty50 ty51 ty52 ty62 ty105
attribute [go_sem] St.free freeH evO ofV AV.cells pickAV evz bne_self_eq_false forall_const Nat.reduceBEq Nat.reduceBNe Nat.reduceAdd Nat.reduceLT Nat.reduceLeDiff Nat.reduceEqDiff Int.reduceLE Int.reduceLT Int.reduceToNat Nat.reduceMul Nat.reduceSub Nat.reduceDiv Nat.reduceMod reduceCtorEq
attribute [go_sem ↓] reduceIte

end Go.Proofs.Ytiggambibcohcaa

