/-
  What the program says of its types.
-/
import Derived.Test.YtgdjkkapgghdbaaGreatDoorAvO
import Derived.Test.YtgdjkkapgghdbaaGreatDoorProg
import Derived.KernelRfl
set_option linter.unusedSimpArgs false
set_option linter.unusedVariables false
namespace Go.Proofs.YtgdjkkapgghdbaaGreatDoor
theorem ty3 :
 (szT Tryz.prog 3=some 1) ∧
 (aggT Tryz.prog 3=some false) ∧
 (undT Tryz.prog 3=true) ∧
 (Q2s Tryz.prog 3=false) ∧
 (intT Tryz.prog 3=some .i64) ∧
 (Q2c Tryz.prog 3=some [.int .i64 0]):=by
 refine⟨?_,?_,?_,?_,?_,?_⟩<;>kernel_rfl
theorem ty4 :
 (szT Tryz.prog 4=some 1) ∧
 (aggT Tryz.prog 4=some false) ∧
 (undT Tryz.prog 4=true) ∧
 (Q2s Tryz.prog 4=true) ∧
 (Q2c Tryz.prog 4=some [.bool false]):=by
 refine⟨?_,?_,?_,?_,?_⟩<;>kernel_rfl
theorem ty5 :
 (szT Tryz.prog 5=some 1) ∧
 (aggT Tryz.prog 5=some false) ∧
 (undT Tryz.prog 5=true) ∧
 (Q2s Tryz.prog 5=false) ∧
 (intT Tryz.prog 5=some .u8) ∧
 (Q2c Tryz.prog 5=some [.int .u8 0]):=by
 refine⟨?_,?_,?_,?_,?_,?_⟩<;>kernel_rfl
theorem ty22 :
 (szT Tryz.prog 22=some 1) ∧
 (aggT Tryz.prog 22=some false) ∧
 (undT Tryz.prog 22=true) ∧
 (Q2s Tryz.prog 22=false) ∧
 (intT Tryz.prog 22=some .u64) ∧
 (Q2c Tryz.prog 22=some [.int .u64 0]):=by
 refine⟨?_,?_,?_,?_,?_,?_⟩<;>kernel_rfl
theorem ty23 :
 (szT Tryz.prog 23=some 1) ∧
 (aggT Tryz.prog 23=some false) ∧
 (undT Tryz.prog 23=true) ∧
 (Q2s Tryz.prog 23=false) ∧
 (intT Tryz.prog 23=some .u64) ∧
 (Q2c Tryz.prog 23=some [.int .u64 0]):=by
 refine⟨?_,?_,?_,?_,?_,?_⟩<;>kernel_rfl
theorem ty24 :
 (szT Tryz.prog 24=some 1) ∧
 (aggT Tryz.prog 24=some false) ∧
 (undT Tryz.prog 24=true) ∧
 (Q2s Tryz.prog 24=false) ∧
 (Q2c Tryz.prog 24=some [.slice none 0 0]) ∧
 (slcT Tryz.prog 24=some (54,4,48)) ∧
 (slcZ Tryz.prog 24=some (54,4,48)):=by
 refine⟨?_,?_,?_,?_,?_,?_,?_⟩<;>kernel_rfl
theorem ty25 :
 (szT Tryz.prog 25=some 1) ∧
 (aggT Tryz.prog 25=some false) ∧
 (undT Tryz.prog 25=true) ∧
 (Q2s Tryz.prog 25=false) ∧
 (Q2c Tryz.prog 25=some [.slice none 0 0]) ∧
 (slcT Tryz.prog 25=some (23,1,8)) ∧
 (slcZ Tryz.prog 25=some (23,1,8)):=by
 refine⟨?_,?_,?_,?_,?_,?_,?_⟩<;>kernel_rfl
theorem ty27 :
 (szT Tryz.prog 27=some 3) ∧
 (aggT Tryz.prog 27=some true) ∧
 (undT Tryz.prog 27=true) ∧
 (Q2s Tryz.prog 27=false) ∧
 (Q2c Tryz.prog 27=some [.int .u64 0,.slice none 0 0,.slice none 0 0]) ∧
 (plT Tryz.prog 27=some [(0,1),(1,1),(2,1)]) ∧
 (fldT Tryz.prog 27 0=some (0,1,false)) ∧
 (fldT Tryz.prog 27 1=some (1,1,false)) ∧
 (fldT Tryz.prog 27 2=some (2,1,false)):=by
 refine⟨?_,?_,?_,?_,?_,?_,?_,?_,?_⟩<;>kernel_rfl
theorem ty28 :
 (szT Tryz.prog 28=some 1) ∧
 (aggT Tryz.prog 28=some false) ∧
 (undT Tryz.prog 28=true) ∧
 (Q2s Tryz.prog 28=false) ∧
 (Q2c Tryz.prog 28=some [.slice none 0 0]) ∧
 (slcT Tryz.prog 28=some (37,5,40)) ∧
 (slcZ Tryz.prog 28=some (37,5,40)):=by
 refine⟨?_,?_,?_,?_,?_,?_,?_⟩<;>kernel_rfl
theorem ty29 :
 (szT Tryz.prog 29=some 1) ∧
 (aggT Tryz.prog 29=some false) ∧
 (undT Tryz.prog 29=true) ∧
 (Q2s Tryz.prog 29=false) ∧
 (Q2c Tryz.prog 29=some [.nilFunc]):=by
 refine⟨?_,?_,?_,?_,?_⟩<;>kernel_rfl
theorem ty35 :
 (szT Tryz.prog 35=some 4) ∧
 (aggT Tryz.prog 35=some true) ∧
 (undT Tryz.prog 35=true) ∧
 (Q2s Tryz.prog 35=false) ∧
 (Q2c Tryz.prog 35=some [.int .u64 0,.int .u64 0,.int .u64 0,.int .u64 0]) ∧
 (eqTy Tryz.prog 6 35=true) ∧
 (Tryz.prog.eqGuardType Tryz.prog.depth 35=false) ∧
 (arrT Tryz.prog 35=some (4,1,false)) ∧
 (plT Tryz.prog 35=some [(0,1),(1,1),(2,1),(3,1)]):=by
 refine⟨?_,?_,?_,?_,?_,?_,?_,?_,?_⟩<;>kernel_rfl
theorem ty37 :
 (szT Tryz.prog 37=some 5) ∧
 (aggT Tryz.prog 37=some true) ∧
 (undT Tryz.prog 37=true) ∧
 (Q2s Tryz.prog 37=false) ∧
 (Q2c Tryz.prog 37=some [.int .u64 0,.int .u64 0,.int .u64 0,.int .u64 0,.int .u64 0]) ∧
 (eqTy Tryz.prog 6 37=true) ∧
 (Tryz.prog.eqGuardType Tryz.prog.depth 37=false) ∧
 (plT Tryz.prog 37=some [(0,1),(1,4)]) ∧
 (fldT Tryz.prog 37 0=some (0,1,false)) ∧
 (fldT Tryz.prog 37 1=some (1,4,true)):=by
 refine⟨?_,?_,?_,?_,?_,?_,?_,?_,?_,?_⟩<;>kernel_rfl
theorem ty42 :
 (szT Tryz.prog 42=some 1) ∧
 (aggT Tryz.prog 42=some false) ∧
 (undT Tryz.prog 42=true) ∧
 (Q2s Tryz.prog 42=false) ∧
 (intT Tryz.prog 42=some .i64) ∧
 (Q2c Tryz.prog 42=some [.int .i64 0]):=by
 refine⟨?_,?_,?_,?_,?_,?_⟩<;>kernel_rfl
theorem ty47 :
 (szT Tryz.prog 47=some 1) ∧
 (aggT Tryz.prog 47=some false) ∧
 (undT Tryz.prog 47=true) ∧
 (Q2s Tryz.prog 47=false) ∧
 (Q2c Tryz.prog 47=some [.slice none 0 0]) ∧
 (slcT Tryz.prog 47=some (60,3,24)) ∧
 (slcZ Tryz.prog 47=some (60,3,24)):=by
 refine⟨?_,?_,?_,?_,?_,?_,?_⟩<;>kernel_rfl
theorem ty52 :
 (szT Tryz.prog 52=some 1) ∧
 (aggT Tryz.prog 52=some false) ∧
 (undT Tryz.prog 52=true) ∧
 (Q2s Tryz.prog 52=false) ∧
 (Q2c Tryz.prog 52=some [.slice none 0 0]) ∧
 (slcT Tryz.prog 52=some (58,14,128)) ∧
 (slcZ Tryz.prog 52=some (58,14,128)):=by
 refine⟨?_,?_,?_,?_,?_,?_,?_⟩<;>kernel_rfl
theorem ty54 :
 (szT Tryz.prog 54=some 4) ∧
 (aggT Tryz.prog 54=some true) ∧
 (undT Tryz.prog 54=true) ∧
 (Q2s Tryz.prog 54=false) ∧
 (Q2c Tryz.prog 54=some [.int .i64 0,.int .u64 0,.bool false,.slice none 0 0]) ∧
 (plT Tryz.prog 54=some [(0,1),(1,1),(2,1),(3,1)]) ∧
 (fldT Tryz.prog 54 0=some (0,1,false)) ∧
 (fldT Tryz.prog 54 1=some (1,1,false)) ∧
 (fldT Tryz.prog 54 2=some (2,1,false)) ∧
 (fldT Tryz.prog 54 3=some (3,1,false)):=by
 refine⟨?_,?_,?_,?_,?_,?_,?_,?_,?_,?_⟩<;>kernel_rfl
theorem ty55 :
 (szT Tryz.prog 55=some 1) ∧
 (aggT Tryz.prog 55=some false) ∧
 (undT Tryz.prog 55=true) ∧
 (Q2s Tryz.prog 55=false) ∧
 (intT Tryz.prog 55=some .u64) ∧
 (Q2c Tryz.prog 55=some [.int .u64 0]):=by
 refine⟨?_,?_,?_,?_,?_,?_⟩<;>kernel_rfl
theorem ty56 :
 (szT Tryz.prog 56=some 1) ∧
 (aggT Tryz.prog 56=some false) ∧
 (undT Tryz.prog 56=true) ∧
 (Q2s Tryz.prog 56=false) ∧
 (Q2c Tryz.prog 56=some [.slice none 0 0]) ∧
 (slcT Tryz.prog 56=some (5,1,1)) ∧
 (slcZ Tryz.prog 56=some (5,1,1)):=by
 refine⟨?_,?_,?_,?_,?_,?_,?_⟩<;>kernel_rfl
theorem ty58 :
 (szT Tryz.prog 58=some 14) ∧
 (aggT Tryz.prog 58=some true) ∧
 (undT Tryz.prog 58=true) ∧
 (Q2s Tryz.prog 58=false) ∧
 (Q2c Tryz.prog 58=some [.int .i64 0,.int .i64 0,.int .u64 0,.int .u64 0,.int .u8 0,.int .u64 0,.int .u64 0,.int .u64 0,.int .u64 0,.int .u64 0,.int .u64 0,.int .u64 0,.int .u64 0,.slice none 0 0]) ∧
 (plT Tryz.prog 58=some [(0,1),(1,1),(2,1),(3,1),(4,1),(5,4),(9,4),(13,1)]) ∧
 (fldT Tryz.prog 58 0=some (0,1,false)) ∧
 (fldT Tryz.prog 58 1=some (1,1,false)) ∧
 (fldT Tryz.prog 58 2=some (2,1,false)) ∧
 (fldT Tryz.prog 58 3=some (3,1,false)) ∧
 (fldT Tryz.prog 58 4=some (4,1,false)) ∧
 (fldT Tryz.prog 58 5=some (5,4,true)) ∧
 (fldT Tryz.prog 58 6=some (9,4,true)) ∧
 (fldT Tryz.prog 58 7=some (13,1,false)):=by
 refine⟨?_,?_,?_,?_,?_,?_,?_,?_,?_,?_,?_,?_,?_,?_⟩<;>kernel_rfl
theorem ty60 :
 (szT Tryz.prog 60=some 3) ∧
 (aggT Tryz.prog 60=some true) ∧
 (undT Tryz.prog 60=true) ∧
 (Q2s Tryz.prog 60=false) ∧
 (Q2c Tryz.prog 60=some [.int .i64 0,.int .i64 0,.int .i64 0]) ∧
 (eqTy Tryz.prog 6 60=true) ∧
 (Tryz.prog.eqGuardType Tryz.prog.depth 60=false) ∧
 (plT Tryz.prog 60=some [(0,1),(1,1),(2,1)]) ∧
 (fldT Tryz.prog 60 0=some (0,1,false)) ∧
 (fldT Tryz.prog 60 1=some (1,1,false)) ∧
 (fldT Tryz.prog 60 2=some (2,1,false)):=by
 refine⟨?_,?_,?_,?_,?_,?_,?_,?_,?_,?_,?_⟩<;>kernel_rfl
theorem ty68 :
 (szT Tryz.prog 68=some 1) ∧
 (aggT Tryz.prog 68=some false) ∧
 (undT Tryz.prog 68=true) ∧
 (Q2s Tryz.prog 68=false) ∧
 (Q2c Tryz.prog 68=some [.slice none 0 0]) ∧
 (slcT Tryz.prog 68=some (70,2,16)) ∧
 (slcZ Tryz.prog 68=some (70,2,16)):=by
 refine⟨?_,?_,?_,?_,?_,?_,?_⟩<;>kernel_rfl
theorem ty70 :
 (szT Tryz.prog 70=some 2) ∧
 (aggT Tryz.prog 70=some true) ∧
 (undT Tryz.prog 70=true) ∧
 (Q2s Tryz.prog 70=false) ∧
 (Q2c Tryz.prog 70=some [.int .i64 0,.int .i64 0]) ∧
 (eqTy Tryz.prog 6 70=true) ∧
 (Tryz.prog.eqGuardType Tryz.prog.depth 70=false) ∧
 (arrT Tryz.prog 70=some (2,1,false)) ∧
 (plT Tryz.prog 70=some [(0,1),(1,1)]):=by
 refine⟨?_,?_,?_,?_,?_,?_,?_,?_,?_⟩<;>kernel_rfl
theorem ty81 :
 (szT Tryz.prog 81=some 1) ∧
 (aggT Tryz.prog 81=some false) ∧
 (undT Tryz.prog 81=true) ∧
 (Q2s Tryz.prog 81=false) ∧
 (Q2c Tryz.prog 81=some [.pointer none]):=by
 refine⟨?_,?_,?_,?_,?_⟩<;>kernel_rfl
theorem ty84 :
 (szT Tryz.prog 84=some 5) ∧
 (aggT Tryz.prog 84=some true) ∧
 (undT Tryz.prog 84=true) ∧
 (Q2s Tryz.prog 84=false) ∧
 (Q2c Tryz.prog 84=some [.int .u64 0,.slice none 0 0,.slice none 0 0,.bool false,.bool false]) ∧
 (plT Tryz.prog 84=some [(0,3),(3,1),(4,1)]) ∧
 (fldT Tryz.prog 84 0=some (0,3,true)) ∧
 (fldT Tryz.prog 84 1=some (3,1,false)) ∧
 (fldT Tryz.prog 84 2=some (4,1,false)):=by
 refine⟨?_,?_,?_,?_,?_,?_,?_,?_,?_⟩<;>kernel_rfl
theorem ty119 :
 (szT Tryz.prog 119=some 1) ∧
 (aggT Tryz.prog 119=some false) ∧
 (undT Tryz.prog 119=true) ∧
 (Q2s Tryz.prog 119=false) ∧
 (Q2c Tryz.prog 119=some [.slice none 0 0]) ∧
 (slcT Tryz.prog 119=some (35,4,32)) ∧
 (slcZ Tryz.prog 119=some (35,4,32)):=by
 refine⟨?_,?_,?_,?_,?_,?_,?_⟩<;>kernel_rfl
theorem ty128 :
 (szT Tryz.prog 128=some 1) ∧
 (aggT Tryz.prog 128=some false) ∧
 (undT Tryz.prog 128=true) ∧
 (Q2s Tryz.prog 128=false) ∧
 (Q2c Tryz.prog 128=some [.slice none 0 0]) ∧
 (slcT Tryz.prog 128=some (3,1,8)) ∧
 (slcZ Tryz.prog 128=some (3,1,8)):=by
 refine⟨?_,?_,?_,?_,?_,?_,?_⟩<;>kernel_rfl
theorem ty138 :
 (szT Tryz.prog 138=some 1) ∧
 (aggT Tryz.prog 138=some false) ∧
 (undT Tryz.prog 138=true) ∧
 (Q2s Tryz.prog 138=false) ∧
 (Q2c Tryz.prog 138=some [.nilFunc]):=by
 refine⟨?_,?_,?_,?_,?_⟩<;>kernel_rfl
theorem ty141 :
 (szT Tryz.prog 141=some 8) ∧
 (aggT Tryz.prog 141=some true) ∧
 (undT Tryz.prog 141=true) ∧
 (Q2s Tryz.prog 141=false) ∧
 (Q2c Tryz.prog 141=some [.nilFunc,.nilFunc,.nilFunc,.nilFunc,.nilFunc,.nilFunc,.nilFunc,.nilFunc]) ∧
 (arrT Tryz.prog 141=some (8,1,false)) ∧
 (plT Tryz.prog 141=some [(0,1),(1,1),(2,1),(3,1),(4,1),(5,1),(6,1),(7,1)]):=by
 refine⟨?_,?_,?_,?_,?_,?_,?_⟩<;>kernel_rfl
theorem ty152 :
 (szT Tryz.prog 152=some 1) ∧
 (aggT Tryz.prog 152=some false) ∧
 (undT Tryz.prog 152=true) ∧
 (Q2s Tryz.prog 152=false) ∧
 (intT Tryz.prog 152=some .i64) ∧
 (Q2c Tryz.prog 152=some [.int .i64 0]):=by
 refine⟨?_,?_,?_,?_,?_,?_⟩<;>kernel_rfl
theorem ty160 :
 (szT Tryz.prog 160=some 1) ∧
 (aggT Tryz.prog 160=some false) ∧
 (undT Tryz.prog 160=true) ∧
 (Q2s Tryz.prog 160=false) ∧
 (intT Tryz.prog 160=some .u32) ∧
 (Q2c Tryz.prog 160=some [.int .u32 0]):=by
 refine⟨?_,?_,?_,?_,?_,?_⟩<;>kernel_rfl
theorem ty166 :
 (szT Tryz.prog 166=some 14) ∧
 (aggT Tryz.prog 166=some true) ∧
 (undT Tryz.prog 166=true) ∧
 (Q2s Tryz.prog 166=false) ∧
 (Q2c Tryz.prog 166=some [.int .i64 0,.int .i64 0,.int .u64 0,.int .u64 0,.int .u8 0,.int .u64 0,.int .u64 0,.int .u64 0,.int .u64 0,.int .u64 0,.int .u64 0,.int .u64 0,.int .u64 0,.slice none 0 0]) ∧
 (plT Tryz.prog 166=some [(0,14)]) ∧
 (fldT Tryz.prog 166 0=some (0,14,true)):=by
 refine⟨?_,?_,?_,?_,?_,?_,?_⟩<;>kernel_rfl
theorem ty167 :
 (szT Tryz.prog 167=some 1) ∧
 (aggT Tryz.prog 167=some false) ∧
 (undT Tryz.prog 167=true) ∧
 (Q2s Tryz.prog 167=false) ∧
 (Q2c Tryz.prog 167=some [.map none]):=by
 refine⟨?_,?_,?_,?_,?_⟩<;>kernel_rfl
theorem ty175 :
 (szT Tryz.prog 175=some 32) ∧
 (aggT Tryz.prog 175=some true) ∧
 (undT Tryz.prog 175=true) ∧
 (Q2s Tryz.prog 175=false) ∧
 (Q2c Tryz.prog 175=some [.int .u8 0,.int .u8 0,.int .u8 0,.int .u8 0,.int .u8 0,.int .u8 0,.int .u8 0,.int .u8 0,.int .u8 0,.int .u8 0,.int .u8 0,.int .u8 0,.int .u8 0,.int .u8 0,.int .u8 0,.int .u8 0,.int .u8 0,.int .u8 0,.int .u8 0,.int .u8 0,.int .u8 0,.int .u8 0,.int .u8 0,.int .u8 0,.int .u8 0,.int .u8 0,.int .u8 0,.int .u8 0,.int .u8 0,.int .u8 0,.int .u8 0,.int .u8 0]) ∧
 (eqTy Tryz.prog 6 175=true) ∧
 (Tryz.prog.eqGuardType Tryz.prog.depth 175=false) ∧
 (arrT Tryz.prog 175=some (32,1,false)) ∧
 (plT Tryz.prog 175=some [(0,1),(1,1),(2,1),(3,1),(4,1),(5,1),(6,1),(7,1),(8,1),(9,1),(10,1),(11,1),(12,1),(13,1),(14,1),(15,1),(16,1),(17,1),(18,1),(19,1),(20,1),(21,1),(22,1),(23,1),(24,1),(25,1),(26,1),(27,1),(28,1),(29,1),(30,1),(31,1)]):=by
 refine⟨?_,?_,?_,?_,?_,?_,?_,?_,?_⟩<;>kernel_rfl
theorem ty198 :
 (szT Tryz.prog 198=some 25) ∧
 (aggT Tryz.prog 198=some true) ∧
 (undT Tryz.prog 198=true) ∧
 (Q2s Tryz.prog 198=false) ∧
 (Q2c Tryz.prog 198=some [.int .u64 0,.int .u64 0,.int .u64 0,.int .u64 0,.int .u64 0,.int .u64 0,.int .u64 0,.int .u64 0,.int .u64 0,.int .u64 0,.int .u64 0,.int .u64 0,.int .u64 0,.int .u64 0,.int .u64 0,.int .u64 0,.int .u64 0,.int .u64 0,.int .u64 0,.int .u64 0,.int .u64 0,.int .u64 0,.int .u64 0,.int .u64 0,.int .u64 0]) ∧
 (eqTy Tryz.prog 6 198=true) ∧
 (Tryz.prog.eqGuardType Tryz.prog.depth 198=false) ∧
 (arrT Tryz.prog 198=some (25,1,false)) ∧
 (plT Tryz.prog 198=some [(0,1),(1,1),(2,1),(3,1),(4,1),(5,1),(6,1),(7,1),(8,1),(9,1),(10,1),(11,1),(12,1),(13,1),(14,1),(15,1),(16,1),(17,1),(18,1),(19,1),(20,1),(21,1),(22,1),(23,1),(24,1)]):=by
 refine⟨?_,?_,?_,?_,?_,?_,?_,?_,?_⟩<;>kernel_rfl
theorem ty218 :
 (szT Tryz.prog 218=some 24) ∧
 (aggT Tryz.prog 218=some true) ∧
 (undT Tryz.prog 218=true) ∧
 (Q2s Tryz.prog 218=false) ∧
 (Q2c Tryz.prog 218=some [.int .u64 0,.int .u64 0,.int .u64 0,.int .u64 0,.int .u64 0,.int .u64 0,.int .u64 0,.int .u64 0,.int .u64 0,.int .u64 0,.int .u64 0,.int .u64 0,.int .u64 0,.int .u64 0,.int .u64 0,.int .u64 0,.int .u64 0,.int .u64 0,.int .u64 0,.int .u64 0,.int .u64 0,.int .u64 0,.int .u64 0,.int .u64 0]) ∧
 (eqTy Tryz.prog 6 218=true) ∧
 (Tryz.prog.eqGuardType Tryz.prog.depth 218=false) ∧
 (arrT Tryz.prog 218=some (24,1,false)) ∧
 (plT Tryz.prog 218=some [(0,1),(1,1),(2,1),(3,1),(4,1),(5,1),(6,1),(7,1),(8,1),(9,1),(10,1),(11,1),(12,1),(13,1),(14,1),(15,1),(16,1),(17,1),(18,1),(19,1),(20,1),(21,1),(22,1),(23,1)]):=by
 refine⟨?_,?_,?_,?_,?_,?_,?_,?_,?_⟩<;>kernel_rfl
theorem ty220 :
 (szT Tryz.prog 220=some 5) ∧
 (aggT Tryz.prog 220=some true) ∧
 (undT Tryz.prog 220=true) ∧
 (Q2s Tryz.prog 220=false) ∧
 (Q2c Tryz.prog 220=some [.int .u64 0,.int .u64 0,.int .u64 0,.int .u64 0,.int .u64 0]) ∧
 (eqTy Tryz.prog 6 220=true) ∧
 (Tryz.prog.eqGuardType Tryz.prog.depth 220=false) ∧
 (arrT Tryz.prog 220=some (5,1,false)) ∧
 (plT Tryz.prog 220=some [(0,1),(1,1),(2,1),(3,1),(4,1)]):=by
 refine⟨?_,?_,?_,?_,?_,?_,?_,?_,?_⟩<;>kernel_rfl
theorem ty226 :
 (szT Tryz.prog 226=some 25) ∧
 (aggT Tryz.prog 226=some true) ∧
 (undT Tryz.prog 226=true) ∧
 (Q2s Tryz.prog 226=false) ∧
 (Q2c Tryz.prog 226=some [.int .i64 0,.int .i64 0,.int .i64 0,.int .i64 0,.int .i64 0,.int .i64 0,.int .i64 0,.int .i64 0,.int .i64 0,.int .i64 0,.int .i64 0,.int .i64 0,.int .i64 0,.int .i64 0,.int .i64 0,.int .i64 0,.int .i64 0,.int .i64 0,.int .i64 0,.int .i64 0,.int .i64 0,.int .i64 0,.int .i64 0,.int .i64 0,.int .i64 0]) ∧
 (eqTy Tryz.prog 6 226=true) ∧
 (Tryz.prog.eqGuardType Tryz.prog.depth 226=false) ∧
 (arrT Tryz.prog 226=some (25,1,false)) ∧
 (plT Tryz.prog 226=some [(0,1),(1,1),(2,1),(3,1),(4,1),(5,1),(6,1),(7,1),(8,1),(9,1),(10,1),(11,1),(12,1),(13,1),(14,1),(15,1),(16,1),(17,1),(18,1),(19,1),(20,1),(21,1),(22,1),(23,1),(24,1)]):=by
 refine⟨?_,?_,?_,?_,?_,?_,?_,?_,?_⟩<;>kernel_rfl
attribute [go_sem] ty3 ty4 ty5 ty22 ty23 ty24 ty25 ty27 ty28 ty29 ty35 ty37 ty42 ty47 ty52 ty54 ty55 ty56 ty58 ty60 ty68 ty70 ty81 ty84 ty119 ty128 ty138 ty141 ty152 ty160 ty166 ty167 ty175 ty198 ty218 ty220 ty226
attribute [go_sem] St.free Q1z evO ofV AV.cells Q6x evz bne_self_eq_false forall_const Nat.reduceBEq Nat.reduceBNe Nat.reduceAdd Nat.reduceLT Nat.reduceLeDiff Nat.reduceEqDiff Int.reduceLE Int.reduceLT Int.reduceToNat Nat.reduceMul Nat.reduceSub Nat.reduceDiv Nat.reduceMod reduceCtorEq
attribute [go_sem ↓] reduceIte
end Go.Proofs.YtgdjkkapgghdbaaGreatDoor
