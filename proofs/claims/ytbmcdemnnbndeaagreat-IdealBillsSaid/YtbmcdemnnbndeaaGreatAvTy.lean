/-
  What the program says of its types.
-/
import Derived.Test.YtbmcdemnnbndeaaGreatAvW
import Derived.Test.YtbmcdemnnbndeaaGreatProg
import Derived.KernelRfl
set_option linter.unusedSimpArgs false
set_option linter.unusedVariables false
namespace Go.Proofs.YtbmcdemnnbndeaaGreat
theorem ty3 :
 (szT Tryz.prog 3=some 1) ∧
 (aggT Tryz.prog 3=some false) ∧
 (undT Tryz.prog 3=true) ∧
 (Q2r Tryz.prog 3=false) ∧
 (intT Tryz.prog 3=some .i64) ∧
 (Q2f Tryz.prog 3=some [.int .i64 0]):=by
 refine⟨?_,?_,?_,?_,?_,?_⟩<;>kernel_rfl
theorem ty4 :
 (szT Tryz.prog 4=some 1) ∧
 (aggT Tryz.prog 4=some false) ∧
 (undT Tryz.prog 4=true) ∧
 (Q2r Tryz.prog 4=true) ∧
 (Q2f Tryz.prog 4=some [.bool false]):=by
 refine⟨?_,?_,?_,?_,?_⟩<;>kernel_rfl
theorem ty5 :
 (szT Tryz.prog 5=some 1) ∧
 (aggT Tryz.prog 5=some false) ∧
 (undT Tryz.prog 5=true) ∧
 (Q2r Tryz.prog 5=false) ∧
 (intT Tryz.prog 5=some .u8) ∧
 (Q2f Tryz.prog 5=some [.int .u8 0]):=by
 refine⟨?_,?_,?_,?_,?_,?_⟩<;>kernel_rfl
theorem ty22 :
 (szT Tryz.prog 22=some 1) ∧
 (aggT Tryz.prog 22=some false) ∧
 (undT Tryz.prog 22=true) ∧
 (Q2r Tryz.prog 22=false) ∧
 (Q2f Tryz.prog 22=some [.slice none 0 0]) ∧
 (slcT Tryz.prog 22=some (59,12,88)) ∧
 (slcZ Tryz.prog 22=some (59,12,88)):=by
 refine⟨?_,?_,?_,?_,?_,?_,?_⟩<;>kernel_rfl
theorem ty23 :
 (szT Tryz.prog 23=some 1) ∧
 (aggT Tryz.prog 23=some false) ∧
 (undT Tryz.prog 23=true) ∧
 (Q2r Tryz.prog 23=false) ∧
 (Q2f Tryz.prog 23=some [.nilFunc]):=by
 refine⟨?_,?_,?_,?_,?_⟩<;>kernel_rfl
theorem ty25 :
 (szT Tryz.prog 25=some 1) ∧
 (aggT Tryz.prog 25=some false) ∧
 (undT Tryz.prog 25=true) ∧
 (Q2r Tryz.prog 25=false) ∧
 (intT Tryz.prog 25=some .u64) ∧
 (Q2f Tryz.prog 25=some [.int .u64 0]):=by
 refine⟨?_,?_,?_,?_,?_,?_⟩<;>kernel_rfl
theorem ty27 :
 (szT Tryz.prog 27=some 4) ∧
 (aggT Tryz.prog 27=some true) ∧
 (undT Tryz.prog 27=true) ∧
 (Q2r Tryz.prog 27=false) ∧
 (Q2f Tryz.prog 27=some [.int .u64 0,.int .u64 0,.int .u64 0,.int .u64 0]) ∧
 (eqTy Tryz.prog 6 27=true) ∧
 (Tryz.prog.eqGuardType Tryz.prog.depth 27=false) ∧
 (arrT Tryz.prog 27=some (4,1,false)) ∧
 (plT Tryz.prog 27=some [(0,1),(1,1),(2,1),(3,1)]):=by
 refine⟨?_,?_,?_,?_,?_,?_,?_,?_,?_⟩<;>kernel_rfl
theorem ty31 :
 (szT Tryz.prog 31=some 5) ∧
 (aggT Tryz.prog 31=some true) ∧
 (undT Tryz.prog 31=true) ∧
 (Q2r Tryz.prog 31=false) ∧
 (Q2f Tryz.prog 31=some [.int .u64 0,.int .u64 0,.int .u64 0,.int .u64 0,.int .i64 0]) ∧
 (eqTy Tryz.prog 6 31=true) ∧
 (Tryz.prog.eqGuardType Tryz.prog.depth 31=false) ∧
 (plT Tryz.prog 31=some [(0,4),(4,1)]) ∧
 (fldT Tryz.prog 31 0=some (0,4,true)) ∧
 (fldT Tryz.prog 31 1=some (4,1,false)):=by
 refine⟨?_,?_,?_,?_,?_,?_,?_,?_,?_,?_⟩<;>kernel_rfl
theorem ty34 :
 (szT Tryz.prog 34=some 1) ∧
 (aggT Tryz.prog 34=some false) ∧
 (undT Tryz.prog 34=true) ∧
 (Q2r Tryz.prog 34=false) ∧
 (Q2f Tryz.prog 34=some [.slice none 0 0]) ∧
 (slcT Tryz.prog 34=some (37,6,48)) ∧
 (slcZ Tryz.prog 34=some (37,6,48)):=by
 refine⟨?_,?_,?_,?_,?_,?_,?_⟩<;>kernel_rfl
theorem ty35 :
 (szT Tryz.prog 35=some 1) ∧
 (aggT Tryz.prog 35=some false) ∧
 (undT Tryz.prog 35=true) ∧
 (Q2r Tryz.prog 35=false) ∧
 (intT Tryz.prog 35=some .u64) ∧
 (Q2f Tryz.prog 35=some [.int .u64 0]):=by
 refine⟨?_,?_,?_,?_,?_,?_⟩<;>kernel_rfl
theorem ty37 :
 (szT Tryz.prog 37=some 6) ∧
 (aggT Tryz.prog 37=some true) ∧
 (undT Tryz.prog 37=true) ∧
 (Q2r Tryz.prog 37=false) ∧
 (Q2f Tryz.prog 37=some [.int .u64 0,.int .i64 0,.int .u64 0,.int .u64 0,.int .u64 0,.int .u64 0]) ∧
 (eqTy Tryz.prog 6 37=true) ∧
 (Tryz.prog.eqGuardType Tryz.prog.depth 37=false) ∧
 (plT Tryz.prog 37=some [(0,1),(1,1),(2,4)]) ∧
 (fldT Tryz.prog 37 0=some (0,1,false)) ∧
 (fldT Tryz.prog 37 1=some (1,1,false)) ∧
 (fldT Tryz.prog 37 2=some (2,4,true)):=by
 refine⟨?_,?_,?_,?_,?_,?_,?_,?_,?_,?_,?_⟩<;>kernel_rfl
theorem ty41 :
 (szT Tryz.prog 41=some 1) ∧
 (aggT Tryz.prog 41=some false) ∧
 (undT Tryz.prog 41=true) ∧
 (Q2r Tryz.prog 41=false) ∧
 (Q2f Tryz.prog 41=some [.slice none 0 0]) ∧
 (slcT Tryz.prog 41=some (76,8,96)) ∧
 (slcZ Tryz.prog 41=some (76,8,96)):=by
 refine⟨?_,?_,?_,?_,?_,?_,?_⟩<;>kernel_rfl
theorem ty43 :
 (szT Tryz.prog 43=some 1) ∧
 (aggT Tryz.prog 43=some true) ∧
 (undT Tryz.prog 43=true) ∧
 (Q2r Tryz.prog 43=false) ∧
 (Q2f Tryz.prog 43=some [.slice none 0 0]) ∧
 (plT Tryz.prog 43=some [(0,1)]) ∧
 (fldT Tryz.prog 43 0=some (0,1,false)):=by
 refine⟨?_,?_,?_,?_,?_,?_,?_⟩<;>kernel_rfl
theorem ty44 :
 (szT Tryz.prog 44=some 1) ∧
 (aggT Tryz.prog 44=some false) ∧
 (undT Tryz.prog 44=true) ∧
 (Q2r Tryz.prog 44=false) ∧
 (Q2f Tryz.prog 44=some [.slice none 0 0]) ∧
 (slcT Tryz.prog 44=some (78,11,88)) ∧
 (slcZ Tryz.prog 44=some (78,11,88)):=by
 refine⟨?_,?_,?_,?_,?_,?_,?_⟩<;>kernel_rfl
theorem ty46 :
 (szT Tryz.prog 46=some 1) ∧
 (aggT Tryz.prog 46=some true) ∧
 (undT Tryz.prog 46=true) ∧
 (Q2r Tryz.prog 46=false) ∧
 (Q2f Tryz.prog 46=some [.slice none 0 0]) ∧
 (plT Tryz.prog 46=some [(0,1)]) ∧
 (fldT Tryz.prog 46 0=some (0,1,false)):=by
 refine⟨?_,?_,?_,?_,?_,?_,?_⟩<;>kernel_rfl
theorem ty47 :
 (szT Tryz.prog 47=some 1) ∧
 (aggT Tryz.prog 47=some false) ∧
 (undT Tryz.prog 47=true) ∧
 (Q2r Tryz.prog 47=false) ∧
 (Q2f Tryz.prog 47=some [.slice none 0 0]) ∧
 (slcT Tryz.prog 47=some (137,6,48)) ∧
 (slcZ Tryz.prog 47=some (137,6,48)):=by
 refine⟨?_,?_,?_,?_,?_,?_,?_⟩<;>kernel_rfl
theorem ty49 :
 (szT Tryz.prog 49=some 3) ∧
 (aggT Tryz.prog 49=some true) ∧
 (undT Tryz.prog 49=true) ∧
 (Q2r Tryz.prog 49=false) ∧
 (Q2f Tryz.prog 49=some [.slice none 0 0,.slice none 0 0,.slice none 0 0]) ∧
 (plT Tryz.prog 49=some [(0,1),(1,1),(2,1)]) ∧
 (fldT Tryz.prog 49 0=some (0,1,true)) ∧
 (fldT Tryz.prog 49 1=some (1,1,true)) ∧
 (fldT Tryz.prog 49 2=some (2,1,false)):=by
 refine⟨?_,?_,?_,?_,?_,?_,?_,?_,?_⟩<;>kernel_rfl
theorem ty51 :
 (szT Tryz.prog 51=some 1) ∧
 (aggT Tryz.prog 51=some false) ∧
 (undT Tryz.prog 51=true) ∧
 (Q2r Tryz.prog 51=false) ∧
 (intT Tryz.prog 51=some .i64) ∧
 (Q2f Tryz.prog 51=some [.int .i64 0]):=by
 refine⟨?_,?_,?_,?_,?_,?_⟩<;>kernel_rfl
theorem ty55 :
 (szT Tryz.prog 55=some 16) ∧
 (aggT Tryz.prog 55=some true) ∧
 (undT Tryz.prog 55=true) ∧
 (Q2r Tryz.prog 55=false) ∧
 (Q2f Tryz.prog 55=some [.slice none 0 0,.slice none 0 0,.slice none 0 0,.slice none 0 0,.slice none 0 0,.slice none 0 0,.slice none 0 0,.int .u64 0,.int .u64 0,.int .u64 0,.int .u64 0,.int .u64 0,.int .u64 0,.int .u64 0,.int .u64 0,.int .u64 0]) ∧
 (plT Tryz.prog 55=some [(0,3),(3,3),(6,1),(7,1),(8,4),(12,4)]) ∧
 (fldT Tryz.prog 55 0=some (0,3,true)) ∧
 (fldT Tryz.prog 55 1=some (3,3,true)) ∧
 (fldT Tryz.prog 55 2=some (6,1,false)) ∧
 (fldT Tryz.prog 55 3=some (7,1,false)) ∧
 (fldT Tryz.prog 55 4=some (8,4,true)) ∧
 (fldT Tryz.prog 55 5=some (12,4,true)):=by
 refine⟨?_,?_,?_,?_,?_,?_,?_,?_,?_,?_,?_,?_⟩<;>kernel_rfl
theorem ty59 :
 (szT Tryz.prog 59=some 12) ∧
 (aggT Tryz.prog 59=some true) ∧
 (undT Tryz.prog 59=true) ∧
 (Q2r Tryz.prog 59=false) ∧
 (Q2f Tryz.prog 59=some [.int .u64 0,.int .u64 0,.int .u64 0,.int .u64 0,.int .u64 0,.int .u64 0,.int .u64 0,.int .u64 0,.int .u64 0,.int .u64 0,.bool false,.bool false]) ∧
 (plT Tryz.prog 59=some [(0,1),(1,4),(5,4),(9,1),(10,1),(11,1)]) ∧
 (fldT Tryz.prog 59 0=some (0,1,false)) ∧
 (fldT Tryz.prog 59 1=some (1,4,true)) ∧
 (fldT Tryz.prog 59 2=some (5,4,true)) ∧
 (fldT Tryz.prog 59 3=some (9,1,false)) ∧
 (fldT Tryz.prog 59 4=some (10,1,false)) ∧
 (fldT Tryz.prog 59 5=some (11,1,false)):=by
 refine⟨?_,?_,?_,?_,?_,?_,?_,?_,?_,?_,?_,?_⟩<;>kernel_rfl
theorem ty61 :
 (szT Tryz.prog 61=some 1) ∧
 (aggT Tryz.prog 61=some false) ∧
 (undT Tryz.prog 61=true) ∧
 (Q2r Tryz.prog 61=false) ∧
 (Q2f Tryz.prog 61=some [.slice none 0 0]) ∧
 (slcT Tryz.prog 61=some (27,4,32)) ∧
 (slcZ Tryz.prog 61=some (27,4,32)):=by
 refine⟨?_,?_,?_,?_,?_,?_,?_⟩<;>kernel_rfl
theorem ty64 :
 (szT Tryz.prog 64=some 1) ∧
 (aggT Tryz.prog 64=some false) ∧
 (undT Tryz.prog 64=true) ∧
 (Q2r Tryz.prog 64=false) ∧
 (Q2f Tryz.prog 64=some [.map none]):=by
 refine⟨?_,?_,?_,?_,?_⟩<;>kernel_rfl
theorem ty66 :
 (szT Tryz.prog 66=some 1) ∧
 (aggT Tryz.prog 66=some false) ∧
 (undT Tryz.prog 66=true) ∧
 (Q2r Tryz.prog 66=false) ∧
 (Q2f Tryz.prog 66=some [.slice none 0 0]) ∧
 (slcT Tryz.prog 66=some (35,1,8)) ∧
 (slcZ Tryz.prog 66=some (35,1,8)):=by
 refine⟨?_,?_,?_,?_,?_,?_,?_⟩<;>kernel_rfl
theorem ty73 :
 (szT Tryz.prog 73=some 1) ∧
 (aggT Tryz.prog 73=some false) ∧
 (undT Tryz.prog 73=true) ∧
 (Q2r Tryz.prog 73=false) ∧
 (Q2f Tryz.prog 73=some [.slice none 0 0]) ∧
 (slcT Tryz.prog 73=some (5,1,1)) ∧
 (slcZ Tryz.prog 73=some (5,1,1)):=by
 refine⟨?_,?_,?_,?_,?_,?_,?_⟩<;>kernel_rfl
theorem ty74 :
 (szT Tryz.prog 74=some 1) ∧
 (aggT Tryz.prog 74=some false) ∧
 (undT Tryz.prog 74=true) ∧
 (Q2r Tryz.prog 74=false) ∧
 (Q2f Tryz.prog 74=some [.slice none 0 0]) ∧
 (slcT Tryz.prog 74=some (146,8,64)) ∧
 (slcZ Tryz.prog 74=some (146,8,64)):=by
 refine⟨?_,?_,?_,?_,?_,?_,?_⟩<;>kernel_rfl
theorem ty76 :
 (szT Tryz.prog 76=some 8) ∧
 (aggT Tryz.prog 76=some true) ∧
 (undT Tryz.prog 76=true) ∧
 (Q2r Tryz.prog 76=false) ∧
 (Q2f Tryz.prog 76=some [.int .u64 0,.int .u64 0,.int .u64 0,.int .u64 0,.int .u64 0,.int .u64 0,.slice none 0 0,.slice none 0 0]) ∧
 (plT Tryz.prog 76=some [(0,1),(1,4),(5,1),(6,1),(7,1)]) ∧
 (fldT Tryz.prog 76 0=some (0,1,false)) ∧
 (fldT Tryz.prog 76 1=some (1,4,true)) ∧
 (fldT Tryz.prog 76 2=some (5,1,false)) ∧
 (fldT Tryz.prog 76 3=some (6,1,false)) ∧
 (fldT Tryz.prog 76 4=some (7,1,false)):=by
 refine⟨?_,?_,?_,?_,?_,?_,?_,?_,?_,?_,?_⟩<;>kernel_rfl
theorem ty78 :
 (szT Tryz.prog 78=some 11) ∧
 (aggT Tryz.prog 78=some true) ∧
 (undT Tryz.prog 78=true) ∧
 (Q2r Tryz.prog 78=false) ∧
 (Q2f Tryz.prog 78=some [.int .u64 0,.int .u64 0,.int .u64 0,.int .u64 0,.int .u64 0,.int .u64 0,.int .u64 0,.int .u64 0,.int .u64 0,.int .u64 0,.int .u64 0]) ∧
 (eqTy Tryz.prog 6 78=true) ∧
 (Tryz.prog.eqGuardType Tryz.prog.depth 78=false) ∧
 (plT Tryz.prog 78=some [(0,1),(1,4),(5,4),(9,1),(10,1)]) ∧
 (fldT Tryz.prog 78 0=some (0,1,false)) ∧
 (fldT Tryz.prog 78 1=some (1,4,true)) ∧
 (fldT Tryz.prog 78 2=some (5,4,true)) ∧
 (fldT Tryz.prog 78 3=some (9,1,false)) ∧
 (fldT Tryz.prog 78 4=some (10,1,false)):=by
 refine⟨?_,?_,?_,?_,?_,?_,?_,?_,?_,?_,?_,?_,?_⟩<;>kernel_rfl
theorem ty81 :
 (szT Tryz.prog 81=some 5) ∧
 (aggT Tryz.prog 81=some true) ∧
 (undT Tryz.prog 81=true) ∧
 (Q2r Tryz.prog 81=false) ∧
 (Q2f Tryz.prog 81=some [.bool false,.int .u64 0,.int .u64 0,.int .u64 0,.int .u64 0]) ∧
 (plT Tryz.prog 81=some [(0,1),(1,4)]) ∧
 (fldT Tryz.prog 81 0=some (0,1,false)) ∧
 (fldT Tryz.prog 81 1=some (1,4,true)):=by
 refine⟨?_,?_,?_,?_,?_,?_,?_,?_⟩<;>kernel_rfl
theorem ty86 :
 (szT Tryz.prog 86=some 5) ∧
 (aggT Tryz.prog 86=some true) ∧
 (undT Tryz.prog 86=true) ∧
 (Q2r Tryz.prog 86=false) ∧
 (Q2f Tryz.prog 86=some [.nilFunc,.nilFunc,.nilFunc,.nilFunc,.nilFunc]) ∧
 (arrT Tryz.prog 86=some (5,1,false)) ∧
 (plT Tryz.prog 86=some [(0,1),(1,1),(2,1),(3,1),(4,1)]):=by
 refine⟨?_,?_,?_,?_,?_,?_,?_⟩<;>kernel_rfl
theorem ty93 :
 (szT Tryz.prog 93=some 1) ∧
 (aggT Tryz.prog 93=some false) ∧
 (undT Tryz.prog 93=true) ∧
 (Q2r Tryz.prog 93=false) ∧
 (Q2f Tryz.prog 93=some [.slice none 0 0]) ∧
 (slcT Tryz.prog 93=some (3,1,8)) ∧
 (slcZ Tryz.prog 93=some (3,1,8)):=by
 refine⟨?_,?_,?_,?_,?_,?_,?_⟩<;>kernel_rfl
theorem ty98 :
 (szT Tryz.prog 98=some 1) ∧
 (aggT Tryz.prog 98=some false) ∧
 (undT Tryz.prog 98=true) ∧
 (Q2r Tryz.prog 98=false) ∧
 (Q2f Tryz.prog 98=some [.slice none 0 0]) ∧
 (slcT Tryz.prog 98=some (49,3,72)) ∧
 (slcZ Tryz.prog 98=some (49,3,72)):=by
 refine⟨?_,?_,?_,?_,?_,?_,?_⟩<;>kernel_rfl
theorem ty111 :
 (szT Tryz.prog 111=some 1) ∧
 (aggT Tryz.prog 111=some false) ∧
 (undT Tryz.prog 111=true) ∧
 (Q2r Tryz.prog 111=false) ∧
 (intT Tryz.prog 111=some .u64) ∧
 (Q2f Tryz.prog 111=some [.int .u64 0]):=by
 refine⟨?_,?_,?_,?_,?_,?_⟩<;>kernel_rfl
theorem ty126 :
 (szT Tryz.prog 126=some 1) ∧
 (aggT Tryz.prog 126=some false) ∧
 (undT Tryz.prog 126=true) ∧
 (Q2r Tryz.prog 126=false) ∧
 (intT Tryz.prog 126=some .i64) ∧
 (Q2f Tryz.prog 126=some [.int .i64 0]):=by
 refine⟨?_,?_,?_,?_,?_,?_⟩<;>kernel_rfl
theorem ty134 :
 (szT Tryz.prog 134=some 1) ∧
 (aggT Tryz.prog 134=some false) ∧
 (undT Tryz.prog 134=true) ∧
 (Q2r Tryz.prog 134=false) ∧
 (intT Tryz.prog 134=some .u32) ∧
 (Q2f Tryz.prog 134=some [.int .u32 0]):=by
 refine⟨?_,?_,?_,?_,?_,?_⟩<;>kernel_rfl
theorem ty137 :
 (szT Tryz.prog 137=some 6) ∧
 (aggT Tryz.prog 137=some true) ∧
 (undT Tryz.prog 137=true) ∧
 (Q2r Tryz.prog 137=false) ∧
 (Q2f Tryz.prog 137=some [.int .u64 0,.int .u64 0,.int .u64 0,.int .u64 0,.int .u64 0,.int .u64 0]) ∧
 (eqTy Tryz.prog 6 137=true) ∧
 (Tryz.prog.eqGuardType Tryz.prog.depth 137=false) ∧
 (plT Tryz.prog 137=some [(0,1),(1,4),(5,1)]) ∧
 (fldT Tryz.prog 137 0=some (0,1,false)) ∧
 (fldT Tryz.prog 137 1=some (1,4,true)) ∧
 (fldT Tryz.prog 137 2=some (5,1,false)):=by
 refine⟨?_,?_,?_,?_,?_,?_,?_,?_,?_,?_,?_⟩<;>kernel_rfl
theorem ty139 :
 (szT Tryz.prog 139=some 5) ∧
 (aggT Tryz.prog 139=some true) ∧
 (undT Tryz.prog 139=true) ∧
 (Q2r Tryz.prog 139=false) ∧
 (Q2f Tryz.prog 139=some [.int .u64 0,.int .u64 0,.int .u64 0,.int .u64 0,.int .u64 0]) ∧
 (eqTy Tryz.prog 6 139=true) ∧
 (Tryz.prog.eqGuardType Tryz.prog.depth 139=false) ∧
 (plT Tryz.prog 139=some [(0,1),(1,4)]) ∧
 (fldT Tryz.prog 139 0=some (0,1,false)) ∧
 (fldT Tryz.prog 139 1=some (1,4,true)):=by
 refine⟨?_,?_,?_,?_,?_,?_,?_,?_,?_,?_⟩<;>kernel_rfl
theorem ty146 :
 (szT Tryz.prog 146=some 8) ∧
 (aggT Tryz.prog 146=some true) ∧
 (undT Tryz.prog 146=true) ∧
 (Q2r Tryz.prog 146=false) ∧
 (Q2f Tryz.prog 146=some [.int .u64 0,.int .u64 0,.int .u64 0,.int .u64 0,.int .u64 0,.int .u64 0,.int .u64 0,.int .u64 0]) ∧
 (eqTy Tryz.prog 6 146=true) ∧
 (Tryz.prog.eqGuardType Tryz.prog.depth 146=false) ∧
 (plT Tryz.prog 146=some [(0,4),(4,4)]) ∧
 (fldT Tryz.prog 146 0=some (0,4,true)) ∧
 (fldT Tryz.prog 146 1=some (4,4,true)):=by
 refine⟨?_,?_,?_,?_,?_,?_,?_,?_,?_,?_⟩<;>kernel_rfl
theorem ty147 :
 (szT Tryz.prog 147=some 1) ∧
 (aggT Tryz.prog 147=some false) ∧
 (undT Tryz.prog 147=true) ∧
 (Q2r Tryz.prog 147=false) ∧
 (intT Tryz.prog 147=some .u64) ∧
 (Q2f Tryz.prog 147=some [.int .u64 0]):=by
 refine⟨?_,?_,?_,?_,?_,?_⟩<;>kernel_rfl
attribute [go_sem] ty3 ty4 ty5 ty22 ty23 ty25 ty27 ty31 ty34 ty35 ty37 ty41 ty43 ty44 ty46 ty47 ty49 ty51 ty55 ty59 ty61 ty64 ty66 ty73 ty74 ty76 ty78 ty81 ty86 ty93 ty98 ty111 ty126 ty134 ty137 ty139 ty146 ty147
attribute [go_sem] St.free Q1j evO ofV AV.cells Q3o evz bne_self_eq_false forall_const Nat.reduceBEq Nat.reduceBNe Nat.reduceAdd Nat.reduceLT Nat.reduceLeDiff Nat.reduceEqDiff Int.reduceLE Int.reduceLT Int.reduceToNat Nat.reduceMul Nat.reduceSub Nat.reduceDiv Nat.reduceMod reduceCtorEq
attribute [go_sem ↓] reduceIte
end Go.Proofs.YtbmcdemnnbndeaaGreat
