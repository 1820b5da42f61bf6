/-
  What the program says of its types.
-/
import Derived.Test.YtbmcdemnnbndeaaGreatDoorAvW
import Derived.Test.YtbmcdemnnbndeaaGreatDoorProg
import Derived.KernelRfl
set_option linter.unusedSimpArgs false
set_option linter.unusedVariables false
namespace Go.Proofs.YtbmcdemnnbndeaaGreatDoor
theorem ty3 :
 (szT Tryz.prog 3=some 1) ∧
 (aggT Tryz.prog 3=some false) ∧
 (undT Tryz.prog 3=true) ∧
 (Q2z Tryz.prog 3=false) ∧
 (intT Tryz.prog 3=some .i64) ∧
 (Q2b Tryz.prog 3=some [.int .i64 0]):=by
 refine⟨?_,?_,?_,?_,?_,?_⟩<;>kernel_rfl
theorem ty4 :
 (szT Tryz.prog 4=some 1) ∧
 (aggT Tryz.prog 4=some false) ∧
 (undT Tryz.prog 4=true) ∧
 (Q2z Tryz.prog 4=true) ∧
 (Q2b Tryz.prog 4=some [.bool false]):=by
 refine⟨?_,?_,?_,?_,?_⟩<;>kernel_rfl
theorem ty5 :
 (szT Tryz.prog 5=some 1) ∧
 (aggT Tryz.prog 5=some false) ∧
 (undT Tryz.prog 5=true) ∧
 (Q2z Tryz.prog 5=false) ∧
 (intT Tryz.prog 5=some .u8) ∧
 (Q2b Tryz.prog 5=some [.int .u8 0]):=by
 refine⟨?_,?_,?_,?_,?_,?_⟩<;>kernel_rfl
theorem ty22 :
 (szT Tryz.prog 22=some 1) ∧
 (aggT Tryz.prog 22=some false) ∧
 (undT Tryz.prog 22=true) ∧
 (Q2z Tryz.prog 22=false) ∧
 (Q2b Tryz.prog 22=some [.slice none 0 0]) ∧
 (slcT Tryz.prog 22=some (62,8,96)) ∧
 (slcZ Tryz.prog 22=some (62,8,96)):=by
 refine⟨?_,?_,?_,?_,?_,?_,?_⟩<;>kernel_rfl
theorem ty24 :
 (szT Tryz.prog 24=some 1) ∧
 (aggT Tryz.prog 24=some true) ∧
 (undT Tryz.prog 24=true) ∧
 (Q2z Tryz.prog 24=false) ∧
 (Q2b Tryz.prog 24=some [.slice none 0 0]) ∧
 (plT Tryz.prog 24=some [(0,1)]) ∧
 (fldT Tryz.prog 24 0=some (0,1,false)):=by
 refine⟨?_,?_,?_,?_,?_,?_,?_⟩<;>kernel_rfl
theorem ty25 :
 (szT Tryz.prog 25=some 1) ∧
 (aggT Tryz.prog 25=some false) ∧
 (undT Tryz.prog 25=true) ∧
 (Q2z Tryz.prog 25=false) ∧
 (Q2b Tryz.prog 25=some [.slice none 0 0]) ∧
 (slcT Tryz.prog 25=some (70,11,88)) ∧
 (slcZ Tryz.prog 25=some (70,11,88)):=by
 refine⟨?_,?_,?_,?_,?_,?_,?_⟩<;>kernel_rfl
theorem ty27 :
 (szT Tryz.prog 27=some 1) ∧
 (aggT Tryz.prog 27=some true) ∧
 (undT Tryz.prog 27=true) ∧
 (Q2z Tryz.prog 27=false) ∧
 (Q2b Tryz.prog 27=some [.slice none 0 0]) ∧
 (plT Tryz.prog 27=some [(0,1)]) ∧
 (fldT Tryz.prog 27 0=some (0,1,false)):=by
 refine⟨?_,?_,?_,?_,?_,?_,?_⟩<;>kernel_rfl
theorem ty28 :
 (szT Tryz.prog 28=some 1) ∧
 (aggT Tryz.prog 28=some false) ∧
 (undT Tryz.prog 28=true) ∧
 (Q2z Tryz.prog 28=false) ∧
 (Q2b Tryz.prog 28=some [.slice none 0 0]) ∧
 (slcT Tryz.prog 28=some (73,6,48)) ∧
 (slcZ Tryz.prog 28=some (73,6,48)):=by
 refine⟨?_,?_,?_,?_,?_,?_,?_⟩<;>kernel_rfl
theorem ty30 :
 (szT Tryz.prog 30=some 3) ∧
 (aggT Tryz.prog 30=some true) ∧
 (undT Tryz.prog 30=true) ∧
 (Q2z Tryz.prog 30=false) ∧
 (Q2b Tryz.prog 30=some [.slice none 0 0,.slice none 0 0,.slice none 0 0]) ∧
 (plT Tryz.prog 30=some [(0,1),(1,1),(2,1)]) ∧
 (fldT Tryz.prog 30 0=some (0,1,true)) ∧
 (fldT Tryz.prog 30 1=some (1,1,true)) ∧
 (fldT Tryz.prog 30 2=some (2,1,false)):=by
 refine⟨?_,?_,?_,?_,?_,?_,?_,?_,?_⟩<;>kernel_rfl
theorem ty31 :
 (szT Tryz.prog 31=some 1) ∧
 (aggT Tryz.prog 31=some false) ∧
 (undT Tryz.prog 31=true) ∧
 (Q2z Tryz.prog 31=false) ∧
 (intT Tryz.prog 31=some .u64) ∧
 (Q2b Tryz.prog 31=some [.int .u64 0]):=by
 refine⟨?_,?_,?_,?_,?_,?_⟩<;>kernel_rfl
theorem ty32 :
 (szT Tryz.prog 32=some 1) ∧
 (aggT Tryz.prog 32=some false) ∧
 (undT Tryz.prog 32=true) ∧
 (Q2z Tryz.prog 32=false) ∧
 (intT Tryz.prog 32=some .u64) ∧
 (Q2b Tryz.prog 32=some [.int .u64 0]):=by
 refine⟨?_,?_,?_,?_,?_,?_⟩<;>kernel_rfl
theorem ty34 :
 (szT Tryz.prog 34=some 4) ∧
 (aggT Tryz.prog 34=some true) ∧
 (undT Tryz.prog 34=true) ∧
 (Q2z Tryz.prog 34=false) ∧
 (Q2b Tryz.prog 34=some [.int .u64 0,.int .u64 0,.int .u64 0,.int .u64 0]) ∧
 (eqTy Tryz.prog 6 34=true) ∧
 (Tryz.prog.eqGuardType Tryz.prog.depth 34=false) ∧
 (arrT Tryz.prog 34=some (4,1,false)) ∧
 (plT Tryz.prog 34=some [(0,1),(1,1),(2,1),(3,1)]):=by
 refine⟨?_,?_,?_,?_,?_,?_,?_,?_,?_⟩<;>kernel_rfl
theorem ty35 :
 (szT Tryz.prog 35=some 1) ∧
 (aggT Tryz.prog 35=some false) ∧
 (undT Tryz.prog 35=true) ∧
 (Q2z Tryz.prog 35=false) ∧
 (Q2b Tryz.prog 35=some [.slice none 0 0]) ∧
 (slcT Tryz.prog 35=some (5,1,1)) ∧
 (slcZ Tryz.prog 35=some (5,1,1)):=by
 refine⟨?_,?_,?_,?_,?_,?_,?_⟩<;>kernel_rfl
theorem ty37 :
 (szT Tryz.prog 37=some 9) ∧
 (aggT Tryz.prog 37=some true) ∧
 (undT Tryz.prog 37=true) ∧
 (Q2z Tryz.prog 37=false) ∧
 (Q2b Tryz.prog 37=some [.int .u64 0,.int .u64 0,.int .u64 0,.int .u64 0,.int .u64 0,.int .u64 0,.slice none 0 0,.int .u64 0,.bool false]) ∧
 (plT Tryz.prog 37=some [(0,1),(1,1),(2,4),(6,1),(7,1),(8,1)]) ∧
 (fldT Tryz.prog 37 0=some (0,1,false)) ∧
 (fldT Tryz.prog 37 1=some (1,1,false)) ∧
 (fldT Tryz.prog 37 2=some (2,4,true)) ∧
 (fldT Tryz.prog 37 3=some (6,1,false)) ∧
 (fldT Tryz.prog 37 4=some (7,1,false)) ∧
 (fldT Tryz.prog 37 5=some (8,1,false)):=by
 refine⟨?_,?_,?_,?_,?_,?_,?_,?_,?_,?_,?_,?_⟩<;>kernel_rfl
theorem ty38 :
 (szT Tryz.prog 38=some 1) ∧
 (aggT Tryz.prog 38=some false) ∧
 (undT Tryz.prog 38=true) ∧
 (Q2z Tryz.prog 38=false) ∧
 (Q2b Tryz.prog 38=some [.nilFunc]):=by
 refine⟨?_,?_,?_,?_,?_⟩<;>kernel_rfl
theorem ty40 :
 (szT Tryz.prog 40=some 1) ∧
 (aggT Tryz.prog 40=some false) ∧
 (undT Tryz.prog 40=true) ∧
 (Q2z Tryz.prog 40=false) ∧
 (intT Tryz.prog 40=some .i64) ∧
 (Q2b Tryz.prog 40=some [.int .i64 0]):=by
 refine⟨?_,?_,?_,?_,?_,?_⟩<;>kernel_rfl
theorem ty44 :
 (szT Tryz.prog 44=some 1) ∧
 (aggT Tryz.prog 44=some false) ∧
 (undT Tryz.prog 44=true) ∧
 (Q2z Tryz.prog 44=false) ∧
 (Q2b Tryz.prog 44=some [.slice none 0 0]) ∧
 (slcT Tryz.prog 44=some (84,12,88)) ∧
 (slcZ Tryz.prog 44=some (84,12,88)):=by
 refine⟨?_,?_,?_,?_,?_,?_,?_⟩<;>kernel_rfl
theorem ty46 :
 (szT Tryz.prog 46=some 16) ∧
 (aggT Tryz.prog 46=some true) ∧
 (undT Tryz.prog 46=true) ∧
 (Q2z Tryz.prog 46=false) ∧
 (Q2b Tryz.prog 46=some [.slice none 0 0,.slice none 0 0,.slice none 0 0,.slice none 0 0,.slice none 0 0,.slice none 0 0,.slice none 0 0,.int .u64 0,.int .u64 0,.int .u64 0,.int .u64 0,.int .u64 0,.int .u64 0,.int .u64 0,.int .u64 0,.int .u64 0]) ∧
 (plT Tryz.prog 46=some [(0,3),(3,3),(6,1),(7,1),(8,4),(12,4)]) ∧
 (fldT Tryz.prog 46 0=some (0,3,true)) ∧
 (fldT Tryz.prog 46 1=some (3,3,true)) ∧
 (fldT Tryz.prog 46 2=some (6,1,false)) ∧
 (fldT Tryz.prog 46 3=some (7,1,false)) ∧
 (fldT Tryz.prog 46 4=some (8,4,true)) ∧
 (fldT Tryz.prog 46 5=some (12,4,true)):=by
 refine⟨?_,?_,?_,?_,?_,?_,?_,?_,?_,?_,?_,?_⟩<;>kernel_rfl
theorem ty60 :
 (szT Tryz.prog 60=some 1) ∧
 (aggT Tryz.prog 60=some false) ∧
 (undT Tryz.prog 60=true) ∧
 (Q2z Tryz.prog 60=false) ∧
 (Q2b Tryz.prog 60=some [.slice none 0 0]) ∧
 (slcT Tryz.prog 60=some (67,8,64)) ∧
 (slcZ Tryz.prog 60=some (67,8,64)):=by
 refine⟨?_,?_,?_,?_,?_,?_,?_⟩<;>kernel_rfl
theorem ty62 :
 (szT Tryz.prog 62=some 8) ∧
 (aggT Tryz.prog 62=some true) ∧
 (undT Tryz.prog 62=true) ∧
 (Q2z Tryz.prog 62=false) ∧
 (Q2b Tryz.prog 62=some [.int .u64 0,.int .u64 0,.int .u64 0,.int .u64 0,.int .u64 0,.int .u64 0,.slice none 0 0,.slice none 0 0]) ∧
 (plT Tryz.prog 62=some [(0,1),(1,4),(5,1),(6,1),(7,1)]) ∧
 (fldT Tryz.prog 62 0=some (0,1,false)) ∧
 (fldT Tryz.prog 62 1=some (1,4,true)) ∧
 (fldT Tryz.prog 62 2=some (5,1,false)) ∧
 (fldT Tryz.prog 62 3=some (6,1,false)) ∧
 (fldT Tryz.prog 62 4=some (7,1,false)):=by
 refine⟨?_,?_,?_,?_,?_,?_,?_,?_,?_,?_,?_⟩<;>kernel_rfl
theorem ty67 :
 (szT Tryz.prog 67=some 8) ∧
 (aggT Tryz.prog 67=some true) ∧
 (undT Tryz.prog 67=true) ∧
 (Q2z Tryz.prog 67=false) ∧
 (Q2b Tryz.prog 67=some [.int .u64 0,.int .u64 0,.int .u64 0,.int .u64 0,.int .u64 0,.int .u64 0,.int .u64 0,.int .u64 0]) ∧
 (eqTy Tryz.prog 6 67=true) ∧
 (Tryz.prog.eqGuardType Tryz.prog.depth 67=false) ∧
 (plT Tryz.prog 67=some [(0,4),(4,4)]) ∧
 (fldT Tryz.prog 67 0=some (0,4,true)) ∧
 (fldT Tryz.prog 67 1=some (4,4,true)):=by
 refine⟨?_,?_,?_,?_,?_,?_,?_,?_,?_,?_⟩<;>kernel_rfl
theorem ty70 :
 (szT Tryz.prog 70=some 11) ∧
 (aggT Tryz.prog 70=some true) ∧
 (undT Tryz.prog 70=true) ∧
 (Q2z Tryz.prog 70=false) ∧
 (Q2b Tryz.prog 70=some [.int .u64 0,.int .u64 0,.int .u64 0,.int .u64 0,.int .u64 0,.int .u64 0,.int .u64 0,.int .u64 0,.int .u64 0,.int .u64 0,.int .u64 0]) ∧
 (eqTy Tryz.prog 6 70=true) ∧
 (Tryz.prog.eqGuardType Tryz.prog.depth 70=false) ∧
 (plT Tryz.prog 70=some [(0,1),(1,4),(5,4),(9,1),(10,1)]) ∧
 (fldT Tryz.prog 70 0=some (0,1,false)) ∧
 (fldT Tryz.prog 70 1=some (1,4,true)) ∧
 (fldT Tryz.prog 70 2=some (5,4,true)) ∧
 (fldT Tryz.prog 70 3=some (9,1,false)) ∧
 (fldT Tryz.prog 70 4=some (10,1,false)):=by
 refine⟨?_,?_,?_,?_,?_,?_,?_,?_,?_,?_,?_,?_,?_⟩<;>kernel_rfl
theorem ty73 :
 (szT Tryz.prog 73=some 6) ∧
 (aggT Tryz.prog 73=some true) ∧
 (undT Tryz.prog 73=true) ∧
 (Q2z Tryz.prog 73=false) ∧
 (Q2b Tryz.prog 73=some [.int .u64 0,.int .u64 0,.int .u64 0,.int .u64 0,.int .u64 0,.int .u64 0]) ∧
 (eqTy Tryz.prog 6 73=true) ∧
 (Tryz.prog.eqGuardType Tryz.prog.depth 73=false) ∧
 (plT Tryz.prog 73=some [(0,1),(1,4),(5,1)]) ∧
 (fldT Tryz.prog 73 0=some (0,1,false)) ∧
 (fldT Tryz.prog 73 1=some (1,4,true)) ∧
 (fldT Tryz.prog 73 2=some (5,1,false)):=by
 refine⟨?_,?_,?_,?_,?_,?_,?_,?_,?_,?_,?_⟩<;>kernel_rfl
theorem ty80 :
 (szT Tryz.prog 80=some 5) ∧
 (aggT Tryz.prog 80=some true) ∧
 (undT Tryz.prog 80=true) ∧
 (Q2z Tryz.prog 80=false) ∧
 (Q2b Tryz.prog 80=some [.bool false,.int .u64 0,.int .u64 0,.int .u64 0,.int .u64 0]) ∧
 (plT Tryz.prog 80=some [(0,1),(1,4)]) ∧
 (fldT Tryz.prog 80 0=some (0,1,false)) ∧
 (fldT Tryz.prog 80 1=some (1,4,true)):=by
 refine⟨?_,?_,?_,?_,?_,?_,?_,?_⟩<;>kernel_rfl
theorem ty84 :
 (szT Tryz.prog 84=some 12) ∧
 (aggT Tryz.prog 84=some true) ∧
 (undT Tryz.prog 84=true) ∧
 (Q2z Tryz.prog 84=false) ∧
 (Q2b Tryz.prog 84=some [.int .u64 0,.int .u64 0,.int .u64 0,.int .u64 0,.int .u64 0,.int .u64 0,.int .u64 0,.int .u64 0,.int .u64 0,.int .u64 0,.bool false,.bool false]) ∧
 (plT Tryz.prog 84=some [(0,1),(1,4),(5,4),(9,1),(10,1),(11,1)]) ∧
 (fldT Tryz.prog 84 0=some (0,1,false)) ∧
 (fldT Tryz.prog 84 1=some (1,4,true)) ∧
 (fldT Tryz.prog 84 2=some (5,4,true)) ∧
 (fldT Tryz.prog 84 3=some (9,1,false)) ∧
 (fldT Tryz.prog 84 4=some (10,1,false)) ∧
 (fldT Tryz.prog 84 5=some (11,1,false)):=by
 refine⟨?_,?_,?_,?_,?_,?_,?_,?_,?_,?_,?_,?_⟩<;>kernel_rfl
theorem ty88 :
 (szT Tryz.prog 88=some 1) ∧
 (aggT Tryz.prog 88=some false) ∧
 (undT Tryz.prog 88=true) ∧
 (Q2z Tryz.prog 88=false) ∧
 (Q2b Tryz.prog 88=some [.slice none 0 0]) ∧
 (slcT Tryz.prog 88=some (34,4,32)) ∧
 (slcZ Tryz.prog 88=some (34,4,32)):=by
 refine⟨?_,?_,?_,?_,?_,?_,?_⟩<;>kernel_rfl
theorem ty90 :
 (szT Tryz.prog 90=some 5) ∧
 (aggT Tryz.prog 90=some true) ∧
 (undT Tryz.prog 90=true) ∧
 (Q2z Tryz.prog 90=false) ∧
 (Q2b Tryz.prog 90=some [.nilFunc,.nilFunc,.nilFunc,.nilFunc,.nilFunc]) ∧
 (arrT Tryz.prog 90=some (5,1,false)) ∧
 (plT Tryz.prog 90=some [(0,1),(1,1),(2,1),(3,1),(4,1)]):=by
 refine⟨?_,?_,?_,?_,?_,?_,?_⟩<;>kernel_rfl
theorem ty111 :
 (szT Tryz.prog 111=some 5) ∧
 (aggT Tryz.prog 111=some true) ∧
 (undT Tryz.prog 111=true) ∧
 (Q2z Tryz.prog 111=false) ∧
 (Q2b Tryz.prog 111=some [.int .u64 0,.int .u64 0,.int .u64 0,.int .u64 0,.int .u64 0]) ∧
 (eqTy Tryz.prog 6 111=true) ∧
 (Tryz.prog.eqGuardType Tryz.prog.depth 111=false) ∧
 (plT Tryz.prog 111=some [(0,1),(1,4)]) ∧
 (fldT Tryz.prog 111 0=some (0,1,false)) ∧
 (fldT Tryz.prog 111 1=some (1,4,true)):=by
 refine⟨?_,?_,?_,?_,?_,?_,?_,?_,?_,?_⟩<;>kernel_rfl
theorem ty113 :
 (szT Tryz.prog 113=some 1) ∧
 (aggT Tryz.prog 113=some false) ∧
 (undT Tryz.prog 113=true) ∧
 (Q2z Tryz.prog 113=false) ∧
 (Q2b Tryz.prog 113=some [.slice none 0 0]) ∧
 (slcT Tryz.prog 113=some (30,3,72)) ∧
 (slcZ Tryz.prog 113=some (30,3,72)):=by
 refine⟨?_,?_,?_,?_,?_,?_,?_⟩<;>kernel_rfl
theorem ty149 :
 (szT Tryz.prog 149=some 6) ∧
 (aggT Tryz.prog 149=some true) ∧
 (undT Tryz.prog 149=true) ∧
 (Q2z Tryz.prog 149=false) ∧
 (Q2b Tryz.prog 149=some [.int .i64 0,.int .i64 0,.int .i64 0,.int .i64 0,.int .i64 0,.int .i64 0]) ∧
 (eqTy Tryz.prog 6 149=true) ∧
 (Tryz.prog.eqGuardType Tryz.prog.depth 149=false) ∧
 (arrT Tryz.prog 149=some (6,1,false)) ∧
 (plT Tryz.prog 149=some [(0,1),(1,1),(2,1),(3,1),(4,1),(5,1)]):=by
 refine⟨?_,?_,?_,?_,?_,?_,?_,?_,?_⟩<;>kernel_rfl
theorem ty153 :
 (szT Tryz.prog 153=some 12) ∧
 (aggT Tryz.prog 153=some true) ∧
 (undT Tryz.prog 153=true) ∧
 (Q2z Tryz.prog 153=false) ∧
 (Q2b Tryz.prog 153=some [.int .u64 0,.int .u64 0,.int .u64 0,.int .u64 0,.int .u64 0,.int .u64 0,.int .u64 0,.int .u64 0,.int .u64 0,.int .u64 0,.int .u64 0,.slice none 0 0]) ∧
 (plT Tryz.prog 153=some [(0,11),(11,1)]) ∧
 (fldT Tryz.prog 153 0=some (0,11,true)) ∧
 (fldT Tryz.prog 153 1=some (11,1,true)):=by
 refine⟨?_,?_,?_,?_,?_,?_,?_,?_⟩<;>kernel_rfl
theorem ty156 :
 (szT Tryz.prog 156=some 1) ∧
 (aggT Tryz.prog 156=some false) ∧
 (undT Tryz.prog 156=true) ∧
 (Q2z Tryz.prog 156=false) ∧
 (intT Tryz.prog 156=some .u64) ∧
 (Q2b Tryz.prog 156=some [.int .u64 0]):=by
 refine⟨?_,?_,?_,?_,?_,?_⟩<;>kernel_rfl
theorem ty158 :
 (szT Tryz.prog 158=some 1) ∧
 (aggT Tryz.prog 158=some false) ∧
 (undT Tryz.prog 158=true) ∧
 (Q2z Tryz.prog 158=false) ∧
 (Q2b Tryz.prog 158=some [.slice none 0 0]) ∧
 (slcT Tryz.prog 158=some (3,1,8)) ∧
 (slcZ Tryz.prog 158=some (3,1,8)):=by
 refine⟨?_,?_,?_,?_,?_,?_,?_⟩<;>kernel_rfl
attribute [go_sem] ty3 ty4 ty5 ty22 ty24 ty25 ty27 ty28 ty30 ty31 ty32 ty34 ty35 ty37 ty38 ty40 ty44 ty46 ty60 ty62 ty67 ty70 ty73 ty80 ty84 ty88 ty90 ty111 ty113 ty149 ty153 ty156 ty158
attribute [go_sem] St.free Q2i evO ofV AV.cells Q6k evz bne_self_eq_false forall_const Nat.reduceBEq Nat.reduceBNe Nat.reduceAdd Nat.reduceLT Nat.reduceLeDiff Nat.reduceEqDiff Int.reduceLE Int.reduceLT Int.reduceToNat Nat.reduceMul Nat.reduceSub Nat.reduceDiv Nat.reduceMod reduceCtorEq
attribute [go_sem ↓] reduceIte
end Go.Proofs.YtbmcdemnnbndeaaGreatDoor
