/-
  What the program says of its types.
-/
import Derived.Test.YtbmcdemnnbndeaaAvW
import Derived.Test.YtbmcdemnnbndeaaProg
import Derived.KernelRfl
set_option linter.unusedSimpArgs false
set_option linter.unusedVariables false
namespace Go.Proofs.Ytbmcdemnnbndeaa
theorem ty3 :
 (szT Try.prog 3=some 1) ∧
 (aggT Try.prog 3=some false) ∧
 (undT Try.prog 3=true) ∧
 (Q2x Try.prog 3=false) ∧
 (intT Try.prog 3=some .i64) ∧
 (Q2p Try.prog 3=some [.int .i64 0]):=by
 refine⟨?_,?_,?_,?_,?_,?_⟩<;>kernel_rfl
theorem ty4 :
 (szT Try.prog 4=some 1) ∧
 (aggT Try.prog 4=some false) ∧
 (undT Try.prog 4=true) ∧
 (Q2x Try.prog 4=true) ∧
 (Q2p Try.prog 4=some [.bool false]):=by
 refine⟨?_,?_,?_,?_,?_⟩<;>kernel_rfl
theorem ty5 :
 (szT Try.prog 5=some 1) ∧
 (aggT Try.prog 5=some false) ∧
 (undT Try.prog 5=true) ∧
 (Q2x Try.prog 5=false) ∧
 (intT Try.prog 5=some .u8) ∧
 (Q2p Try.prog 5=some [.int .u8 0]):=by
 refine⟨?_,?_,?_,?_,?_,?_⟩<;>kernel_rfl
theorem ty22 :
 (szT Try.prog 22=some 1) ∧
 (aggT Try.prog 22=some false) ∧
 (undT Try.prog 22=true) ∧
 (Q2x Try.prog 22=false) ∧
 (Q2p Try.prog 22=some [.slice none 0 0]) ∧
 (slcT Try.prog 22=some (36,12,88)) ∧
 (slcZ Try.prog 22=some (36,12,88)):=by
 refine⟨?_,?_,?_,?_,?_,?_,?_⟩<;>kernel_rfl
theorem ty23 :
 (szT Try.prog 23=some 1) ∧
 (aggT Try.prog 23=some false) ∧
 (undT Try.prog 23=true) ∧
 (Q2x Try.prog 23=false) ∧
 (intT Try.prog 23=some .u64) ∧
 (Q2p Try.prog 23=some [.int .u64 0]):=by
 refine⟨?_,?_,?_,?_,?_,?_⟩<;>kernel_rfl
theorem ty24 :
 (szT Try.prog 24=some 1) ∧
 (aggT Try.prog 24=some false) ∧
 (undT Try.prog 24=true) ∧
 (Q2x Try.prog 24=false) ∧
 (intT Try.prog 24=some .u64) ∧
 (Q2p Try.prog 24=some [.int .u64 0]):=by
 refine⟨?_,?_,?_,?_,?_,?_⟩<;>kernel_rfl
theorem ty25 :
 (szT Try.prog 25=some 1) ∧
 (aggT Try.prog 25=some false) ∧
 (undT Try.prog 25=true) ∧
 (Q2x Try.prog 25=false) ∧
 (Q2p Try.prog 25=some [.nilFunc]):=by
 refine⟨?_,?_,?_,?_,?_⟩<;>kernel_rfl
theorem ty27 :
 (szT Try.prog 27=some 1) ∧
 (aggT Try.prog 27=some false) ∧
 (undT Try.prog 27=true) ∧
 (Q2x Try.prog 27=false) ∧
 (Q2p Try.prog 27=some [.slice none 0 0]) ∧
 (slcT Try.prog 27=some (32,6,48)) ∧
 (slcZ Try.prog 27=some (32,6,48)):=by
 refine⟨?_,?_,?_,?_,?_,?_,?_⟩<;>kernel_rfl
theorem ty30 :
 (szT Try.prog 30=some 4) ∧
 (aggT Try.prog 30=some true) ∧
 (undT Try.prog 30=true) ∧
 (Q2x Try.prog 30=false) ∧
 (Q2p Try.prog 30=some [.int .u64 0,.int .u64 0,.int .u64 0,.int .u64 0]) ∧
 (eqTy Try.prog 6 30=true) ∧
 (Try.prog.eqGuardType Try.prog.depth 30=false) ∧
 (arrT Try.prog 30=some (4,1,false)) ∧
 (plT Try.prog 30=some [(0,1),(1,1),(2,1),(3,1)]):=by
 refine⟨?_,?_,?_,?_,?_,?_,?_,?_,?_⟩<;>kernel_rfl
theorem ty32 :
 (szT Try.prog 32=some 6) ∧
 (aggT Try.prog 32=some true) ∧
 (undT Try.prog 32=true) ∧
 (Q2x Try.prog 32=false) ∧
 (Q2p Try.prog 32=some [.int .u64 0,.int .i64 0,.int .u64 0,.int .u64 0,.int .u64 0,.int .u64 0]) ∧
 (eqTy Try.prog 6 32=true) ∧
 (Try.prog.eqGuardType Try.prog.depth 32=false) ∧
 (plT Try.prog 32=some [(0,1),(1,1),(2,4)]) ∧
 (fldT Try.prog 32 0=some (0,1,false)) ∧
 (fldT Try.prog 32 1=some (1,1,false)) ∧
 (fldT Try.prog 32 2=some (2,4,true)):=by
 refine⟨?_,?_,?_,?_,?_,?_,?_,?_,?_,?_,?_⟩<;>kernel_rfl
theorem ty36 :
 (szT Try.prog 36=some 12) ∧
 (aggT Try.prog 36=some true) ∧
 (undT Try.prog 36=true) ∧
 (Q2x Try.prog 36=false) ∧
 (Q2p Try.prog 36=some [.int .u64 0,.int .u64 0,.int .u64 0,.int .u64 0,.int .u64 0,.int .u64 0,.int .u64 0,.int .u64 0,.int .u64 0,.int .u64 0,.bool false,.bool false]) ∧
 (plT Try.prog 36=some [(0,1),(1,4),(5,4),(9,1),(10,1),(11,1)]) ∧
 (fldT Try.prog 36 0=some (0,1,false)) ∧
 (fldT Try.prog 36 1=some (1,4,true)) ∧
 (fldT Try.prog 36 2=some (5,4,true)) ∧
 (fldT Try.prog 36 3=some (9,1,false)) ∧
 (fldT Try.prog 36 4=some (10,1,false)) ∧
 (fldT Try.prog 36 5=some (11,1,false)):=by
 refine⟨?_,?_,?_,?_,?_,?_,?_,?_,?_,?_,?_,?_⟩<;>kernel_rfl
theorem ty40 :
 (szT Try.prog 40=some 1) ∧
 (aggT Try.prog 40=some false) ∧
 (undT Try.prog 40=true) ∧
 (Q2x Try.prog 40=false) ∧
 (Q2p Try.prog 40=some [.slice none 0 0]) ∧
 (slcT Try.prog 40=some (72,8,96)) ∧
 (slcZ Try.prog 40=some (72,8,96)):=by
 refine⟨?_,?_,?_,?_,?_,?_,?_⟩<;>kernel_rfl
theorem ty42 :
 (szT Try.prog 42=some 1) ∧
 (aggT Try.prog 42=some true) ∧
 (undT Try.prog 42=true) ∧
 (Q2x Try.prog 42=false) ∧
 (Q2p Try.prog 42=some [.slice none 0 0]) ∧
 (plT Try.prog 42=some [(0,1)]) ∧
 (fldT Try.prog 42 0=some (0,1,false)):=by
 refine⟨?_,?_,?_,?_,?_,?_,?_⟩<;>kernel_rfl
theorem ty43 :
 (szT Try.prog 43=some 1) ∧
 (aggT Try.prog 43=some false) ∧
 (undT Try.prog 43=true) ∧
 (Q2x Try.prog 43=false) ∧
 (Q2p Try.prog 43=some [.slice none 0 0]) ∧
 (slcT Try.prog 43=some (74,11,88)) ∧
 (slcZ Try.prog 43=some (74,11,88)):=by
 refine⟨?_,?_,?_,?_,?_,?_,?_⟩<;>kernel_rfl
theorem ty45 :
 (szT Try.prog 45=some 1) ∧
 (aggT Try.prog 45=some true) ∧
 (undT Try.prog 45=true) ∧
 (Q2x Try.prog 45=false) ∧
 (Q2p Try.prog 45=some [.slice none 0 0]) ∧
 (plT Try.prog 45=some [(0,1)]) ∧
 (fldT Try.prog 45 0=some (0,1,false)):=by
 refine⟨?_,?_,?_,?_,?_,?_,?_⟩<;>kernel_rfl
theorem ty46 :
 (szT Try.prog 46=some 1) ∧
 (aggT Try.prog 46=some false) ∧
 (undT Try.prog 46=true) ∧
 (Q2x Try.prog 46=false) ∧
 (Q2p Try.prog 46=some [.slice none 0 0]) ∧
 (slcT Try.prog 46=some (126,6,48)) ∧
 (slcZ Try.prog 46=some (126,6,48)):=by
 refine⟨?_,?_,?_,?_,?_,?_,?_⟩<;>kernel_rfl
theorem ty48 :
 (szT Try.prog 48=some 3) ∧
 (aggT Try.prog 48=some true) ∧
 (undT Try.prog 48=true) ∧
 (Q2x Try.prog 48=false) ∧
 (Q2p Try.prog 48=some [.slice none 0 0,.slice none 0 0,.slice none 0 0]) ∧
 (plT Try.prog 48=some [(0,1),(1,1),(2,1)]) ∧
 (fldT Try.prog 48 0=some (0,1,true)) ∧
 (fldT Try.prog 48 1=some (1,1,true)) ∧
 (fldT Try.prog 48 2=some (2,1,false)):=by
 refine⟨?_,?_,?_,?_,?_,?_,?_,?_,?_⟩<;>kernel_rfl
theorem ty50 :
 (szT Try.prog 50=some 1) ∧
 (aggT Try.prog 50=some false) ∧
 (undT Try.prog 50=true) ∧
 (Q2x Try.prog 50=false) ∧
 (intT Try.prog 50=some .i64) ∧
 (Q2p Try.prog 50=some [.int .i64 0]):=by
 refine⟨?_,?_,?_,?_,?_,?_⟩<;>kernel_rfl
theorem ty54 :
 (szT Try.prog 54=some 16) ∧
 (aggT Try.prog 54=some true) ∧
 (undT Try.prog 54=true) ∧
 (Q2x Try.prog 54=false) ∧
 (Q2p Try.prog 54=some [.slice none 0 0,.slice none 0 0,.slice none 0 0,.slice none 0 0,.slice none 0 0,.slice none 0 0,.slice none 0 0,.int .u64 0,.int .u64 0,.int .u64 0,.int .u64 0,.int .u64 0,.int .u64 0,.int .u64 0,.int .u64 0,.int .u64 0]) ∧
 (plT Try.prog 54=some [(0,3),(3,3),(6,1),(7,1),(8,4),(12,4)]) ∧
 (fldT Try.prog 54 0=some (0,3,true)) ∧
 (fldT Try.prog 54 1=some (3,3,true)) ∧
 (fldT Try.prog 54 2=some (6,1,false)) ∧
 (fldT Try.prog 54 3=some (7,1,false)) ∧
 (fldT Try.prog 54 4=some (8,4,true)) ∧
 (fldT Try.prog 54 5=some (12,4,true)):=by
 refine⟨?_,?_,?_,?_,?_,?_,?_,?_,?_,?_,?_,?_⟩<;>kernel_rfl
theorem ty57 :
 (szT Try.prog 57=some 1) ∧
 (aggT Try.prog 57=some false) ∧
 (undT Try.prog 57=true) ∧
 (Q2x Try.prog 57=false) ∧
 (Q2p Try.prog 57=some [.map none]):=by
 refine⟨?_,?_,?_,?_,?_⟩<;>kernel_rfl
theorem ty58 :
 (szT Try.prog 58=some 1) ∧
 (aggT Try.prog 58=some false) ∧
 (undT Try.prog 58=true) ∧
 (Q2x Try.prog 58=false) ∧
 (Q2p Try.prog 58=some [.slice none 0 0]) ∧
 (slcT Try.prog 58=some (24,1,8)) ∧
 (slcZ Try.prog 58=some (24,1,8)):=by
 refine⟨?_,?_,?_,?_,?_,?_,?_⟩<;>kernel_rfl
theorem ty66 :
 (szT Try.prog 66=some 1) ∧
 (aggT Try.prog 66=some false) ∧
 (undT Try.prog 66=true) ∧
 (Q2x Try.prog 66=false) ∧
 (Q2p Try.prog 66=some [.slice none 0 0]) ∧
 (slcT Try.prog 66=some (30,4,32)) ∧
 (slcZ Try.prog 66=some (30,4,32)):=by
 refine⟨?_,?_,?_,?_,?_,?_,?_⟩<;>kernel_rfl
theorem ty69 :
 (szT Try.prog 69=some 1) ∧
 (aggT Try.prog 69=some false) ∧
 (undT Try.prog 69=true) ∧
 (Q2x Try.prog 69=false) ∧
 (Q2p Try.prog 69=some [.slice none 0 0]) ∧
 (slcT Try.prog 69=some (5,1,1)) ∧
 (slcZ Try.prog 69=some (5,1,1)):=by
 refine⟨?_,?_,?_,?_,?_,?_,?_⟩<;>kernel_rfl
theorem ty70 :
 (szT Try.prog 70=some 1) ∧
 (aggT Try.prog 70=some false) ∧
 (undT Try.prog 70=true) ∧
 (Q2x Try.prog 70=false) ∧
 (Q2p Try.prog 70=some [.slice none 0 0]) ∧
 (slcT Try.prog 70=some (135,8,64)) ∧
 (slcZ Try.prog 70=some (135,8,64)):=by
 refine⟨?_,?_,?_,?_,?_,?_,?_⟩<;>kernel_rfl
theorem ty72 :
 (szT Try.prog 72=some 8) ∧
 (aggT Try.prog 72=some true) ∧
 (undT Try.prog 72=true) ∧
 (Q2x Try.prog 72=false) ∧
 (Q2p Try.prog 72=some [.int .u64 0,.int .u64 0,.int .u64 0,.int .u64 0,.int .u64 0,.int .u64 0,.slice none 0 0,.slice none 0 0]) ∧
 (plT Try.prog 72=some [(0,1),(1,4),(5,1),(6,1),(7,1)]) ∧
 (fldT Try.prog 72 0=some (0,1,false)) ∧
 (fldT Try.prog 72 1=some (1,4,true)) ∧
 (fldT Try.prog 72 2=some (5,1,false)) ∧
 (fldT Try.prog 72 3=some (6,1,false)) ∧
 (fldT Try.prog 72 4=some (7,1,false)):=by
 refine⟨?_,?_,?_,?_,?_,?_,?_,?_,?_,?_,?_⟩<;>kernel_rfl
theorem ty74 :
 (szT Try.prog 74=some 11) ∧
 (aggT Try.prog 74=some true) ∧
 (undT Try.prog 74=true) ∧
 (Q2x Try.prog 74=false) ∧
 (Q2p Try.prog 74=some [.int .u64 0,.int .u64 0,.int .u64 0,.int .u64 0,.int .u64 0,.int .u64 0,.int .u64 0,.int .u64 0,.int .u64 0,.int .u64 0,.int .u64 0]) ∧
 (eqTy Try.prog 6 74=true) ∧
 (Try.prog.eqGuardType Try.prog.depth 74=false) ∧
 (plT Try.prog 74=some [(0,1),(1,4),(5,4),(9,1),(10,1)]) ∧
 (fldT Try.prog 74 0=some (0,1,false)) ∧
 (fldT Try.prog 74 1=some (1,4,true)) ∧
 (fldT Try.prog 74 2=some (5,4,true)) ∧
 (fldT Try.prog 74 3=some (9,1,false)) ∧
 (fldT Try.prog 74 4=some (10,1,false)):=by
 refine⟨?_,?_,?_,?_,?_,?_,?_,?_,?_,?_,?_,?_,?_⟩<;>kernel_rfl
theorem ty77 :
 (szT Try.prog 77=some 5) ∧
 (aggT Try.prog 77=some true) ∧
 (undT Try.prog 77=true) ∧
 (Q2x Try.prog 77=false) ∧
 (Q2p Try.prog 77=some [.bool false,.int .u64 0,.int .u64 0,.int .u64 0,.int .u64 0]) ∧
 (plT Try.prog 77=some [(0,1),(1,4)]) ∧
 (fldT Try.prog 77 0=some (0,1,false)) ∧
 (fldT Try.prog 77 1=some (1,4,true)):=by
 refine⟨?_,?_,?_,?_,?_,?_,?_,?_⟩<;>kernel_rfl
theorem ty82 :
 (szT Try.prog 82=some 5) ∧
 (aggT Try.prog 82=some true) ∧
 (undT Try.prog 82=true) ∧
 (Q2x Try.prog 82=false) ∧
 (Q2p Try.prog 82=some [.nilFunc,.nilFunc,.nilFunc,.nilFunc,.nilFunc]) ∧
 (arrT Try.prog 82=some (5,1,false)) ∧
 (plT Try.prog 82=some [(0,1),(1,1),(2,1),(3,1),(4,1)]):=by
 refine⟨?_,?_,?_,?_,?_,?_,?_⟩<;>kernel_rfl
theorem ty89 :
 (szT Try.prog 89=some 1) ∧
 (aggT Try.prog 89=some false) ∧
 (undT Try.prog 89=true) ∧
 (Q2x Try.prog 89=false) ∧
 (Q2p Try.prog 89=some [.slice none 0 0]) ∧
 (slcT Try.prog 89=some (48,3,72)) ∧
 (slcZ Try.prog 89=some (48,3,72)):=by
 refine⟨?_,?_,?_,?_,?_,?_,?_⟩<;>kernel_rfl
theorem ty101 :
 (szT Try.prog 101=some 1) ∧
 (aggT Try.prog 101=some false) ∧
 (undT Try.prog 101=true) ∧
 (Q2x Try.prog 101=false) ∧
 (intT Try.prog 101=some .u64) ∧
 (Q2p Try.prog 101=some [.int .u64 0]):=by
 refine⟨?_,?_,?_,?_,?_,?_⟩<;>kernel_rfl
theorem ty115 :
 (szT Try.prog 115=some 1) ∧
 (aggT Try.prog 115=some false) ∧
 (undT Try.prog 115=true) ∧
 (Q2x Try.prog 115=false) ∧
 (intT Try.prog 115=some .i64) ∧
 (Q2p Try.prog 115=some [.int .i64 0]):=by
 refine⟨?_,?_,?_,?_,?_,?_⟩<;>kernel_rfl
theorem ty123 :
 (szT Try.prog 123=some 1) ∧
 (aggT Try.prog 123=some false) ∧
 (undT Try.prog 123=true) ∧
 (Q2x Try.prog 123=false) ∧
 (intT Try.prog 123=some .u32) ∧
 (Q2p Try.prog 123=some [.int .u32 0]):=by
 refine⟨?_,?_,?_,?_,?_,?_⟩<;>kernel_rfl
theorem ty126 :
 (szT Try.prog 126=some 6) ∧
 (aggT Try.prog 126=some true) ∧
 (undT Try.prog 126=true) ∧
 (Q2x Try.prog 126=false) ∧
 (Q2p Try.prog 126=some [.int .u64 0,.int .u64 0,.int .u64 0,.int .u64 0,.int .u64 0,.int .u64 0]) ∧
 (eqTy Try.prog 6 126=true) ∧
 (Try.prog.eqGuardType Try.prog.depth 126=false) ∧
 (plT Try.prog 126=some [(0,1),(1,4),(5,1)]) ∧
 (fldT Try.prog 126 0=some (0,1,false)) ∧
 (fldT Try.prog 126 1=some (1,4,true)) ∧
 (fldT Try.prog 126 2=some (5,1,false)):=by
 refine⟨?_,?_,?_,?_,?_,?_,?_,?_,?_,?_,?_⟩<;>kernel_rfl
theorem ty128 :
 (szT Try.prog 128=some 5) ∧
 (aggT Try.prog 128=some true) ∧
 (undT Try.prog 128=true) ∧
 (Q2x Try.prog 128=false) ∧
 (Q2p Try.prog 128=some [.int .u64 0,.int .u64 0,.int .u64 0,.int .u64 0,.int .u64 0]) ∧
 (eqTy Try.prog 6 128=true) ∧
 (Try.prog.eqGuardType Try.prog.depth 128=false) ∧
 (plT Try.prog 128=some [(0,1),(1,4)]) ∧
 (fldT Try.prog 128 0=some (0,1,false)) ∧
 (fldT Try.prog 128 1=some (1,4,true)):=by
 refine⟨?_,?_,?_,?_,?_,?_,?_,?_,?_,?_⟩<;>kernel_rfl
theorem ty135 :
 (szT Try.prog 135=some 8) ∧
 (aggT Try.prog 135=some true) ∧
 (undT Try.prog 135=true) ∧
 (Q2x Try.prog 135=false) ∧
 (Q2p Try.prog 135=some [.int .u64 0,.int .u64 0,.int .u64 0,.int .u64 0,.int .u64 0,.int .u64 0,.int .u64 0,.int .u64 0]) ∧
 (eqTy Try.prog 6 135=true) ∧
 (Try.prog.eqGuardType Try.prog.depth 135=false) ∧
 (plT Try.prog 135=some [(0,4),(4,4)]) ∧
 (fldT Try.prog 135 0=some (0,4,true)) ∧
 (fldT Try.prog 135 1=some (4,4,true)):=by
 refine⟨?_,?_,?_,?_,?_,?_,?_,?_,?_,?_⟩<;>kernel_rfl
theorem ty136 :
 (szT Try.prog 136=some 1) ∧
 (aggT Try.prog 136=some false) ∧
 (undT Try.prog 136=true) ∧
 (Q2x Try.prog 136=false) ∧
 (intT Try.prog 136=some .u64) ∧
 (Q2p Try.prog 136=some [.int .u64 0]):=by
 refine⟨?_,?_,?_,?_,?_,?_⟩<;>kernel_rfl
theorem ty151 :
 (szT Try.prog 151=some 1) ∧
 (aggT Try.prog 151=some false) ∧
 (undT Try.prog 151=true) ∧
 (Q2x Try.prog 151=false) ∧
 (Q2p Try.prog 151=some [.slice none 0 0]) ∧
 (slcT Try.prog 151=some (3,1,8)) ∧
 (slcZ Try.prog 151=some (3,1,8)):=by
 refine⟨?_,?_,?_,?_,?_,?_,?_⟩<;>kernel_rfl
attribute [go_sem] ty3 ty4 ty5 ty22 ty23 ty24 ty25 ty27 ty30 ty32 ty36 ty40 ty42 ty43 ty45 ty46 ty48 ty50 ty54 ty57 ty58 ty66 ty69 ty70 ty72 ty74 ty77 ty82 ty89 ty101 ty115 ty123 ty126 ty128 ty135 ty136 ty151
attribute [go_sem] St.free Q1i evO ofV AV.cells Q5l evz bne_self_eq_false forall_const Nat.reduceBEq Nat.reduceBNe Nat.reduceAdd Nat.reduceLT Nat.reduceLeDiff Nat.reduceEqDiff Int.reduceLE Int.reduceLT Int.reduceToNat Nat.reduceMul Nat.reduceSub Nat.reduceDiv Nat.reduceMod reduceCtorEq
attribute [go_sem ↓] reduceIte
end Go.Proofs.Ytbmcdemnnbndeaa
