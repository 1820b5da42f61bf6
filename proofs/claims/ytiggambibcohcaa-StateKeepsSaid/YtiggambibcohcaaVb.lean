/-
  What the document has of states: which may be, what is found, whether there is room, what a slot holds; reckoned.
-/
import Derived.Test.YtiggambibcohcaaWu
import Derived.Test.YtiggambibcohcaaWn
import Derived.Test.YtiggambibcohcaaAvW
import Derived.Test.YtiggambibcohcaaSa
import Derived.Test.YtiggambibcohcaaUa
namespace Go.Proofs.Ytiggambibcohcaa
open Go.RowKit
open Nat (reduceBEq)
set_option linter.unusedVariables false
set_option linter.unusedSimpArgs false
set_option maxRecDepth 20000
set_option maxHeartbeats 2000000
def findP (l : List Pr) (k : Nat) : Nat := ((l.find? fun p => decide (p.k = k)).map Pr.v).getD 0
end Go.Proofs.Ytiggambibcohcaa

