/-
  The law AddrNears.
-/
import Derived.Test.YtbfbcndphnlgoaaDe
import Derived.Test.YtbfbcndphnlgoaaDv
namespace Go.Proofs.Ytbfbcndphnlgoaa
open Go.RowKit
set_option linter.unusedVariables false
set_option linter.unusedSimpArgs false
theorem law_nears {s t : Nat} {v0 v1 : Value} {W : World} (h0 : RV (fun _ => True) (fun _ => (0, 0, 0)) W v0 (wN s)) (g0 : s < WW) (h1 : RV (fun _ => True) (fun _ => (0, 0, 0)) W v1 (wN t)) (g1 : t < WW) : Calls Try.prog 3 #[v0, v1] W (RetT W true) := by
  refine Fn.law (nears_fn s t g0 g1) (vs := [_, _]) rfl fun j v x hj hx => ?_
  rcases j with _ | _ | j
  · cases hj; cases hx; exact h0
  · cases hj; cases hx; exact h1
  · simp at hj
end Go.Proofs.Ytbfbcndphnlgoaa
