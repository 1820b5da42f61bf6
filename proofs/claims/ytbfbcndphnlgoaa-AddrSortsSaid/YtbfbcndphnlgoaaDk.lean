/-
  The law AddrSorts.
-/
import Derived.Test.YtbfbcndphnlgoaaDj
import Derived.Test.YtbfbcndphnlgoaaDv
namespace Go.Proofs.Ytbfbcndphnlgoaa
open Go.RowKit
set_option linter.unusedVariables false
set_option linter.unusedSimpArgs false
theorem law_sorts {l : List Int} {v0 : Value} {W : World} (h0 : RV (fun _ => True) (fun _ => (0, 0, 0)) W v0 (asl false l)) (g0 : l.length ≤ maxLen ∧ ∀ a ∈ l, U a) : Calls Try.prog 4 #[v0] W (RetT W true) := by
  refine Fn.law (sorts_fn false l g0.1 g0.2) (vs := [_]) rfl fun j v x hj hx => ?_
  rcases j with _ | j
  · cases hj; cases hx; exact h0
  · simp at hj
end Go.Proofs.Ytbfbcndphnlgoaa
