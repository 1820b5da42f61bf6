/-
  The law AddrSorted.
-/
import Derived.Test.YtbfbcndphnlgoaaDz
import Derived.Test.YtbfbcndphnlgoaaDv
namespace Go.Proofs.Ytbfbcndphnlgoaa
open Go.RowKit
set_option linter.unusedVariables false
set_option linter.unusedSimpArgs false
theorem law_sorted {l : List Int} {y : Int} {v0 : Value} {W : World} (h0 : RV (fun _ => True) (fun _ => (0, 0, 0)) W v0 (asl false l)) (g0 : l.length ≤ maxLen ∧ ∀ a ∈ l, U a) : Calls Try.prog 6 #[v0, .int .i64 y] W (RetT W true) := by
  refine Fn.law (sorted_law_fn false l g0.2 y) (vs := [_, _]) rfl fun j v x hj hx => ?_
  rcases j with _ | _ | j
  · cases hj; cases hx; exact h0
  · cases hj; cases hx; exact .c _ _ (.v _ rfl)
  · simp at hj
end Go.Proofs.Ytbfbcndphnlgoaa
