/-
  The law StateKeeps.
-/
import Derived.Test.YtiggambibcohcaaKb
namespace Go.Proofs.Ytiggambibcohcaa
open Go.RowKit
set_option linter.unusedVariables false
set_option linter.unusedSimpArgs false
theorem law_keeps {l : List Ac} {o : Do} {v0 v1 : Value} {W : World} (h0 : RV (fun _ => True) (fun _ => (0, 0, 0)) W v0 (stA false l)) (g0 : l.length ≤ maxLen ∧ ∀ a ∈ l, a.ok) (h1 : RV (fun _ => True) (fun _ => (0, 0, 0)) W v1 (doA o)) (g1 : o.ok) : Calls Try.prog 5 #[v0, v1] W (RetT W true) := by
  refine Fn.law (keeps_fn false l g0.1 g0.2 o g1) (vs := [_, _]) rfl fun j v x hj hx => ?_
  rcases j with _ | _ | j
  · cases hj; cases hx; exact h0
  · cases hj; cases hx; exact h1
  · simp at hj
end Go.Proofs.Ytiggambibcohcaa

