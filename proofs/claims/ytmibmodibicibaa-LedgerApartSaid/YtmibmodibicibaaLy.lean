/-
  The law LedgerApart.
-/
import Derived.Test.YtmibmodibicibaaLt
import Derived.Test.YtmibmodibicibaaLv
namespace Go.Proofs.Ytmibmodibicibaa
open Go.RowKit
set_option linter.unusedVariables false
set_option linter.unusedSimpArgs false
theorem law_apart {l : List Hd} {A B : Dd} {v0 v1 v2 : Value} {W : World} (h0 : RV (fun _ => True) (fun _ => (0, 0, 0)) W v0 (lg false l)) (g0 : l.length ≤ maxLen ∧ ∀ n ∈ l, n.ok) (h1 : RV (fun _ => True) (fun _ => (0, 0, 0)) W v1 (dA A)) (g1 : A.ok) (h2 : RV (fun _ => True) (fun _ => (0, 0, 0)) W v2 (dA B)) (g2 : B.ok) : Calls Try.prog 6 #[v0, v1, v2] W (RetT W true) := by
  refine Fn.law (apart_fn false l g0.1 g0.2 A B g1 g2) (vs := [_, _, _]) rfl fun j v x hj hx => ?_
  rcases j with _ | _ | _ | j
  · cases hj; cases hx; exact h0
  · cases hj; cases hx; exact h1
  · cases hj; cases hx; exact h2
  · simp at hj
end Go.Proofs.Ytmibmodibicibaa
