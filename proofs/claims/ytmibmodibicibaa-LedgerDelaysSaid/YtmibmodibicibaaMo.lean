/-
  The law LedgerDelays.
-/
import Derived.Test.YtmibmodibicibaaMn
import Derived.Test.YtmibmodibicibaaLv
namespace Go.Proofs.Ytmibmodibicibaa
open Go.RowKit
set_option linter.unusedVariables false
set_option linter.unusedSimpArgs false
theorem law_delays {l : List Hd} {ds : List Dd} {v0 v1 : Value} {W : World} (h0 : RV (fun _ => True) (fun _ => (0, 0, 0)) W v0 (lg false l)) (g0 : l.length ≤ maxLen ∧ ∀ n ∈ l, n.ok) (h1 : RV (fun _ => True) (fun _ => (0, 0, 0)) W v1 (dsl ds)) (g1 : ds.length ≤ maxLen ∧ ∀ D ∈ ds, D.ok) : Calls Try.prog 5 #[v0, v1] W (RetT W true) := by
  refine Fn.law (delays_fn l g0.1 g0.2 ds g1.2) (vs := [_, _]) rfl fun j v x hj hx => ?_
  rcases j with _ | _ | j
  · cases hj; cases hx; exact h0
  · cases hj; cases hx; exact h1
  · simp at hj
end Go.Proofs.Ytmibmodibicibaa
