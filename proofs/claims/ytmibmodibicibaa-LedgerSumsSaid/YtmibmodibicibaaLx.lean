/-
  The law LedgerSums.
-/
import Derived.Test.YtmibmodibicibaaLu
import Derived.Test.YtmibmodibicibaaLv
namespace Go.Proofs.Ytmibmodibicibaa
open Go.RowKit
set_option linter.unusedVariables false
set_option linter.unusedSimpArgs false
theorem law_sums {l : List Hd} {ds : List Dd} {v0 v1 : Value} {a : Int} {W : World} (h0 : RV (fun _ => True) (fun _ => (0, 0, 0)) W v0 (lg false l)) (g0 : l.length ≤ maxLen ∧ ∀ n ∈ l, n.ok) (h1 : RV (fun _ => True) (fun _ => (0, 0, 0)) W v1 (dsl ds)) (g1 : ds.length ≤ maxLen ∧ ∀ D ∈ ds, D.ok) : Calls Try.prog 4 #[v0, v1, .int .u64 a] W (RetT W true) := by
  refine Fn.law (sums_fn l g0.1 g0.2 ds g1.2 a) (vs := [_, _, _]) rfl fun j v x hj hx => ?_
  rcases j with _ | _ | _ | j
  · cases hj; cases hx; exact h0
  · cases hj; cases hx; exact h1
  · cases hj; cases hx; exact .c _ _ (.v _ rfl)
  · simp at hj
end Go.Proofs.Ytmibmodibicibaa
