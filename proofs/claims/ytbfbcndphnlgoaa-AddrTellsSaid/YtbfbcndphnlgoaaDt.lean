/-
  The law AddrTells.
-/
import Derived.Test.YtbfbcndphnlgoaaDr
import Derived.Test.YtbfbcndphnlgoaaDv
namespace Go.Proofs.Ytbfbcndphnlgoaa
open Go.RowKit
set_option linter.unusedVariables false
set_option linter.unusedSimpArgs false
theorem law_tells {a t : Nat} {l : List Nat} {v1 v2 : Value} {W : World} (ha : a < 18446744073709551616) (h1 : RV (fun _ => True) (fun _ => (0, 0, 0)) W v1 (wN t)) (h2 : RV (fun _ => True) (fun _ => (0, 0, 0)) W v2 (bsl false l)) (g2 : l.length ≤ maxLen ∧ ∀ b ∈ l, b < 256) : Calls Try.prog 7 #[.int .u64 (a : Int), v1, v2] W (RetT W true) := by
  refine Fn.law (tells_fn a ha (l0 t) (l1 t) (l2 t) (l3 t) false l g2.2) (vs := [_, _, _]) rfl fun j v x hj hx => ?_
  rcases j with _ | _ | _ | j
  · cases hj; cases hx; exact .c _ _ (.v _ rfl)
  · cases hj; cases hx; exact h1
  · cases hj; cases hx; exact h2
  · simp at hj
end Go.Proofs.Ytbfbcndphnlgoaa
