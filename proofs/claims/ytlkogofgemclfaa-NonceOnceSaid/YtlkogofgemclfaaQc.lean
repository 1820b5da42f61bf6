/-
  The law NonceOnce.
-/
import Derived.Test.YtlkogofgemclfaaQb
import Derived.Test.YtlkogofgemclfaaRv
namespace Go.Proofs.Ytlkogofgemclfaa
open Go.RowKit
set_option linter.unusedVariables false
set_option linter.unusedSimpArgs false
theorem decV_ats1 : DecV Try.prog 23 1 (fun l : List A5 => [PV.sl false 5 l.length (l.flatMap A5.pv)]) (fun l => l.length ≤ maxLen ∧ ∀ n ∈ l, n.ok) :=
  decV_slice Try.underlying23 (by kernel_rfl) decV_a5 (by omega) (fun _ => rfl)
theorem law_once {l : List A5} {v0 : Value} {W : World} (h0 : RV (fun _ => True) (fun _ => (0, 0, 0)) W v0 (asl false l)) (g0 : l.length ≤ maxLen ∧ ∀ n ∈ l, n.ok) : Calls Try.prog 6 #[v0] W (RetT W true) := by
  refine Fn.law (once_fn false l g0.1 g0.2) (vs := [_]) rfl fun j v x hj hx => ?_
  rcases j with _ | j
  · cases hj; cases hx; exact h0
  · simp at hj
end Go.Proofs.Ytlkogofgemclfaa
