/-
  How rows of states, of addresses and of words are read; the law StateTells.
-/
import Derived.Test.YtcbaaibkkfnfmaaVe
namespace Go.Proofs.Ytcbaaibkkfnfmaa
open Go.RowKit
set_option linter.unusedVariables false
set_option linter.unusedSimpArgs false
set_option maxRecDepth 20000
theorem decV_words : DecV Try.prog 24 1 (fun l : List Nat => [PV.sl false 4 l.length (l.flatMap wpv)]) (fun l => l.length ≤ maxLen ∧ ∀ a ∈ l, a < WW) :=
  decV_slice Try.underlying24 (by kernel_rfl) decV_word (by omega) wpv_len
theorem decV_addrs : DecV Try.prog 23 1 (fun l : List Int => [PV.sl false 1 l.length (l.flatMap apv)]) (fun l => l.length ≤ maxLen ∧ ∀ a ∈ l, U a) :=
  decV_slice Try.underlying23 (by kernel_rfl) decV_addr (by omega) apv_len
theorem decV_states : DecV Try.prog 22 1 (fun X : List (List Ac) => [PV.sl false 1 X.length (X.flatMap sspv)]) (fun X => X.length ≤ maxLen ∧ ∀ L ∈ X, L.length ≤ maxLen ∧ ∀ x ∈ L, x.ok) :=
  decV_slice Try.underlying22 (by kernel_rfl) decV_state (by omega) sspv_len
theorem law_tells {X : List (List Ac)} {am : List Int} {ks : List Nat} {v0 v1 v2 : Value} {W : World} (h0 : RV (fun _ => True) (fun _ => (0, 0, 0)) W v0 (ssl false X)) (g0 : X.length ≤ maxLen ∧ ∀ L ∈ X, L.length ≤ maxLen ∧ ∀ x ∈ L, x.ok)
    (h1 : RV (fun _ => True) (fun _ => (0, 0, 0)) W v1 (asl false am)) (g1 : am.length ≤ maxLen ∧ ∀ a ∈ am, U a) (h2 : RV (fun _ => True) (fun _ => (0, 0, 0)) W v2 (wsl false ks)) (g2 : ks.length ≤ maxLen ∧ ∀ a ∈ ks, a < WW) : Calls Try.prog 3 #[v0, v1, v2] W (RetT W true) := by
  refine Fn.law (state_tells_fn false false false X g0.1 g0.2 am g1.1 g1.2 ks g2.1 g2.2) (vs := [_, _, _]) rfl fun j v x hj hx => ?_
  rcases j with _ | _ | _ | j
  · cases hj; cases hx; exact h0
  · cases hj; cases hx; exact h1
  · cases hj; cases hx; exact h2
  · simp at hj
end Go.Proofs.Ytcbaaibkkfnfmaa

