/-
  The law StateOne, walked.
-/
import Derived.Test.YtiggambibcohcaaSy
import Derived.Test.YtiggambibcohcaaTe
namespace Go.Proofs.Ytiggambibcohcaa
open Go.RowKit
open Nat (reduceBEq)
set_option linter.unusedVariables false
set_option linter.unusedSimpArgs false
set_option maxRecDepth 20000
set_option maxHeartbeats 2000000
theorem okl_few {L : List Ac} (ok : ∀ x ∈ L, x.ok) : Okl (fewL L) := by
  refine ⟨by unfold fewL; rw [List.length_map, List.length_take]; omega, fun y hy => ?_⟩
  unfold fewL at hy
  obtain ⟨x, hx, rfl⟩ := List.mem_map.1 hy
  obtain ⟨u1, u2, u3, ⟨u4, u5⟩, u6, u7⟩ := ok x (List.mem_of_mem_take hx)
  exact ⟨⟨u1, u2, u3, ⟨by show (x.code.take 201).length ≤ maxLen; rw [List.length_take]; omega, fun c hc => u5 c (List.mem_of_mem_take hc)⟩, by show (x.store.take 25).length ≤ maxLen; rw [List.length_take]; omega, fun p hp => u7 p (List.mem_of_mem_take hp)⟩, by show (x.code.take 201).length ≤ 1000000; rw [List.length_take]; omega, by show (x.store.take 25).length ≤ 1000000; rw [List.length_take]; omega⟩
theorem decV_state : DecV Try.prog 38 1 (fun l : List Ac => [PV.sl false 8 l.length (l.flatMap Ac.pv)]) (fun l => l.length ≤ maxLen ∧ ∀ h ∈ l, h.ok) :=
  decV_struct Try.underlying38 (by kernel_rfl) (decF_one decV_accounts rfl)
end Go.Proofs.Ytiggambibcohcaa

