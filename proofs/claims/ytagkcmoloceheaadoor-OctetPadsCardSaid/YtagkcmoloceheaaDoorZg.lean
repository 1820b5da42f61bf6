/-
  How rows of bytes and their rows are read; the two laws at what was read.
-/
import Derived.Test.YtagkcmoloceheaaDoorZe
import Derived.Test.YtagkcmoloceheaaDoorRv
import Derived.Test.YtagkcmoloceheaaDoorRow
namespace Go.Proofs.YtagkcmoloceheaaDoor
open Go.RowKit
set_option linter.unusedVariables false
set_option linter.unusedSimpArgs false
set_option maxRecDepth 20000
theorem decVU : DecV Tryd.prog 5 1 upv (fun _ => True) :=
  (Dec.toV (dec_u8 Tryd.underlying5 (by kernel_rfl)) (fun _ => rfl) (fun a u hu => by
    simp only [List.mem_singleton] at hu
    subst hu
    rfl)).map fun b _ => ⟨b, rfl, trivial⟩
theorem decVUs : DecV Tryd.prog 25 1 (fun l : List UInt8 => [.sl false 1 l.length (l.flatMap upv)]) (fun l => l.length ≤ maxLen ∧ ∀ b ∈ l, True) :=
  decV_slice Tryd.underlying25 (by kernel_rfl) decVU (by omega) upv_len
theorem law_pads_calls {L : List (List UInt8)} {ns : List Int} {v0 v1 : Value} {W : World} (h0 : RV (fun _ => True) (fun _ => (0, 0, 0)) W v0 (rowA L)) (g0 : L.length ≤ maxLen) (h1 : RV (fun _ => True) (fun _ => (0, 0, 0)) W v1 (intsA ns)) (g1 : ns.length ≤ maxLen ∧ ∀ n ∈ ns, -9223372036854775808 ≤ n ∧ n ≤ 9223372036854775807) : Calls Tryd.prog 3 #[v0, v1] W (RetT W true) := by
  refine Fn.law (pads_walk L g0 ns g1.1 g1.2) (vs := [_, _]) rfl fun i v x hi hx => ?_
  rcases i with _ | _ | i
  · cases hi; cases hx; exact h0
  · cases hi; cases hx; exact h1
  · simp at hi
theorem decVRows : DecV Tryd.prog 22 1 (fun L : List (List UInt8) => [.sl false 1 L.length (L.flatMap rpv)]) (fun L => L.length ≤ maxLen ∧ ∀ l ∈ L, l.length ≤ maxLen ∧ ∀ b ∈ l, True) :=
  decV_slice Tryd.underlying22 (by kernel_rfl) decVUs (by omega) rpv_len
theorem decVI : DecV Tryd.prog 3 1 ipv (fun n => -9223372036854775808 ≤ n ∧ n ≤ 9223372036854775807) :=
  (Dec.toV (dec_i64 Tryd.underlying3 (by kernel_rfl)) (fun _ => rfl) (fun a u hu => by
    simp only [List.mem_singleton] at hu
    subst hu
    rfl)).map fun b hb => ⟨b, rfl, hb⟩
theorem decVIs : DecV Tryd.prog 23 1 (fun l : List Int => [.sl false 1 l.length (l.flatMap ipv)]) (fun l => l.length ≤ maxLen ∧ ∀ n ∈ l, -9223372036854775808 ≤ n ∧ n ≤ 9223372036854775807) :=
  decV_slice Tryd.underlying23 (by kernel_rfl) decVI (by omega) ipv_len
end Go.Proofs.YtagkcmoloceheaaDoor
