/-
  The law OctetKeeps at what was read.
-/
import Derived.Test.YtagkcmoloceheaaDoorZf
import Derived.Test.YtagkcmoloceheaaDoorRv
import Derived.Test.YtagkcmoloceheaaDoorRow
namespace Go.Proofs.YtagkcmoloceheaaDoor
open Go.RowKit
set_option linter.unusedVariables false
set_option linter.unusedSimpArgs false
set_option maxRecDepth 20000
theorem decVU : DecV Tryd.prog 5 1 upv (fun _ => True) :=
  (Dec.toV (dec_u8 Tryd.underlying5 (by kernel_rfl)) (fun _ => rfl) (fun a u hu => by
    simp only [List.mem_singleton] at hu
    subst hu
    rfl)).map fun b _ => ⟨b, rfl, trivial⟩
theorem decVUs : DecV Tryd.prog 25 1 (fun l : List UInt8 => [.sl false 1 l.length (l.flatMap upv)]) (fun l => l.length ≤ maxLen ∧ ∀ b ∈ l, True) :=
  decV_slice Tryd.underlying25 (by kernel_rfl) decVU (by omega) upv_len
theorem law_keeps_calls {l : List UInt8} {x : Nat} {n : Int} {v0 : Value} {W : World} (h0 : RV (fun _ => True) (fun _ => (0, 0, 0)) W v0 (usl false l)) (hx : x < 18446744073709551616) : Calls Tryd.prog 4 #[v0, .int .u64 (x : Int), .int .i64 n] W (RetT W true) := by
  refine Fn.law (keeps_walk l x hx n) (vs := [_, _, _]) rfl fun i v y hi hy => ?_
  rcases i with _ | _ | _ | i
  · cases hi; cases hy; exact h0
  · cases hi; cases hy; exact rvI _ _ _
  · cases hi; cases hy; exact rvI _ _ _
  · simp at hi
end Go.Proofs.YtagkcmoloceheaaDoor
