/-
  Maps of the call's own, whose keys are numbers: made, written, read. An operation that writes into a map asks that it was made behind the call's beginning; so the codes are reckoned where the beginning is known. No program in sight.
-/
import Derived.Test.YtgdjkkapgghdbaaDoorAvL
import Derived.Test.YtgdjkkapgghdbaaDoorAvQb
import Derived.MapKept
import Derived.WideKeyMaps
namespace Go.Proofs.YtgdjkkapgghdbaaDoor
open Go.RowKit Go.MapKept
set_option linter.unusedSimpArgs false
set_option linter.unusedVariables false
section
variable {S S' : Nat → Prop} {ι : Nat → Nat × Nat × Nat} {w w' : World}
end
section
variable {E : Env} {ι : Nat → Nat × Nat × Nat} {σ : St} {a : Act} {w : World} {b clk clk' : Nat} {X X' : Array MapEntry}
end

/-! maps from numbers, by lists -/
section
variable {V : Type}
end
section
variable {P : Program} {o : Oper} {σ : St} {K : St → Prop} {V : Type}
end
/-! sets, by lists: maps to bools whose keys are of many cells -/
section
variable {P : Program} {o : Oper} {σ : St} {K : St → Prop} {κ : Type}
end
section
variable {p : Env → Prop} {P : Program} {σ : St} {Φ : Exit → St → Prop}
end
section
variable {p : Env → Prop} {P : Program} {σ : St} {Φ : Exit → St → Prop}
end
theorem Fn.known {P : Program} {f : FuncId} {args : List AV} {H0 H1 : List (Nat × List AV)} {res : AV} (h : ∀ E0, FnW (fun E => E = E0) P f args H0 res H1) : Fn P f args H0 res H1 := fun E vs => h E E vs rfl
end Go.Proofs.YtgdjkkapgghdbaaDoor

