/-
  A slice of nothing made anew, by value. No program in sight.
-/
import Derived.Test.YtagkcmoloceheaaDoorAvO
namespace Go.Proofs.YtagkcmoloceheaaDoor
open Go.RowKit
set_option linter.unusedSimpArgs false
set_option linter.unusedVariables false
section
variable {P : Program} {o : Oper} {σ : St} {K : St → Prop}
theorem opA_buildSlice_none {t : TypeId} {e sz by_ : Nat} (ho : o.op = .buildSlice t 0 #[]) (hs : slcZ P t = some (e, sz, by_))
    (hK : K (σ.put o.dst (.c (.sl true sz 0 [])))) : OpA P o σ K := by
  intro E ι a w h K' Q hK'
  obtain ⟨hu, i, zv, hi, hiz, hsize, hbytes, hzs⟩ := slcZ_spec hs
  have hex : (execOp a.eval o).run P w = .ok (.value (.slice (some ⟨w.heap.size, 0, none⟩) 0 0)) (w.alloc (.cells #[] e)) := by
    simp [execOp, ho, Instr.buildSlice, run_underlying hu, sizeOf, typeInfo, hi, hsize, newRow, Instr.fill]
    have : ∀ f : Nat → Value, Array.map f (Array.range 0) = #[] := fun f => by apply Array.ext'; simp
    rw [this]
  have hcn := h.alloc (.cells #[] e)
  unfold Oper.wp
  rw [hex]
  exact hK' ι _ _ _ hK (hcn.put o.dst (.c _ _ (.sl true sz _ 0 0 [] [] (Nat.le_refl _) (Nat.zero_le _) (fun h => by cases h) (fun _ => rfl) rfl (by simp) (fun h => absurd rfl h) fun j u x hu hx => by cases hu)))
theorem opF_buildSlice_none {t : TypeId} {e sz by_ : Nat} (ho : o.op = .buildSlice t 0 #[]) (hs : slcZ P t = some (e, sz, by_)) : OpF P o σ.ev (hget σ.H) (.c (.sl true sz 0 [])) [] [] :=
  fun τ hA hQ => by
    refine opA_buildSlice_none ho hs ?_
    cases o.dst <;> rfl
end
end Go.Proofs.YtagkcmoloceheaaDoor
