/-
  Bodies with labels that nothing jumps to. No program in sight.
-/
import Derived.Test.YtiggambibcohcaaAvT
import Derived.Scope
namespace Go.Proofs.Ytiggambibcohcaa
open Go.RowKit
set_option linter.unusedSimpArgs false
set_option linter.unusedVariables false
theorem evC_label {P : Program} {σ : St} {Φ : Exit → St → Prop} {l : Nat} (h : Φ .normal σ) : evC P (.label l) σ Φ := by
  unfold evC
  exact fun E ι a w hc => wp_label ⟨ι, σ, hc, h⟩
theorem evC_scope {P : Program} {c : Code} {σ : St} {Φ : Exit → St → Prop} (h : ∀ Ψ : Exit → St → Prop, (∀ σ', Φ .normal σ' → Ψ .normal σ') → (∀ ex σ', (∀ j, ex = .goto j → False) → Φ ex σ' → Ψ ex σ') → evC P c σ Ψ) : evC P (.scope c) σ Φ := by
  unfold evC
  intro E ι a w hc
  refine wp_scope_straight ?_
  refine wp_mono (evC_sound c σ _ (h (fun ex σ' => (∀ j, ex = .goto j → False) ∧ Φ ex σ') (fun σ' h => ⟨fun j hj => (by cases hj), h⟩) fun ex σ' hg h => ⟨hg, h⟩) E ι a w hc) fun ex a' w' => ?_
  rintro ⟨ι', σ', hc', hg, hΦ⟩
  cases ex <;> first | exact ⟨ι', σ', hc', hΦ⟩ | exact (hg _ rfl).elim
end Go.Proofs.Ytiggambibcohcaa
