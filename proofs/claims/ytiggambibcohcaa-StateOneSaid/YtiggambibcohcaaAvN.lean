/-
  One step of a reckoning at a time. No program in sight.
-/
import Derived.Test.YtiggambibcohcaaAvM
namespace Go.Proofs.Ytiggambibcohcaa
open Go.RowKit
set_option linter.unusedSimpArgs false
set_option linter.unusedVariables false
section
variable {P : Program} {ops : Array Oper} {o : Oper} {rest : List Oper} {σ : St} {K : St → Prop} {Φ : Exit → St → Prop}
theorem evL_nil (h : K σ) : evL P ops [] σ K := h
theorem OpA_mono' {K1 : St → Prop} (h : OpA P o σ K) (hk : ∀ σ, K σ → K1 σ) : OpA P o σ K1 := h.mono hk
theorem evL_one (hg : o.guard = none) (h : ∀ K', (∀ σ', evL P ops rest σ' K → K' σ') → evO P o σ K') : evL P ops (o :: rest) σ K := by
  unfold evL
  rw [hg]
  exact evO_sound (h _ fun _ h => h)
theorem evL_op (hg : o.guard = none) (h : ∀ K', (∀ σ', evL P ops rest σ' K → K' σ') → OpA P o σ K') : evL P ops (o :: rest) σ K := by
  unfold evL
  rw [hg]
  exact h _ fun _ h => h
theorem evL_grd {j d : Nat} {want b : Bool} (hg : o.guard = some (j, want)) (hd : (ops[j]?).bind (·.dst) = some d) (hb : σ.T.getD d .any = .c (.v (.bool b)))
    (h1 : b = want → ∀ K', (∀ σ', evL P ops rest σ' K → K' σ') → evO P o (σ.put (some d) (.c (.v (.bool want)))) K')
    (h2 : b = !want → evL P ops rest ((σ.put (some d) (.c (.v (.bool !want)))).put o.dst (.tup [])) K) : evL P ops (o :: rest) σ K := by
  unfold evL
  simp only [hg, hd, hb]
  exact ⟨fun e => evO_sound (h1 e _ fun _ h => h), h2⟩
/-- a guard whose operation was not wanted -/
theorem evL_unmet {j d : Nat} {want : Bool} (hg : o.guard = some (j, want)) (hd : (ops[j]?).bind (·.dst) = some d) (hb : σ.T.getD d .any = .tup []) (h : evL P ops rest (σ.put o.dst (.tup [])) K) : evL P ops (o :: rest) σ K := by
  unfold evL
  simp only [hg, hd, hb]
  exact h
theorem evC_region {id : Nat} {l : List Oper} (h : ∀ K, (∀ σ', Φ .normal σ' → K σ') → evL P l.toArray l σ K) : evC P (.region id l.toArray false) σ Φ := by
  unfold evC
  exact h _ fun _ h => h
theorem evC_seq {x y : Code} (h : ∀ Ψ : Exit → St → Prop, (∀ σ', evC P y σ' Φ → Ψ .normal σ') → (∀ ex σ', ex ≠ .normal → Φ ex σ' → Ψ ex σ') → evC P x σ Ψ) : evC P (.seq x y) σ Φ := by
  unfold evC
  refine h _ (fun _ h => h) fun ex σ' hne h => ?_
  cases ex <;> first | exact absurd rfl hne | exact h
theorem evC_block {id : Nat} {x : Code} (h : ∀ Ψ : Exit → St → Prop, (∀ σ', Φ .normal σ' → Ψ (.exit id) σ') → (∀ ex σ', (∀ j, ex = .exit j → j ≠ id) → Φ ex σ' → Ψ ex σ') → evC P x σ Ψ) : evC P (.block id x) σ Φ := by
  unfold evC
  refine h _ (fun _ h => ?_) fun ex σ' hne h => ?_
  · simp only [if_true]; exact h
  · cases ex <;> first | exact h | (simp only; rw [if_neg (hne _ rfl)]; exact h)
theorem evC_cond {c : Operand} {x y : Code} {t : Bool} (hc : okConst c = true) (ht : σ.ev c = .c (.v (.bool t))) (h1 : t = true → evC P x σ Φ) (h2 : t = false → evC P y σ Φ) : evC P (.cond c x y) σ Φ := by
  unfold evC
  rw [ht]
  exact ⟨hc, h1, h2⟩
theorem evC_exit {id : Nat} (h : Φ (.exit id) σ) : evC P (.exit id) σ Φ := h
theorem evC_ret (h : Φ .ret σ) : evC P .ret σ Φ := h
theorem evC_skip (h : Φ .normal σ) : evC P .skip σ Φ := h
/-- a loop in a body -/
theorem evC_loop {c : Code} {α : Type} (I : α → St) (μ : α → Nat) (x0 : α) (h0 : σ.le (I x0))
    (round : ∀ x, ∀ Ψ : Exit → St → Prop, (∀ σ' y, μ y < μ x → σ'.le (I y) → Ψ .normal σ') → (∀ ex σ', ex ≠ .normal → Φ ex σ' → Ψ ex σ') → evC P c (I x) Ψ) : evC P (.loop c) σ Φ := by
  unfold evC
  refine AW.loop I μ x0 h0 fun x => round x _ (fun σ' y hlt hle => ⟨y, hlt, hle⟩) fun ex σ' hne h => ?_
  cases ex <;> first | exact absurd rfl hne | exact h
/-- less may be known at any place -/
theorem evC_weak {c : Code} {τ : St} (hle : σ.le τ) (h : AW P c τ Φ) : AW P c σ Φ := h.weak hle
end
end Go.Proofs.Ytiggambibcohcaa
