/-
  From what is reckoned of a law to its row: arguments that are read, an answer. No program in sight.
-/
import Derived.Test.YtiggambibcohcaaAvT
namespace Go.Proofs.Ytiggambibcohcaa
open Go.RowKit
set_option linter.unusedSimpArgs false
set_option linter.unusedVariables false
theorem RV.of_sl {α : Type} {ι : Nat → Nat × Nat × Nat} {w : World} {B sz n c : Nat} {A : Option Addr} {f : α → List Value} {g : α → List PV} {l : List α} (h : Sl w B sz A n c (sts f l)) (hs : 0 < sz) (hf : ∀ a, (f a).length = sz) (hg : ∀ a, g a = (f a).map .v) (hone : ∀ a, ∀ u ∈ f a, u.oneCell' = true) :
    RV (fun _ => True) ι w (.slice A n c) (.c (.sl false sz l.length (l.flatMap g))) ∧ l.length ≤ maxLen := by
  obtain ⟨h1, h2, h3, h4, h5⟩ := h
  have hl : l.length = n := by
    rw [sts_length f sz hf] at h4
    exact Nat.eq_of_mul_eq_mul_right hs h4
  subst hl
  refine ⟨.c _ _ (.sl false sz A _ c (sts f l) _ h1 h2 h3 (fun e => by cases e) ?_ ?_ (fun hne => ?_) fun j u x hu hx => ?_), Nat.le_trans h1 h2⟩
  · rw [sts_length f sz hf, flat_length (fun a => by rw [hg, List.length_map, hf])]
  · rw [flat_length (fun a => by rw [hg, List.length_map, hf])]
  · obtain ⟨b, o, hA, _, hc⟩ := h5 (Nat.pos_of_ne_zero fun e => hne (List.eq_nil_of_length_eq_zero (by rw [h4, e, Nat.zero_mul])))
    exact ⟨b, o, hA, trivial, hc⟩
  · have e : l.flatMap g = (sts f l).map .v := by
      unfold sts
      rw [List.map_flatMap]
      exact congrArg (fun k => l.flatMap k) (funext hg)
    rw [e, List.getElem?_map, hu] at hx
    cases hx
    refine .v u ?_
    have hm := List.mem_of_getElem? hu
    unfold sts at hm
    rw [List.mem_flatMap] at hm
    obtain ⟨a, _, ha⟩ := hm
    exact hone a u ha
theorem Fn.law {P : Program} {f : FuncId} {args : List AV} {b : Bool} (hF : Fn P f args [] (.c (.v (.bool b))) []) {vs : List Value} {w : World} (hlen : vs.length = args.length) (hargs : ∀ (j : Nat) (v : Value) (x : AV), vs[j]? = some v → args[j]? = some x → RV (fun _ => True) (fun _ => (0, 0, 0)) w v x) :
    Calls P f vs.toArray w (RetT w b) := by
  refine (hF { w := w, S := fun _ => True, ι := fun _ => (0, 0, 0), D := [], hD := fun r hr => (by cases hr) } vs rfl (fun r cs b hr => (by cases hr)) ⟨fun r cs hr => (by cases hr), fun r q cs ds hr => (by cases hr)⟩ hlen hargs).mono fun e w' => ?_
  rintro ⟨v, ι', rfl, hres, _, hk⟩
  obtain ⟨rfl, _⟩ := hres.v_inv
  exact ⟨rfl, hk.os, hk.tape, hk.output, hk.size, fun k hk' => hk.block k hk' fun r hr => by cases hr⟩
end Go.Proofs.Ytiggambibcohcaa
