/-
  States told otherwise: less of them, under other names, of rows of nothing, of blocks that only are read. Loops over such. No program in sight.
-/
import Derived.Test.YtiggambibcohcaaAvW
namespace Go.Proofs.Ytiggambibcohcaa
open Go.RowKit Go.Lib
set_option linter.unusedSimpArgs false
set_option linter.unusedVariables false

/-- whatever fits the one fits the other, under some names -/
def St.to (σ τ : St) : Prop := ∀ (E : Env) (ι : Nat → Nat × Nat × Nat) (a : Act) (w : World), Conc E ι σ a w → ∃ ι', Conc E ι' τ a w
theorem St.to.of_le {σ τ : St} (h : σ.le τ) : σ.to τ := fun E ι a w hc => ⟨ι, hc.le h⟩
theorem St.to.trans {σ τ ρ : St} (h : σ.to τ) (k : τ.to ρ) : σ.to ρ := fun E ι a w hc => by
  obtain ⟨ι', hc'⟩ := h E ι a w hc
  exact k E ι' a w hc'
theorem St.to.frz {σ : St} (r : Nat) {pcs : List PV} (hr : hget σ.H r = some (pcs.map .c)) : σ.to (σ.frz r pcs) := fun E ι a w hc => ⟨ι, hc.frz hr⟩
/-- nothing, as a row of no element -/
theorem St.to.nilrow {σ : St} (i d e sz : Nat) (h1 : σ.T.getD i .any = .c (.v (.slice none 0 0))) (h0 : i < σ.T.length) (hf : σ.free d = true) (hd : d < 1000) : σ.to ⟨σ.T.set i (.row d e sz 0), hput σ.H d []⟩ := fun E ι a w hc' => by
  have hv := hc'.tmp i
  rw [h1] at hv
  obtain ⟨hv, _⟩ := hv.v_inv
  have hg := hc'.grow (w' := w) hf hd (World.grownBy.refl w none) none (fun b hb => by cases hb) (0, 0, e) (cs := []) (fun h => absurd rfl h) rfl (.inl ⟨rfl, rfl⟩)
  refine ⟨_, hg.defers, by simpa using hg.size, fun j => ?_, hg.heap, hg.keep⟩
  by_cases hj : j = i
  · subst hj
    have : (σ.T.set j (.row d e sz 0)).getD j .any = .row d e sz 0 := by simp [List.getD, List.getElem?_set, h0]
    show RV _ _ w _ ((σ.T.set j (.row d e sz 0)).getD j .any)
    rw [this, hv]; exact .rnil none d e sz (by rw [upd_same])
  · have : (σ.T.set i (.row d e sz 0)).getD j .any = σ.T.getD j .any := by simp [List.getD, List.getElem?_set, Ne.symm hj]
    show RV _ _ w _ ((σ.T.set i (.row d e sz 0)).getD j .any)
    rw [this]; exact hg.tmp j
theorem inL_get {N : List Nat} {l : List AV} (h : AV.inNL N l = true) (i : Nat) : AV.inN N (l.getD i .any) = true := by
  rw [List.getD_eq_getElem?_getD]
  cases hi : l[i]? with
  | none => rfl
  | some x => exact inNL_get h i x hi
theorem hget_unren {ρ κ : Nat → Nat} {N : List Nat} (hk : ∀ r ∈ N, κ (ρ r) = r) : ∀ {H : List (Nat × List AV)} {q : Nat} {ds : List AV}, (∀ r ∈ H.map (·.1), r ∈ N) → hget (renH ρ H) q = some ds → ∃ r cs, r ∈ N ∧ q = ρ r ∧ κ q = r ∧ hget H r = some cs ∧ ds = AV.renL ρ cs
  | (k, cs) :: H, q, ds, hN, h => by
    unfold renH at h
    rw [hget_cons] at h
    split at h
    · rename_i e
      subst e; cases h
      have hm := hN k (by simp)
      exact ⟨k, cs, hm, rfl, hk k hm, by rw [hget_cons, if_pos rfl], rfl⟩
    · rename_i hne
      obtain ⟨r, cs', hm, rfl, h2, h3, h4⟩ := hget_unren hk (H := H) (fun r hr => hN r (by simp only [List.map_cons, List.mem_cons]; exact .inr hr)) h
      exact ⟨r, cs', hm, rfl, h2, by rw [hget_cons, if_neg (fun e => hne (by rw [e]))]; exact h3, h4⟩
/-- other names -/
theorem St.to.rn {σ : St} (ρ κ : Nat → Nat) (N : List Nat) (hT : AV.inNL N σ.T = true) (hHk : ∀ r ∈ σ.H.map (·.1), r ∈ N) (hH : inH N σ.H = true) (hk : ∀ r ∈ N, κ (ρ r) = r) (hD : ∀ r ∈ N, ρ r = r ∨ ρ r < 1000) : σ.to ⟨AV.renL ρ σ.T, renH ρ σ.H⟩ := fun E ι a w hc => by
  have hN : ∀ r ∈ N, (fun q => ι (κ q)) (ρ r) = ι r := fun r hr => by simp only; rw [hk r hr]
  have back : ∀ q ds, hget (renH ρ σ.H) q = some ds → ∃ r cs, r ∈ N ∧ q = ρ r ∧ κ q = r ∧ hget σ.H r = some cs ∧ ds = AV.renL ρ cs := fun q ds hq => hget_unren hk hHk hq
  have hS : ∀ b, Sx E ι σ.H b → b < w.heap.size → Sx E (fun q => ι (κ q)) (renH ρ σ.H) b ∧ w.heap[b]? = w.heap[b]? := fun b ⟨h1, h2⟩ _ => ⟨⟨h1, fun q ds hq hz => by
    obtain ⟨r, cs, _, _, hkq, hr, _⟩ := back q ds hq
    simp only [hkq] at hz ⊢
    exact h2 r cs hr hz⟩, rfl⟩
  have hR : ∀ {v : Value} {x : AV}, RV (Sx E ι σ.H) ι w v x → AV.inN N x = true → RV (Sx E (fun q => ι (κ q)) (renH ρ σ.H)) (fun q => ι (κ q)) w v (AV.ren ρ x) := fun hv hx => RV.reren (ι := fun q => ι (κ q)) (κ := ι) (ρ := ρ) hN (hv.mono hS fun _ _ => rfl) hx
  refine ⟨fun q => ι (κ q), hc.defers.mono hS, by rw [renL_length]; exact hc.size, fun i => ?_, ⟨fun q ds hq => ?_, fun q q' ds es hq hq' hne hz1 hz2 => ?_⟩, ⟨hc.keep.os, hc.keep.tape, hc.keep.output, hc.keep.size, hc.keep.block, fun q ds hq => ?_⟩⟩
  · have : (AV.renL ρ σ.T).getD i .any = AV.ren ρ (σ.T.getD i .any) := by
      rw [List.getD_eq_getElem?_getD, List.getD_eq_getElem?_getD, renL_get]
      cases σ.T[i]? <;> rfl
    show RV _ _ w _ ((AV.renL ρ σ.T).getD i .any)
    rw [this]
    exact hR (hc.tmp i) (inL_get hT i)
  · obtain ⟨r, cs, hm, rfl, hkq, hr, rfl⟩ := back q ds hq
    rcases hc.heap.blk r cs hr with ⟨h0, rfl⟩ | ⟨cur, hh, hs, hl, hcc, hone1⟩
    · exact .inl ⟨by simp only [hkq]; exact h0, rfl⟩
    · refine .inr ⟨cur, by simp only [hkq]; exact hh, by simp only [hkq]; exact hs, by rw [renL_length]; exact hl, fun j u y hu hy => ?_, hone1⟩
      rw [renL_get, Option.map_eq_some_iff] at hy
      obtain ⟨x, hx, rfl⟩ := hy
      exact ⟨hR (hcc j u x hu hx).1 (inNL_get (inH_get hH r cs hr) j x hx), (hcc j u x hu hx).2⟩
  · obtain ⟨r, cs, _, rfl, hkq, hr, _⟩ := back q ds hq
    obtain ⟨r', cs', _, rfl, hkq', hr', _⟩ := back q' es hq'
    simp only [hkq] at hz1 ⊢
    simp only [hkq'] at hz2 ⊢
    exact hc.heap.inj r r' cs cs' hr hr' (fun e => hne (by rw [e])) hz1 hz2
  · obtain ⟨r, cs, hm, rfl, hkq, hr, _⟩ := back q ds hq
    obtain ⟨m1, m2⟩ := hc.keep.mine r cs hr
    simp only [hkq]
    rcases hD r hm with e | e2
    · rw [e]; exact ⟨m1, m2⟩
    · refine ⟨fun h => by have := E.hD _ h; omega, fun _ hz => ?_⟩
      by_cases hr2 : r ∈ E.D
      · have m := m1 hr2
        rw [m] at hz ⊢; exact .inr ⟨r, hr2, hz, rfl⟩
      · exact m2 hr2 hz
/-- rows of the call's own in what is handed back: by value, of which nothing is written any more -/
theorem Fn.frzG {P : Program} {f : FuncId} {args : List AV} {H0 : List (Nat × List AV)} {res : AV} {d : Nat} {pcs : List PV} (h : Fn P f args H0 res [(d, pcs.map .c)]) : Fn P f args H0 (AV.frz d pcs res) [] := by
  intro E vs hD hS hH hlen hargs
  refine (h E vs hD hS hH hlen hargs).mono fun e w' => ?_
  rintro ⟨v, ι', rfl, hres, hcH, hk⟩
  have hg : hget [(d, pcs.map AV.c)] d = some (pcs.map AV.c) := by simp [hget_cons]
  have hS1 : ∀ b, Sx E ι' [(d, pcs.map .c)] b → b < w'.heap.size → Sx E ι' [] b := fun b hb _ => ⟨hb.1, fun r cs hr => by cases hr⟩
  have hM : (ι' d).2.1 ≠ 0 → Sx E ι' [] (ι' d).1 := fun hz => ⟨.inr (by
    by_cases hm : d ∈ E.D
    · have m1 := (hk.mine d _ hg).1 hm
      rw [m1] at hz ⊢; exact .inr ⟨d, hm, hz, rfl⟩
    · exact (hk.mine d _ hg).2 hm hz), fun r cs hr => by cases hr⟩
  exact ⟨v, ι', rfl, hres.frz hS1 (hcH.blk d _ hg) hM, ⟨fun r cs hr => (by cases hr), fun r q cs ds hr => (by cases hr)⟩, ⟨hk.os, hk.tape, hk.output, hk.size, hk.block, fun r cs hr => (by cases hr)⟩⟩
section
variable {P : Program}
theorem AW.to {c : Code} {σ τ : St} {Φ : Exit → St → Prop} (h : σ.to τ) (k : AW P c τ Φ) : AW P c σ Φ := fun E ι a w hc => by
  obtain ⟨ι', hc'⟩ := h E ι a w hc
  exact k E ι' a w hc'
theorem OpA.to {o : Oper} {σ τ : St} {K : St → Prop} (h : σ.to τ) (k : OpA P o τ K) : OpA P o σ K := fun E ι a w hc => by
  obtain ⟨ι', hc'⟩ := h E ι a w hc
  exact k E ι' a w hc'
/-- behind an operation the state is told otherwise -/
theorem OpA.then {o : Oper} {σ : St} {K : St → Prop} (h : OpA P o σ fun σ1 => ∃ τ, σ1.to τ ∧ K τ) : OpA P o σ K :=
  fun E ι a w hc K' Q hK' => h E ι a w hc K' Q fun ι' σ' a' w' ⟨τ, ht, hk⟩ hc' => by
    obtain ⟨ι'', hc''⟩ := ht E ι' a' w' hc'
    exact hK' ι'' τ a' w' hk hc''
theorem evL_to {ops : Array Oper} {rest : List Oper} {o : Oper} {σ τ : St} {K : St → Prop} (hg : o.guard = none) (ht : σ.to τ) (h : evL P ops (o :: rest) τ K) : evL P ops (o :: rest) σ K := by
  unfold evL at h ⊢
  rw [hg] at h ⊢
  exact OpA.to ht h
theorem AW.loopT {c : Code} {σ : St} {Φ : Exit → St → Prop} {α : Type} (I : α → St) (μ : α → Nat) (x0 : α) (h0 : σ.to (I x0))
    (round : ∀ x, evC P c (I x) fun ex σ' => match ex with | .normal => ∃ y, μ y < μ x ∧ σ'.to (I y) | ex => Φ ex σ') : AW P (.loop c) σ Φ := by
  intro E ι a w hc b k cs
  have key : ∀ n x ι a w, μ x = n → Conc E ι (I x) a w → ∃ e a' w', (∃ ι' σ', Conc E ι' σ' a' w' ∧ Φ e σ') ∧ Arrives P (lone (b.at a (.code c :: .inLoop c :: k)) cs w) b k cs e a' w' := by
    intro n
    induction n using Nat.strongRecOn with
    | _ n ih =>
      intro x ι a w hn hI
      obtain ⟨e, a₁, w₁, ⟨ι₁, σ₁, hc₁, hq⟩, harr⟩ := evC_sound c (I x) _ (round x) E ι a w hI b (.inLoop c :: k) cs
      cases e with
      | normal =>
        obtain ⟨y, hlt, hle⟩ := hq
        obtain ⟨ι2, hc2⟩ := hle E ι₁ a₁ w₁ hc₁
        obtain ⟨e₂, a₂, w₂, hq₂, harr₂⟩ := ih (μ y) (hn ▸ hlt) y ι2 a₁ w₁ rfl hc2
        exact ⟨e₂, a₂, w₂, hq₂, .of_steps (Steps.trans harr (.one step_inLoop)) harr₂⟩
      | exit id => exact ⟨_, a₁, w₁, ⟨ι₁, σ₁, hc₁, hq⟩, .pass (x := .inLoop c) rfl (fun _ _ => .inl (by simp)) harr⟩
      | goto l => exact ⟨_, a₁, w₁, ⟨ι₁, σ₁, hc₁, hq⟩, .pass (x := .inLoop c) rfl (fun _ _ => .inl (by simp)) harr⟩
      | ret => exact ⟨_, a₁, w₁, ⟨ι₁, σ₁, hc₁, hq⟩, .pass (x := .inLoop c) rfl (fun _ _ => .inl (by simp)) harr⟩
      | panic ch => exact ⟨_, a₁, w₁, ⟨ι₁, σ₁, hc₁, hq⟩, .pass (x := .inLoop c) rfl (fun _ _ => .inl (by simp)) harr⟩
      | outgrown => exact ⟨_, a₁, w₁, ⟨ι₁, σ₁, hc₁, hq⟩, .pass (x := .inLoop c) rfl (fun _ _ => .inl (by simp)) harr⟩
  obtain ⟨ι0, hc0⟩ := h0 E ι a w hc
  obtain ⟨e, a', w', hq, harr⟩ := key _ x0 ι0 a w rfl hc0
  exact ⟨e, a', w', hq, .of_steps (.one step_loop) harr⟩
theorem evC_loopT {c : Code} {σ : St} {Φ : Exit → St → Prop} {α : Type} (I : α → St) (μ : α → Nat) (x0 : α) (h0 : σ.to (I x0))
    (round : ∀ x, ∀ Ψ : Exit → St → Prop, (∀ σ' y, μ y < μ x → σ'.to (I y) → Ψ .normal σ') → (∀ ex σ', ex ≠ .normal → Φ ex σ' → Ψ ex σ') → evC P c (I x) Ψ) : evC P (.loop c) σ Φ := by
  unfold evC
  refine AW.loopT I μ x0 h0 fun x => round x _ (fun σ' y hlt hle => ⟨y, hlt, hle⟩) fun ex σ' hne h => ?_
  cases ex <;> first | exact absurd rfl hne | exact h
/-- a loop whose rounds are told by a number that rises to n -/
theorem evC_uptoT {c : Code} {σ : St} {Φ : Exit → St → Prop} (n : Nat) (I : Nat → St) (h0 : σ.to (I 0))
    (round : ∀ i, i ≤ n → ∀ Ψ : Exit → St → Prop, (∀ σ', i + 1 ≤ n → σ'.to (I (i + 1)) → Ψ .normal σ') → (∀ ex σ', ex ≠ .normal → Φ ex σ' → Ψ ex σ') → evC P c (I i) Ψ) : evC P (.loop c) σ Φ :=
  evC_loopT (α := { i : Nat // i ≤ n }) (fun x => I x.1) (fun x => n - x.1) ⟨0, Nat.zero_le _⟩ h0 fun x Ψ h1 h2 =>
    round x.1 x.2 Ψ (fun σ' hlt hle => h1 σ' ⟨x.1 + 1, hlt⟩ (by have := x.2; simp only; omega) hle) h2
end
theorem Conc.alloc {E : Env} {ι : Nat → Nat × Nat × Nat} {σ : St} {a : Act} {w : World} (h : Conc E ι σ a w) (o : Obj) : Conc E ι σ a (w.alloc o) := by
  have hb : ∀ b, b < w.heap.size → (w.alloc o).heap[b]? = w.heap[b]? := fun b hb => Below.heap_alloc _ _ _ hb
  have hS : ∀ b, Sx E ι σ.H b → b < w.heap.size → Sx E ι σ.H b ∧ (w.alloc o).heap[b]? = w.heap[b]? := fun b h1 h2 => ⟨h1, hb b h2⟩
  have hR : ∀ {v : Value} {x : AV}, RV (Sx E ι σ.H) ι w v x → RV (Sx E ι σ.H) ι (w.alloc o) v x := fun hv => hv.mono hS fun _ _ => rfl
  have hsz : (w.alloc o).heap.size = w.heap.size + 1 := World.size_alloc ..
  refine ⟨h.defers.mono hS, h.size, fun i => hR (h.tmp i), ⟨fun r cs hr => ?_, h.heap.inj⟩, ⟨h.keep.os, h.keep.tape, h.keep.output, by have := h.keep.size; omega, fun b hb' hbD => ?_, h.keep.mine⟩⟩
  · rcases h.heap.blk r cs hr with h0 | ⟨cur, hh, hs, hlen, hc, hone1⟩
    · exact .inl h0
    · exact .inr ⟨cur, (hb _ (Array.getElem?_eq_some_iff.1 hh).1).trans hh, hs, hlen, fun j u x hu hx => ⟨hR (hc j u x hu hx).1, (hc j u x hu hx).2⟩, hone1⟩
  · have := h.keep.size
    rw [hb b (by omega)]; exact h.keep.block b hb' hbD
end Go.Proofs.Ytiggambibcohcaa
