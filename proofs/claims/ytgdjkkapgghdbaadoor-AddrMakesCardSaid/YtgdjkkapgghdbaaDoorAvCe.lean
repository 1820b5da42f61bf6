/-
  A block's cells told with less. No program in sight.
-/
import Derived.Test.YtgdjkkapgghdbaaDoorAvW
import Derived.Test.YtgdjkkapgghdbaaDoorAvO
namespace Go.Proofs.YtgdjkkapgghdbaaDoor
open Go.RowKit
set_option linter.unusedVariables false
set_option linter.unusedSimpArgs false
theorem St.to.cells {σ : St} (r : Nat) {cs ds : List AV} (hr : hget σ.H r = some cs) (hle : leL cs ds) : σ.to ⟨σ.T, hput σ.H r ds⟩ := fun E ι a w hg => by
  refine ⟨ι, ?_⟩
  obtain ⟨hlen0, hle2⟩ := leL_get hle
  have hget' : ∀ q es, hget (hput σ.H r ds) q = some es → (q = r ∧ es = ds) ∨ (q ≠ r ∧ hget σ.H q = some es) := fun q es hq => by
    rw [hget_put] at hq
    split at hq
    · rename_i e; cases hq; exact .inl ⟨e, rfl⟩
    · rename_i e; exact .inr ⟨e, hq⟩
  have hold : ∀ q es, hget (hput σ.H r ds) q = some es → ∃ fs, hget σ.H q = some fs := fun q es hq => by
    rcases hget' q es hq with ⟨rfl, _⟩ | ⟨_, h⟩
    · exact ⟨_, hr⟩
    · exact ⟨_, h⟩
  have hSx : ∀ b, Sx E ι σ.H b → Sx E ι (hput σ.H r ds) b := fun b ⟨g1, g2⟩ => ⟨g1, fun q es hq hz => by
    obtain ⟨fs, hes⟩ := hold q es hq
    exact g2 q fs hes hz⟩
  have hR : ∀ {v : Value} {x : AV}, RV (Sx E ι σ.H) ι w v x → RV (Sx E ι (hput σ.H r ds)) ι w v x := fun hv => hv.mono (fun b hb _ => ⟨hSx b hb, rfl⟩) fun _ _ => rfl
  refine ⟨hg.defers.mono fun b hb _ => ⟨hSx b hb, rfl⟩, hg.size, fun i => hR (hg.tmp i), ⟨fun q es hq => ?_, fun q q' es fs hq hq' => ?_⟩, ⟨hg.keep.os, hg.keep.tape, hg.keep.output, hg.keep.size, hg.keep.block, fun q es hq => ?_⟩⟩
  · rcases hget' q es hq with ⟨rfl, rfl⟩ | ⟨_, h⟩
    · rcases hg.heap.blk q cs hr with ⟨h0, rfl⟩ | ⟨cur, hh, hs, hlen, hcur, hone1⟩
      · exact .inl ⟨h0, List.eq_nil_of_length_eq_zero hlen0.symm⟩
      · refine .inr ⟨cur, hh, hs, by rw [← hlen0]; exact hlen, fun i u x hu hx => ?_, hone1⟩
        have hi : i < cs.length := by rw [hlen0]; exact (List.getElem?_eq_some_iff.1 hx).1
        have hy : cs[i]? = some cs[i] := List.getElem?_eq_getElem hi
        exact ⟨hle2 i _ _ hy hx _ _ _ _ (hR (hcur i u _ hu hy).1), (hcur i u _ hu hy).2⟩
    · rcases hg.heap.blk q es h with h0 | ⟨cur, hh, hs, hlen, hcur, hone1⟩
      · exact .inl h0
      · exact .inr ⟨cur, hh, hs, hlen, fun i u x hu hx => ⟨hR (hcur i u x hu hx).1, (hcur i u x hu hx).2⟩, hone1⟩
  · obtain ⟨ds', h1'⟩ := hold q es hq
    obtain ⟨es', h2'⟩ := hold q' fs hq'
    exact hg.heap.inj q q' ds' es' h1' h2'
  · obtain ⟨ds', h1'⟩ := hold q es hq
    exact hg.keep.mine q ds' h1'
section
variable {P : Program} {o : Oper} {σ : St} {K : St → Prop}
theorem opA_index_ep {t sz n : Nat} {g : Bool} {x i : Operand} {cs : List PV} {k : IntKind} {m : Int} (ho : o.op = .indexAddr t x i) (hx : okConst x = true) (hi0 : okConst i = true) (h1 : σ.ev x = .ep cs) (hi : σ.ev i = .c (.v (.int k m))) (hs : arrT P t = some (n, sz, g))
    (hb : 0 ≤ m ∧ m < n) (hl : m.toNat * sz < cs.length) (hK : K (σ.put o.dst (.ep (cs.drop (m.toNat * sz))))) : OpA P o σ K :=
  opA_val _ hK fun E ι a w h => by
    have hxv := h.ev x hx
    rw [h1] at hxv
    have hiv := h.ev i hi0
    rw [hi] at hiv
    obtain ⟨ei, _⟩ := hiv.v_inv
    generalize he : a.eval x = v at hxv
    unfold arrT at hs
    split at hs
    · rename_i n' e' hu
      split at hs
      · rename_i s' g' hs1 hs2
        simp only [Option.some.injEq, Prod.mk.injEq] at hs
        obtain ⟨rfl, rfl, rfl⟩ := hs
        cases hxv with
        | ep b off us cs hl' hne hS h4 h5 =>
          refine ⟨_, ?_, .ep b (off + m.toNat * s') (us.drop (m.toNat * s')) _ (by simp; omega) (fun e => ?_) hS (fun j u hu => ?_) fun j u x hu hx => ?_⟩
          · simp only [execOp, ho, he, ei, Instr.indexAt, Sem.run_bind, asIntOf_int, run_underlying hu, Result.andThen_ok, Sem.run_pure, Instr.sureAddr, run_szT hs1, Sem.run_ite, if_pos hb, add_none]
          · have := congrArg List.length e; simp at this; omega
          · rw [List.getElem?_drop] at hu; rw [Nat.add_assoc]; exact h4 _ u hu
          · rw [List.getElem?_drop] at hu hx; exact h5 _ u x hu hx
      · cases hs
    · cases hs
theorem opF_index_ep {t sz n : Nat} {g : Bool} {x i : Operand} {cs : List PV} {k : IntKind} {m : Int} (ho : o.op = .indexAddr t x i) (hx : okConst x = true) (hi0 : okConst i = true) (h1 : σ.ev x = .ep cs) (hi : σ.ev i = .c (.v (.int k m))) (hs : arrT P t = some (n, sz, g))
    (hb : 0 ≤ m ∧ m < n) (hl : m.toNat * sz < cs.length) : OpF P o σ.ev (hget σ.H) (.ep (cs.drop (m.toNat * sz))) [] [] := fun τ hA _ => by
  refine opA_index_ep ho hx hi0 (by rw [hA x (by rw [ho]; simp [Op.operands])]; exact h1) (by rw [hA i (by rw [ho]; simp [Op.operands])]; exact hi) hs hb hl ?_
  cases o.dst <;> rfl
end
end Go.Proofs.YtgdjkkapgghdbaaDoor

