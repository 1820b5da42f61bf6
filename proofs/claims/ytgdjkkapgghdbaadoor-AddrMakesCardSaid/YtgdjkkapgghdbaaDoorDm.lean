/-
  A row made, of noughts. No program in sight.
-/
import Derived.Test.YtgdjkkapgghdbaaDoorAvO
import Derived.Deep.OwnRows
namespace Go.Proofs.YtgdjkkapgghdbaaDoor
open Go.RowKit Go.Lib
set_option linter.unusedSimpArgs false
set_option linter.unusedVariables false
section
variable {P : Program} {o : Oper} {σ : St} {K : St → Prop}
theorem refsL_one {d : Nat} (z : Value) : ∀ n, AV.refsL d (List.replicate n (.c (.v z))) = false
  | 0 => rfl
  | n + 1 => by
    rw [List.replicate_succ]
    unfold AV.refsL
    rw [refsL_one z n]
    rfl
theorem opA_make {d n : Nat} {t e by_ : Nat} {l c : Operand} {kl kc : IntKind} {L C : Int} {z : Value} (ho : o.op = .makeSlice t l c) (hl0 : okConst l = true) (hc0 : okConst c = true) (hs : slcZ P t = some (e, 1, by_)) (hz : (P.info? e).bind (·.zero) = some z) (hz1 : z.cells = #[z]) (h1 : z.oneCell' = true)
    (hl : σ.ev l = .c (.v (.int kl L))) (hc : σ.ev c = .c (.v (.int kc C))) (hL : L = (n : Int)) (hC : C = (n : Int)) (hby : by_ * n ≤ 281474976710656) (hn0 : 0 < n) (hn : n ≤ maxLen) (hd : o.dst = some d) (hfr : σ.free d = true) (hd2 : d < 1000)
    (hK : K ((St.mk σ.T (hput σ.H d (List.replicate n (.c (.v z))))).put o.dst (.row d e 1 n))) : OpA P o σ K := by
  subst hL hC
  refine opA_new (.row d e 1 n) hd hfr hd2 ?_ hK fun E ι a w h => ?_
  · exact refsL_one z n
  · obtain ⟨hu, i, zv, hi, hiz, hsize, hbytes, hzs, _⟩ := slcZ_spec hs
    have hvz : zv = z := by
      rw [hi] at hz
      simp only [Option.bind_some, hiz, Option.some.injEq] at hz
      exact hz
    subst hvz
    have hlv := h.ev l hl0
    rw [hl] at hlv
    obtain ⟨el, _⟩ := hlv.v_inv
    have hcv := h.ev c hc0
    rw [hc] at hcv
    obtain ⟨ec, _⟩ := hcv.v_inv
    have hrun := run_make_row (P := P) t e i zv hu hi hiz hsize hz1 kl kc n (by rw [hbytes]; exact hby) (by unfold maxLen at hn; omega) w
    have hcells : (madeCells #[zv] n).toList = List.replicate n zv := toList_madeCells_one zv n
    have hsz : (madeCells #[zv] n).size = n := by rw [← Array.length_toList, hcells, List.length_replicate]
    refine ⟨.slice (some ⟨w.heap.size, 0, none⟩) n n, madeCells #[zv] n, e, ?_, by rw [List.length_replicate, hsz]; exact Nat.le_refl _, fun j u x hu' hx => ?_, fun u hu' => ?_, fun S ι' w' hι => ?_⟩
    · rw [execOp]
      simp only [ho, el, ec, Sem.run_bind, hrun, Result.andThen_ok, Sem.run_pure]
    · rw [← Array.getElem?_toList, hcells, List.getElem?_replicate] at hu'
      rw [List.getElem?_replicate] at hx
      by_cases hj : j < n
      · rw [if_pos hj] at hu' hx
        cases hu'
        cases hx
        exact ⟨.c _ _ (.v _ h1), h1⟩
      · rw [if_neg hj] at hu'
        cases hu'
    · rw [hcells] at hu'
      rw [List.eq_of_mem_replicate hu']
      exact h1
    · have := RV.row (S := S) (ι := ι') (w := w') d e 1 n n (Nat.le_refl _) hn (by rw [hι]; simp [hsz]) (by rw [hι]) (by rw [hι]; simp [hsz]; omega)
      rwa [hι] at this
end
end Go.Proofs.YtgdjkkapgghdbaaDoor

