/-
  A byte of a constant string. No program in sight.
-/
import Derived.Test.YtiggambibcohcaaAvO
namespace Go.Proofs.Ytiggambibcohcaa
open Go.RowKit Go.Lib
set_option linter.unusedSimpArgs false
set_option linter.unusedVariables false
section
variable {P : Program} {o : Oper} {σ : St} {K : St → Prop}
theorem opA_index_str {t : TypeId} {x i : Operand} {s : ByteArray} {k : IntKind} {m : Int} {b : UInt8} (ho : o.op = .index t x i) (hx : okConst x = true) (hi0 : okConst i = true) (h1 : σ.ev x = .c (.v (.string s))) (hi : σ.ev i = .c (.v (.int k m))) (ht : P.underlying t = some .string)
    (hb : (if 0 ≤ m then s[m.toNat]? else none) = some b) (hK : K (σ.put o.dst (.c (.v (.int .u8 (b.toNat : Int)))))) : OpA P o σ K :=
  opA_val _ hK fun E ι a w h => by
    have hxv := h.ev x hx
    rw [h1] at hxv
    obtain ⟨ex, _⟩ := hxv.v_inv
    have hiv := h.ev i hi0
    rw [hi] at hiv
    obtain ⟨ei, _⟩ := hiv.v_inv
    refine ⟨.int .u8 (b.toNat : Int), ?_, .c _ _ (.v _ rfl)⟩
    simp [execOp, ho, ex, ei, Instr.index, run_underlying ht, asIntOf_int, hb]
/-- an element of a row's part, in a region that draws -/
theorem opF_index_cut {t r e sz lo n c : Nat} {ex : Bool} {x i : Operand} {k : IntKind} {m : Int} (ho : o.op = .indexAddr t x i) (hx : okConst x = true) (hi0 : okConst i = true) (h1 : σ.ev x = .cut r e sz lo n c ex) (hi : σ.ev i = .c (.v (.int k m))) (hs : (slcT P t).map (fun p => p.2.1) = some sz)
    (hb : 0 ≤ m ∧ m < n) : OpF P o σ.ev (hget σ.H) (.ptr r ((lo + m.toNat) * sz)) [] [] :=
  fun τ hA hQ => by
    refine opA_index_cut ho hx hi0 (by rw [hA x (by rw [ho]; simp [Op.operands])]; exact h1) (by rw [hA i (by rw [ho]; simp [Op.operands])]; exact hi) hs hb ?_
    cases o.dst <;> rfl
end
end Go.Proofs.Ytiggambibcohcaa
