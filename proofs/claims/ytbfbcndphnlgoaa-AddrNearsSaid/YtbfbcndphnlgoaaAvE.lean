/-
  A byte of a constant string. No program in sight.
-/
import Derived.Test.YtbfbcndphnlgoaaAvO
namespace Go.Proofs.Ytbfbcndphnlgoaa
open Go.RowKit Go.Lib
set_option linter.unusedSimpArgs false
set_option linter.unusedVariables false
section
variable {P : Program} {o : Oper} {σ : St} {K : St → Prop}
theorem opA_index_str {t : TypeId} {x i : Operand} {s : ByteArray} {k : IntKind} {m : Int} {b : UInt8} (ho : o.op = .index t x i) (hx : okConst x = true) (hi0 : okConst i = true) (h1 : σ.ev x = .c (.v (.string s))) (hi : σ.ev i = .c (.v (.int k m))) (ht : P.underlying t = some .string)
    (hb : (if 0 ≤ m then s[m.toNat]? else none) = some b) (hK : K (σ.put o.dst (.c (.v (.int .u8 (b.toNat : Int)))))) : OpA P o σ K :=
  opA_val _ hK fun E ι a w h => by
    have hxv := h.ev x hx
    rw [h1] at hxv
    obtain ⟨ex, _⟩ := hxv.v_inv
    have hiv := h.ev i hi0
    rw [hi] at hiv
    obtain ⟨ei, _⟩ := hiv.v_inv
    refine ⟨.int .u8 (b.toNat : Int), ?_, .c _ _ (.v _ rfl)⟩
    simp [execOp, ho, ex, ei, Instr.index, run_underlying ht, asIntOf_int, hb]
end
end Go.Proofs.Ytbfbcndphnlgoaa
