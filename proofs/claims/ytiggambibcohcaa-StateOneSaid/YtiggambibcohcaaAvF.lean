/-
  Operations over abstract states that make memory or write to it. No program in sight.
-/
import Derived.Test.YtiggambibcohcaaAvD
import Derived.Great.FillDense
import Derived.Great.BuildSlice
namespace Go.Proofs.Ytiggambibcohcaa
open Go.RowKit
set_option linter.unusedSimpArgs false
set_option linter.unusedVariables false

section
variable {P : Program} {o : Oper} {σ : St} {K : St → Prop}
/-- a value and a new block, of the name of the temporary -/
theorem opA_new {d : Nat} (x : AV) {cs : List AV} (hd : o.dst = some d) (hf : σ.free d = true) (hd2 : d < 1000) (hcs : AV.refsL d cs = false)
    (hK : K ((St.mk σ.T (hput σ.H d cs)).put o.dst x))
    (h : ∀ E ι a w, Conc E ι σ a w → ∃ v cur ty, (execOp a.eval o).run P w = .ok (.value v) (w.alloc (.cells cur ty)) ∧ cs.length ≤ cur.size ∧
      (∀ (j : Nat) (u : Value) (x : AV), cur[j]? = some u → cs[j]? = some x → RV (Sx E ι σ.H) ι w u x ∧ u.oneCell' = true) ∧ (∀ u ∈ cur.toList, u.oneCell' = true) ∧
      ∀ S ι' w', ι' d = (w.heap.size, cur.size, ty) → RV S ι' w' v x) : OpA P o σ K := by
  intro E ι a w hc K' Q hK'
  obtain ⟨v, cur, ty, hr, hl, hv, hall, hx⟩ := h E ι a w hc
  unfold Oper.wp
  rw [hr]
  exact hK' _ _ _ _ hK ((hc.new hf hd2 ty hcs hl hv hall).put o.dst (hx _ _ _ upd_same))
theorem zeroT_one {t : TypeId} {z : List Value} (h : z.all (·.oneCell') = true) {S : Nat → Prop} {ι : Nat → Nat × Nat × Nat} {w : World} : RVs S ι w z (z.map fun x => .c (.v x)) :=
  ⟨by simp, fun j u x hu hx => by
    simp only [List.getElem?_map, hu, Option.map_some, Option.some.injEq] at hx
    subst hx
    have := List.all_eq_true.1 h u (List.mem_of_getElem? hu)
    exact ⟨rv_const u this, this⟩⟩
theorem refsL_vals (d : Nat) (z : List Value) : AV.refsL d (z.map fun x => .c (.v x)) = false := by
  induction z with
  | nil => rfl
  | cons x z ih => simp [AV.refsL, AV.refs, ih]
theorem opA_alloc {d : Nat} {t : TypeId} {z : List Value} (ho : o.op = .alloc t) (hd : o.dst = some d) (hf : σ.free d = true) (hd2 : d < 1000) (hz : zeroT P t = some z) (h1 : z.all (·.oneCell') = true)
    (hK : K ((St.mk σ.T (hput σ.H d (z.map fun x => .c (.v x)))).put o.dst (.ptr d 0))) : OpA P o σ K :=
  opA_new (.ptr d 0) hd hf hd2 (refsL_vals d z) hK fun E ι a w h => by
    obtain ⟨v, hv, hcells⟩ := run_zeroT hz w
    have hcs := zeroT_one (t := t) h1 (S := Sx E ι σ.H) (ι := ι) (w := w)
    refine ⟨.pointer (some ⟨w.heap.size, 0, none⟩), v.cells, t, ?_, by rw [← Array.length_toList, hcells]; simp, fun j u x hu hx => hcs.2 j u x (by rw [← hcells]; simpa using hu) hx, by rw [hcells]; exact fun u hu => List.all_eq_true.1 h1 u hu, fun S ι' w' hι => ?_⟩
    · simp [execOp, ho, Instr.alloc, hv, newVar, newRow]
    · have := RV.ptr (S := S) (ι := ι') (w := w') d 0
      rwa [hι] at this
theorem opA_box {d : Nat} {t : TypeId} {x : Operand} {ys : List AV} (ho : o.op = .box t x) (hx : okConst x = true) (hd : o.dst = some d) (hf : σ.free d = true) (hd2 : d < 1000) (hy : (σ.ev x).cells = some ys) (hcs : AV.refsL d ys = false)
    (hK : K ((St.mk σ.T (hput σ.H d ys)).put o.dst (.ptr d 0))) : OpA P o σ K :=
  opA_new (.ptr d 0) hd hf hd2 hcs hK fun E ι a w h => by
    have hv := (h.ev x hx).cells hy
    refine ⟨.pointer (some ⟨w.heap.size, 0, none⟩), (a.eval x).cells, t, ?_, by rw [← Array.length_toList, hv.1]; exact Nat.le_refl _, fun j u x hu hx => hv.2 j u x (by simpa using hu) hx, hv.ones, fun S ι' w' hι => ?_⟩
    · simp [execOp, ho, Instr.box, newVar, newRow]
    · have := RV.ptr (S := S) (ι := ι') (w := w') d 0
      rwa [hι] at this
/-- cells over cells -/
def spl (cs : List AV) (off : Nat) (ys : List AV) : List AV := cs.take off ++ ys ++ cs.drop (off + ys.length)
theorem opA_store {t : TypeId} {p x : Operand} {r off : Nat} {cs ys : List AV} (ho : o.op = .store t p x) (hp0 : okConst p = true) (hx : okConst x = true) (hp : σ.ev p = .ptr r off) (hr : hget σ.H r = some cs) (hy : (σ.ev x).cells = some ys)
    (hs : szT P t = some ys.length) (hle : off + ys.length ≤ cs.length) (h0 : 0 < ys.length) (hd : o.dst = none) (hK : K ⟨σ.T, hput σ.H r (spl cs off ys)⟩) : OpA P o σ K := by
  intro E ι a w hc K' Q hK'
  have hpv := hc.ev p hp0
  rw [hp] at hpv
  have hv := (hc.ev x hx).cells hy
  generalize he : a.eval p = v at hpv
  cases hpv with
  | ptr =>
    rcases hc.heap.blk r cs hr with ⟨_, rfl⟩ | ⟨cur, hh, hsz, hl, hcur, hone1⟩
    · simp only [List.length_nil] at hle; omega
    · have hz : (ι r).2.1 ≠ 0 := by omega
      have hlv : (a.eval x).cells.toList.length = ys.length := hv.1
      have h1 : ∀ v ∈ (a.eval x).cells.toList, v.oneCell' = true := fun v hvm => by
        obtain ⟨j, hj⟩ := List.mem_iff_getElem?.1 hvm
        have hlt := (List.getElem?_eq_some_iff.1 hj).1
        exact (hv.2 j v _ hj (List.getElem?_eq_getElem (by omega))).2
      have hrun := run_storeCells_at P (ι r).1 off _ (a.eval x).cells.toList 0 cur w hh (by rw [hlv]; omega) h1
      have hop : (execOp a.eval o).run P w = .ok .skip (w.setRow (ι r).1 (cur.toList.take (off + 0) ++ (a.eval x).cells.toList ++ cur.toList.drop (off + 0 + (a.eval x).cells.toList.length)).toArray) := by
        have hsz' : (a.eval x).cells.size = ys.length := by rw [← hlv]; simp
        simp only [execOp, ho, he, Instr.storeAt, Instr.sureAddr, storeVar, Sem.run_bind, Sem.run_pure, Result.andThen_ok, run_szT hs, Sem.run_ite, hsz', ne_eq, not_true, if_false, hrun]
      generalize (a.eval x).cells.toList = vl at *
      unfold Oper.wp
      rw [hop]
      have hset := hc.set (ds := spl cs off ys) hr hh hz (new := (cur.toList.take (off + 0) ++ vl ++ cur.toList.drop (off + 0 + vl.length)).toArray)
        (by simp only [Nat.add_zero, List.size_toArray, List.length_append, List.length_take, List.length_drop, Array.length_toList, hlv] at *; omega)
        (by simp only [spl, Nat.add_zero, List.size_toArray, List.length_append, List.length_take, List.length_drop, Array.length_toList, hlv] at *; omega)
        (fun j u x' hu hx' => by
          simp only [Nat.add_zero, List.getElem?_toArray] at hu
          unfold spl at hx'
          simp only [List.getElem?_append, List.length_take, List.getElem?_take, List.getElem?_drop, List.length_append, Array.length_toList] at hu hx'
          have e1 : min off cur.size = off := by omega
          have e2 : min off cs.length = off := by omega
          rw [e1] at hu
          rw [e2] at hx'
          by_cases hj1 : j < off + ys.length
          · rw [if_pos (by omega)] at hu
            rw [if_pos (by omega)] at hx'
            by_cases hj2 : j < off
            · rw [if_pos hj2, if_pos hj2] at hu hx'
              exact hcur j u x' (by simpa using hu) hx'
            · rw [if_neg hj2] at hu hx'
              exact hv.2 _ u x' hu hx'
          · rw [if_neg (by omega)] at hu
            rw [if_neg (by omega)] at hx'
            have e3 : off + vl.length + (j - (off + vl.length)) = j := by omega
            have e4 : off + ys.length + (j - (off + ys.length)) = j := by omega
            rw [e3] at hu
            rw [e4] at hx'
            exact hcur j u x' (by simpa using hu) hx') (fun u hu => by
          simp only [Nat.add_zero, List.append_assoc, List.mem_append] at hu
          rcases hu with hu | hu | hu
          · exact hone1 u (List.mem_of_mem_take hu)
          · exact h1 u hu
          · exact hone1 u (List.mem_of_mem_drop hu))
      have := hK' ι _ (a.put o.dst undef) _ hK (by rw [hd]; exact hset)
      exact this
/-! indexing -/
theorem asIntOf_int (k : IntKind) (n : Int) (w : World) : (asIntOf (.int k n)).run P w = .ok (k, n) w := rfl
theorem opA_index_row {t r sz n e e' by_ : Nat} {x i : Operand} {k : IntKind} {m : Int} (ho : o.op = .indexAddr t x i) (hx : okConst x = true) (hi0 : okConst i = true) (h1 : σ.ev x = .row r e' sz n) (hi : σ.ev i = .c (.v (.int k m))) (hs : slcT P t = some (e, sz, by_))
    (hb : 0 ≤ m ∧ m < n) (hK : K (σ.put o.dst (.ptr r (m.toNat * sz)))) : OpA P o σ K :=
  opA_val _ hK fun E ι a w h => by
    have hxv := h.ev x hx
    rw [h1] at hxv
    have hiv := h.ev i hi0
    rw [hi] at hiv
    obtain ⟨ei, _⟩ := hiv.v_inv
    generalize he : a.eval x = v at hxv
    unfold slcT at hs
    split at hs
    · rename_i e'' hu
      split at hs
      · rename_i inf hinf
        simp only [Option.some.injEq, Prod.mk.injEq] at hs
        obtain ⟨rfl, rfl, rfl⟩ := hs
        have hsz : (sizeOf e'').run P w = .ok inf.size w := run_szT (by simp [szT, hinf]) w
        cases hxv with
        | row _ _ _ _ c g1 g2 g3 g4 g0 =>
          refine ⟨_, ?_, .ptr r (m.toNat * inf.size)⟩
          simp only [execOp, ho, he, ei, Instr.indexAt, Sem.run_bind, asIntOf_int, run_underlying hu, Result.andThen_ok, Sem.run_pure, hsz, Sem.run_ite, if_pos hb, add_none, Nat.zero_add]
        | rnil => omega
      · cases hs
    · cases hs
theorem opA_index_sl {t sz n e by_ : Nat} {ex : Bool} {cs : List PV} {x i : Operand} {k : IntKind} {m : Int} (ho : o.op = .indexAddr t x i) (hx : okConst x = true) (hi0 : okConst i = true) (h1 : σ.ev x = .c (.sl ex sz n cs)) (hi : σ.ev i = .c (.v (.int k m))) (hs : slcT P t = some (e, sz, by_)) (h0 : 0 < sz)
    (hb : 0 ≤ m ∧ m < n) (hK : K (σ.put o.dst (.ep ((cs.drop (m.toNat * sz)).take sz)))) : OpA P o σ K :=
  opA_val _ hK fun E ι a w h => by
    have hxv := h.ev x hx
    rw [h1] at hxv
    have hiv := h.ev i hi0
    rw [hi] at hiv
    obtain ⟨ei, _⟩ := hiv.v_inv
    generalize he : a.eval x = v at hxv
    unfold slcT at hs
    split at hs
    · rename_i e' hu
      split at hs
      · rename_i inf hinf
        simp only [Option.some.injEq, Prod.mk.injEq] at hs
        obtain ⟨rfl, rfl, rfl⟩ := hs
        have hsz : (sizeOf e').run P w = .ok inf.size w := run_szT (by simp [szT, hinf]) w
        cases hxv with
        | c _ _ hp =>
          cases hp with
          | sl _ _ A _ c us _ g1 g2 g3 g4 hl hn g5 g6 =>
            have hmn : m.toNat < n := by omega
            have hlen : m.toNat * inf.size + inf.size ≤ us.length := by
              have : (m.toNat + 1) * inf.size ≤ n * inf.size := Nat.mul_le_mul_right _ hmn
              rw [Nat.add_mul, Nat.one_mul] at this; omega
            have hne : us ≠ [] := by intro e; subst e; simp at hlen; omega
            obtain ⟨b, off, rfl, hS, hcell⟩ := g5 hne
            refine ⟨.pointer (some ⟨b, off + m.toNat * inf.size, none⟩), ?_, .ep b _ ((us.drop (m.toNat * inf.size)).take inf.size) _ (by simp [hl]) (fun e => ?_) hS (fun j u hu => ?_) fun j u x hu hx => ?_⟩
            · simp only [execOp, ho, he, ei, Instr.indexAt, Sem.run_bind, asIntOf_int, run_underlying hu, Result.andThen_ok, Sem.run_pure, hsz, Sem.run_ite, if_pos hb, add_none]
            · have := congrArg List.length e; simp at this; omega
            · rw [List.getElem?_take] at hu
              split at hu
              · rw [List.getElem?_drop] at hu; rw [Nat.add_assoc]; exact hcell _ u hu
              · cases hu
            · rw [List.getElem?_take] at hu hx
              split at hu
              · rename_i hj
                rw [if_pos hj] at hx
                rw [List.getElem?_drop] at hu hx; exact g6 _ u x hu hx
              · cases hu
      · cases hs
    · cases hs
/-- an array's element, by the array's pointer -/
theorem opA_index_arr {t r off sz n : Nat} {g : Bool} {x i : Operand} {k : IntKind} {m : Int} (ho : o.op = .indexAddr t x i) (hx : okConst x = true) (hi0 : okConst i = true) (h1 : σ.ev x = .ptr r off) (hi : σ.ev i = .c (.v (.int k m))) (hs : arrT P t = some (n, sz, g))
    (hb : 0 ≤ m ∧ m < n) (hK : K (σ.put o.dst (.ptr r (off + m.toNat * sz)))) : OpA P o σ K :=
  opA_val _ hK fun E ι a w h => by
    have hxv := h.ev x hx
    rw [h1] at hxv
    have hiv := h.ev i hi0
    rw [hi] at hiv
    obtain ⟨ei, _⟩ := hiv.v_inv
    generalize he : a.eval x = v at hxv
    unfold arrT at hs
    split at hs
    · rename_i n' e' hu
      split at hs
      · rename_i s' g' hs1 hs2
        simp only [Option.some.injEq, Prod.mk.injEq] at hs
        obtain ⟨rfl, rfl, rfl⟩ := hs
        cases hxv with
        | ptr =>
          refine ⟨_, ?_, .ptr r (off + m.toNat * s')⟩
          simp only [execOp, ho, he, ei, Instr.indexAt, Sem.run_bind, asIntOf_int, run_underlying hu, Result.andThen_ok, Sem.run_pure, Instr.sureAddr, run_szT hs1, Sem.run_ite, if_pos hb, add_none]
      · cases hs
    · cases hs
/-- an array's element, by value -/
theorem opA_index_agg {t sz n : Nat} {g : Bool} {cs : List AV} {y : AV} {x i : Operand} {k : IntKind} {m : Int} (ho : o.op = .index t x i) (hx : okConst x = true) (hi0 : okConst i = true) (h1 : σ.ev x = .agg cs) (hi : σ.ev i = .c (.v (.int k m))) (hs : arrT P t = some (n, sz, g))
    (hb : 0 ≤ m ∧ m < n) (hy : if g then y = .agg ((cs.drop (m.toNat * sz)).take sz) else cs[m.toNat * sz]? = some y) (hK : K (σ.put o.dst y)) : OpA P o σ K :=
  opA_val _ hK fun E ι a w h => by
    have hxv := h.ev x hx
    rw [h1] at hxv
    have hiv := h.ev i hi0
    rw [hi] at hiv
    obtain ⟨ei, _⟩ := hiv.v_inv
    generalize he : a.eval x = v at hxv
    unfold arrT at hs
    split at hs
    · rename_i n' e' hu
      split at hs
      · rename_i s' g' hs1 hs2
        simp only [Option.some.injEq, Prod.mk.injEq] at hs
        obtain ⟨rfl, rfl, rfl⟩ := hs
        cases hxv with
        | agg us _ hl hone hr =>
          cases g' with
          | true =>
            simp only [if_true] at hy
            subst hy
            refine ⟨.agg (us.drop (m.toNat * s') |>.take s').toArray, ?_, RVs.agg ⟨by simp [hl], fun j u x hu' hx' => ?_⟩⟩
            · simp [execOp, ho, he, ei, Instr.index, run_underlying hu, asIntOf_int, hb, part, run_aggT hs2, run_szT hs1, List.extract_eq_take_drop]
            · rw [List.getElem?_take] at hu' hx'
              split at hu'
              · rename_i hj
                rw [if_pos hj] at hx'
                rw [List.getElem?_drop] at hu' hx'
                exact ⟨hr _ u x hu' hx', hone u (List.mem_of_getElem? hu')⟩
              · cases hu'
          | false =>
            simp only [Bool.false_eq_true, if_false] at hy
            have hlt : m.toNat * s' < us.length := by have := (List.getElem?_eq_some_iff.1 hy).1; omega
            have hu' : us[m.toNat * s']? = some us[m.toNat * s'] := List.getElem?_eq_getElem hlt
            exact ⟨us[m.toNat * s'], by simp [execOp, ho, he, ei, Instr.index, run_underlying hu, asIntOf_int, hb, part, run_aggT hs2, run_szT hs1, hu'], hr _ _ _ hu' hy⟩
      · cases hs
    · cases hs
end
end Go.Proofs.Ytiggambibcohcaa
