/-
  Operations over abstract states that only read. No program in sight.
-/
import Derived.Test.YtiggambibcohcaaAvC
namespace Go.Proofs.Ytiggambibcohcaa
open Go.RowKit
set_option linter.unusedSimpArgs false
set_option linter.unusedVariables false

section
variable {P : Program} {o : Oper} {σ : St} {K : St → Prop}
theorem opA_move {x : Operand} (ho : o.op = .move x ∨ o.op = .assign x) (hx : okConst x = true) (hK : K (σ.put o.dst (σ.ev x))) : OpA P o σ K :=
  opA_val _ hK fun E ι a w hc => ⟨a.eval x, by rcases ho with h | h <;> simp [execOp, h], hc.ev x hx⟩
/-- one of two, by a bool -/
def pickAV (t : Bool) (A B : AV) : AV :=
  match A, B with
  | .c (.v (.bool x)), .c (.v (.bool y)) => .c (.v (.bool (bif t then x else y)))
  | A, B => bif t then A else B
theorem pickAV_eq (t : Bool) (A B : AV) : pickAV t A B = bif t then A else B := by
  unfold pickAV
  split <;> cases t <;> rfl
theorem opA_pick {c x y : Operand} {t : Bool} (ho : o.op = .pick c x y) (hx : okConst x = true) (hy : okConst y = true) (hc0 : okConst c = true) (hc : σ.ev c = .c (.v (.bool t))) (hK : K (σ.put o.dst (pickAV t (σ.ev x) (σ.ev y)))) : OpA P o σ K :=
  opA_val _ hK fun E ι a w h => by
    have hcv := h.ev c hc0
    rw [hc] at hcv
    obtain ⟨e, _⟩ := hcv.v_inv
    refine ⟨if t then a.eval x else a.eval y, by simp [execOp, ho, e, asBool], ?_⟩
    rw [pickAV_eq]
    cases t
    · exact h.ev y hy
    · exact h.ev x hx
theorem opA_bin {op : BinOp} {t t' : TypeId} {x y : Operand} {u v r : Value} (ho : o.op = .binOp op t x y t') (hx : okConst x = true) (hy : okConst y = true) (h1 : σ.ev x = .c (.v u)) (h2 : σ.ev y = .c (.v v)) (hr : bop op u v = some r)
    (hK : K (σ.put o.dst (.c (.v r)))) : OpA P o σ K :=
  opA_val _ hK fun E ι a w h => by
    have hxv := h.ev x hx
    have hyv := h.ev y hy
    rw [h1] at hxv
    rw [h2] at hyv
    obtain ⟨e1, o1⟩ := hxv.v_inv
    obtain ⟨e2, o2⟩ := hyv.v_inv
    refine ⟨r, ?_, rv_const r (bop_one hr)⟩
    have hn : u ≠ .nilIface := by rintro rfl; simp [bop] at hr
    simp only [execOp, ho, e1, e2, Sem.run_bind, run_eqGuard o1 hn, Result.andThen_ok, run_bop hr, Sem.run_pure]
/-- equal bools -/
theorem opA_eqb {t t' : TypeId} {x y : Operand} {u v : Bool} {op : BinOp} (hop : op = .eql ∨ op = .neq) (ho : o.op = .binOp op t x y t') (ht : boolT P t = true) (hx : okConst x = true) (hy : okConst y = true) (h1 : σ.ev x = .c (.v (.bool u))) (h2 : σ.ev y = .c (.v (.bool v)))
    (hK : K (σ.put o.dst (.c (.v (.bool (if op = .eql then u == v else u != v)))))) : OpA P o σ K :=
  opA_val _ hK fun E ι a w h => by
    have hxv := h.ev x hx
    have hyv := h.ev y hy
    rw [h1] at hxv
    rw [h2] at hyv
    obtain ⟨e1, o1⟩ := hxv.v_inv
    obtain ⟨e2, o2⟩ := hyv.v_inv
    refine ⟨_, ?_, rv_const _ rfl⟩
    have hu : P.underlying t = some .bool := by
      unfold boolT at ht
      cases hu : P.underlying t with
      | none => simp [hu] at ht
      | some d => cases d <;> simp [hu] at ht; rfl
    have heq : (Op.equal t (.bool u) (.bool v)).run P w = .ok (u == v) w := by
      unfold Op.equal
      rw [show Op.maxDepth = 9999 + 1 from rfl]
      unfold Op.equalIn
      rw [Sem.run_bind, run_underlying hu, Result.andThen_ok]
      rfl
    have g1 : binOp .eql t (.bool u) (.bool v) = (do pure (.bool (← Op.equal t (.bool u) (.bool v)))) := rfl
    have g2 : binOp .neq t (.bool u) (.bool v) = (do pure (.bool (!(← Op.equal t (.bool u) (.bool v))))) := rfl
    have hn : Value.bool u ≠ .nilIface := by simp
    rcases hop with rfl | rfl
    · simp only [execOp, ho, e1, e2, Sem.run_bind, run_eqGuard o1 hn, Result.andThen_ok, g1, heq, Sem.run_pure, if_true]
    · simp only [execOp, ho, e1, e2, Sem.run_bind, run_eqGuard o1 hn, Result.andThen_ok, g2, heq, Sem.run_pure, reduceCtorEq, if_false]
      rfl
theorem opA_not {t : TypeId} {x : Operand} {b : Bool} (ho : o.op = .unOp .not t x) (hx : okConst x = true) (h1 : σ.ev x = .c (.v (.bool b))) (hK : K (σ.put o.dst (.c (.v (.bool (!b)))))) : OpA P o σ K :=
  opA_val _ hK fun E ι a w h => by
    have hxv := h.ev x hx
    rw [h1] at hxv
    obtain ⟨e1, _⟩ := hxv.v_inv
    exact ⟨.bool (!b), by simp [execOp, ho, e1, Op.unary], rv_const _ rfl⟩
theorem opA_neg {t : TypeId} {x : Operand} {k : IntKind} {n : Int} (ho : o.op = .unOp .neg t x) (hx : okConst x = true) (h1 : σ.ev x = .c (.v (.int k n))) (hK : K (σ.put o.dst (.c (.v (.int k (k.wrap (0 - n))))))) : OpA P o σ K :=
  opA_val _ hK fun E ι a w h => by
    have hxv := h.ev x hx
    rw [h1] at hxv
    obtain ⟨e1, _⟩ := hxv.v_inv
    exact ⟨.int k (k.wrap (0 - n)), by simp [execOp, ho, e1, Op.unary, Op.intArith], rv_const _ rfl⟩
theorem opA_xor {t : TypeId} {x : Operand} {k : IntKind} {n : Int} (ho : o.op = .unOp .xor t x) (hx : okConst x = true) (h1 : σ.ev x = .c (.v (.int k n)))
    (hK : K (σ.put o.dst (.c (.v (.int k (k.wrap (BitVec.ofInt k.bits (if k.signed then -1 else k.max) ^^^ BitVec.ofInt k.bits n).toNat)))))) : OpA P o σ K :=
  opA_val _ hK fun E ι a w h => by
    have hxv := h.ev x hx
    rw [h1] at hxv
    obtain ⟨e1, _⟩ := hxv.v_inv
    exact ⟨_, by simp [execOp, ho, e1, Op.unary, Op.intBits], rv_const _ rfl⟩
theorem opA_conv {s d : TypeId} {x : Operand} {k k' : IntKind} {n : Int} (ho : o.op = .convert s d x) (hd : intT P d = some k') (hs : (P.underlying s).isSome = true) (hx : okConst x = true) (h1 : σ.ev x = .c (.v (.int k n))) (hK : K (σ.put o.dst (.c (.v (.int k' (k'.wrap n)))))) : OpA P o σ K :=
  opA_val _ hK fun E ι a w h => by
    have hxv := h.ev x hx
    rw [h1] at hxv
    obtain ⟨e1, _⟩ := hxv.v_inv
    have hu : P.underlying d = some (.int k') := by
      unfold intT at hd
      cases hu : P.underlying d with
      | none => simp [hu] at hd
      | some d => cases d <;> simp [hu] at hd; subst hd; rfl
    obtain ⟨ds, hds⟩ := Option.isSome_iff_exists.1 hs
    refine ⟨.int k' (k'.wrap n), ?_, rv_const _ rfl⟩
    simp only [execOp, ho, e1, Sem.run_bind, convert, run_underlying hds, run_underlying hu, Result.andThen_ok]
    cases ds <;> simp [Conv.intToInt]
theorem opA_extract {x : Operand} {k : Nat} {xs : List AV} {y : AV} (ho : o.op = .extract x k) (hx : okConst x = true) (h1 : σ.ev x = .tup xs) (hy : xs[k]? = some y) (hK : K (σ.put o.dst y)) : OpA P o σ K :=
  opA_val _ hK fun E ι a w h => by
    have hxv := h.ev x hx
    rw [h1] at hxv
    generalize he : a.eval x = v at hxv
    cases hxv with
    | tup us cs hl hr =>
      have hlt : k < us.length := by have := (List.getElem?_eq_some_iff.1 hy).1; omega
      have hu : us[k]? = some us[k] := List.getElem?_eq_getElem hlt
      exact ⟨us[k], by simp [execOp, ho, he, Instr.extract, hu], hr k _ _ hu hy⟩
theorem opA_nilCheck {x : Operand} {r off : Nat} (ho : o.op = .nilCheck x) (hx : okConst x = true) (h1 : σ.ev x = .ptr r off) (hK : K (σ.put o.dst (.ptr r off))) : OpA P o σ K :=
  opA_val _ hK fun E ι a w h => by
    have hxv := h.ev x hx
    rw [h1] at hxv
    generalize he : a.eval x = v at hxv
    cases hxv with
    | ptr => exact ⟨_, by simp [execOp, ho, he], .ptr _ _⟩
theorem opA_nilCheck_fn {x : Operand} {f : FuncId} {cs : List AV} (ho : o.op = .nilCheck x) (hx : okConst x = true) (h1 : σ.ev x = .fn f cs) (hK : K (σ.put o.dst (.fn f cs))) : OpA P o σ K :=
  opA_val _ hK fun E ι a w h => by
    have hxv := h.ev x hx
    rw [h1] at hxv
    generalize he : a.eval x = v at hxv
    cases hxv with
    | fn f us cs hl hr => exact ⟨_, by simp [execOp, ho, he], .fn f us cs hl hr⟩
theorem opA_makeFunc {f : FuncId} {caps : Array Operand} (ho : o.op = .makeFunc (.func f) #[] caps) (hx : caps.toList.all okConst = true) (hK : K (σ.put o.dst (.fn f (caps.toList.map σ.ev)))) : OpA P o σ K :=
  opA_val _ hK fun E ι a w h => by
    have e : caps.map a.eval = (caps.toList.map a.eval).toArray := by rw [← Array.toList_map]
    refine ⟨.func (.func f) #[] (caps.toList.map a.eval).toArray, by simp [execOp, ho, Instr.makeFunc, e], .fn f _ _ (by simp) fun j u x hu hx' => ?_⟩
    simp only [List.getElem?_map, Option.map_eq_some_iff] at hu hx'
    obtain ⟨y, hy, rfl⟩ := hu
    obtain ⟨y', hy', rfl⟩ := hx'
    rw [hy] at hy'; cases hy'
    exact h.ev y (List.all_eq_true.1 hx y (List.mem_of_getElem? hy))

/-! loads and places -/
theorem opA_load_ptr {t : TypeId} {x : Operand} {r off s : Nat} {cs : List AV} {g : Bool} {y : AV} (ho : o.op = .load t x) (hx : okConst x = true) (h1 : σ.ev x = .ptr r off) (hr : hget σ.H r = some cs) (hs : szT P t = some s) (hg : aggT P t = some g)
    (hy : if g then off + s ≤ cs.length ∧ 0 < s ∧ y = .agg ((cs.drop off).take s) else cs[off]? = some y) (hK : K (σ.put o.dst y)) : OpA P o σ K :=
  opA_val _ hK fun E ι a w h => by
    have hxv := h.ev x hx
    rw [h1] at hxv
    generalize he : a.eval x = v at hxv
    cases hxv with
    | ptr =>
      have hb := h.heap.blk r cs hr
      cases g with
      | true =>
        simp only [if_true] at hy
        obtain ⟨hle, h0, rfl⟩ := hy
        rcases hb with ⟨_, rfl⟩ | ⟨cur, hh, hsz, hl, hc, hone1⟩
        · simp at hle; omega
        · have hlen : ((cur.toList.drop off).take s).length = s := by simp; omega
          have hrun := run_loadCells_list (P := P) w ⟨(ι r).1, off, none⟩ ((cur.toList.drop off).take s) fun j v hv => by
            rw [add_none, World.cell?, hh]
            rw [List.getElem?_take] at hv
            split at hv
            · rw [List.getElem?_drop] at hv; simpa using hv
            · cases hv
          rw [hlen] at hrun
          refine ⟨.agg ((cur.toList.drop off).take s).toArray, by simp [execOp, ho, he, Instr.loadAt, Instr.sureAddr, loadVar, run_aggT hg, run_szT hs, hrun], RVs.agg ⟨by simp; omega, fun j u x hu hx => ?_⟩⟩
          rw [List.getElem?_take] at hu hx
          split at hu
          · rename_i hj
            rw [if_pos hj] at hx
            rw [List.getElem?_drop] at hu hx
            exact hc (off + j) u x (by simpa using hu) hx
          · cases hu
      | false =>
        simp only [Bool.false_eq_true, if_false] at hy
        rcases hb with ⟨_, rfl⟩ | ⟨cur, hh, hsz, hl, hc, hone1⟩
        · simp at hy
        · have hlt : off < cur.size := by have := (List.getElem?_eq_some_iff.1 hy).1; omega
          have hcell : w.cell? ⟨(ι r).1, off, none⟩ = some cur[off] := by simp [World.cell?, hh, hlt]
          exact ⟨cur[off], by simp [execOp, ho, he, Instr.loadAt, Instr.sureAddr, loadVar, run_aggT hg, hcell], (hc off _ _ (Array.getElem?_eq_getElem hlt) hy).1⟩
theorem opA_load_ep {t : TypeId} {x : Operand} {s : Nat} {cs : List PV} {g : Bool} {y : AV} (ho : o.op = .load t x) (hx : okConst x = true) (h1 : σ.ev x = .ep cs) (hs : szT P t = some s) (hg : aggT P t = some g)
    (hy : if g then s ≤ cs.length ∧ y = .agg ((cs.take s).map .c) else cs[0]?.map AV.c = some y) (hK : K (σ.put o.dst y)) : OpA P o σ K :=
  opA_val _ hK fun E ι a w h => by
    have hxv := h.ev x hx
    rw [h1] at hxv
    generalize he : a.eval x = v at hxv
    cases hxv with
    | ep b off us cs hl hne hS h4 h5 =>
      cases g with
      | true =>
        simp only [if_true] at hy
        obtain ⟨hle, rfl⟩ := hy
        have hlen : (us.take s).length = s := by simp; omega
        have hrun := run_loadCells_list (P := P) w ⟨b, off, none⟩ (us.take s) fun j v hv => by
            rw [add_none]
            rw [List.getElem?_take] at hv
            split at hv
            · exact h4 j v hv
            · cases hv
        rw [hlen] at hrun
        refine ⟨.agg (us.take s).toArray, by simp [execOp, ho, he, Instr.loadAt, Instr.sureAddr, loadVar, run_aggT hg, run_szT hs, hrun], RVs.agg ⟨by simp; omega, fun j u x hu hx => ?_⟩⟩
        rw [List.getElem?_map, Option.map_eq_some_iff] at hx
        obtain ⟨z, hz, rfl⟩ := hx
        rw [List.getElem?_take] at hu hz
        split at hu
        · rename_i hj
          rw [if_pos hj] at hz
          exact ⟨.c _ _ (h5 j u z hu hz), (h5 j u z hu hz).one⟩
        · cases hu
      | false =>
        simp only [Bool.false_eq_true, if_false, Option.map_eq_some_iff] at hy
        obtain ⟨z, hz, rfl⟩ := hy
        obtain ⟨u0, rest, rfl⟩ := List.exists_cons_of_ne_nil hne
        have hcell : w.cell? ⟨b, off, none⟩ = some u0 := by simpa using h4 0 u0 rfl
        exact ⟨u0, by simp [execOp, ho, he, Instr.loadAt, Instr.sureAddr, loadVar, run_aggT hg, hcell], .c _ _ (h5 0 u0 z rfl hz)⟩
theorem run_fieldAt {t k ofs s : Nat} {g : Bool} (hf : fldT P t k = some (ofs, s, g)) (h0 : s ≠ 0) (b off : Nat) (w : World) : (Instr.fieldAt t (.pointer (some ⟨b, off, none⟩)) k).run P w = .ok (.pointer (some ⟨b, off + ofs, none⟩)) w := by
  unfold fldT at hf
  split at hf
  · rename_i fs hu
    split at hf
    · rename_i f hk
      split at hf
      · rename_i s' g' h1 h2
        simp only [Option.some.injEq, Prod.mk.injEq] at hf
        obtain ⟨rfl, rfl, rfl⟩ := hf
        simp [Instr.fieldAt, run_underlying hu, hk, Instr.sureAddr, fieldPlace, run_szT h1, h0, add_none]
      · cases hf
    · cases hf
  · cases hf
theorem opA_field_ptr {t k r off ofs s : Nat} {g : Bool} {x : Operand} (ho : o.op = .fieldAddr t x k) (hx : okConst x = true) (h1 : σ.ev x = .ptr r off) (hf : fldT P t k = some (ofs, s, g)) (h0 : s ≠ 0) (hK : K (σ.put o.dst (.ptr r (off + ofs)))) : OpA P o σ K :=
  opA_val _ hK fun E ι a w h => by
    have hxv := h.ev x hx
    rw [h1] at hxv
    generalize he : a.eval x = v at hxv
    cases hxv with
    | ptr => exact ⟨_, by simp [execOp, ho, he, run_fieldAt hf h0], .ptr _ _⟩
theorem opA_field_ep {t k ofs s : Nat} {g : Bool} {x : Operand} {cs : List PV} (ho : o.op = .fieldAddr t x k) (hx : okConst x = true) (h1 : σ.ev x = .ep cs) (hf : fldT P t k = some (ofs, s, g)) (h0 : s ≠ 0) (hl : ofs < cs.length) (hK : K (σ.put o.dst (.ep (cs.drop ofs)))) : OpA P o σ K :=
  opA_val _ hK fun E ι a w h => by
    have hxv := h.ev x hx
    rw [h1] at hxv
    generalize he : a.eval x = v at hxv
    cases hxv with
    | ep b off us cs hl' hne hS h4 h5 =>
      refine ⟨_, by simp [execOp, ho, he, run_fieldAt hf h0], .ep b (off + ofs) (us.drop ofs) _ (by simp; omega) (fun e => ?_) hS (fun j u hu => ?_) fun j u x hu hx => ?_⟩
      · have := congrArg List.length e; simp at this; omega
      · rw [List.getElem?_drop] at hu; rw [Nat.add_assoc]; exact h4 _ u hu
      · rw [List.getElem?_drop] at hu hx; exact h5 _ u x hu hx
theorem opA_field_agg {t k ofs s : Nat} {g : Bool} {x : Operand} {cs : List AV} {y : AV} (ho : o.op = .field t x k) (hx : okConst x = true) (h1 : σ.ev x = .agg cs) (hf : fldT P t k = some (ofs, s, g))
    (hy : if g then y = .agg ((cs.drop ofs).take s) else cs[ofs]? = some y) (hK : K (σ.put o.dst y)) : OpA P o σ K :=
  opA_val _ hK fun E ι a w h => by
    have hxv := h.ev x hx
    rw [h1] at hxv
    generalize he : a.eval x = v at hxv
    cases hxv with
    | agg us cs hl hone hr =>
      unfold fldT at hf
      split at hf
      · rename_i fs hu
        split at hf
        · rename_i f hk
          split at hf
          · rename_i s' g' h1 h2
            simp only [Option.some.injEq, Prod.mk.injEq] at hf
            obtain ⟨rfl, rfl, rfl⟩ := hf
            cases g' with
            | true =>
              simp only [if_true] at hy
              subst hy
              refine ⟨.agg (us.drop f.offset |>.take s').toArray, ?_, RVs.agg ⟨by simp [hl], fun j u x hu' hx' => ?_⟩⟩
              · simp [execOp, ho, he, Instr.field, run_underlying hu, hk, asAgg, part, run_aggT h2, run_szT h1, List.extract_eq_take_drop]
              · rw [List.getElem?_take] at hu' hx'
                split at hu'
                · rename_i hj
                  rw [if_pos hj] at hx'
                  rw [List.getElem?_drop] at hu' hx'
                  exact ⟨hr _ u x hu' hx', hone u (List.mem_of_getElem? hu')⟩
                · cases hu'
            | false =>
              simp only [Bool.false_eq_true, if_false] at hy
              have hlt : f.offset < us.length := by have := (List.getElem?_eq_some_iff.1 hy).1; omega
              have hu' : us[f.offset]? = some us[f.offset] := List.getElem?_eq_getElem hlt
              exact ⟨us[f.offset], by simp [execOp, ho, he, Instr.field, run_underlying hu, hk, asAgg, part, run_aggT h2, hu'], hr _ _ _ hu' hy⟩
          · cases hf
        · cases hf
      · cases hf
end
end Go.Proofs.Ytiggambibcohcaa
