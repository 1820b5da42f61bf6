/-
  Calls that are lent rows by view and make a row of numbers anew: in plain regions and in drawn ones. No program in sight.
-/
import Derived.Test.YtiggambibcohcaaAvQb
namespace Go.Proofs.Ytiggambibcohcaa
open Go.RowKit
set_option linter.unusedSimpArgs false
set_option linter.unusedVariables false
section
variable {P : Program} {o : Oper} {σ : St} {K : St → Prop}
theorem opA_callv_row {f : FuncId} {fn : Func} {cargs : List AV} {d r e sz n : Nat} {pcs : List PV} {fo : Operand} {cas : Array Operand} {ts : Array TypeId} {caps : List AV} (hF : Fn P f cargs [] (.row r e sz n) [(r, pcs.map .c)]) (hpc : ∀ p ∈ pcs, ∃ x, p = .v x) (ho : o.op = .call { callee := .value fo, args := cas, argTypes := ts }) (hfo : okConst fo = true) (has : cas.toList.all okConst = true) (hf : σ.ev fo = .fn f caps)
    (hfn : P.funcs[f]? = some fn) (hname : (fn.name == "runtime.NumGoroutine") = false) (hbody : fn.body.isNone = false)
    (hargs : AV.viewL σ.H (cas.toList.map σ.ev ++ caps) = cargs) (hfr : σ.free d = true) (hd2 : d < 1000) (hK : K ((St.mk σ.T (hput σ.H d (pcs.map .c))).put o.dst (.row d e sz n))) : OpA P o σ K := by
  intro E ι a w hc K' Q hK'
  have hfv := hc.ev fo hfo
  rw [hf] at hfv
  generalize hfe : a.eval fo = fv at hfv
  cases hfv with
  | fn _ us _ hul hus =>
    have hvs : ∀ (j : Nat) (v : Value) (y : AV), (cas.toList.map a.eval ++ us)[j]? = some v → (cas.toList.map σ.ev ++ caps)[j]? = some y → RV (Sx E ι σ.H) ι w v y := fun j v y hv hy => by
      rw [List.getElem?_append] at hv hy
      simp only [List.length_map] at hv hy
      split at hv
      · rename_i hj
        rw [if_pos hj] at hy
        rw [List.getElem?_map, Option.map_eq_some_iff] at hv hy
        obtain ⟨x1, hx1, rfl⟩ := hv
        obtain ⟨x2, hx2, rfl⟩ := hy
        rw [hx1] at hx2; cases hx2
        exact hc.ev x1 (List.all_eq_true.1 has x1 (List.mem_of_getElem? hx1))
      · rename_i hj
        rw [if_neg hj] at hy
        exact hus _ v y hv hy
    have hlen : (cas.toList.map a.eval ++ us).length = cargs.length := by rw [← hargs, viewL_length]; simp [hul]
    have hcall := hF { w := w, S := fun _ => True, ι := ι, D := [], hD := fun r hr => (by cases hr) } (cas.toList.map a.eval ++ us) rfl (fun r cs b hr => (by cases hr)) ⟨fun r cs hr => (by cases hr), fun r q cs ds hr => (by cases hr)⟩ hlen (fun j v x hv hx => by
      rw [← hargs, viewL_get, Option.map_eq_some_iff] at hx
      obtain ⟨y, hy, rfl⟩ := hx
      exact (hvs j v y hv hy).view hc.heap.blk)
    have hrun : (execOp a.eval o).run P w = .ok (.enter f (cas.toList.map a.eval ++ us).toArray) w := by
      have h1 : cas.map a.eval = (cas.toList.map a.eval).toArray := by rw [← Array.toList_map]
      have hen := run_enter hfn hname hbody ((cas.toList.map a.eval).toArray ++ us.toArray) w
      simp only [List.append_toArray] at hen
      simp only [execOp, ho, resolve, hfe, Deferred.ofValue, h1, Sem.run_bind, Sem.run_pure, Result.andThen_ok, invoke, Array.empty_append, List.append_toArray, List.nil_append, hen]
    unfold Oper.wp
    rw [hrun, Oper.upon_enter]
    refine hcall.mono fun e' w' => ?_
    rintro ⟨v, ι', rfl, hres, hH1, hk⟩
    simp only
    have hblk : ∀ b, b < w.heap.size → w'.heap[b]? = w.heap[b]? := fun b hb => hk.block b hb fun r hr => by cases hr
    have hg : w.grownBy w' none := ⟨hk.os, hk.tape, hk.output, hk.size, fun b hb _ => hblk b hb⟩
    have hgr : hget [(r, pcs.map AV.c)] r = some (pcs.map .c) := by simp [hget]
    have hm := (hk.mine r _ hgr).2 (fun h => by cases h)
    have hcg := hc.grow hfr hd2 hg none (fun b hb => by cases hb) (ι' r) (cs := pcs.map .c) (fun h => .inr (by
      rcases hm h with h1 | ⟨q, hq, _⟩
      · exact h1
      · cases hq)) (refsL_map d pcs) (by
      rcases hH1.blk r _ hgr with h0 | ⟨cur, hh, hs, hl, hcur, h1⟩
      · exact .inl h0
      · refine .inr ⟨cur, hh, hs, hl, fun j u x hu hx => ?_, h1⟩
        obtain ⟨hrv, h2⟩ := hcur j u x hu hx
        rw [List.getElem?_map, Option.map_eq_some_iff] at hx
        obtain ⟨p, hp, rfl⟩ := hx
        obtain ⟨y, rfl⟩ := hpc p (List.mem_of_getElem? hp)
        cases hrv with
        | c _ _ h => cases h with
          | v _ hone => exact ⟨.c _ _ (.v _ hone), h2⟩)
    have hcg : Conc E (upd ι d (ι' r)) ⟨σ.T, hput σ.H d (pcs.map .c)⟩ a w' := hcg
    refine hK' _ _ _ _ hK (hcg.put o.dst ?_)
    cases hres with
    | row _ _ _ _ c g1 g2 g3 g4 g0 => 
      have eu : upd ι d (ι' r) d = ι' r := upd_same
      have := RV.row (S := Sx E (upd ι d (ι' r)) (hput σ.H d (pcs.map .c))) (ι := upd ι d (ι' r)) (w := w') d e sz n c g1 g2 (by rw [eu]; exact g3) (by rw [eu]; exact g4) (by rw [eu]; exact g0)
      rw [eu] at this
      exact this
    | rnil A _ _ _ g => exact .rnil A d e sz (by rw [upd_same]; exact g)
theorem opN_callv_row {f : FuncId} {fn : Func} {cargs : List AV} {d r e sz n : Nat} {pcs : List PV} {fo : Operand} {cas : Array Operand} {ts : Array TypeId} {caps : List AV} {rd : List Nat} (hF : Fn P f cargs [] (.row r e sz n) [(r, pcs.map .c)]) (hpc : ∀ p ∈ pcs, ∃ x, p = .v x) (ho : o.op = .call { callee := .value fo, args := cas, argTypes := ts }) (hfo : okConst fo = true) (has : cas.toList.all okConst = true) (hf : σ.ev fo = .fn f caps)
    (hfn : P.funcs[f]? = some fn) (hname : (fn.name == "runtime.NumGoroutine") = false) (hbody : fn.body.isNone = false) (hargs : AV.viewL σ.H (cas.toList.map σ.ev ++ caps) = cargs) (hrd : AV.rowsL (cas.toList.map σ.ev ++ caps) = rd) (hd : o.dst = some d) (hd2 : d < 1000) :
    OpN P o σ.ev (hget σ.H) ⟨.row d e sz n, rd, [(d, pcs.map .c)], [d]⟩ := fun τ hA hQ hN => by
  have h1 : τ.ev fo = σ.ev fo := hA fo (by rw [ho]; simp [Op.operands, Call.operands])
  have h2 : cas.toList.map τ.ev = cas.toList.map σ.ev := List.map_congr_left fun x hx => hA x (by rw [ho]; simp [Op.operands, Call.operands]; first | exact .inr (by simpa using hx) | simpa using hx)
  refine opA_callv_row hF hpc ho hfo has (by rw [h1]; exact hf) hfn hname hbody (by rw [← hargs, h2]; exact viewL_congr _ fun r hr => hQ r (by rw [← hrd]; exact hr)) (hN d (by simp)) hd2 ?_
  rw [hd]
  rfl
theorem evD_callv_row {f : FuncId} {fn : Func} {cargs : List AV} {d r e sz n : Nat} {pcs : List PV} {fo : Operand} {cas : Array Operand} {ts : Array TypeId} {caps : List AV} {rd : List Nat} {l0 rest : List Oper} {acc : List Ef} (hF : Fn P f cargs [] (.row r e sz n) [(r, pcs.map .c)]) (hpc : ∀ p ∈ pcs, ∃ x, p = .v x) (hg : o.guard = none) (ho : o.op = .call { callee := .value fo, args := cas, argTypes := ts }) (hfo : okConst fo = true) (has : cas.toList.all okConst = true) (hf : σ.ev fo = .fn f caps)
    (hfn : P.funcs[f]? = some fn) (hname : (fn.name == "runtime.NumGoroutine") = false) (hbody : fn.body.isNone = false) (hargs : AV.viewL σ.H (cas.toList.map σ.ev ++ caps) = cargs) (hrd : AV.rowsL (cas.toList.map σ.ev ++ caps) = rd) (hd : o.dst = some d) (hd2 : d < 1000)
    (h : evD P l0 rest (σ.eff o.dst (.row d e sz n) [(d, pcs.map .c)]) (⟨.row d e sz n, rd, [(d, pcs.map .c)], [d]⟩ :: acc) K) : evD P l0 (o :: rest) σ acc K :=
  ⟨_, .inl ⟨hg, opN_callv_row hF hpc ho hfo has hf hfn hname hbody hargs hrd hd hd2⟩, h⟩
end
end Go.Proofs.Ytiggambibcohcaa

