/-
  clear of a row, of a part of one; differences of words. No program in sight.
-/
import Derived.Test.YtgdjkkapgghdbaaDoorAvW
import Derived.Test.YtgdjkkapgghdbaaDoorAvX
import Derived.Laws.CopyRow
namespace Go.Proofs.YtgdjkkapgghdbaaDoor
open Go.RowKit Go.Lib
set_option linter.unusedSimpArgs false
set_option linter.unusedVariables false
def zerosA (zl : List Value) (n : Nat) : List AV := (List.replicate n (zl.map fun v => AV.c (.v v))).flatten
theorem zeroCells_get (zl : List Value) (n : Nat) (hz : 0 < zl.length) : (Builtin.zeroCells zl.toArray n).toList = (List.replicate n zl).flatten := by
  have h1 : ∀ n, ((List.replicate n zl).flatten).length = n * zl.length := fun n => by simp
  apply List.ext_getElem?
  intro i
  have h2 : ∀ n i, i < n * zl.length → ((List.replicate n zl).flatten)[i]? = zl[i % zl.length]? := by
    intro n
    induction n with
    | zero => intro i hi; omega
    | succ n ih =>
      intro i hi
      rw [List.replicate_succ, List.flatten_cons, List.getElem?_append]
      split
      · rename_i h; rw [Nat.mod_eq_of_lt h]
      · rename_i h
        have e1 : (n + 1) * zl.length = n * zl.length + zl.length := Nat.succ_mul n zl.length
        rw [ih (i - zl.length) (by omega)]
        congr 1
        rw [Nat.mod_eq_sub_mod (a := i) (by omega)]
  unfold Builtin.zeroCells
  by_cases hi : i < n * zl.length
  · rw [h2 n i hi]
    have hm : i % zl.length < zl.length := Nat.mod_lt _ hz
    simp [hi, hm]
  · rw [List.getElem?_eq_none (by simp; omega), List.getElem?_eq_none (by rw [h1]; omega)]
section
variable {P : Program} {o : Oper} {σ : St} {K : St → Prop}
theorem opA_clear {t sz r e lo n : Nat} {x : Operand} {cs : List AV} {zl : List Value} (ho : o.op = .call { callee := .builtin .clear, args := #[x], argTypes := #[t] }) (hx : okConst x = true) (hs : (slcT P t).map (fun p => p.2.1) = some sz) (h0 : 0 < sz)
    (hz : (slcT P t).bind (fun p => zeroT P p.1) = some zl) (hzl : zl.length = sz) (hone : zl.all (fun v => v.oneCell') = true)
    (hp : (σ.ev x).part = some (r, e, sz, lo, n)) (hr : hget σ.H r = some cs) (hfit : (lo + n) * sz ≤ cs.length)
    (hK : K ((St.mk σ.T (hput σ.H r (spl cs (lo * sz) (zerosA zl n)))).put o.dst .any)) : OpA P o σ K := by
  intro E ι a w hc K' Q hK'
  obtain ⟨e0, by_, hs⟩ := slcT_of hs
  obtain ⟨A, c, hxv, g1, g2, g3⟩ := (hc.ev x hx).part hp
  obtain ⟨hu, i, hi, his, _⟩ := slcT_spec hs
  rw [hs] at hz
  simp only [Option.bind_some] at hz
  have fin : ∀ {v : Value} {w' : World}, (Builtin.clear_ #[t] o.type #[.slice A n c]).run P w = .ok v w' → Conc E ι ⟨σ.T, hput σ.H r (spl cs (lo * sz) (zerosA zl n))⟩ a w' → o.wp P a w K' Q := fun {v w'} hrun hcn => by
    unfold Oper.wp execOp
    simp only [ho, resolve, invoke, builtin, Sem.run_bind, Sem.run_pure, Result.andThen_ok, List.map_toArray, List.map_cons, List.map_nil, hxv, hrun]
    exact hK' _ _ _ _ hK (hcn.put o.dst (.any _))
  cases n with
  | zero =>
    have hrun : (Builtin.clear_ #[t] o.type #[.slice A 0 c]).run P w = .ok (.tuple #[]) w := by
      cases A <;> simp [Builtin.clear_, run_underlying hu, Sem.run_bind, Result.andThen]
    refine fin hrun ?_
    simp only [zerosA, List.replicate_zero, List.flatten_nil, spl_nil]
    exact hc.same hr
  | succ k =>
    obtain ⟨rfl, g4, g5⟩ := g3 (by omega)
    obtain ⟨zv, hzr, hzc⟩ := run_zeroT hz w
    rcases hc.heap.blk r cs hr with ⟨hz0, _⟩ | ⟨cur, hh, hcz, hlc, hcur, hone1⟩
    · exact absurd hz0 g5
    · have hzl' : (Builtin.zeroCells zv.cells (k + 1)).toList = (List.replicate (k + 1) zl).flatten := by
        have : zv.cells = zl.toArray := by rw [← hzc]
        rw [this]; exact zeroCells_get zl (k + 1) (by omega)
      have hlen : ((List.replicate (k + 1) zl).flatten).length = (k + 1) * sz := by simp [hzl]
      have e1 : (lo + (k + 1)) * sz = lo * sz + (k + 1) * sz := Nat.add_mul _ _ _
      have h1 : ∀ v ∈ (List.replicate (k + 1) zl).flatten, v.oneCell' = true := fun v hv => by
        obtain ⟨l, hl, hv⟩ := List.mem_flatten.1 hv
        rw [(List.mem_replicate.1 hl).2] at hv
        exact List.all_eq_true.1 hone v hv
      have hst := run_storeCells_at (P := P) (ι r).1 (lo * sz) (ι r).2.2 ((List.replicate (k + 1) zl).flatten) 0 cur w hh (by rw [hlen]; omega) h1
      have hrun : (Builtin.clear_ #[t] o.type #[.slice (some ⟨(ι r).1, lo * sz, none⟩) (k + 1) c]).run P w = .ok (.tuple #[]) (w.setRow (ι r).1 (cur.toList.take (lo * sz) ++ (List.replicate (k + 1) zl).flatten ++ cur.toList.drop (lo * sz + ((List.replicate (k + 1) zl).flatten).length)).toArray) := by
        simp only [Builtin.clear_, Sem.run_bind, run_underlying hu, Result.andThen_ok, hzr, hzl', hst, Sem.run_pure, List.getElem?_toArray, List.getElem?_cons_zero, Nat.add_zero]
      refine fin hrun (hc.lay hr hh g5 hcz hlc hcur hone1 ?_ ?_)
      · unfold zerosA
        refine ⟨by simp, fun j u y hu hy => ?_⟩
        have e2 : (List.replicate (k + 1) (zl.map fun v => AV.c (.v v))).flatten = ((List.replicate (k + 1) zl).flatten).map fun v => AV.c (.v v) := by
          rw [List.map_flatten, List.map_replicate]
        rw [e2, List.getElem?_map, hu] at hy
        cases hy
        have ho := h1 u (List.mem_of_getElem? hu)
        exact ⟨.c _ _ (.v _ ho), ho⟩
      · unfold zerosA
        simp [hzl]; omega
end
section
variable {P : Program} {o : Oper} {σ : St} {K : St → Prop}
theorem opA_buildSlice_flat {t : TypeId} {len e sz by_ : Nat} {parts : Array (Nat × Operand)} {z : List Value} {ds : List AV} {pcs : List PV} (ho : o.op = .buildSlice t len parts) (hk : parts.toList.all (fun p => okConst p.2) = true) (hs : slcZ P t = some (e, sz, by_)) (hz : zeroT P e = some z) (h1 : z.all (·.oneCell') = true)
    (hsmall : len * sz ≤ 16777216) (hsz : 0 < sz) (hl0 : 0 < len) (hf : fillA (plsFrom sz 0 len) (List.replicate (len * sz) .any) (parts.toList.map fun x => (x.1, σ.ev x.2)) = some ds) (hlen : ds.length = len * sz) (hpc : unC ds = some pcs)
    (hK : K (σ.put o.dst (.c (.sl true sz len pcs)))) : OpA P o σ K := by
  intro E ι a w h K' Q hK'
  have hpc := unC_eq hpc
  rw [plsFrom_eq] at hf
  simp only [Nat.zero_add] at hf
  obtain ⟨hu, i, zv, hi, hiz, hsize, hbytes, hzs⟩ := slcZ_spec hs
  have hzl : zv.cells.toList = z := by simp [zeroT, hi, hiz] at hz; exact hz
  have hz1 : ∀ k, k < zv.cells.size → (zv.cells[k]!).oneCell' = true := fun k hk => by
    have hmem : zv.cells[k]! ∈ z := by rw [← hzl]; simp [hk]
    exact List.all_eq_true.1 h1 _ hmem
  have h0 : len * sz ≠ 0 := by
    have := Nat.mul_pos hl0 hsz
    omega
  have hrow : ∃ us : List Value, ((Array.range (len * i.size)).map (zv.cells[· % zv.cells.size]!)) = us.toArray ∧ RVs (Sx E ι σ.H) ι w us (List.replicate (len * sz) .any) := by
    refine ⟨((Array.range (len * i.size)).map (zv.cells[· % zv.cells.size]!)).toList, by apply Array.ext'; simp, by simp [hsize], fun j u x hu hx => ?_⟩
    rw [List.getElem?_replicate] at hx
    split at hx
    · cases hx
      refine ⟨.any _, ?_⟩
      simp only [Array.getElem?_toList, Array.getElem?_map, Option.map_eq_some_iff] at hu
      obtain ⟨k, _, rfl⟩ := hu
      exact hz1 _ (Nat.mod_lt _ (by omega))
    · cases hx
  obtain ⟨us, hus, hrv⟩ := hrow
  obtain ⟨us', hrun, hrv'⟩ := fillA_run (S := Sx E ι σ.H) (ι := ι) (w := w) (pl := (List.range len).map fun k => (k * sz, sz)) (place := fun k => some (k * i.size, i.size)) (fun k p hp => by
    simp only [List.getElem?_map, Option.map_eq_some_iff] at hp
    obtain ⟨m, hm, rfl⟩ := hp
    obtain ⟨_, e⟩ := List.getElem?_eq_some_iff.1 hm
    simp at e
    rw [e, hsize]) _ (parts.toList.map fun x => (x.1, a.eval x.2)) us _ ds hrv (by simp) (parts_rv h hk) hf
  have hlu : us'.length = len * sz := by rw [hrv'.1, hlen]
  have hpt : (parts.map fun x => (x.1, a.eval x.2)).toList = parts.toList.map fun x => (x.1, a.eval x.2) := by simp
  have hb := run_buildSlice (P := P) w t e len (parts.map fun x => (x.1, a.eval x.2)) us'.toArray i zv hu hi hiz (by rw [hsize]; omega) (by rw [hsize]; exact h0) (by rw [hus, hpt]; exact hrun)
  have hex : (execOp a.eval o).run P w = .ok (.value (.slice (some ⟨w.heap.size, 0, none⟩) len len)) (w.alloc (.cells us'.toArray e)) := by
    simp only [execOp, ho, Sem.run_bind, hb, Result.andThen_ok, Sem.run_pure]
  have hcn := h.alloc (.cells us'.toArray e)
  have hS : ∀ b, Sx E ι σ.H b → b < w.heap.size → Sx E ι σ.H b ∧ (w.alloc (.cells us'.toArray e)).heap[b]? = w.heap[b]? := fun b h1 h2 => ⟨h1, Below.heap_alloc _ _ _ h2⟩
  have hml : len ≤ maxLen := by
    have : len * 1 ≤ len * sz := Nat.mul_le_mul_left _ hsz
    unfold maxLen; omega
  have hpl : pcs.length = len * sz := by rw [← hlen, hpc, List.length_map]
  unfold Oper.wp
  rw [hex]
  refine hK' ι _ _ _ hK (hcn.put o.dst (.c _ _ (.sl true sz _ len len us' pcs (Nat.le_refl _) hml (fun h => by cases h) (fun _ => rfl) (by rw [hlu, hpl]) hpl (fun _ => ?_) fun j u x hu hx => ?_)))
  · refine ⟨w.heap.size, 0, rfl, ⟨.inr (.inl h.keep.size), fun r cs hr hz' e' => ?_⟩, fun j u hu => ?_⟩
    · have := (h.heap.blk r cs hr).lt hz'
      omega
    · have : (w.alloc (.cells us'.toArray e)).heap[w.heap.size]? = some (.cells us'.toArray e) := World.alloc_heap_new w _
      simp only [World.cell?, this, Nat.zero_add]
      simpa using hu
  · have h2 := (hrv'.2 j u (.c x) hu (by rw [hpc, List.getElem?_map, hx]; rfl)).1
    cases h2 with
    | c _ _ hp => exact hp.mono hS
theorem opF_buildSlice_flat {t : TypeId} {len e sz by_ : Nat} {parts : Array (Nat × Operand)} {z : List Value} {ds : List AV} {pcs : List PV} (ho : o.op = .buildSlice t len parts) (hk : parts.toList.all (fun p => okConst p.2) = true) (hs : slcZ P t = some (e, sz, by_)) (hz : zeroT P e = some z) (h1 : z.all (·.oneCell') = true)
    (hsmall : len * sz ≤ 16777216) (hsz : 0 < sz) (hl0 : 0 < len) (hf : fillA (plsFrom sz 0 len) (List.replicate (len * sz) .any) (parts.toList.map fun x => (x.1, σ.ev x.2)) = some ds) (hlen : ds.length = len * sz) (hpc : unC ds = some pcs) :
    OpF P o σ.ev (hget σ.H) (.c (.sl true sz len pcs)) [] [] :=
  fun τ hA hQ => by
    have hmap : (parts.toList.map fun x => (x.1, τ.ev x.2)) = parts.toList.map fun x => (x.1, σ.ev x.2) := List.map_congr_left fun x hx => by
      rw [hA x.2 (by rw [ho]; simp only [Op.operands, Array.toList_map]; exact List.mem_map.2 ⟨x, hx, rfl⟩)]
    refine opA_buildSlice_flat ho hk hs hz h1 hsmall hsz hl0 (by rw [hmap]; exact hf) hlen hpc ?_
    cases o.dst <;> rfl
end
/-! differences, limb by limb -/
def sub64Entry : Array Value → Sem Value := fun args => do
  let (x, y, b) ← Extern.MathBitsCarry.three "Sub64" args
  pure (Extern.MathBitsCarry.pair ((x + Extern.MathBitsCarry.m64 - y - b) % Extern.MathBitsCarry.m64) (if x < y + b then 1 else 0))
def sbI (x y c : Int) : Int := (x + 18446744073709551616 - y - c) % 18446744073709551616
def bwI (x y c : Int) : Int := if x < y + c then 1 else 0
theorem run_sub64 {P : Program} (x y c : Int) (hx : 0 ≤ x) (hy : 0 ≤ y) (hy1 : y ≤ 18446744073709551615) (hc0 : 0 ≤ c) (hc : c ≤ 1) (w : World) :
    (sub64Entry #[.int .u64 x, .int .u64 y, .int .u64 c]).run P w = .ok (.tuple #[.int .u64 (sbI x y c), .int .u64 (bwI x y c)]) w := by
  have key : ∀ k : Nat, k ≤ 1 → (sub64Entry #[.int .u64 x, .int .u64 y, .int .u64 (k : Int)]).run P w =
      .ok (Extern.MathBitsCarry.pair ((x.toNat + Extern.MathBitsCarry.m64 - y.toNat - k) % Extern.MathBitsCarry.m64) (if x.toNat < y.toNat + k then 1 else 0)) w := by
    intro k hk
    have : k = 0 ∨ k = 1 := by omega
    rcases this with rfl | rfl <;> rfl
  obtain ⟨k, rfl⟩ := Int.eq_ofNat_of_zero_le hc0
  rw [key k (by omega)]
  obtain ⟨X, rfl⟩ := Int.eq_ofNat_of_zero_le hx
  obtain ⟨Y, rfl⟩ := Int.eq_ofNat_of_zero_le hy
  have e1 : ((((X + 18446744073709551616 - Y - k) % 18446744073709551616 : Nat)) : Int) = sbI X Y k := by unfold sbI; omega
  have e2 : ((if X < Y + k then 1 else 0 : Nat) : Int) = bwI X Y k := by unfold bwI; split <;> split <;> omega
  simp only [Extern.MathBitsCarry.pair, Extern.MathBitsCarry.m64, Int.toNat_natCast, Int.ofNat_eq_natCast]
  rw [← e1, ← e2]
theorem sub64_ext {P : Program} {f : FuncId} {fn : Func} (hf : P.funcs[f]? = some fn) (hname : (fn.name == "runtime.NumGoroutine") = false)
    (hb : fn.body.isNone = true) (hn : Extern.findNext fn = none) (he : Extern.find fn = some sub64Entry) (x y c : Int) (hx : 0 ≤ x) (hy : 0 ≤ y) (hy1 : y ≤ 18446744073709551615) (hc0 : 0 ≤ c) (hc : c ≤ 1) :
    Ext P f [.int .u64 x, .int .u64 y, .int .u64 c] (.tup [.c (.v (.int .u64 (sbI x y c))), .c (.v (.int .u64 (bwI x y c)))]) :=
  ext_of hf hname hb hn he (fun w => run_sub64 x y c hx hy hy1 hc0 hc w) fun S ι w' => .tup [_, _] [_, _] rfl fun j u x hu hx => by
    rcases j with _ | _ | j
    · cases hu; cases hx; exact .c _ _ (.v _ rfl)
    · cases hu; cases hx; exact .c _ _ (.v _ rfl)
    · cases hu
open Go.RowKit Go.Lib
section
variable {P : Program} {o : Oper} {σ : St} {K : St → Prop}
theorem opF_index_cut {t r e sz lo n c : Nat} {ex : Bool} {x i : Operand} {k : IntKind} {m : Int} (ho : o.op = .indexAddr t x i) (hx : okConst x = true) (hi0 : okConst i = true) (h1 : σ.ev x = .cut r e sz lo n c ex) (hi : σ.ev i = .c (.v (.int k m))) (hs : (slcT P t).map (fun p => p.2.1) = some sz)
    (hb : 0 ≤ m ∧ m < n) : OpF P o σ.ev (hget σ.H) (.ptr r ((lo + m.toNat) * sz)) [] [] :=
  fun τ hA hQ => by
    refine opA_index_cut ho hx hi0 (by rw [hA x (by rw [ho]; simp [Op.operands])]; exact h1) (by rw [hA i (by rw [ho]; simp [Op.operands])]; exact hi) hs hb ?_
    cases o.dst <;> rfl
end
open Go.RowKit Go.Lib
mutual
theorem frz_free {d : Nat} {pcs : List PV} : ∀ {x : AV}, AV.refs d x = false → AV.frz d pcs x = x
  | .any, _ => rfl
  | .c _, _ => rfl
  | .agg cs, h => by unfold AV.frz; rw [frzL_free (by unfold AV.refs at h; exact h)]
  | .tup cs, h => by unfold AV.frz; rw [frzL_free (by unfold AV.refs at h; exact h)]
  | .ptr r o, h => by unfold AV.refs at h; unfold AV.frz; rw [if_neg (by simpa using h)]
  | .row r e sz n, h => by unfold AV.refs at h; unfold AV.frz; rw [if_neg (by simpa using h)]
  | .cut r e sz lo n c ex, h => by unfold AV.refs at h; unfold AV.frz; rw [if_neg (by simpa using h)]
  | .ep cs, _ => rfl
  | .fn f cs, h => by unfold AV.frz; rw [frzL_free (by unfold AV.refs at h; exact h)]
theorem frzL_free {d : Nat} {pcs : List PV} : ∀ {l : List AV}, AV.refsL d l = false → AV.frzL d pcs l = l
  | [], _ => rfl
  | x :: l, h => by
    unfold AV.refsL at h
    rw [Bool.or_eq_false_iff] at h
    unfold AV.frzL
    rw [frz_free h.1, frzL_free h.2]
end
section
variable {P : Program} {o : Oper} {σ : St} {K : St → Prop}
end
end Go.Proofs.YtgdjkkapgghdbaaDoor

