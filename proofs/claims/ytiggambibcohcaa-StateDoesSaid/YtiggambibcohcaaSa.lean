/-
  Accounts by value; which may be; reckoned.
-/
import Derived.Test.YtiggambibcohcaaAvW
import Derived.Test.YtiggambibcohcaaAvX
import Derived.Laws.CopyRow
import Derived.Test.YtiggambibcohcaaAvTy
set_option linter.unusedSimpArgs false
set_option linter.unusedVariables false
namespace Go.Proofs.Ytiggambibcohcaa
open Go.RowKit Go.Lib
theorem refsL_rep (d n : Nat) : AV.refsL d (List.replicate n .any) = false := by
  induction n with
  | zero => rfl
  | succ n ih => rw [List.replicate_succ, AV.refsL, ih]; rfl
def zerosA (zl : List Value) (n : Nat) : List AV := (List.replicate n (zl.map fun v => AV.c (.v v))).flatten
theorem zeroCells_get (zl : List Value) (n : Nat) (hz : 0 < zl.length) : (Builtin.zeroCells zl.toArray n).toList = (List.replicate n zl).flatten := by
  have h1 : ∀ n, ((List.replicate n zl).flatten).length = n * zl.length := fun n => by simp
  apply List.ext_getElem?
  intro i
  have h2 : ∀ n i, i < n * zl.length → ((List.replicate n zl).flatten)[i]? = zl[i % zl.length]? := by
    intro n
    induction n with
    | zero => intro i hi; omega
    | succ n ih =>
      intro i hi
      rw [List.replicate_succ, List.flatten_cons, List.getElem?_append]
      split
      · rename_i h; rw [Nat.mod_eq_of_lt h]
      · rename_i h
        have e1 : (n + 1) * zl.length = n * zl.length + zl.length := Nat.succ_mul n zl.length
        rw [ih (i - zl.length) (by omega)]
        congr 1
        rw [Nat.mod_eq_sub_mod (a := i) (by omega)]
  unfold Builtin.zeroCells
  by_cases hi : i < n * zl.length
  · rw [h2 n i hi]
    have hm : i % zl.length < zl.length := Nat.mod_lt _ hz
    simp [hi, hm]
  · rw [List.getElem?_eq_none (by simp; omega), List.getElem?_eq_none (by rw [h1]; omega)]
section
variable {P : Program} {o : Oper} {σ : St} {K : St → Prop}
theorem opA_clear {t sz r e lo n : Nat} {x : Operand} {cs : List AV} {zl : List Value} (ho : o.op = .call { callee := .builtin .clear, args := #[x], argTypes := #[t] }) (hx : okConst x = true) (hs : (slcT P t).map (fun p => p.2.1) = some sz) (h0 : 0 < sz)
    (hz : (slcT P t).bind (fun p => zeroT P p.1) = some zl) (hzl : zl.length = sz) (hone : zl.all (fun v => v.oneCell') = true)
    (hp : (σ.ev x).part = some (r, e, sz, lo, n)) (hr : hget σ.H r = some cs) (hfit : (lo + n) * sz ≤ cs.length)
    (hK : K ((St.mk σ.T (hput σ.H r (spl cs (lo * sz) (zerosA zl n)))).put o.dst .any)) : OpA P o σ K := by
  intro E ι a w hc K' Q hK'
  obtain ⟨e0, by_, hs⟩ := slcT_of hs
  obtain ⟨A, c, hxv, g1, g2, g3⟩ := (hc.ev x hx).part hp
  obtain ⟨hu, i, hi, his, _⟩ := slcT_spec hs
  rw [hs] at hz
  simp only [Option.bind_some] at hz
  have fin : ∀ {v : Value} {w' : World}, (Builtin.clear_ #[t] o.type #[.slice A n c]).run P w = .ok v w' → Conc E ι ⟨σ.T, hput σ.H r (spl cs (lo * sz) (zerosA zl n))⟩ a w' → o.wp P a w K' Q := fun {v w'} hrun hcn => by
    unfold Oper.wp execOp
    simp only [ho, resolve, invoke, builtin, Sem.run_bind, Sem.run_pure, Result.andThen_ok, List.map_toArray, List.map_cons, List.map_nil, hxv, hrun]
    exact hK' _ _ _ _ hK (hcn.put o.dst (.any _))
  cases n with
  | zero =>
    have hrun : (Builtin.clear_ #[t] o.type #[.slice A 0 c]).run P w = .ok (.tuple #[]) w := by
      cases A <;> simp [Builtin.clear_, run_underlying hu, Sem.run_bind, Result.andThen]
    refine fin hrun ?_
    simp only [zerosA, List.replicate_zero, List.flatten_nil, spl_nil]
    exact hc.same hr
  | succ k =>
    obtain ⟨rfl, g4, g5⟩ := g3 (by omega)
    obtain ⟨zv, hzr, hzc⟩ := run_zeroT hz w
    rcases hc.heap.blk r cs hr with ⟨hz0, _⟩ | ⟨cur, hh, hcz, hlc, hcur, hone1⟩
    · exact absurd hz0 g5
    · have hzl' : (Builtin.zeroCells zv.cells (k + 1)).toList = (List.replicate (k + 1) zl).flatten := by
        have : zv.cells = zl.toArray := by rw [← hzc]
        rw [this]; exact zeroCells_get zl (k + 1) (by omega)
      have hlen : ((List.replicate (k + 1) zl).flatten).length = (k + 1) * sz := by simp [hzl]
      have e1 : (lo + (k + 1)) * sz = lo * sz + (k + 1) * sz := Nat.add_mul _ _ _
      have h1 : ∀ v ∈ (List.replicate (k + 1) zl).flatten, v.oneCell' = true := fun v hv => by
        obtain ⟨l, hl, hv⟩ := List.mem_flatten.1 hv
        rw [(List.mem_replicate.1 hl).2] at hv
        exact List.all_eq_true.1 hone v hv
      have hst := run_storeCells_at (P := P) (ι r).1 (lo * sz) (ι r).2.2 ((List.replicate (k + 1) zl).flatten) 0 cur w hh (by rw [hlen]; omega) h1
      have hrun : (Builtin.clear_ #[t] o.type #[.slice (some ⟨(ι r).1, lo * sz, none⟩) (k + 1) c]).run P w = .ok (.tuple #[]) (w.setRow (ι r).1 (cur.toList.take (lo * sz) ++ (List.replicate (k + 1) zl).flatten ++ cur.toList.drop (lo * sz + ((List.replicate (k + 1) zl).flatten).length)).toArray) := by
        simp only [Builtin.clear_, Sem.run_bind, run_underlying hu, Result.andThen_ok, hzr, hzl', hst, Sem.run_pure, List.getElem?_toArray, List.getElem?_cons_zero, Nat.add_zero]
      refine fin hrun (hc.lay hr hh g5 hcz hlc hcur hone1 ?_ ?_)
      · unfold zerosA
        refine ⟨by simp, fun j u y hu hy => ?_⟩
        have e2 : (List.replicate (k + 1) (zl.map fun v => AV.c (.v v))).flatten = ((List.replicate (k + 1) zl).flatten).map fun v => AV.c (.v v) := by
          rw [List.map_flatten, List.map_replicate]
        rw [e2, List.getElem?_map, hu] at hy
        cases hy
        have ho := h1 u (List.mem_of_getElem? hu)
        exact ⟨.c _ _ (.v _ ho), ho⟩
      · unfold zerosA
        simp [hzl]; omega
end
section
variable {P : Program} {o : Oper} {σ : St} {K : St → Prop}
theorem opA_buildSlice_flat {t : TypeId} {len e sz by_ : Nat} {parts : Array (Nat × Operand)} {z : List Value} {ds : List AV} {pcs : List PV} (ho : o.op = .buildSlice t len parts) (hk : parts.toList.all (fun p => okConst p.2) = true) (hs : slcZ P t = some (e, sz, by_)) (hz : zeroT P e = some z) (h1 : z.all (·.oneCell') = true)
    (hsmall : len * sz ≤ 16777216) (hsz : 0 < sz) (hl0 : 0 < len) (hf : fillA (plsFrom sz 0 len) (List.replicate (len * sz) .any) (parts.toList.map fun x => (x.1, σ.ev x.2)) = some ds) (hlen : ds.length = len * sz) (hpc : unC ds = some pcs)
    (hK : K (σ.put o.dst (.c (.sl true sz len pcs)))) : OpA P o σ K := by
  intro E ι a w h K' Q hK'
  have hpc := unC_eq hpc
  rw [plsFrom_eq] at hf
  simp only [Nat.zero_add] at hf
  obtain ⟨hu, i, zv, hi, hiz, hsize, hbytes, hzs⟩ := slcZ_spec hs
  have hzl : zv.cells.toList = z := by simp [zeroT, hi, hiz] at hz; exact hz
  have hz1 : ∀ k, k < zv.cells.size → (zv.cells[k]!).oneCell' = true := fun k hk => by
    have hmem : zv.cells[k]! ∈ z := by rw [← hzl]; simp [hk]
    exact List.all_eq_true.1 h1 _ hmem
  have h0 : len * sz ≠ 0 := by
    have := Nat.mul_pos hl0 hsz
    omega
  have hrow : ∃ us : List Value, ((Array.range (len * i.size)).map (zv.cells[· % zv.cells.size]!)) = us.toArray ∧ RVs (Sx E ι σ.H) ι w us (List.replicate (len * sz) .any) := by
    refine ⟨((Array.range (len * i.size)).map (zv.cells[· % zv.cells.size]!)).toList, by apply Array.ext'; simp, by simp [hsize], fun j u x hu hx => ?_⟩
    rw [List.getElem?_replicate] at hx
    split at hx
    · cases hx
      refine ⟨.any _, ?_⟩
      simp only [Array.getElem?_toList, Array.getElem?_map, Option.map_eq_some_iff] at hu
      obtain ⟨k, _, rfl⟩ := hu
      exact hz1 _ (Nat.mod_lt _ (by omega))
    · cases hx
  obtain ⟨us, hus, hrv⟩ := hrow
  obtain ⟨us', hrun, hrv'⟩ := fillA_run (S := Sx E ι σ.H) (ι := ι) (w := w) (pl := (List.range len).map fun k => (k * sz, sz)) (place := fun k => some (k * i.size, i.size)) (fun k p hp => by
    simp only [List.getElem?_map, Option.map_eq_some_iff] at hp
    obtain ⟨m, hm, rfl⟩ := hp
    obtain ⟨_, e⟩ := List.getElem?_eq_some_iff.1 hm
    simp at e
    rw [e, hsize]) _ (parts.toList.map fun x => (x.1, a.eval x.2)) us _ ds hrv (by simp) (parts_rv h hk) hf
  have hlu : us'.length = len * sz := by rw [hrv'.1, hlen]
  have hpt : (parts.map fun x => (x.1, a.eval x.2)).toList = parts.toList.map fun x => (x.1, a.eval x.2) := by simp
  have hb := run_buildSlice (P := P) w t e len (parts.map fun x => (x.1, a.eval x.2)) us'.toArray i zv hu hi hiz (by rw [hsize]; omega) (by rw [hsize]; exact h0) (by rw [hus, hpt]; exact hrun)
  have hex : (execOp a.eval o).run P w = .ok (.value (.slice (some ⟨w.heap.size, 0, none⟩) len len)) (w.alloc (.cells us'.toArray e)) := by
    simp only [execOp, ho, Sem.run_bind, hb, Result.andThen_ok, Sem.run_pure]
  have hcn := h.alloc (.cells us'.toArray e)
  have hS : ∀ b, Sx E ι σ.H b → b < w.heap.size → Sx E ι σ.H b ∧ (w.alloc (.cells us'.toArray e)).heap[b]? = w.heap[b]? := fun b h1 h2 => ⟨h1, Below.heap_alloc _ _ _ h2⟩
  have hml : len ≤ maxLen := by
    have : len * 1 ≤ len * sz := Nat.mul_le_mul_left _ hsz
    unfold maxLen; omega
  have hpl : pcs.length = len * sz := by rw [← hlen, hpc, List.length_map]
  unfold Oper.wp
  rw [hex]
  refine hK' ι _ _ _ hK (hcn.put o.dst (.c _ _ (.sl true sz _ len len us' pcs (Nat.le_refl _) hml (fun h => by cases h) (fun _ => rfl) (by rw [hlu, hpl]) hpl (fun _ => ?_) fun j u x hu hx => ?_)))
  · refine ⟨w.heap.size, 0, rfl, ⟨.inr (.inl h.keep.size), fun r cs hr hz' e' => ?_⟩, fun j u hu => ?_⟩
    · have := (h.heap.blk r cs hr).lt hz'
      omega
    · have : (w.alloc (.cells us'.toArray e)).heap[w.heap.size]? = some (.cells us'.toArray e) := World.alloc_heap_new w _
      simp only [World.cell?, this, Nat.zero_add]
      simpa using hu
  · have h2 := (hrv'.2 j u (.c x) hu (by rw [hpc, List.getElem?_map, hx]; rfl)).1
    cases h2 with
    | c _ _ hp => exact hp.mono hS
theorem opF_buildSlice_flat {t : TypeId} {len e sz by_ : Nat} {parts : Array (Nat × Operand)} {z : List Value} {ds : List AV} {pcs : List PV} (ho : o.op = .buildSlice t len parts) (hk : parts.toList.all (fun p => okConst p.2) = true) (hs : slcZ P t = some (e, sz, by_)) (hz : zeroT P e = some z) (h1 : z.all (·.oneCell') = true)
    (hsmall : len * sz ≤ 16777216) (hsz : 0 < sz) (hl0 : 0 < len) (hf : fillA (plsFrom sz 0 len) (List.replicate (len * sz) .any) (parts.toList.map fun x => (x.1, σ.ev x.2)) = some ds) (hlen : ds.length = len * sz) (hpc : unC ds = some pcs) :
    OpF P o σ.ev (hget σ.H) (.c (.sl true sz len pcs)) [] [] :=
  fun τ hA hQ => by
    have hmap : (parts.toList.map fun x => (x.1, τ.ev x.2)) = parts.toList.map fun x => (x.1, σ.ev x.2) := List.map_congr_left fun x hx => by
      rw [hA x.2 (by rw [ho]; simp only [Op.operands, Array.toList_map]; exact List.mem_map.2 ⟨x, hx, rfl⟩)]
    refine opA_buildSlice_flat ho hk hs hz h1 hsmall hsz hl0 (by rw [hmap]; exact hf) hlen hpc ?_
    cases o.dst <;> rfl
theorem opF_append_in {t r e e0 sz by_ n m c : Nat} {ex : Bool} {rd : List Nat} {x y : Operand} {cs ds : List AV} (ho : o.op = .call { callee := .builtin .append, args := #[x, y], argTypes := #[t, t] }) (hx : okConst x = true) (hy : okConst y = true) (hs : slcT P t = some (e0, sz, by_)) (h0 : 0 < sz)
    (h1 : σ.ev x = .cut r e sz 0 n c ex) (he : e = e0) (hr : hget σ.H r = some cs) (hsrc : σ.src2 sz (σ.ev y) = some (m, ds)) (hso : szOf (σ.ev y) sz = true) (hl : ds.length = m * sz) (hroom : n + m ≤ c) (hfit : (n + m) * sz ≤ cs.length) (hrd : r :: AV.rows (σ.ev y) = rd) :
    OpF P o σ.ev (hget σ.H) (.cut r e sz 0 (n + m) c ex) rd [(r, spl cs (n * sz) ds)] :=
  fun τ hA hQ => by
    have hA' : ∀ z ∈ [x, y], τ.ev z = σ.ev z := fun z hz => hA z (by rw [ho]; simpa [Op.operands, Call.operands] using hz)
    have ex' := hA' x (by simp)
    have ey := hA' y (by simp)
    have hr' : hget τ.H r = some cs := by rw [hQ r (by rw [← hrd]; simp)]; exact hr
    have hq : ∀ q ∈ AV.rows (σ.ev y), hget τ.H q = hget σ.H q := fun q hq => hQ q (by rw [← hrd]; simp [hq])
    refine opA_append_in ho hx hy hs h0 (by rw [ex']; exact h1) he hr' (m := m) (ds := ds) ?_ (by rw [ey]; exact hso) hl hroom hfit ?_
    · rw [ey, ← hsrc]
      unfold St.src2
      split
      · rename_i heq; rw [hq _ (by rw [heq]; simp [AV.rows])]
      · rename_i heq; rw [hq _ (by rw [heq]; simp [AV.rows])]
      · rfl
      · rfl
      · rfl
    · cases o.dst <;> rfl
end
/-! differences, limb by limb -/
def sub64Entry : Array Value → Sem Value := fun args => do
  let (x, y, b) ← Extern.MathBitsCarry.three "Sub64" args
  pure (Extern.MathBitsCarry.pair ((x + Extern.MathBitsCarry.m64 - y - b) % Extern.MathBitsCarry.m64) (if x < y + b then 1 else 0))
def sbI (x y c : Int) : Int := (x + 18446744073709551616 - y - c) % 18446744073709551616
def bwI (x y c : Int) : Int := if x < y + c then 1 else 0
theorem run_sub64 {P : Program} (x y c : Int) (hx : 0 ≤ x) (hy : 0 ≤ y) (hy1 : y ≤ 18446744073709551615) (hc0 : 0 ≤ c) (hc : c ≤ 1) (w : World) :
    (sub64Entry #[.int .u64 x, .int .u64 y, .int .u64 c]).run P w = .ok (.tuple #[.int .u64 (sbI x y c), .int .u64 (bwI x y c)]) w := by
  have key : ∀ k : Nat, k ≤ 1 → (sub64Entry #[.int .u64 x, .int .u64 y, .int .u64 (k : Int)]).run P w =
      .ok (Extern.MathBitsCarry.pair ((x.toNat + Extern.MathBitsCarry.m64 - y.toNat - k) % Extern.MathBitsCarry.m64) (if x.toNat < y.toNat + k then 1 else 0)) w := by
    intro k hk
    have : k = 0 ∨ k = 1 := by omega
    rcases this with rfl | rfl <;> rfl
  obtain ⟨k, rfl⟩ := Int.eq_ofNat_of_zero_le hc0
  rw [key k (by omega)]
  obtain ⟨X, rfl⟩ := Int.eq_ofNat_of_zero_le hx
  obtain ⟨Y, rfl⟩ := Int.eq_ofNat_of_zero_le hy
  have e1 : ((((X + 18446744073709551616 - Y - k) % 18446744073709551616 : Nat)) : Int) = sbI X Y k := by unfold sbI; omega
  have e2 : ((if X < Y + k then 1 else 0 : Nat) : Int) = bwI X Y k := by unfold bwI; split <;> split <;> omega
  simp only [Extern.MathBitsCarry.pair, Extern.MathBitsCarry.m64, Int.toNat_natCast, Int.ofNat_eq_natCast]
  rw [← e1, ← e2]
theorem sub64_ext {P : Program} {f : FuncId} {fn : Func} (hf : P.funcs[f]? = some fn) (hname : (fn.name == "runtime.NumGoroutine") = false)
    (hb : fn.body.isNone = true) (hn : Extern.findNext fn = none) (he : Extern.find fn = some sub64Entry) (x y c : Int) (hx : 0 ≤ x) (hy : 0 ≤ y) (hy1 : y ≤ 18446744073709551615) (hc0 : 0 ≤ c) (hc : c ≤ 1) :
    Ext P f [.int .u64 x, .int .u64 y, .int .u64 c] (.tup [.c (.v (.int .u64 (sbI x y c))), .c (.v (.int .u64 (bwI x y c)))]) :=
  ext_of hf hname hb hn he (fun w => run_sub64 x y c hx hy hy1 hc0 hc w) fun S ι w' => .tup [_, _] [_, _] rfl fun j u x hu hx => by
    rcases j with _ | _ | j
    · cases hu; cases hx; exact .c _ _ (.v _ rfl)
    · cases hu; cases hx; exact .c _ _ (.v _ rfl)
    · cases hu
open Go.RowKit Go.Lib
section
variable {P : Program} {o : Oper} {σ : St} {K : St → Prop}
end
open Go.RowKit Go.Lib
mutual
theorem frz_free {d : Nat} {pcs : List PV} : ∀ {x : AV}, AV.refs d x = false → AV.frz d pcs x = x
  | .any, _ => rfl
  | .c _, _ => rfl
  | .agg cs, h => by unfold AV.frz; rw [frzL_free (by unfold AV.refs at h; exact h)]
  | .tup cs, h => by unfold AV.frz; rw [frzL_free (by unfold AV.refs at h; exact h)]
  | .ptr r o, h => by unfold AV.refs at h; unfold AV.frz; rw [if_neg (by simpa using h)]
  | .row r e sz n, h => by unfold AV.refs at h; unfold AV.frz; rw [if_neg (by simpa using h)]
  | .cut r e sz lo n c ex, h => by unfold AV.refs at h; unfold AV.frz; rw [if_neg (by simpa using h)]
  | .ep cs, _ => rfl
  | .fn f cs, h => by unfold AV.frz; rw [frzL_free (by unfold AV.refs at h; exact h)]
theorem frzL_free {d : Nat} {pcs : List PV} : ∀ {l : List AV}, AV.refsL d l = false → AV.frzL d pcs l = l
  | [], _ => rfl
  | x :: l, h => by
    unfold AV.refsL at h
    rw [Bool.or_eq_false_iff] at h
    unfold AV.frzL
    rw [frz_free h.1, frzL_free h.2]
end
section
variable {P : Program} {o : Oper} {σ : St} {K : St → Prop}
end
end Go.Proofs.Ytiggambibcohcaa
namespace Go.Proofs.Ytiggambibcohcaa
open Go.RowKit
set_option maxRecDepth 20000
set_option maxHeartbeats 2000000
abbrev vi (k : IntKind) (n : Int) : AV := .c (.v (.int k n))
abbrev vb (b : Bool) : AV := .c (.v (.bool b))
abbrev U (a : Int) : Prop := 0 ≤ a ∧ a ≤ 18446744073709551615
abbrev WW : Nat := 115792089237316195423570985008687907853269984665640564039457584007913129639936
def l0 (x : Nat) : Int := ((x % 18446744073709551616 : Nat) : Int)
def l1 (x : Nat) : Int := ((x / 18446744073709551616 % 18446744073709551616 : Nat) : Int)
def l2 (x : Nat) : Int := ((x / 18446744073709551616 / 18446744073709551616 % 18446744073709551616 : Nat) : Int)
def l3 (x : Nat) : Int := ((x / 18446744073709551616 / 18446744073709551616 / 18446744073709551616 % 18446744073709551616 : Nat) : Int)
theorem wrI {x : Int} (h1 : -9223372036854775808 ≤ x) (h2 : x ≤ 9223372036854775807) : IntKind.i64.wrap x = x := by
  unfold IntKind.wrap; simp [IntKind.bits, IntKind.signed]; omega
theorem wrU {x : Int} (h1 : 0 ≤ x) (h2 : x ≤ 18446744073709551615) : IntKind.u64.wrap x = x := by
  unfold IntKind.wrap; simp [IntKind.bits, IntKind.signed]; omega
theorem U0 (x : Nat) : U (l0 x) := by unfold l0; constructor <;> omega
theorem U1 (x : Nat) : U (l1 x) := by unfold l1; constructor <;> omega
theorem U2 (x : Nat) : U (l2 x) := by unfold l2; constructor <;> omega
theorem U3 (x : Nat) : U (l3 x) := by unfold l3; constructor <;> omega
abbrev w4 (a b c d : Int) : AV := .agg [vi .u64 a, vi .u64 b, vi .u64 c, vi .u64 d]
abbrev wN (x : Nat) : AV := w4 (l0 x) (l1 x) (l2 x) (l3 x)
theorem limbs_of {n s0 s1 s2 s3 : Nat} (h : n = s0 + 18446744073709551616 * (s1 + 18446744073709551616 * (s2 + 18446744073709551616 * s3))) (h0 : s0 < 18446744073709551616) (h1 : s1 < 18446744073709551616) (h2 : s2 < 18446744073709551616) (h3 : s3 < 18446744073709551616) :
    l0 n = s0 ∧ l1 n = s1 ∧ l2 n = s2 ∧ l3 n = s3 := by
  have e1 : n % 18446744073709551616 = s0 := by omega
  have q1 : n / 18446744073709551616 = s1 + 18446744073709551616 * (s2 + 18446744073709551616 * s3) := by omega
  have e2 : n / 18446744073709551616 % 18446744073709551616 = s1 := by omega
  have q2 : n / 18446744073709551616 / 18446744073709551616 = s2 + 18446744073709551616 * s3 := by rw [q1]; omega
  have e3 : n / 18446744073709551616 / 18446744073709551616 % 18446744073709551616 = s2 := by rw [q2]; omega
  have q3 : n / 18446744073709551616 / 18446744073709551616 / 18446744073709551616 = s3 := by rw [q2]; omega
  refine ⟨by unfold l0; rw [e1], by unfold l1; rw [e2], by unfold l2; rw [e3], by unfold l3; rw [q3, Nat.mod_eq_of_lt h3]⟩
theorem split_w {x : Nat} (h : x < WW) : ∃ a b c d : Nat, x = a + 18446744073709551616 * (b + 18446744073709551616 * (c + 18446744073709551616 * d)) ∧ a < 18446744073709551616 ∧ b < 18446744073709551616 ∧ c < 18446744073709551616 ∧ d < 18446744073709551616 ∧ l0 x = a ∧ l1 x = b ∧ l2 x = c ∧ l3 x = d := by
  have e : x = x % 18446744073709551616 + 18446744073709551616 * (x / 18446744073709551616 % 18446744073709551616 + 18446744073709551616 * (x / 18446744073709551616 / 18446744073709551616 % 18446744073709551616 + 18446744073709551616 * (x / 18446744073709551616 / 18446744073709551616 / 18446744073709551616))) := by omega
  have h3 : x / 18446744073709551616 / 18446744073709551616 / 18446744073709551616 < 18446744073709551616 := by
    have : x < 115792089237316195423570985008687907853269984665640564039457584007913129639936 := h
    omega
  exact ⟨_, _, _, _, e, Nat.mod_lt _ (by decide), Nat.mod_lt _ (by decide), Nat.mod_lt _ (by decide), h3, limbs_of e (Nat.mod_lt _ (by decide)) (Nat.mod_lt _ (by decide)) (Nat.mod_lt _ (by decide)) h3⟩
theorem wN_inj {x y : Nat} (hx : x < WW) (hy : y < WW) (h0 : l0 x = l0 y) (h1 : l1 x = l1 y) (h2 : l2 x = l2 y) (h3 : l3 x = l3 y) : x = y := by
  obtain ⟨a, b, c, d, rfl, _, _, _, _, e0, e1, e2, e3⟩ := split_w hx
  obtain ⟨a', b', c', d', rfl, _, _, _, _, f0, f1, f2, f3⟩ := split_w hy
  rw [e0, f0] at h0; rw [e1, f1] at h1; rw [e2, f2] at h2; rw [e3, f3] at h3
  have g0 : a = a' := by exact_mod_cast h0
  have g1 : b = b' := by exact_mod_cast h1
  have g2 : c = c' := by exact_mod_cast h2
  have g3 : d = d' := by exact_mod_cast h3
  rw [g0, g1, g2, g3]
theorem wN_eq {x y : Nat} (hx : x < WW) (hy : y < WW) : (l0 x == l0 y && (l1 x == l1 y && (l2 x == l2 y && l3 x == l3 y))) = decide (x = y) := by
  rw [Bool.eq_iff_iff]
  simp only [Bool.and_eq_true, beq_iff_eq, decide_eq_true_eq]
  constructor
  · rintro ⟨h0, h1, h2, h3⟩; exact wN_inj hx hy h0 h1 h2 h3
  · rintro rfl; exact ⟨rfl, rfl, rfl, rfl⟩
theorem l0_zero : l0 0 = 0 := rfl
theorem l1_zero : l1 0 = 0 := rfl
theorem l2_zero : l2 0 = 0 := rfl
theorem l3_zero : l3 0 = 0 := rfl
theorem wN_zero {x : Nat} (hx : x < WW) : (l0 x == 0 && (l1 x == 0 && (l2 x == 0 && l3 x == 0))) = decide (x = 0) := by
  have h := wN_eq hx (show 0 < WW by decide)
  rwa [l0_zero, l1_zero, l2_zero, l3_zero] at h
end Go.Proofs.Ytiggambibcohcaa
namespace Go.Proofs.Ytiggambibcohcaa
open Go.RowKit
open Nat (reduceBEq)
set_option maxRecDepth 20000
set_option maxHeartbeats 2000000
theorem sub64_fn (x y c : Int) (hx : 0 ≤ x) (hy : 0 ≤ y) (hy1 : y ≤ 18446744073709551615) (hc0 : 0 ≤ c) (hc : c ≤ 1) : Ext Try.prog 53 [.int .u64 x, .int .u64 y, .int .u64 c] (.tup [.c (.v (.int .u64 (sbI x y c))), .c (.v (.int .u64 (bwI x y c)))]) :=
  sub64_ext Try.func53 (by kernel_rfl) (by kernel_rfl) (by kernel_rfl) (by kernel_rfl) x y c hx hy hy1 hc0 hc
theorem bw01 (x y c : Int) : 0 ≤ bwI x y c ∧ bwI x y c ≤ 1 := by unfold bwI; split <;> omega
theorem carriedSub_fn (a b c d e f g h : Int) (u1 : U a) (u2 : U b) (u3 : U c) (u4 : U d) (u5 : U e) (u6 : U f) (u7 : U g) (u8 : U h) : Fn Try.prog 51 [w4 a b c d, w4 e f g h, .fn 53 []] []
    (.tup [w4 (sbI a e 0) (sbI b f (bwI a e 0)) (sbI c g (bwI b f (bwI a e 0))) (sbI d h (bwI c g (bwI b f (bwI a e 0)))), vb (bwI d h (bwI c g (bwI b f (bwI a e 0))) != 0)]) [] := by
  have c1 := bw01 a e 0
  have c2 := bw01 b f (bwI a e 0)
  have c3 := bw01 c g (bwI b f (bwI a e 0))
  (refine fn_of Try.func51 rfl (by rfl) ?_; simp only [Try.ntmps51, List.length_cons, List.length_nil, Nat.reduceAdd, Nat.reduceSub, List.replicate, List.cons_append, List.nil_append])
  (repeat (any_goals (first | ((with_reducible refine evL_call ?_ ?_ ?_); rfl; rfl; intro K hK; (first | (apply opA_ext (sub64_fn a e 0 u1.1 u5.1 u5.2 (Int.le_refl 0) (by decide)); rfl; rfl; rfl; rfl; (focus (simp (disch := omega) only [AV.ones, Option.map_some, go_sem, wrI, Int.reduceAdd]; done))) | (apply opA_ext (sub64_fn b f _ u2.1 u6.1 u6.2 c1.1 c1.2); rfl; rfl; rfl; rfl; (focus (simp (disch := omega) only [AV.ones, Option.map_some, go_sem, wrI, Int.reduceAdd]; done))) | (apply opA_ext (sub64_fn c g _ u3.1 u7.1 u7.2 c2.1 c2.2); rfl; rfl; rfl; rfl; (focus (simp (disch := omega) only [AV.ones, Option.map_some, go_sem, wrI, Int.reduceAdd]; done))) | (apply opA_ext (sub64_fn d h _ u4.1 u8.1 u8.2 c3.1 c3.2); rfl; rfl; rfl; rfl; (focus (simp (disch := omega) only [AV.ones, Option.map_some, go_sem, wrI, Int.reduceAdd]; done)))); (simp (disch := omega) only [go_sem, wrI, Int.reduceAdd]; refine hK _ ?_; clear hK K)) | ((with_reducible refine evL_one ?_ ?_); rfl; intro K hK; simp (disch := omega) only [go_sem, wrI, Int.reduceAdd]; ((repeat (refine ndI (by first | assumption | omega | rfl) ?_)); refine hK _ ?_; clear hK K)) | (with_reducible first | (refine evL_nil ?_; refine hR _ ?_; clear hR R) | ((first | refine evC_seq ?_ | refine evC_block ?_); intro J hJ hJ') | (refine evC_region ?_; intro R hR) | (refine hJ _ ?_; clear hJ hJ' J) | refine evC_skip ?_ | refine evC_ret ?_ | refine evC_exit ?_) | ((with_reducible refine hJ' _ _ ?_ ?_); (focus (simp; done)); clear hJ hJ' J) | ((with_reducible apply evC_cond); rfl; rfl; all_goals (intro hc; first | (cases hc; done) | (try simp only at hc))) | (with_reducible refine evC_rounds 5 ?_) | ((with_reducible refine evR_succ ?_); intro J hJ hJ') | ((with_reducible refine evD_nil ?_ ?_); kernel_rfl; (with_reducible refine hR _ ?_); clear hR R) | ((first | ((with_reducible apply evD_fcall); rfl; rfl; (first | (apply opF_ext (sub64_fn a e 0 u1.1 u5.1 u5.2 (Int.le_refl 0) (by decide)); rfl; rfl; rfl; rfl; (focus (simp (disch := omega) only [AV.ones, Option.map_some, go_sem, wrI, Int.reduceAdd]; done))) | (apply opF_ext (sub64_fn b f _ u2.1 u6.1 u6.2 c1.1 c1.2); rfl; rfl; rfl; rfl; (focus (simp (disch := omega) only [AV.ones, Option.map_some, go_sem, wrI, Int.reduceAdd]; done))) | (apply opF_ext (sub64_fn c g _ u3.1 u7.1 u7.2 c2.1 c2.2); rfl; rfl; rfl; rfl; (focus (simp (disch := omega) only [AV.ones, Option.map_some, go_sem, wrI, Int.reduceAdd]; done))) | (apply opF_ext (sub64_fn d h _ u4.1 u8.1 u8.2 c3.1 c3.2); rfl; rfl; rfl; rfl; (focus (simp (disch := omega) only [AV.ones, Option.map_some, go_sem, wrI, Int.reduceAdd]; done))))) | ((with_reducible apply evD_any); rfl; rfl; (simp (disch := omega) only [rdE, rdOf, go_sem, wrI, Int.reduceAdd]; rfl); (intro τ hA hQ hN; ((try simp only [agree, Op.operands, Call.operands, go_sem, wrI, Int.reduceAdd, go_sem, List.mem_cons, List.not_mem_nil, forall_eq_or_imp, forall_eq, List.append_toArray, Option.toArray] at hA); (try simp only [go_sem, wrI, Int.reduceAdd, List.mem_cons, List.not_mem_nil, forall_eq_or_imp, forall_eq] at hQ hN); (first | (revert hA; intro hA) | have hA := trivial); (first | (revert hQ; intro hQ) | have hQ := trivial); (first | (revert hN; intro hN) | have hN := trivial); simp (disch := omega) only [go_sem, wrI, Int.reduceAdd, go_sem, hA, hQ, hN]; (repeat (refine ndI (by first | assumption | omega | rfl) ?_)); (first | apply eff_rd | apply eff_st | apply eff_nw))))); (simp (disch := omega) only [St.eff, setO, hputs, go_sem, wrI, Int.reduceAdd])) | ((with_reducible refine evC_draw ?_ ?_ ?_ ?_); kernel_rfl; kernel_rfl; (first | kernel_rfl | simp [newNames, isNew, St.free, freeH, AV.refsL, AV.refs]); intro R hR))))
  all_goals (refine ⟨by simp, ⟨_, ?_, AV.le_refl _⟩, leH_get (by simp [leH, hget])⟩; simp only [Try.results51, resL, ldA, oneOf, go_sem])
theorem sub_nat {x y a0 a1 a2 a3 b0 b1 b2 b3 : Nat} (hxw : x < WW) (hyw : y < WW) (hx : x = a0 + 18446744073709551616 * (a1 + 18446744073709551616 * (a2 + 18446744073709551616 * a3))) (hy : y = b0 + 18446744073709551616 * (b1 + 18446744073709551616 * (b2 + 18446744073709551616 * b3)))
    {s0 s1 s2 s3 c1 c2 c3 c4 : Nat} (e0 : a0 + 18446744073709551616 * c1 = s0 + b0) (e1 : a1 + 18446744073709551616 * c2 = s1 + b1 + c1) (e2 : a2 + 18446744073709551616 * c3 = s2 + b2 + c2) (e3 : a3 + 18446744073709551616 * c4 = s3 + b3 + c3)
    (h0 : s0 < 18446744073709551616) (h1 : s1 < 18446744073709551616) (h2 : s2 < 18446744073709551616) (h3 : s3 < 18446744073709551616) :
    (x + WW - y) % WW = s0 + 18446744073709551616 * (s1 + 18446744073709551616 * (s2 + 18446744073709551616 * s3)) ∧ (x < y ↔ c4 ≠ 0) := by
  unfold WW at *
  omega
theorem sbI_nat {a b c : Nat} (hb : b < 18446744073709551616) (hc : c ≤ 1) : sbI a b c = (((a + 18446744073709551616 - b - c) % 18446744073709551616 : Nat) : Int) := by unfold sbI; omega
theorem bwI_nat {a b c : Nat} : bwI a b c = ((if a < b + c then 1 else 0 : Nat) : Int) := by unfold bwI; split <;> split <;> omega
theorem sub_fn (x y : Nat) (hx : x < WW) (hy : y < WW) : Fn Try.prog 23 [wN x, wN y] [] (.tup [wN ((x + WW - y) % WW), vb (decide (x < y))]) [] := by
  have h := carriedSub_fn (l0 x) (l1 x) (l2 x) (l3 x) (l0 y) (l1 y) (l2 y) (l3 y) (U0 x) (U1 x) (U2 x) (U3 x) (U0 y) (U1 y) (U2 y) (U3 y)
  obtain ⟨a, b, c, d, ex, ha, hb, hc, hd, e0, e1, e2, e3⟩ := split_w hx
  obtain ⟨a', b', c', d', ey, ha', hb', hc', hd', f0, f1, f2, f3⟩ := split_w hy
  rw [e0, e1, e2, e3, f0, f1, f2, f3] at h
  have z : (0 : Int) = ((0 : Nat) : Int) := rfl
  rw [z, bwI_nat] at h
  obtain ⟨c1, hc1⟩ : ∃ s : Nat, (if a < a' + 0 then 1 else 0) = s := ⟨_, rfl⟩
  have hc1' : c1 ≤ 1 := by rw [← hc1]; split <;> omega
  rw [hc1, bwI_nat] at h
  obtain ⟨c2, hc2⟩ : ∃ s : Nat, (if b < b' + c1 then 1 else 0) = s := ⟨_, rfl⟩
  have hc2' : c2 ≤ 1 := by rw [← hc2]; split <;> omega
  rw [hc2, bwI_nat] at h
  obtain ⟨c3, hc3⟩ : ∃ s : Nat, (if c < c' + c2 then 1 else 0) = s := ⟨_, rfl⟩
  have hc3' : c3 ≤ 1 := by rw [← hc3]; split <;> omega
  rw [hc3, bwI_nat] at h
  obtain ⟨c4, hc4⟩ : ∃ s : Nat, (if d < d' + c3 then 1 else 0) = s := ⟨_, rfl⟩
  have hc4' : c4 ≤ 1 := by rw [← hc4]; split <;> omega
  rw [hc4, sbI_nat ha' (by omega), sbI_nat hb' hc1', sbI_nat hc' hc2', sbI_nat hd' hc3'] at h
  obtain ⟨s0, hs0⟩ : ∃ s, (a + 18446744073709551616 - a' - 0) % 18446744073709551616 = s := ⟨_, rfl⟩
  obtain ⟨s1, hs1⟩ : ∃ s, (b + 18446744073709551616 - b' - c1) % 18446744073709551616 = s := ⟨_, rfl⟩
  obtain ⟨s2, hs2⟩ : ∃ s, (c + 18446744073709551616 - c' - c2) % 18446744073709551616 = s := ⟨_, rfl⟩
  obtain ⟨s3, hs3⟩ : ∃ s, (d + 18446744073709551616 - d' - c3) % 18446744073709551616 = s := ⟨_, rfl⟩
  rw [hs0, hs1, hs2, hs3] at h
  have k0 : s0 < 18446744073709551616 := by omega
  have k1 : s1 < 18446744073709551616 := by omega
  have k2 : s2 < 18446744073709551616 := by omega
  have k3 : s3 < 18446744073709551616 := by omega
  obtain ⟨g1, g2⟩ := sub_nat hx hy ex ey (s0 := s0) (c1 := c1) (s1 := s1) (c2 := c2) (s2 := s2) (c3 := c3) (s3 := s3) (c4 := c4) (by split at hc1 <;> omega) (by split at hc2 <;> omega) (by split at hc3 <;> omega) (by split at hc4 <;> omega) k0 k1 k2 k3
  obtain ⟨m0, m1, m2, m3⟩ := limbs_of g1 k0 k1 k2 k3
  rw [← m0, ← m1, ← m2, ← m3] at h
  have hq : (((c4 : Nat) : Int) != ((0 : Nat) : Int)) = decide (x < y) := by
    rw [Bool.eq_iff_iff]
    simp only [bne_iff_ne, ne_eq, decide_eq_true_eq]
    rw [g2]; omega
  rw [hq] at h
  rw [← e0, ← e1, ← e2, ← e3, ← f0, ← f1, ← f2, ← f3] at h
  obtain ⟨q, hq'⟩ : ∃ q, decide (x < y) = q := ⟨_, rfl⟩
  obtain ⟨n, hn⟩ : ∃ n, (x + WW - y) % WW = n := ⟨_, rfl⟩
  rw [hq', hn] at h ⊢
  (refine fn_of Try.func23 rfl (by rfl) ?_; simp only [Try.ntmps23, List.length_cons, List.length_nil, Nat.reduceAdd, Nat.reduceSub, List.replicate, List.cons_append, List.nil_append])
  (repeat (any_goals (first | ((with_reducible refine evL_call ?_ ?_ ?_); rfl; rfl; intro K hK; ((apply opA_callB (h); rfl; rfl; rfl; rfl; exact Try.func51); kernel_rfl; rfl; (simp only [go_sem]; rfl); (first | rfl | simp [AV.inNL, AV.inN])); (simp only [go_sem]; refine hK _ ?_; clear hK K)) | ((with_reducible refine evL_one ?_ ?_); rfl; intro K hK; simp only [go_sem]; ((repeat (refine ndI (by first | assumption | omega | rfl) ?_)); refine hK _ ?_; clear hK K)) | (with_reducible first | (refine evL_nil ?_; refine hR _ ?_; clear hR R) | ((first | refine evC_seq ?_ | refine evC_block ?_); intro J hJ hJ') | (refine evC_region ?_; intro R hR) | (refine hJ _ ?_; clear hJ hJ' J) | refine evC_skip ?_ | refine evC_ret ?_ | refine evC_exit ?_) | ((with_reducible refine hJ' _ _ ?_ ?_); (focus (simp; done)); clear hJ hJ' J) | ((with_reducible apply evC_cond); rfl; rfl; all_goals (intro hc; first | (cases hc; done) | (try simp only at hc))))))
  all_goals (refine ⟨by simp, ⟨_, ?_, AV.le_refl _⟩, leH_get (by simp [leH, hget])⟩; simp only [Try.results23, resL, ldA, oneOf, go_sem])
end Go.Proofs.Ytiggambibcohcaa
namespace Go.Proofs.Ytiggambibcohcaa
open Go.RowKit
open Nat (reduceBEq)
set_option maxRecDepth 20000
set_option maxHeartbeats 2000000
theorem add64_fn (x y c : Int) (hx : 0 ≤ x) (hy : 0 ≤ y) (hc0 : 0 ≤ c) (hc : c ≤ 1) : Ext Try.prog 52 [.int .u64 x, .int .u64 y, .int .u64 c] (.tup [.c (.v (.int .u64 (smI x y c))), .c (.v (.int .u64 (cyI x y c)))]) :=
  add64_ext Try.func52 (by kernel_rfl) (by kernel_rfl) (by kernel_rfl) (by kernel_rfl) x y c hx hy hc0 hc
theorem cy01 {x y c : Int} (hx : U x) (hy : U y) (h : 0 ≤ c ∧ c ≤ 1) : 0 ≤ cyI x y c ∧ cyI x y c ≤ 1 := by unfold U at hx hy; unfold cyI; omega
theorem carriedAdd_fn (a b c d e f g h : Int) (u1 : U a) (u2 : U b) (u3 : U c) (u4 : U d) (u5 : U e) (u6 : U f) (u7 : U g) (u8 : U h) : Fn Try.prog 51 [w4 a b c d, w4 e f g h, .fn 52 []] []
    (.tup [w4 (smI a e 0) (smI b f (cyI a e 0)) (smI c g (cyI b f (cyI a e 0))) (smI d h (cyI c g (cyI b f (cyI a e 0)))), vb (cyI d h (cyI c g (cyI b f (cyI a e 0))) != 0)]) [] := by
  have c1 := cy01 u1 u5 ⟨Int.le_refl 0, by decide⟩
  have c2 := cy01 u2 u6 c1
  have c3 := cy01 u3 u7 c2
  (refine fn_of Try.func51 rfl (by rfl) ?_; simp only [Try.ntmps51, List.length_cons, List.length_nil, Nat.reduceAdd, Nat.reduceSub, List.replicate, List.cons_append, List.nil_append])
  (repeat (any_goals (first | ((with_reducible refine evL_call ?_ ?_ ?_); rfl; rfl; intro K hK; (first | (apply opA_ext (add64_fn a e 0 u1.1 u5.1 (Int.le_refl 0) (by decide)); rfl; rfl; rfl; rfl; (focus (simp (disch := omega) only [AV.ones, Option.map_some, go_sem, wrI, Int.reduceAdd]; done))) | (apply opA_ext (add64_fn b f _ u2.1 u6.1 c1.1 c1.2); rfl; rfl; rfl; rfl; (focus (simp (disch := omega) only [AV.ones, Option.map_some, go_sem, wrI, Int.reduceAdd]; done))) | (apply opA_ext (add64_fn c g _ u3.1 u7.1 c2.1 c2.2); rfl; rfl; rfl; rfl; (focus (simp (disch := omega) only [AV.ones, Option.map_some, go_sem, wrI, Int.reduceAdd]; done))) | (apply opA_ext (add64_fn d h _ u4.1 u8.1 c3.1 c3.2); rfl; rfl; rfl; rfl; (focus (simp (disch := omega) only [AV.ones, Option.map_some, go_sem, wrI, Int.reduceAdd]; done)))); (simp (disch := omega) only [go_sem, wrI, Int.reduceAdd]; refine hK _ ?_; clear hK K)) | ((with_reducible refine evL_one ?_ ?_); rfl; intro K hK; simp (disch := omega) only [go_sem, wrI, Int.reduceAdd]; ((repeat (refine ndI (by first | assumption | omega | rfl) ?_)); refine hK _ ?_; clear hK K)) | (with_reducible first | (refine evL_nil ?_; refine hR _ ?_; clear hR R) | ((first | refine evC_seq ?_ | refine evC_block ?_); intro J hJ hJ') | (refine evC_region ?_; intro R hR) | (refine hJ _ ?_; clear hJ hJ' J) | refine evC_skip ?_ | refine evC_ret ?_ | refine evC_exit ?_) | ((with_reducible refine hJ' _ _ ?_ ?_); (focus (simp; done)); clear hJ hJ' J) | ((with_reducible apply evC_cond); rfl; rfl; all_goals (intro hc; first | (cases hc; done) | (try simp only at hc))) | (with_reducible refine evC_rounds 5 ?_) | ((with_reducible refine evR_succ ?_); intro J hJ hJ') | ((with_reducible refine evD_nil ?_ ?_); kernel_rfl; (with_reducible refine hR _ ?_); clear hR R) | ((first | ((with_reducible apply evD_fcall); rfl; rfl; (first | (apply opF_ext (add64_fn a e 0 u1.1 u5.1 (Int.le_refl 0) (by decide)); rfl; rfl; rfl; rfl; (focus (simp (disch := omega) only [AV.ones, Option.map_some, go_sem, wrI, Int.reduceAdd]; done))) | (apply opF_ext (add64_fn b f _ u2.1 u6.1 c1.1 c1.2); rfl; rfl; rfl; rfl; (focus (simp (disch := omega) only [AV.ones, Option.map_some, go_sem, wrI, Int.reduceAdd]; done))) | (apply opF_ext (add64_fn c g _ u3.1 u7.1 c2.1 c2.2); rfl; rfl; rfl; rfl; (focus (simp (disch := omega) only [AV.ones, Option.map_some, go_sem, wrI, Int.reduceAdd]; done))) | (apply opF_ext (add64_fn d h _ u4.1 u8.1 c3.1 c3.2); rfl; rfl; rfl; rfl; (focus (simp (disch := omega) only [AV.ones, Option.map_some, go_sem, wrI, Int.reduceAdd]; done))))) | ((with_reducible apply evD_any); rfl; rfl; (simp (disch := omega) only [rdE, rdOf, go_sem, wrI, Int.reduceAdd]; rfl); (intro τ hA hQ hN; ((try simp only [agree, Op.operands, Call.operands, go_sem, wrI, Int.reduceAdd, go_sem, List.mem_cons, List.not_mem_nil, forall_eq_or_imp, forall_eq, List.append_toArray, Option.toArray] at hA); (try simp only [go_sem, wrI, Int.reduceAdd, List.mem_cons, List.not_mem_nil, forall_eq_or_imp, forall_eq] at hQ hN); (first | (revert hA; intro hA) | have hA := trivial); (first | (revert hQ; intro hQ) | have hQ := trivial); (first | (revert hN; intro hN) | have hN := trivial); simp (disch := omega) only [go_sem, wrI, Int.reduceAdd, go_sem, hA, hQ, hN]; (repeat (refine ndI (by first | assumption | omega | rfl) ?_)); (first | apply eff_rd | apply eff_st | apply eff_nw))))); (simp (disch := omega) only [St.eff, setO, hputs, go_sem, wrI, Int.reduceAdd])) | ((with_reducible refine evC_draw ?_ ?_ ?_ ?_); kernel_rfl; kernel_rfl; (first | kernel_rfl | simp [newNames, isNew, St.free, freeH, AV.refsL, AV.refs]); intro R hR))))
  all_goals (refine ⟨by simp, ⟨_, ?_, AV.le_refl _⟩, leH_get (by simp [leH, hget])⟩; simp only [Try.results51, resL, ldA, oneOf, go_sem])
theorem add_nat {x y a0 a1 a2 a3 b0 b1 b2 b3 : Nat} (hx : x = a0 + 18446744073709551616 * (a1 + 18446744073709551616 * (a2 + 18446744073709551616 * a3))) (hy : y = b0 + 18446744073709551616 * (b1 + 18446744073709551616 * (b2 + 18446744073709551616 * b3)))
    {s0 s1 s2 s3 c1 c2 c3 c4 : Nat} (e0 : a0 + b0 = s0 + 18446744073709551616 * c1) (e1 : a1 + b1 + c1 = s1 + 18446744073709551616 * c2) (e2 : a2 + b2 + c2 = s2 + 18446744073709551616 * c3) (e3 : a3 + b3 + c3 = s3 + 18446744073709551616 * c4)
    (h0 : s0 < 18446744073709551616) (h1 : s1 < 18446744073709551616) (h2 : s2 < 18446744073709551616) (h3 : s3 < 18446744073709551616) :
    (x + y) % WW = s0 + 18446744073709551616 * (s1 + 18446744073709551616 * (s2 + 18446744073709551616 * s3)) ∧ (x + y) / WW = c4 := by
  unfold WW
  omega
theorem smI_nat {a b c : Nat} : smI a b c = (((a + b + c) % 18446744073709551616 : Nat) : Int) := by unfold smI; omega
theorem cyI_nat {a b c : Nat} : cyI a b c = (((a + b + c) / 18446744073709551616 : Nat) : Int) := by unfold cyI; omega
theorem add_fn (x y : Nat) (hx : x < WW) (hy : y < WW) : Fn Try.prog 22 [wN x, wN y] [] (.tup [wN ((x + y) % WW), vb (decide (WW ≤ x + y))]) [] := by
  have h := carriedAdd_fn (l0 x) (l1 x) (l2 x) (l3 x) (l0 y) (l1 y) (l2 y) (l3 y) (U0 x) (U1 x) (U2 x) (U3 x) (U0 y) (U1 y) (U2 y) (U3 y)
  obtain ⟨a, b, c, d, ex, ha, hb, hc, hd, e0, e1, e2, e3⟩ := split_w hx
  obtain ⟨a', b', c', d', ey, ha', hb', hc', hd', f0, f1, f2, f3⟩ := split_w hy
  rw [e0, e1, e2, e3, f0, f1, f2, f3] at h
  have z : (0 : Int) = ((0 : Nat) : Int) := rfl
  rw [z, smI_nat, cyI_nat, smI_nat, cyI_nat, smI_nat, cyI_nat, smI_nat, cyI_nat] at h
  obtain ⟨s0, hs0⟩ : ∃ s, (a + a' + 0) % 18446744073709551616 = s := ⟨_, rfl⟩
  obtain ⟨c1, hc1⟩ : ∃ s, (a + a' + 0) / 18446744073709551616 = s := ⟨_, rfl⟩
  rw [hs0, hc1] at h
  obtain ⟨s1, hs1⟩ : ∃ s, (b + b' + c1) % 18446744073709551616 = s := ⟨_, rfl⟩
  obtain ⟨c2, hc2⟩ : ∃ s, (b + b' + c1) / 18446744073709551616 = s := ⟨_, rfl⟩
  rw [hs1, hc2] at h
  obtain ⟨s2, hs2⟩ : ∃ s, (c + c' + c2) % 18446744073709551616 = s := ⟨_, rfl⟩
  obtain ⟨c3, hc3⟩ : ∃ s, (c + c' + c2) / 18446744073709551616 = s := ⟨_, rfl⟩
  rw [hs2, hc3] at h
  obtain ⟨s3, hs3⟩ : ∃ s, (d + d' + c3) % 18446744073709551616 = s := ⟨_, rfl⟩
  obtain ⟨c4, hc4⟩ : ∃ s, (d + d' + c3) / 18446744073709551616 = s := ⟨_, rfl⟩
  rw [hs3, hc4] at h
  have k0 : s0 < 18446744073709551616 := by omega
  have k1 : s1 < 18446744073709551616 := by omega
  have k2 : s2 < 18446744073709551616 := by omega
  have k3 : s3 < 18446744073709551616 := by omega
  obtain ⟨g1, g2⟩ := add_nat ex ey (s0 := s0) (c1 := c1) (s1 := s1) (c2 := c2) (s2 := s2) (c3 := c3) (s3 := s3) (c4 := c4) (by omega) (by omega) (by omega) (by omega) k0 k1 k2 k3
  obtain ⟨m0, m1, m2, m3⟩ := limbs_of g1 k0 k1 k2 k3
  rw [← m0, ← m1, ← m2, ← m3] at h
  have hq : (((c4 : Nat) : Int) != ((0 : Nat) : Int)) = decide (WW ≤ x + y) := by
    rw [Bool.eq_iff_iff]
    simp only [bne_iff_ne, ne_eq, decide_eq_true_eq]
    rw [← g2]
    constructor
    · intro h'
      rcases Nat.lt_or_ge (x + y) WW with h | h
      · exact absurd (by rw [Nat.div_eq_of_lt h]) h'
      · exact h
    · intro h' h''
      have : 0 < (x + y) / WW := Nat.div_pos h' (by decide)
      omega
  rw [hq] at h
  rw [← e0, ← e1, ← e2, ← e3, ← f0, ← f1, ← f2, ← f3] at h
  obtain ⟨q, hq'⟩ : ∃ q, decide (WW ≤ x + y) = q := ⟨_, rfl⟩
  obtain ⟨n, hn⟩ : ∃ n, (x + y) % WW = n := ⟨_, rfl⟩
  rw [hq', hn] at h ⊢
  (refine fn_of Try.func22 rfl (by rfl) ?_; simp only [Try.ntmps22, List.length_cons, List.length_nil, Nat.reduceAdd, Nat.reduceSub, List.replicate, List.cons_append, List.nil_append])
  (repeat (any_goals (first | ((with_reducible refine evL_call ?_ ?_ ?_); rfl; rfl; intro K hK; ((apply opA_callB (h); rfl; rfl; rfl; rfl; exact Try.func51); kernel_rfl; rfl; (simp only [go_sem]; rfl); (first | rfl | simp [AV.inNL, AV.inN])); (simp only [go_sem]; refine hK _ ?_; clear hK K)) | ((with_reducible refine evL_one ?_ ?_); rfl; intro K hK; simp only [go_sem]; ((repeat (refine ndI (by first | assumption | omega | rfl) ?_)); refine hK _ ?_; clear hK K)) | (with_reducible first | (refine evL_nil ?_; refine hR _ ?_; clear hR R) | ((first | refine evC_seq ?_ | refine evC_block ?_); intro J hJ hJ') | (refine evC_region ?_; intro R hR) | (refine hJ _ ?_; clear hJ hJ' J) | refine evC_skip ?_ | refine evC_ret ?_ | refine evC_exit ?_) | ((with_reducible refine hJ' _ _ ?_ ?_); (focus (simp; done)); clear hJ hJ' J) | ((with_reducible apply evC_cond); rfl; rfl; all_goals (intro hc; first | (cases hc; done) | (try simp only at hc))))))
  all_goals (refine ⟨by simp, ⟨_, ?_, AV.le_refl _⟩, leH_get (by simp [leH, hget])⟩; simp only [Try.results22, resL, ldA, oneOf, go_sem])
end Go.Proofs.Ytiggambibcohcaa
namespace Go.Proofs.Ytiggambibcohcaa
open Go.RowKit
open Nat (reduceBEq)
set_option maxRecDepth 20000
set_option maxHeartbeats 2000000
/-! words in rows -/
def wpv (x : Nat) : List PV := [.v (.int .u64 (l0 x)), .v (.int .u64 (l1 x)), .v (.int .u64 (l2 x)), .v (.int .u64 (l3 x))]
abbrev wsl (ex : Bool) (l : List Nat) : AV := .c (.sl ex 4 l.length (l.flatMap wpv))
theorem wpv_len (x : Nat) : (wpv x).length = 4 := rfl
theorem wsl_at {l : List Nat} {i : Nat} {y : Nat} (h : l[i]? = some y) : ((l.flatMap wpv).drop (i * 4)).take 4 = [.v (.int .u64 (l0 y)), .v (.int .u64 (l1 y)), .v (.int .u64 (l2 y)), .v (.int .u64 (l3 y))] := flat_at (f := wpv) wpv_len h
def rcW (l : List Nat) : List AV := (l.flatMap wpv).map .c
theorem rcW_len (l : List Nat) : (rcW l).length = l.length * 4 := by unfold rcW; rw [List.length_map, flat_length wpv_len]
theorem renL_rcW (ρ : Nat → Nat) (l : List Nat) : AV.renL ρ (rcW l) = rcW l := renL_map _ _
theorem inNL_rcW (N : List Nat) (l : List Nat) : AV.inNL N (rcW l) = true := inNL_map _ _
theorem sum_fn (ex : Bool) (l : List Nat) (hl : l.length ≤ 1000) (hw : ∀ x ∈ l, x < WW) : Fn Try.prog 78 [wsl ex l] [] (.tup [wN (l.sum % WW), vb (decide (WW ≤ l.sum))]) [] := by
  have hW : 0 < WW := by decide
  obtain ⟨tn, htn⟩ : ∃ n, l.sum % WW = n := ⟨_, rfl⟩
  obtain ⟨tq, htq⟩ : ∃ q, decide (WW ≤ l.sum) = q := ⟨_, rfl⟩
  rw [htn, htq]
  (refine fn_of Try.func78 rfl (by rfl) ?_; simp only [Try.ntmps78, List.length_cons, List.length_nil, Nat.reduceAdd, Nat.reduceSub, List.replicate, List.cons_append, List.nil_append])
  (repeat (any_goals (first | ((with_reducible refine evL_one ?_ ?_); rfl; intro K hK; simp only [go_sem]; ((repeat (refine ndI (by first | assumption | omega | rfl) ?_)); refine hK _ ?_; clear hK K)) | (with_reducible first | (refine evL_nil ?_; refine hR _ ?_; clear hR R) | ((first | refine evC_seq ?_ | refine evC_block ?_); intro J hJ hJ') | (refine evC_region ?_; intro R hR) | (refine hJ _ ?_; clear hJ hJ' J) | refine evC_skip ?_ | refine evC_ret ?_ | refine evC_exit ?_) | ((with_reducible refine hJ' _ _ ?_ ?_); (focus (simp; done)); clear hJ hJ' J) | ((with_reducible apply evL_unmet); rfl; rfl; rfl; (try simp only [go_sem])) | ((with_reducible apply evL_grd); rfl; rfl; rfl; all_goals (intro hb; first | (cases hb; done) | ((try simp only [Bool.not_true, Bool.not_false] at hb); (first | ((with_reducible intro K hK); simp only [go_sem]; ((repeat (refine ndI (by first | assumption | omega | rfl) ?_)); refine hK _ ?_; clear hK K)) | ((fail_if_success (with_reducible intro _)); simp only [go_sem]))))) | ((with_reducible apply evC_cond); rfl; rfl; all_goals (intro hc; first | (cases hc; done) | (try simp only at hc))))))
  refine evC_loop (α := { p : Nat × Nat × Bool // p.1 ≤ l.length ∧ p.2.1 = (l.take p.1).sum % WW ∧ p.2.2 = decide (WW ≤ (l.take p.1).sum) }) (fun p => ⟨[wsl ex l, .any, .ptr 2 0, .any, .ptr 4 0, vb p.1.2.2, .any, .any, .any, .any, wsl ex l, vi .i64 l.length, vi .i64 p.1.1, .any, .any, .any, .any, .any, .any, .any, .any, .any, .any, .any, .any, .any, .any, .any, .any, .any], [(2, [vi .u64 0, vi .u64 0, vi .u64 0, vi .u64 0]), (4, [vi .u64 (l0 p.1.2.1), vi .u64 (l1 p.1.2.1), vi .u64 (l2 p.1.2.1), vi .u64 (l3 p.1.2.1)])]⟩) (fun p => l.length - p.1.1) ⟨(0, 0, false), Nat.zero_le _, by simp, by simp [WW]⟩ (St.le_of (by simp [leT]) (by simp [leH, hget, l0_zero, l1_zero, l2_zero, l3_zero])) ?_
  rintro ⟨⟨i, n, q⟩, hi, hn, hq⟩ J hJ hJ'
  dsimp only at hi hn hq hJ ⊢
  rcases Nat.lt_or_ge i l.length with hlt | hge
  · obtain ⟨y, hy⟩ : ∃ y, l[i]? = some y := ⟨l[i], List.getElem?_eq_getElem hlt⟩
    have k1 : (decide ((i : Int) < (l.length : Int))) = true := by simpa using hlt
    have k2 := wsl_at hy
    have k7 : (i : Int) + 1 = ((i + 1 : Nat) : Int) := by omega
    have hnw : n < WW := by rw [hn]; exact Nat.mod_lt _ hW
    have hyw := hw y (List.mem_of_getElem? hy)
    have ad := add_fn n y hnw hyw
    have hs : (l.take (i + 1)).sum = (l.take i).sum + y := by rw [List.take_add_one, hy]; simp
    have h1 : (n + y) % WW = (l.take (i + 1)).sum % WW := by rw [hs, hn, Nat.add_mod]; simp
    have h2 : (q || decide (WW ≤ n + y)) = decide (WW ≤ (l.take (i + 1)).sum) := by
      rw [Bool.eq_iff_iff, hq, hs]
      simp only [Bool.or_eq_true, decide_eq_true_eq]
      rcases Nat.lt_or_ge (l.take i).sum WW with h | h
      · rw [hn, Nat.mod_eq_of_lt h]; omega
      · omega
    obtain ⟨m, hm⟩ : ∃ m, (n + y) % WW = m := ⟨_, rfl⟩
    obtain ⟨b, hb⟩ : ∃ b, decide (WW ≤ n + y) = b := ⟨_, rfl⟩
    rw [hm, hb] at ad
    rw [hm] at h1
    rw [hb] at h2
    cases q with
    | true =>
      (have W := ndI k1 (ndI k2 (ndI k7 @wrI)); (repeat (any_goals (first | ((with_reducible refine evL_call ?_ ?_ ?_); rfl; rfl; intro K hK; ((apply opA_callB (ad); rfl; rfl; rfl; rfl; exact Try.func22); kernel_rfl; rfl; (simp (disch := omega) only [go_sem, W]; rfl); (first | rfl | simp [AV.inNL, AV.inN])); (simp (disch := omega) only [go_sem, W]; refine hK _ ?_; clear hK K)) | ((with_reducible refine evL_one ?_ ?_); rfl; intro K hK; simp (disch := omega) only [go_sem, W]; ((repeat (refine ndI (by first | assumption | omega | rfl) ?_)); refine hK _ ?_; clear hK K)) | (with_reducible first | (refine evL_nil ?_; refine hR _ ?_; clear hR R) | ((first | refine evC_seq ?_ | refine evC_block ?_); intro J hJ hJ') | (refine evC_region ?_; intro R hR) | (refine hJ _ ?_; clear hJ hJ' J) | refine evC_skip ?_ | refine evC_ret ?_ | refine evC_exit ?_) | ((with_reducible refine hJ' _ _ ?_ ?_); (focus (simp; done)); clear hJ hJ' J) | ((with_reducible apply evL_unmet); rfl; rfl; rfl; (try simp (disch := omega) only [go_sem, W])) | ((with_reducible apply evL_grd); rfl; rfl; rfl; all_goals (intro hb; first | (cases hb; done) | ((try simp only [Bool.not_true, Bool.not_false] at hb); (first | ((with_reducible intro K hK); simp (disch := omega) only [go_sem, W]; ((repeat (refine ndI (by first | assumption | omega | rfl) ?_)); refine hK _ ?_; clear hK K)) | ((fail_if_success (with_reducible intro _)); simp (disch := omega) only [go_sem, W]))))) | ((with_reducible apply evC_cond); rfl; rfl; all_goals (intro hc; first | (cases hc; done) | (try simp only at hc)))))))
      exact hJ _ ⟨(i + 1, m, true), hlt, h1, by simpa using h2⟩ (by simp only; omega) (St.le_of (by simp [leT]) (by simp [leH, hget]))
    | false =>
      (have W := ndI k1 (ndI k2 (ndI k7 @wrI)); (repeat (any_goals (first | ((with_reducible refine evL_call ?_ ?_ ?_); rfl; rfl; intro K hK; ((apply opA_callB (ad); rfl; rfl; rfl; rfl; exact Try.func22); kernel_rfl; rfl; (simp (disch := omega) only [go_sem, W]; rfl); (first | rfl | simp [AV.inNL, AV.inN])); (simp (disch := omega) only [go_sem, W]; refine hK _ ?_; clear hK K)) | ((with_reducible refine evL_one ?_ ?_); rfl; intro K hK; simp (disch := omega) only [go_sem, W]; ((repeat (refine ndI (by first | assumption | omega | rfl) ?_)); refine hK _ ?_; clear hK K)) | (with_reducible first | (refine evL_nil ?_; refine hR _ ?_; clear hR R) | ((first | refine evC_seq ?_ | refine evC_block ?_); intro J hJ hJ') | (refine evC_region ?_; intro R hR) | (refine hJ _ ?_; clear hJ hJ' J) | refine evC_skip ?_ | refine evC_ret ?_ | refine evC_exit ?_) | ((with_reducible refine hJ' _ _ ?_ ?_); (focus (simp; done)); clear hJ hJ' J) | ((with_reducible apply evL_unmet); rfl; rfl; rfl; (try simp (disch := omega) only [go_sem, W])) | ((with_reducible apply evL_grd); rfl; rfl; rfl; all_goals (intro hb; first | (cases hb; done) | ((try simp only [Bool.not_true, Bool.not_false] at hb); (first | ((with_reducible intro K hK); simp (disch := omega) only [go_sem, W]; ((repeat (refine ndI (by first | assumption | omega | rfl) ?_)); refine hK _ ?_; clear hK K)) | ((fail_if_success (with_reducible intro _)); simp (disch := omega) only [go_sem, W]))))) | ((with_reducible apply evC_cond); rfl; rfl; all_goals (intro hc; first | (cases hc; done) | (try simp only at hc)))))))
      exact hJ _ ⟨(i + 1, m, b), hlt, h1, by simpa using h2⟩ (by simp only; omega) (St.le_of (by simp [leT]) (by simp [leH, hget]))
  · have k1 : (decide ((i : Int) < (l.length : Int))) = false := by simpa using hge
    have e : l.take i = l := List.take_of_length_le hge
    rw [e, htn] at hn
    rw [e, htq] at hq
    rw [hn, hq]
    (repeat (any_goals (first | ((with_reducible refine evL_one ?_ ?_); rfl; intro K hK; simp only [go_sem, k1]; ((repeat (refine ndI (by first | assumption | omega | rfl) ?_)); refine hK _ ?_; clear hK K)) | (with_reducible first | (refine evL_nil ?_; refine hR _ ?_; clear hR R) | ((first | refine evC_seq ?_ | refine evC_block ?_); intro J hJ hJ') | (refine evC_region ?_; intro R hR) | (refine hJ _ ?_; clear hJ hJ' J) | refine evC_skip ?_ | refine evC_ret ?_ | refine evC_exit ?_) | ((with_reducible refine hJ' _ _ ?_ ?_); (focus (simp; done)); clear hJ hJ' J) | ((with_reducible apply evL_unmet); rfl; rfl; rfl; (try simp only [go_sem, k1])) | ((with_reducible apply evL_grd); rfl; rfl; rfl; all_goals (intro hb; first | (cases hb; done) | ((try simp only [Bool.not_true, Bool.not_false] at hb); (first | ((with_reducible intro K hK); simp only [go_sem, k1]; ((repeat (refine ndI (by first | assumption | omega | rfl) ?_)); refine hK _ ?_; clear hK K)) | ((fail_if_success (with_reducible intro _)); simp only [go_sem, k1]))))) | ((with_reducible apply evC_cond); rfl; rfl; all_goals (intro hc; first | (cases hc; done) | (try simp only at hc))))))
    all_goals (refine ⟨by simp, ⟨_, ?_, AV.le_refl _⟩, leH_get (by simp [leH, hget])⟩; simp only [Try.results78, resL, ldA, oneOf, go_sem])
end Go.Proofs.Ytiggambibcohcaa
namespace Go.Proofs.Ytiggambibcohcaa
open Go.RowKit
open Nat (reduceBEq)
set_option maxRecDepth 20000
set_option maxHeartbeats 2000000
def lbit (x : Int) (k : Nat) : Int := x / 2 ^ k % 2
theorem lbit_eq {x : Int} (h : U x) (k : Nat) (hk : k < 64) : IntKind.i64.wrap (IntKind.u64.wrap ((BitVec.ofInt IntKind.u64.bits (x.fdiv (2 ^ (min k IntKind.u64.bits))) &&& BitVec.ofInt IntKind.u64.bits 1).toNat : Nat)) = lbit x k := by
  obtain ⟨h1, h2⟩ := h
  obtain ⟨N, rfl⟩ := Int.eq_ofNat_of_zero_le h1
  have hm : min k IntKind.u64.bits = k := Nat.min_eq_left (show k ≤ 64 by omega)
  have hd : ((N : Int)).fdiv (2 ^ k) = ((N / 2 ^ k : Nat) : Int) := by
    rw [Int.fdiv_eq_ediv_of_nonneg _ (Int.le_of_lt (Int.pow_pos (by decide)))]
    simp
  rw [hm, hd]
  have hle : N / 2 ^ k ≤ N := Nat.div_le_self _ _
  generalize hq : N / 2 ^ k = q at hle
  have e : (BitVec.ofInt IntKind.u64.bits (q : Int) &&& BitVec.ofInt IntKind.u64.bits 1).toNat = q % 2 := by
    show (BitVec.ofInt 64 (q : Int) &&& BitVec.ofInt 64 1).toNat = q % 2
    rw [BitVec.toNat_and]
    have e1 : (BitVec.ofInt 64 (q : Int)).toNat = q := by rw [BitVec.toNat_ofInt]; omega
    have e2 : (BitVec.ofInt 64 1).toNat = 1 := by decide
    rw [e1, e2, Nat.and_one_is_mod]
  rw [e, wrU (by omega) (by omega), wrI (by omega) (by omega)]
  unfold lbit
  have : (N : Int) / 2 ^ k = (q : Int) := by rw [← hq]; simp
  rw [this]; omega
def bitW (a b c d : Int) (n : Nat) : Int := if n < 64 then lbit a n else if n < 128 then lbit b (n - 64) else if n < 192 then lbit c (n - 128) else lbit d (n - 192)
theorem bit_fn (a b c d : Int) (u1 : U a) (u2 : U b) (u3 : U c) (u4 : U d) (n : Nat) (hn : n ≤ 255) : Fn Try.prog 70 [w4 a b c d, vi .i64 n] [] (vi .i64 (bitW a b c d n)) [] := by
  have e1 : (decide ((n : Int) < 0)) = false := by simp
  have e2 : (decide ((n : Int) > 255)) = false := by simp; omega
  have e3 : (n : Int).tdiv 64 = ((n / 64 : Nat) : Int) := rfl
  have e4 : (n : Int).tmod 64 = ((n % 64 : Nat) : Int) := rfl
  have hq : n / 64 = 0 ∨ n / 64 = 1 ∨ n / 64 = 2 ∨ n / 64 = 3 := by omega
  rcases hq with hq | hq | hq | hq
  · (refine fn_of Try.func70 rfl (by rfl) ?_; simp only [Try.ntmps70, List.length_cons, List.length_nil, Nat.reduceAdd, Nat.reduceSub, List.replicate, List.cons_append, List.nil_append])
    (have W := ndI e1 (ndI e2 (ndI e3 (ndI e4 @wrI))); (repeat (any_goals (first | ((with_reducible refine evL_one ?_ ?_); rfl; intro K hK; simp (disch := omega) only [go_sem, W, hq, Int.cast_ofNat_Int, Int.reduceEq, Int.toNat_natCast, Int.natCast_nonneg]; ((repeat (refine ndI (by first | assumption | omega | rfl) ?_)); refine hK _ ?_; clear hK K)) | (with_reducible first | (refine evL_nil ?_; refine hR _ ?_; clear hR R) | ((first | refine evC_seq ?_ | refine evC_block ?_); intro J hJ hJ') | (refine evC_region ?_; intro R hR) | (refine hJ _ ?_; clear hJ hJ' J) | refine evC_skip ?_ | refine evC_ret ?_ | refine evC_exit ?_) | ((with_reducible refine hJ' _ _ ?_ ?_); (focus (simp; done)); clear hJ hJ' J) | ((with_reducible apply evL_unmet); rfl; rfl; rfl; (try simp (disch := omega) only [go_sem, W, hq, Int.cast_ofNat_Int, Int.reduceEq, Int.toNat_natCast, Int.natCast_nonneg])) | ((with_reducible apply evL_grd); rfl; rfl; rfl; all_goals (intro hb; first | (cases hb; done) | ((try simp only [Bool.not_true, Bool.not_false] at hb); (first | ((with_reducible intro K hK); simp (disch := omega) only [go_sem, W, hq, Int.cast_ofNat_Int, Int.reduceEq, Int.toNat_natCast, Int.natCast_nonneg]; ((repeat (refine ndI (by first | assumption | omega | rfl) ?_)); refine hK _ ?_; clear hK K)) | ((fail_if_success (with_reducible intro _)); simp (disch := omega) only [go_sem, W, hq, Int.cast_ofNat_Int, Int.reduceEq, Int.toNat_natCast, Int.natCast_nonneg]))))) | ((with_reducible apply evC_cond); rfl; rfl; all_goals (intro hc; first | (cases hc; done) | (try simp only at hc)))))))
    all_goals (refine ⟨by simp, ⟨_, ?_, AV.le_refl _⟩, leH_get (by simp [leH, hget])⟩; simp only [Try.results70, resL, ldA, oneOf, go_sem])
    show vi .i64 (IntKind.i64.wrap (IntKind.u64.wrap ((BitVec.ofInt IntKind.u64.bits (a.fdiv (2 ^ (min (n % 64) IntKind.u64.bits))) &&& BitVec.ofInt IntKind.u64.bits 1).toNat : Nat))) = _
    rw [lbit_eq u1 _ (Nat.mod_lt _ (by decide))]
    simp only [bitW, if_pos (show n < 64 by omega), Nat.mod_eq_of_lt (show n < 64 by omega)]
  · (refine fn_of Try.func70 rfl (by rfl) ?_; simp only [Try.ntmps70, List.length_cons, List.length_nil, Nat.reduceAdd, Nat.reduceSub, List.replicate, List.cons_append, List.nil_append])
    (have W := ndI e1 (ndI e2 (ndI e3 (ndI e4 @wrI))); (repeat (any_goals (first | ((with_reducible refine evL_one ?_ ?_); rfl; intro K hK; simp (disch := omega) only [go_sem, W, hq, Int.cast_ofNat_Int, Int.natCast_one, Int.reduceEq, Int.toNat_natCast, Int.natCast_nonneg]; ((repeat (refine ndI (by first | assumption | omega | rfl) ?_)); refine hK _ ?_; clear hK K)) | (with_reducible first | (refine evL_nil ?_; refine hR _ ?_; clear hR R) | ((first | refine evC_seq ?_ | refine evC_block ?_); intro J hJ hJ') | (refine evC_region ?_; intro R hR) | (refine hJ _ ?_; clear hJ hJ' J) | refine evC_skip ?_ | refine evC_ret ?_ | refine evC_exit ?_) | ((with_reducible refine hJ' _ _ ?_ ?_); (focus (simp; done)); clear hJ hJ' J) | ((with_reducible apply evL_unmet); rfl; rfl; rfl; (try simp (disch := omega) only [go_sem, W, hq, Int.cast_ofNat_Int, Int.natCast_one, Int.reduceEq, Int.toNat_natCast, Int.natCast_nonneg])) | ((with_reducible apply evL_grd); rfl; rfl; rfl; all_goals (intro hb; first | (cases hb; done) | ((try simp only [Bool.not_true, Bool.not_false] at hb); (first | ((with_reducible intro K hK); simp (disch := omega) only [go_sem, W, hq, Int.cast_ofNat_Int, Int.natCast_one, Int.reduceEq, Int.toNat_natCast, Int.natCast_nonneg]; ((repeat (refine ndI (by first | assumption | omega | rfl) ?_)); refine hK _ ?_; clear hK K)) | ((fail_if_success (with_reducible intro _)); simp (disch := omega) only [go_sem, W, hq, Int.cast_ofNat_Int, Int.natCast_one, Int.reduceEq, Int.toNat_natCast, Int.natCast_nonneg]))))) | ((with_reducible apply evC_cond); rfl; rfl; all_goals (intro hc; first | (cases hc; done) | (try simp only at hc)))))))
    all_goals (refine ⟨by simp, ⟨_, ?_, AV.le_refl _⟩, leH_get (by simp [leH, hget])⟩; simp only [Try.results70, resL, ldA, oneOf, go_sem])
    show vi .i64 (IntKind.i64.wrap (IntKind.u64.wrap ((BitVec.ofInt IntKind.u64.bits (b.fdiv (2 ^ (min (n % 64) IntKind.u64.bits))) &&& BitVec.ofInt IntKind.u64.bits 1).toNat : Nat))) = _
    rw [lbit_eq u2 _ (Nat.mod_lt _ (by decide)), show n % 64 = n - 64 by omega]
    simp only [bitW, if_neg (show ¬ n < 64 by omega), if_pos (show n < 128 by omega)]
  · (refine fn_of Try.func70 rfl (by rfl) ?_; simp only [Try.ntmps70, List.length_cons, List.length_nil, Nat.reduceAdd, Nat.reduceSub, List.replicate, List.cons_append, List.nil_append])
    (have W := ndI e1 (ndI e2 (ndI e3 (ndI e4 @wrI))); (repeat (any_goals (first | ((with_reducible refine evL_one ?_ ?_); rfl; intro K hK; simp (disch := omega) only [go_sem, W, hq, Int.cast_ofNat_Int, Int.natCast_one, Int.reduceEq, Int.toNat_natCast, Int.natCast_nonneg]; ((repeat (refine ndI (by first | assumption | omega | rfl) ?_)); refine hK _ ?_; clear hK K)) | (with_reducible first | (refine evL_nil ?_; refine hR _ ?_; clear hR R) | ((first | refine evC_seq ?_ | refine evC_block ?_); intro J hJ hJ') | (refine evC_region ?_; intro R hR) | (refine hJ _ ?_; clear hJ hJ' J) | refine evC_skip ?_ | refine evC_ret ?_ | refine evC_exit ?_) | ((with_reducible refine hJ' _ _ ?_ ?_); (focus (simp; done)); clear hJ hJ' J) | ((with_reducible apply evL_unmet); rfl; rfl; rfl; (try simp (disch := omega) only [go_sem, W, hq, Int.cast_ofNat_Int, Int.natCast_one, Int.reduceEq, Int.toNat_natCast, Int.natCast_nonneg])) | ((with_reducible apply evL_grd); rfl; rfl; rfl; all_goals (intro hb; first | (cases hb; done) | ((try simp only [Bool.not_true, Bool.not_false] at hb); (first | ((with_reducible intro K hK); simp (disch := omega) only [go_sem, W, hq, Int.cast_ofNat_Int, Int.natCast_one, Int.reduceEq, Int.toNat_natCast, Int.natCast_nonneg]; ((repeat (refine ndI (by first | assumption | omega | rfl) ?_)); refine hK _ ?_; clear hK K)) | ((fail_if_success (with_reducible intro _)); simp (disch := omega) only [go_sem, W, hq, Int.cast_ofNat_Int, Int.natCast_one, Int.reduceEq, Int.toNat_natCast, Int.natCast_nonneg]))))) | ((with_reducible apply evC_cond); rfl; rfl; all_goals (intro hc; first | (cases hc; done) | (try simp only at hc)))))))
    all_goals (refine ⟨by simp, ⟨_, ?_, AV.le_refl _⟩, leH_get (by simp [leH, hget])⟩; simp only [Try.results70, resL, ldA, oneOf, go_sem])
    show vi .i64 (IntKind.i64.wrap (IntKind.u64.wrap ((BitVec.ofInt IntKind.u64.bits (c.fdiv (2 ^ (min (n % 64) IntKind.u64.bits))) &&& BitVec.ofInt IntKind.u64.bits 1).toNat : Nat))) = _
    rw [lbit_eq u3 _ (Nat.mod_lt _ (by decide)), show n % 64 = n - 128 by omega]
    simp only [bitW, if_neg (show ¬ n < 64 by omega), if_neg (show ¬ n < 128 by omega), if_pos (show n < 192 by omega)]
  · (refine fn_of Try.func70 rfl (by rfl) ?_; simp only [Try.ntmps70, List.length_cons, List.length_nil, Nat.reduceAdd, Nat.reduceSub, List.replicate, List.cons_append, List.nil_append])
    (have W := ndI e1 (ndI e2 (ndI e3 (ndI e4 @wrI))); (repeat (any_goals (first | ((with_reducible refine evL_one ?_ ?_); rfl; intro K hK; simp (disch := omega) only [go_sem, W, hq, Int.cast_ofNat_Int, Int.natCast_one, Int.reduceEq, Int.toNat_natCast, Int.natCast_nonneg]; ((repeat (refine ndI (by first | assumption | omega | rfl) ?_)); refine hK _ ?_; clear hK K)) | (with_reducible first | (refine evL_nil ?_; refine hR _ ?_; clear hR R) | ((first | refine evC_seq ?_ | refine evC_block ?_); intro J hJ hJ') | (refine evC_region ?_; intro R hR) | (refine hJ _ ?_; clear hJ hJ' J) | refine evC_skip ?_ | refine evC_ret ?_ | refine evC_exit ?_) | ((with_reducible refine hJ' _ _ ?_ ?_); (focus (simp; done)); clear hJ hJ' J) | ((with_reducible apply evL_unmet); rfl; rfl; rfl; (try simp (disch := omega) only [go_sem, W, hq, Int.cast_ofNat_Int, Int.natCast_one, Int.reduceEq, Int.toNat_natCast, Int.natCast_nonneg])) | ((with_reducible apply evL_grd); rfl; rfl; rfl; all_goals (intro hb; first | (cases hb; done) | ((try simp only [Bool.not_true, Bool.not_false] at hb); (first | ((with_reducible intro K hK); simp (disch := omega) only [go_sem, W, hq, Int.cast_ofNat_Int, Int.natCast_one, Int.reduceEq, Int.toNat_natCast, Int.natCast_nonneg]; ((repeat (refine ndI (by first | assumption | omega | rfl) ?_)); refine hK _ ?_; clear hK K)) | ((fail_if_success (with_reducible intro _)); simp (disch := omega) only [go_sem, W, hq, Int.cast_ofNat_Int, Int.natCast_one, Int.reduceEq, Int.toNat_natCast, Int.natCast_nonneg]))))) | ((with_reducible apply evC_cond); rfl; rfl; all_goals (intro hc; first | (cases hc; done) | (try simp only at hc)))))))
    all_goals (refine ⟨by simp, ⟨_, ?_, AV.le_refl _⟩, leH_get (by simp [leH, hget])⟩; simp only [Try.results70, resL, ldA, oneOf, go_sem])
    show vi .i64 (IntKind.i64.wrap (IntKind.u64.wrap ((BitVec.ofInt IntKind.u64.bits (d.fdiv (2 ^ (min (n % 64) IntKind.u64.bits))) &&& BitVec.ofInt IntKind.u64.bits 1).toNat : Nat))) = _
    rw [lbit_eq u4 _ (Nat.mod_lt _ (by decide)), show n % 64 = n - 192 by omega]
    simp only [bitW, if_neg (show ¬ n < 64 by omega), if_neg (show ¬ n < 128 by omega), if_neg (show ¬ n < 192 by omega)]
/-! a word as a number -/
def VW (a b c d : Int) : Nat := a.toNat + 18446744073709551616 * (b.toNat + 18446744073709551616 * (c.toNat + 18446744073709551616 * d.toNat))
theorem bit_lo (A R k : Nat) (hk : k < 64) : (A + 18446744073709551616 * R) / 2 ^ k % 2 = A / 2 ^ k % 2 := by
  have e : (18446744073709551616 : Nat) = 2 ^ k * (2 * 2 ^ (63 - k)) := by
    rw [← Nat.pow_succ', ← Nat.pow_add, show k + (63 - k).succ = 64 by omega]
  rw [e, Nat.mul_assoc, Nat.add_mul_div_left _ _ (Nat.pos_of_ne_zero (by simp)), Nat.mul_assoc 2, Nat.add_mul_mod_self_left]
theorem bit_hi (A R k : Nat) (hA : A < 18446744073709551616) (hk : 64 ≤ k) : (A + 18446744073709551616 * R) / 2 ^ k = R / 2 ^ (k - 64) := by
  have e : (2 : Nat) ^ k = 18446744073709551616 * 2 ^ (k - 64) := by
    rw [show (18446744073709551616 : Nat) = 2 ^ 64 by decide, ← Nat.pow_add, show 64 + (k - 64) = k by omega]
  rw [e, ← Nat.div_div_eq_div_mul, Nat.add_mul_div_left _ _ (by decide), Nat.div_eq_of_lt hA, Nat.zero_add]
theorem lbit_nat {x : Int} (h : U x) (k : Nat) : lbit x k = ((x.toNat / 2 ^ k % 2 : Nat) : Int) := by
  obtain ⟨N, rfl⟩ := Int.eq_ofNat_of_zero_le h.1
  unfold lbit
  have : (N : Int) / 2 ^ k = ((N / 2 ^ k : Nat) : Int) := by simp
  rw [this]; simp
theorem bitW_val {a b c d : Int} (u1 : U a) (u2 : U b) (u3 : U c) (u4 : U d) (n : Nat) (hn : n ≤ 255) : bitW a b c d n = ((VW a b c d / 2 ^ n % 2 : Nat) : Int) := by
  unfold bitW VW
  have h1 : a.toNat < 18446744073709551616 := by have := u1.2; omega
  have h2 : b.toNat < 18446744073709551616 := by have := u2.2; omega
  have h3 : c.toNat < 18446744073709551616 := by have := u3.2; omega
  split
  · rw [lbit_nat u1, bit_lo _ _ _ (by omega)]
  · rw [bit_hi _ _ _ h1 (by omega)]
    split
    · rw [lbit_nat u2, bit_lo _ _ _ (by omega)]
    · rw [bit_hi _ _ _ h2 (by omega)]
      split
      · rw [lbit_nat u3, show n - 64 - 64 = n - 128 by omega, bit_lo _ _ _ (by omega)]
      · rw [show n - 64 - 64 = n - 128 by omega, bit_hi _ _ _ h3 (by omega), lbit_nat u4, show n - 128 - 64 = n - 192 by omega]
theorem VW_wN {x : Nat} (h : x < WW) : VW (l0 x) (l1 x) (l2 x) (l3 x) = x := by
  obtain ⟨a, b, c, d, e, _, _, _, _, e0, e1, e2, e3⟩ := split_w h
  rw [e0, e1, e2, e3]
  unfold VW
  simp only [Int.toNat_natCast]
  exact e.symm
def bitN (x n : Nat) : Nat := x / 2 ^ n % 2
theorem bitN_fn (x : Nat) (hx : x < WW) (n : Nat) (hn : n ≤ 255) : Fn Try.prog 70 [wN x, vi .i64 n] [] (vi .i64 (bitN x n : Nat)) [] := by
  have h := bit_fn (l0 x) (l1 x) (l2 x) (l3 x) (U0 x) (U1 x) (U2 x) (U3 x) n hn
  rw [bitW_val (U0 x) (U1 x) (U2 x) (U3 x) n hn, VW_wN hx] at h
  exact h
def cmpN (x y : Nat) : Int := if x < y then -1 else if y < x then 1 else 0
theorem cmpN_lt {x y n : Nat} (h1 : x / 2 ^ (n + 1) = y / 2 ^ (n + 1)) (h2 : x / 2 ^ n % 2 < y / 2 ^ n % 2) : x < y := by
  rw [Nat.pow_succ, ← Nat.div_div_eq_div_mul, ← Nat.div_div_eq_div_mul] at h1
  rcases Nat.lt_or_ge x y with h | h
  · exact h
  · have := Nat.div_le_div_right (c := 2 ^ n) h; omega
theorem cmpN_eq {x y n : Nat} (h1 : x / 2 ^ (n + 1) = y / 2 ^ (n + 1)) (h2 : x / 2 ^ n % 2 = y / 2 ^ n % 2) : x / 2 ^ n = y / 2 ^ n := by
  rw [Nat.pow_succ, ← Nat.div_div_eq_div_mul, ← Nat.div_div_eq_div_mul] at h1
  omega
theorem refcmp_fn (x y : Nat) (lx : x < WW) (ly : y < WW) : Fn Try.prog 38 [wN x, wN y] [] (vi .i64 (cmpN x y)) [] := by
  (refine fn_of Try.func38 rfl (by rfl) ?_; simp only [Try.ntmps38, List.length_cons, List.length_nil, Nat.reduceAdd, Nat.reduceSub, List.replicate, List.cons_append, List.nil_append])
  (repeat (any_goals (first | ((with_reducible refine evL_one ?_ ?_); rfl; intro K hK; simp only [go_sem]; ((repeat (refine ndI (by first | assumption | omega | rfl) ?_)); refine hK _ ?_; clear hK K)) | (with_reducible first | (refine evL_nil ?_; refine hR _ ?_; clear hR R) | ((first | refine evC_seq ?_ | refine evC_block ?_); intro J hJ hJ') | (refine evC_region ?_; intro R hR) | (refine hJ _ ?_; clear hJ hJ' J) | refine evC_skip ?_ | refine evC_ret ?_ | refine evC_exit ?_) | ((with_reducible refine hJ' _ _ ?_ ?_); (focus (simp; done)); clear hJ hJ' J) | ((with_reducible apply evC_cond); rfl; rfl; all_goals (intro hc; first | (cases hc; done) | (try simp only at hc))) | ((with_reducible refine evD_nil ?_ ?_); kernel_rfl; (with_reducible refine hR _ ?_); clear hR R) | (((with_reducible apply evD_any); rfl; rfl; (simp only [rdE, rdOf, go_sem]; rfl); (intro τ hA hQ hN; ((try simp only [agree, Op.operands, Call.operands, go_sem, List.mem_cons, List.not_mem_nil, forall_eq_or_imp, forall_eq, List.append_toArray, Option.toArray] at hA); (try simp only [go_sem, List.mem_cons, List.not_mem_nil, forall_eq_or_imp, forall_eq] at hQ hN); (first | (revert hA; intro hA) | have hA := trivial); (first | (revert hQ; intro hQ) | have hQ := trivial); (first | (revert hN; intro hN) | have hN := trivial); simp only [go_sem, hA, hQ, hN]; (repeat (refine ndI (by first | assumption | omega | rfl) ?_)); (first | apply eff_rd | apply eff_st | apply eff_nw)))); (simp only [St.eff, setO, hputs, go_sem])) | ((with_reducible refine evC_draw ?_ ?_ ?_ ?_); kernel_rfl; kernel_rfl; (first | kernel_rfl | simp [newNames, isNew, St.free, freeH, AV.refsL, AV.refs]); intro R hR))))
  refine evC_loop (α := { i : Nat // i ≤ 256 ∧ x / 2 ^ i = y / 2 ^ i }) (fun p => ⟨[.any, .any, .ptr 2 0, .ptr 3 0, vi .i64 0, vi .i64 ((p.1 : Int) - 1), .any, .any, .any, .any, .any, .any, .any, .any, .any, .any, .any, .any, .any, .any, .any, .any, .any, .any], [(2, [vi .u64 (l0 x), vi .u64 (l1 x), vi .u64 (l2 x), vi .u64 (l3 x)]), (3, [vi .u64 (l0 y), vi .u64 (l1 y), vi .u64 (l2 y), vi .u64 (l3 y)])]⟩) (fun p => p.1) ⟨256, Nat.le_refl _, by rw [Nat.div_eq_of_lt (show x < 2 ^ 256 from lx), Nat.div_eq_of_lt (show y < 2 ^ 256 from ly)]⟩ (St.le_of (by simp [leT]) (by simp [leH, hget])) ?_
  rintro ⟨i, h1, h2⟩ J hJ hJ'
  dsimp only at hJ ⊢
  rcases i with _ | n
  · simp only [Nat.pow_zero, Nat.div_one] at h2
    have hr : cmpN x y = 0 := by rw [h2]; simp [cmpN]
    have e1 : (decide (((0 : Nat) : Int) - 1 ≥ 0)) = false := by decide
    (repeat (any_goals (first | ((with_reducible refine evL_one ?_ ?_); rfl; intro K hK; simp only [go_sem, e1]; ((repeat (refine ndI (by first | assumption | omega | rfl) ?_)); refine hK _ ?_; clear hK K)) | (with_reducible first | (refine evL_nil ?_; refine hR _ ?_; clear hR R) | ((first | refine evC_seq ?_ | refine evC_block ?_); intro J hJ hJ') | (refine evC_region ?_; intro R hR) | (refine hJ _ ?_; clear hJ hJ' J) | refine evC_skip ?_ | refine evC_ret ?_ | refine evC_exit ?_) | ((with_reducible refine hJ' _ _ ?_ ?_); (focus (simp; done)); clear hJ hJ' J) | ((with_reducible apply evC_cond); rfl; rfl; all_goals (intro hc; first | (cases hc; done) | (try simp only at hc))) | ((with_reducible refine evD_nil ?_ ?_); kernel_rfl; (with_reducible refine hR _ ?_); clear hR R) | (((with_reducible apply evD_any); rfl; rfl; (simp only [rdE, rdOf, go_sem, e1]; rfl); (intro τ hA hQ hN; ((try simp only [agree, Op.operands, Call.operands, go_sem, e1, go_sem, List.mem_cons, List.not_mem_nil, forall_eq_or_imp, forall_eq, List.append_toArray, Option.toArray] at hA); (try simp only [go_sem, e1, List.mem_cons, List.not_mem_nil, forall_eq_or_imp, forall_eq] at hQ hN); (first | (revert hA; intro hA) | have hA := trivial); (first | (revert hQ; intro hQ) | have hQ := trivial); (first | (revert hN; intro hN) | have hN := trivial); simp only [go_sem, e1, go_sem, hA, hQ, hN]; (repeat (refine ndI (by first | assumption | omega | rfl) ?_)); (first | apply eff_rd | apply eff_st | apply eff_nw)))); (simp only [St.eff, setO, hputs, go_sem, e1])) | ((with_reducible refine evC_draw ?_ ?_ ?_ ?_); kernel_rfl; kernel_rfl; (first | kernel_rfl | simp [newNames, isNew, St.free, freeH, AV.refsL, AV.refs]); intro R hR))))
    all_goals rw [hr]
    all_goals (refine ⟨by simp, ⟨_, ?_, AV.le_refl _⟩, leH_get (by simp [leH, hget])⟩; simp only [Try.results38, resL, ldA, oneOf, go_sem])
  · have e0 : ((n + 1 : Nat) : Int) - 1 = (n : Int) := by omega
    have e1 : (decide ((n : Int) ≥ 0)) = true := by simp
    have b1 := bitN_fn x lx n (by omega)
    have b2 := bitN_fn y ly n (by omega)
    obtain ⟨p, hp⟩ : ∃ p, bitN x n = p := ⟨_, rfl⟩
    obtain ⟨q, hq⟩ : ∃ q, bitN y n = q := ⟨_, rfl⟩
    rw [hp] at b1
    rw [hq] at b2
    have hp' : x / 2 ^ n % 2 = p := hp
    have hq' : y / 2 ^ n % 2 = q := hq
    rw [e0]
    rcases Nat.lt_trichotomy p q with hpq | hpq | hpq
    · have hr : cmpN x y = -1 := by
        have hlt := cmpN_lt h2 (by rw [hp', hq']; exact hpq)
        simp [cmpN, hlt]
      have d1 : decide ((p : Int) < (q : Int)) = true := by simp; omega
      (have W := ndI e1 (ndI d1 @wrI); (repeat (any_goals (first | ((with_reducible refine evL_one ?_ ?_); rfl; intro K hK; simp (disch := omega) only [go_sem, W]; ((repeat (refine ndI (by first | assumption | omega | rfl) ?_)); refine hK _ ?_; clear hK K)) | (with_reducible first | (refine evL_nil ?_; refine hR _ ?_; clear hR R) | ((first | refine evC_seq ?_ | refine evC_block ?_); intro J hJ hJ') | (refine evC_region ?_; intro R hR) | (refine hJ _ ?_; clear hJ hJ' J) | refine evC_skip ?_ | refine evC_ret ?_ | refine evC_exit ?_) | ((with_reducible refine hJ' _ _ ?_ ?_); (focus (simp; done)); clear hJ hJ' J) | ((with_reducible apply evC_cond); rfl; rfl; all_goals (intro hc; first | (cases hc; done) | (try simp only at hc))) | ((with_reducible refine evD_nil ?_ ?_); kernel_rfl; (with_reducible refine hR _ ?_); clear hR R) | ((first | ((with_reducible apply evD_fcall); rfl; rfl; (first | ((apply opF_callB (b1); rfl; rfl; rfl; rfl; exact Try.func70); kernel_rfl; rfl; (simp (disch := omega) only [go_sem, W]; rfl); (first | rfl | simp [AV.inNL, AV.inN])) | ((apply opF_callB (b2); rfl; rfl; rfl; rfl; exact Try.func70); kernel_rfl; rfl; (simp (disch := omega) only [go_sem, W]; rfl); (first | rfl | simp [AV.inNL, AV.inN])))) | ((with_reducible apply evD_any); rfl; rfl; (simp (disch := omega) only [rdE, rdOf, go_sem, W]; rfl); (intro τ hA hQ hN; ((try simp only [agree, Op.operands, Call.operands, go_sem, W, go_sem, List.mem_cons, List.not_mem_nil, forall_eq_or_imp, forall_eq, List.append_toArray, Option.toArray] at hA); (try simp only [go_sem, W, List.mem_cons, List.not_mem_nil, forall_eq_or_imp, forall_eq] at hQ hN); (first | (revert hA; intro hA) | have hA := trivial); (first | (revert hQ; intro hQ) | have hQ := trivial); (first | (revert hN; intro hN) | have hN := trivial); simp (disch := omega) only [go_sem, W, go_sem, hA, hQ, hN]; (repeat (refine ndI (by first | assumption | omega | rfl) ?_)); (first | apply eff_rd | apply eff_st | apply eff_nw))))); (simp (disch := omega) only [St.eff, setO, hputs, go_sem, W])) | ((with_reducible refine evC_draw ?_ ?_ ?_ ?_); kernel_rfl; kernel_rfl; (first | kernel_rfl | simp [newNames, isNew, St.free, freeH, AV.refsL, AV.refs]); intro R hR)))))
      all_goals rw [hr]
      all_goals (refine ⟨by simp, ⟨_, ?_, AV.le_refl _⟩, leH_get (by simp [leH, hget])⟩; simp only [Try.results38, resL, ldA, oneOf, go_sem])
    · have d1 : decide ((p : Int) < (q : Int)) = false := by simp; omega
      have d2 : decide ((p : Int) > (q : Int)) = false := by simp; omega
      (have W := ndI e1 (ndI d1 (ndI d2 @wrI)); (repeat (any_goals (first | ((with_reducible refine evL_one ?_ ?_); rfl; intro K hK; simp (disch := omega) only [go_sem, W]; ((repeat (refine ndI (by first | assumption | omega | rfl) ?_)); refine hK _ ?_; clear hK K)) | (with_reducible first | (refine evL_nil ?_; refine hR _ ?_; clear hR R) | ((first | refine evC_seq ?_ | refine evC_block ?_); intro J hJ hJ') | (refine evC_region ?_; intro R hR) | (refine hJ _ ?_; clear hJ hJ' J) | refine evC_skip ?_ | refine evC_ret ?_ | refine evC_exit ?_) | ((with_reducible refine hJ' _ _ ?_ ?_); (focus (simp; done)); clear hJ hJ' J) | ((with_reducible apply evC_cond); rfl; rfl; all_goals (intro hc; first | (cases hc; done) | (try simp only at hc))) | ((with_reducible refine evD_nil ?_ ?_); kernel_rfl; (with_reducible refine hR _ ?_); clear hR R) | ((first | ((with_reducible apply evD_fcall); rfl; rfl; (first | ((apply opF_callB (b1); rfl; rfl; rfl; rfl; exact Try.func70); kernel_rfl; rfl; (simp (disch := omega) only [go_sem, W]; rfl); (first | rfl | simp [AV.inNL, AV.inN])) | ((apply opF_callB (b2); rfl; rfl; rfl; rfl; exact Try.func70); kernel_rfl; rfl; (simp (disch := omega) only [go_sem, W]; rfl); (first | rfl | simp [AV.inNL, AV.inN])))) | ((with_reducible apply evD_any); rfl; rfl; (simp (disch := omega) only [rdE, rdOf, go_sem, W]; rfl); (intro τ hA hQ hN; ((try simp only [agree, Op.operands, Call.operands, go_sem, W, go_sem, List.mem_cons, List.not_mem_nil, forall_eq_or_imp, forall_eq, List.append_toArray, Option.toArray] at hA); (try simp only [go_sem, W, List.mem_cons, List.not_mem_nil, forall_eq_or_imp, forall_eq] at hQ hN); (first | (revert hA; intro hA) | have hA := trivial); (first | (revert hQ; intro hQ) | have hQ := trivial); (first | (revert hN; intro hN) | have hN := trivial); simp (disch := omega) only [go_sem, W, go_sem, hA, hQ, hN]; (repeat (refine ndI (by first | assumption | omega | rfl) ?_)); (first | apply eff_rd | apply eff_st | apply eff_nw))))); (simp (disch := omega) only [St.eff, setO, hputs, go_sem, W])) | ((with_reducible refine evC_draw ?_ ?_ ?_ ?_); kernel_rfl; kernel_rfl; (first | kernel_rfl | simp [newNames, isNew, St.free, freeH, AV.refsL, AV.refs]); intro R hR)))))
      all_goals exact hJ _ ⟨n, by omega, cmpN_eq h2 (by rw [hp', hq', hpq])⟩ (by simp) (St.le_of (by simp [leT]) (by simp [leH, hget]))
    · have hr : cmpN x y = 1 := by
        have hlt := cmpN_lt h2.symm (by rw [hp', hq']; exact hpq)
        simp [cmpN, hlt, Nat.lt_asymm hlt]
      have d1 : decide ((p : Int) < (q : Int)) = false := by simp; omega
      have d2 : decide ((p : Int) > (q : Int)) = true := by simp; omega
      (have W := ndI e1 (ndI d1 (ndI d2 @wrI)); (repeat (any_goals (first | ((with_reducible refine evL_one ?_ ?_); rfl; intro K hK; simp (disch := omega) only [go_sem, W]; ((repeat (refine ndI (by first | assumption | omega | rfl) ?_)); refine hK _ ?_; clear hK K)) | (with_reducible first | (refine evL_nil ?_; refine hR _ ?_; clear hR R) | ((first | refine evC_seq ?_ | refine evC_block ?_); intro J hJ hJ') | (refine evC_region ?_; intro R hR) | (refine hJ _ ?_; clear hJ hJ' J) | refine evC_skip ?_ | refine evC_ret ?_ | refine evC_exit ?_) | ((with_reducible refine hJ' _ _ ?_ ?_); (focus (simp; done)); clear hJ hJ' J) | ((with_reducible apply evC_cond); rfl; rfl; all_goals (intro hc; first | (cases hc; done) | (try simp only at hc))) | ((with_reducible refine evD_nil ?_ ?_); kernel_rfl; (with_reducible refine hR _ ?_); clear hR R) | ((first | ((with_reducible apply evD_fcall); rfl; rfl; (first | ((apply opF_callB (b1); rfl; rfl; rfl; rfl; exact Try.func70); kernel_rfl; rfl; (simp (disch := omega) only [go_sem, W]; rfl); (first | rfl | simp [AV.inNL, AV.inN])) | ((apply opF_callB (b2); rfl; rfl; rfl; rfl; exact Try.func70); kernel_rfl; rfl; (simp (disch := omega) only [go_sem, W]; rfl); (first | rfl | simp [AV.inNL, AV.inN])))) | ((with_reducible apply evD_any); rfl; rfl; (simp (disch := omega) only [rdE, rdOf, go_sem, W]; rfl); (intro τ hA hQ hN; ((try simp only [agree, Op.operands, Call.operands, go_sem, W, go_sem, List.mem_cons, List.not_mem_nil, forall_eq_or_imp, forall_eq, List.append_toArray, Option.toArray] at hA); (try simp only [go_sem, W, List.mem_cons, List.not_mem_nil, forall_eq_or_imp, forall_eq] at hQ hN); (first | (revert hA; intro hA) | have hA := trivial); (first | (revert hQ; intro hQ) | have hQ := trivial); (first | (revert hN; intro hN) | have hN := trivial); simp (disch := omega) only [go_sem, W, go_sem, hA, hQ, hN]; (repeat (refine ndI (by first | assumption | omega | rfl) ?_)); (first | apply eff_rd | apply eff_st | apply eff_nw))))); (simp (disch := omega) only [St.eff, setO, hputs, go_sem, W])) | ((with_reducible refine evC_draw ?_ ?_ ?_ ?_); kernel_rfl; kernel_rfl; (first | kernel_rfl | simp [newNames, isNew, St.free, freeH, AV.refsL, AV.refs]); intro R hR)))))
      all_goals rw [hr]
      all_goals (refine ⟨by simp, ⟨_, ?_, AV.le_refl _⟩, leH_get (by simp [leH, hget])⟩; simp only [Try.results38, resL, ldA, oneOf, go_sem])
end Go.Proofs.Ytiggambibcohcaa
namespace Go.Proofs.Ytiggambibcohcaa
open Go.RowKit
open Nat (reduceBEq)
set_option maxRecDepth 20000
set_option maxHeartbeats 2000000
def ipv (n : Nat) : List PV := [.v (.int .i64 (n : Int))]
theorem ipv_len (n : Nat) : (ipv n).length = 1 := rfl
abbrev isl (ex : Bool) (l : List Nat) : AV := .c (.sl ex 1 l.length (l.flatMap ipv))
def rcI (l : List Nat) : List AV := (l.flatMap ipv).map .c
theorem rcI_len (l : List Nat) : (rcI l).length = l.length * 1 := by unfold rcI; rw [List.length_map, flat_length ipv_len]
theorem refsL_rcI (d : Nat) (l : List Nat) : AV.refsL d (rcI l) = false := by unfold rcI; exact refsL_map _ _
theorem isl_at {l : List Nat} {i : Nat} {y : Nat} (h : l[i]? = some y) : ((l.flatMap ipv).drop i).take 1 = [.v (.int .i64 (y : Int))] := by
  have h2 := flat_at (f := ipv) ipv_len h
  rw [Nat.mul_one] at h2
  exact h2
def bitsL (z k : Nat) : List Nat := (List.range k).map (bitN z)
theorem bitsL_len (z k : Nat) : (bitsL z k).length = k := by simp [bitsL]
theorem bitsL_at {z k i : Nat} (h : i < k) : (bitsL z k)[i]? = some (bitN z i) := by simp [bitsL, h]
theorem bitsL_succ (z k : Nat) : bitsL z (k + 1) = bitsL z k ++ [bitN z k] := by simp [bitsL, List.range_succ]
theorem bitN_lt (x n : Nat) : bitN x n < 2 := Nat.mod_lt _ (by decide)
/-! a word's bits -/
abbrev stI (x : Nat) (r : Nat) (out : List Nat) (i : Int) : St := ⟨[.any, vi .i64 256, .ptr 2 0, .any, .any, .row r 3 1 out.length, .any, vi .i64 256, vi .i64 i, .any, .any, .any, .any, .any, .any, .any, .any, .any, .any], [(2, [vi .u64 (l0 x), vi .u64 (l1 x), vi .u64 (l2 x), vi .u64 (l3 x)]), (r, rcI out)]⟩
theorem stI_rn (x : Nat) (out : List Nat) (i : Int) : (stI x 16 out i).to (stI x 500 out i) := by
  have h := St.to.rn (σ := stI x 16 out i) (fun r => if r = 16 then 500 else r) (fun r => if r = 500 then 16 else r) [2, 16] (by simp [AV.inNL, AV.inN]) (by simp) (by simp [inH, AV.inNL, AV.inN, rcI]) (by simp) (by simp)
  simpa [AV.renL, AV.ren, renH, rcI, stI] using h
theorem bits_row (x : Nat) (hx : x < WW) : Fn Try.prog 91 [wN x, vi .i64 256] [] (.row 500 3 1 256) [(500, rcI (bitsL x 256))] := by
  (refine fn_of Try.func91 rfl (by rfl) ?_; simp only [Try.ntmps91, List.length_cons, List.length_nil, Nat.reduceAdd, Nat.reduceSub, List.replicate, List.cons_append, List.nil_append])
  (repeat (any_goals (first | ((with_reducible refine evL_one ?_ ?_); rfl; intro K hK; simp only [go_sem]; ((repeat (refine ndI (by first | assumption | omega | rfl) ?_)); refine hK _ ?_; clear hK K)) | (with_reducible first | (refine evL_nil ?_; refine hR _ ?_; clear hR R) | ((first | refine evC_seq ?_ | refine evC_block ?_); intro J hJ hJ') | (refine evC_region ?_; intro R hR) | (refine hJ _ ?_; clear hJ hJ' J) | refine evC_skip ?_ | refine evC_ret ?_ | refine evC_exit ?_) | ((with_reducible refine hJ' _ _ ?_ ?_); (focus (simp; done)); clear hJ hJ' J) | ((with_reducible apply evC_cond); rfl; rfl; all_goals (intro hc; first | (cases hc; done) | (try simp only at hc))))))
  refine evC_uptoT 256 (fun i => stI x 500 (bitsL x i) (i : Int)) ?_ ?_
  · refine St.to.trans (St.to.of_le (τ := ⟨[.any, vi .i64 256, .ptr 2 0, .any, .any, .c (.v (.slice none 0 0)), .any, vi .i64 256, vi .i64 0, .any, .any, .any, .any, .any, .any, .any, .any, .any, .any], [(2, [vi .u64 (l0 x), vi .u64 (l1 x), vi .u64 (l2 x), vi .u64 (l3 x)])]⟩) (St.le_of (by simp [leT]) (by simp [leH, hget]))) ?_
    refine St.to.trans (St.to.nilrow 5 500 3 1 rfl (by simp) (by simp [St.free, freeH, AV.refsL, AV.refs]) (by decide)) (St.to.of_le (St.le_of (by simp [leT, bitsL]) (by simp [leH, hget, hput, rcI, bitsL])))
  intro i hi J hJ hJ'
  dsimp only [stI] at hJ ⊢
  rcases Nat.lt_or_ge i 256 with hlt | hge
  · have k1 : (decide ((i : Int) < 256)) = true := by simp; omega
    have k7 : (i : Int) + 1 = ((i + 1 : Nat) : Int) := by omega
    have bt := bitN_fn x hx i (by omega)
    have ht := bitsL_succ x i
    have hol := bitsL_len x i
    rw [ht] at hJ
    generalize bitsL x i = out at hJ hol ⊢
    have k2 := rcI_len out
    (have W := ndI k1 (ndI k2 (ndI k7 (ndI @wrI @refsL_map))); (repeat (any_goals (first | ((with_reducible refine evL_call ?_ ?_ ?_); rfl; rfl; intro K hK; ((apply opA_callB (bt); rfl; rfl; rfl; rfl; exact Try.func70); kernel_rfl; rfl; (simp (disch := omega) only [go_sem, W, refsL_rcI, refsL_app, AV.refsL, AV.refs, List.length_append, List.length_cons, List.length_nil, Bool.or_false]; rfl); (first | rfl | simp [AV.inNL, AV.inN])); (simp (disch := omega) only [go_sem, W, refsL_rcI, refsL_app, AV.refsL, AV.refs, List.length_append, List.length_cons, List.length_nil, Bool.or_false]; refine hK _ ?_; clear hK K)) | ((with_reducible refine evL_one ?_ ?_); rfl; intro K hK; simp (disch := omega) only [go_sem, W, refsL_rcI, refsL_app, AV.refsL, AV.refs, List.length_append, List.length_cons, List.length_nil, Bool.or_false]; ((repeat (refine ndI (by first | assumption | omega | rfl) ?_)); refine hK _ ?_; clear hK K)) | (with_reducible first | (refine evL_nil ?_; refine hR _ ?_; clear hR R) | ((first | refine evC_seq ?_ | refine evC_block ?_); intro J hJ hJ') | (refine evC_region ?_; intro R hR) | (refine hJ _ ?_; clear hJ hJ' J) | refine evC_skip ?_ | refine evC_ret ?_ | refine evC_exit ?_) | ((with_reducible refine hJ' _ _ ?_ ?_); (focus (simp; done)); clear hJ hJ' J) | ((with_reducible apply evC_cond); rfl; rfl; all_goals (intro hc; first | (cases hc; done) | (try simp only at hc)))))))
    all_goals exact hJ _ hlt (St.to.trans (St.to.of_le (τ := stI x 16 (out ++ [bitN x i]) ((i + 1 : Nat) : Int)) (St.le_of (by simp [leT]) (by simp [leH, hget, rcI, ipv]))) (stI_rn x _ _))
  · have k1 : (decide ((i : Int) < 256)) = false := by simp; omega
    obtain rfl : i = 256 := by omega
    rw [bitsL_len]
    (repeat (any_goals (first | ((with_reducible refine evL_one ?_ ?_); rfl; intro K hK; simp only [go_sem, k1]; ((repeat (refine ndI (by first | assumption | omega | rfl) ?_)); refine hK _ ?_; clear hK K)) | (with_reducible first | (refine evL_nil ?_; refine hR _ ?_; clear hR R) | ((first | refine evC_seq ?_ | refine evC_block ?_); intro J hJ hJ') | (refine evC_region ?_; intro R hR) | (refine hJ _ ?_; clear hJ hJ' J) | refine evC_skip ?_ | refine evC_ret ?_ | refine evC_exit ?_) | ((with_reducible refine hJ' _ _ ?_ ?_); (focus (simp; done)); clear hJ hJ' J) | ((with_reducible apply evC_cond); rfl; rfl; all_goals (intro hc; first | (cases hc; done) | (try simp only at hc))))))
    all_goals (refine ⟨by simp, ⟨_, ?_, AV.le_refl _⟩, leH_get (by simp [leH, hget])⟩; simp only [Try.results91, resL, ldA, oneOf, go_sem])
theorem frzI {f : FuncId} {args : List AV} {d e n : Nat} {l : List Nat} (hn : l.length = n) (h : Fn Try.prog f args [] (.row d e 1 n) [(d, rcI l)]) : Fn Try.prog f args [] (isl false l) [] := by
  subst hn
  have h := Fn.frzG (d := d) (pcs := l.flatMap ipv) h
  simp only [AV.frz, beq_self_eq_true, if_true] at h
  rw [if_pos (flat_length ipv_len l).symm] at h
  exact h
theorem bits_fn (x : Nat) (hx : x < WW) : Fn Try.prog 91 [wN x, vi .i64 256] [] (isl false (bitsL x 256)) [] := frzI (bitsL_len x 256) (bits_row x hx)
/-! sums, bit by bit -/
def cyN (x y i : Nat) : Nat := (x % 2 ^ i + y % 2 ^ i) / 2 ^ i
theorem cyN_le (x y i : Nat) : cyN x y i ≤ 1 := by
  unfold cyN
  have hp : 0 < 2 ^ i := Nat.pos_of_ne_zero (by simp)
  have h1 := Nat.mod_lt x hp
  have h2 := Nat.mod_lt y hp
  have := Nat.div_lt_of_lt_mul (m := x % 2 ^ i + y % 2 ^ i) (n := 2 ^ i) (k := 2) (by omega)
  omega
theorem add_step (x y i : Nat) : bitN x i + bitN y i + cyN x y i = 2 * cyN x y (i + 1) + bitN (x + y) i := by
  have hp : 0 < 2 ^ i := Nat.pos_of_ne_zero (by simp)
  have e1 : cyN x y (i + 1) = (cyN x y i + (bitN x i + bitN y i)) / 2 := by
    unfold cyN bitN
    rw [Nat.mod_pow_succ, Nat.mod_pow_succ, Nat.pow_succ, ← Nat.div_div_eq_div_mul]
    rw [show x % 2 ^ i + 2 ^ i * (x / 2 ^ i % 2) + (y % 2 ^ i + 2 ^ i * (y / 2 ^ i % 2)) = (x % 2 ^ i + y % 2 ^ i) + 2 ^ i * (x / 2 ^ i % 2 + y / 2 ^ i % 2) by rw [Nat.mul_add]; omega]
    rw [Nat.add_mul_div_left _ _ hp]
  have e2 : (x + y) / 2 ^ i = x / 2 ^ i + y / 2 ^ i + cyN x y i := by
    unfold cyN
    have hx := Nat.div_add_mod x (2 ^ i)
    have hy := Nat.div_add_mod y (2 ^ i)
    conv => lhs; rw [← hx, ← hy]
    rw [show 2 ^ i * (x / 2 ^ i) + x % 2 ^ i + (2 ^ i * (y / 2 ^ i) + y % 2 ^ i) = (x % 2 ^ i + y % 2 ^ i) + 2 ^ i * (x / 2 ^ i + y / 2 ^ i) by rw [Nat.mul_add]; omega]
    rw [Nat.add_mul_div_left _ _ hp]
    omega
  rw [e1]
  unfold bitN
  rw [e2]
  omega
abbrev stD (e1 e2 : Bool) (x y : Nat) (r : Nat) (out : List Nat) (i : Nat) : St := ⟨[isl e1 (bitsL x 256), isl e2 (bitsL y 256), .any, .any, .any, .row r 3 1 out.length, vi .i64 (cyN x y i : Nat), .any, .any, .any, vi .i64 256, vi .i64 i, .any, .any, .any, .any, .any, .any, .any, .any, .any, .any, .any, .any, .any, .any, .any, .any, .any, .any, .any, .any, .any, .any, .any, .any, .any], [(r, rcI out)]⟩
theorem stD_rn (e1 e2 : Bool) (x y : Nat) (out : List Nat) (i : Nat) : (stD e1 e2 x y 29 out i).to (stD e1 e2 x y 500 out i) := by
  have h := St.to.rn (σ := stD e1 e2 x y 29 out i) (fun r => if r = 29 then 500 else r) (fun r => if r = 500 then 29 else r) [29] (by simp [AV.inNL, AV.inN]) (by simp) (by simp [inH, AV.inNL, AV.inN, rcI]) (by simp) (by simp)
  simpa [AV.renL, AV.ren, renH, rcI, stD] using h
theorem add_row (e1 e2 : Bool) (x y : Nat) (hx : x < WW) (hy : y < WW) : Fn Try.prog 90 [isl e1 (bitsL x 256), isl e2 (bitsL y 256)] [] (.row 36 3 1 257) [(36, rcI (bitsL (x + y) 257))] := by
  have e256 : (((bitsL x 256).length : Nat) : Int) = 256 := by rw [bitsL_len]; rfl
  obtain ⟨tot, htot⟩ : ∃ t, bitsL (x + y) 257 = t := ⟨_, rfl⟩
  rw [htot]
  (refine fn_of Try.func90 rfl (by rfl) ?_; simp only [Try.ntmps90, List.length_cons, List.length_nil, Nat.reduceAdd, Nat.reduceSub, List.replicate, List.cons_append, List.nil_append])
  (repeat (any_goals (first | ((with_reducible refine evL_one ?_ ?_); rfl; intro K hK; simp only [go_sem, e256]; ((repeat (refine ndI (by first | assumption | omega | rfl) ?_)); refine hK _ ?_; clear hK K)) | (with_reducible first | (refine evL_nil ?_; refine hR _ ?_; clear hR R) | ((first | refine evC_seq ?_ | refine evC_block ?_); intro J hJ hJ') | (refine evC_region ?_; intro R hR) | (refine hJ _ ?_; clear hJ hJ' J) | refine evC_skip ?_ | refine evC_ret ?_ | refine evC_exit ?_) | ((with_reducible refine hJ' _ _ ?_ ?_); (focus (simp; done)); clear hJ hJ' J) | ((with_reducible apply evC_cond); rfl; rfl; all_goals (intro hc; first | (cases hc; done) | (try simp only at hc))) | ((with_reducible refine evD_nil ?_ ?_); kernel_rfl; (with_reducible refine hR _ ?_); clear hR R) | (((with_reducible apply evD_any); rfl; rfl; (simp only [rdE, rdOf, go_sem, e256]; rfl); (intro τ hA hQ hN; ((try simp only [agree, Op.operands, Call.operands, go_sem, e256, go_sem, List.mem_cons, List.not_mem_nil, forall_eq_or_imp, forall_eq, List.append_toArray, Option.toArray] at hA); (try simp only [go_sem, e256, List.mem_cons, List.not_mem_nil, forall_eq_or_imp, forall_eq] at hQ hN); (first | (revert hA; intro hA) | have hA := trivial); (first | (revert hQ; intro hQ) | have hQ := trivial); (first | (revert hN; intro hN) | have hN := trivial); simp only [go_sem, e256, go_sem, hA, hQ, hN]; (repeat (refine ndI (by first | assumption | omega | rfl) ?_)); (first | apply eff_rd | apply eff_st | apply eff_nw)))); (simp only [St.eff, setO, hputs, go_sem, e256])) | ((with_reducible refine evC_draw ?_ ?_ ?_ ?_); kernel_rfl; kernel_rfl; (first | kernel_rfl | simp [newNames, isNew, St.free, freeH, AV.refsL, AV.refs]); intro R hR))))
  refine evC_uptoT 256 (fun i => stD e1 e2 x y 500 (bitsL (x + y) i) i) ?_ ?_
  · refine St.to.trans (St.to.of_le (τ := ⟨[isl e1 (bitsL x 256), isl e2 (bitsL y 256), .any, .any, .any, .c (.v (.slice none 0 0)), vi .i64 0, .any, .any, .any, vi .i64 256, vi .i64 0, .any, .any, .any, .any, .any, .any, .any, .any, .any, .any, .any, .any, .any, .any, .any, .any, .any, .any, .any, .any, .any, .any, .any, .any, .any], []⟩) (St.le_of (by simp [leT]) (by simp [leH, hget]))) ?_
    refine St.to.trans (St.to.nilrow 5 500 3 1 rfl (by simp) (by simp [St.free, freeH, AV.refsL, AV.refs]) (by decide)) (St.to.of_le (St.le_of (by simp [leT, bitsL, cyN]) (by simp [leH, hget, hput, rcI, bitsL])))
  intro i hi J hJ hJ'
  dsimp only [stD] at hJ ⊢
  have ht := bitsL_succ (x + y) i
  have hol := bitsL_len (x + y) i
  rcases Nat.lt_or_ge i 256 with hlt | hge
  · have k1 : (decide ((i : Int) < 256)) = true := by simp; omega
    have k7 : (i : Int) + 1 = ((i + 1 : Nat) : Int) := by omega
    have g1 := isl_at (bitsL_at (z := x) hlt)
    have g2 := isl_at (bitsL_at (z := y) hlt)
    have il1 : i < (bitsL x 256).length := by rw [bitsL_len]; exact hlt
    have il2 : i < (bitsL y 256).length := by rw [bitsL_len]; exact hlt
    have st := add_step x y i
    have b1 := bitN_lt x i
    have b2 := bitN_lt y i
    have b3 := bitN_lt (x + y) i
    have b4 := cyN_le x y i
    rw [ht] at hJ
    generalize bitsL (x + y) i = out at hJ hol ⊢
    have k2 := rcI_len out
    generalize bitN x i = p at st b1 g1
    generalize bitN y i = q at st b2 g2
    generalize bitN (x + y) i = s at st b3 hJ
    generalize cyN x y i = c at st b4 ⊢
    have hJ2 : ∀ σ' : St, i + 1 ≤ 256 → σ'.to (stD e1 e2 x y 29 (out ++ [s]) (i + 1)) → J .normal σ' := fun σ' h1 h2 => hJ σ' h1 (h2.trans (stD_rn e1 e2 x y _ _))
    dsimp only [stD] at hJ2
    generalize cyN x y (i + 1) = c2 at st hJ2
    have k3 : ((p : Int) + (q : Int)) = ((p + q : Nat) : Int) := by omega
    have k4 : (((p + q : Nat) : Int) + (c : Int)) = ((p + q + c : Nat) : Int) := by omega
    have k5 : (((p + q + c : Nat) : Int)).tmod 2 = (s : Int) := by
      show (((p + q + c) % 2 : Nat) : Int) = _
      omega
    have k6 : (((p + q + c : Nat) : Int)).tdiv 2 = (c2 : Int) := by
      show (((p + q + c) / 2 : Nat) : Int) = _
      omega
    have k8 : p + q + c ≤ 3 := by omega
    (have W := ndI k1 (ndI k2 (ndI k3 (ndI k4 (ndI k5 (ndI k6 (ndI k7 (ndI g1 (ndI g2 (ndI @wrI @refsL_map))))))))); (repeat (any_goals (first | ((with_reducible refine evL_one ?_ ?_); rfl; intro K hK; simp (disch := omega) only [go_sem, W, Nat.mul_one, Int.reduceEq, refsL_rcI, refsL_app, AV.refsL, AV.refs, List.length_append, List.length_cons, List.length_nil, Bool.or_false]; ((repeat (refine ndI (by first | assumption | omega | rfl) ?_)); refine hK _ ?_; clear hK K)) | (with_reducible first | (refine evL_nil ?_; refine hR _ ?_; clear hR R) | ((first | refine evC_seq ?_ | refine evC_block ?_); intro J hJ hJ') | (refine evC_region ?_; intro R hR) | (refine hJ _ ?_; clear hJ hJ' J) | refine evC_skip ?_ | refine evC_ret ?_ | refine evC_exit ?_) | ((with_reducible refine hJ' _ _ ?_ ?_); (focus (simp; done)); clear hJ hJ' J) | ((with_reducible apply evC_cond); rfl; rfl; all_goals (intro hc; first | (cases hc; done) | (try simp only at hc))) | ((with_reducible refine evD_nil ?_ ?_); kernel_rfl; (with_reducible refine hR _ ?_); clear hR R) | (((with_reducible apply evD_any); rfl; rfl; (simp (disch := omega) only [rdE, rdOf, go_sem, W, Nat.mul_one, Int.reduceEq, refsL_rcI, refsL_app, AV.refsL, AV.refs, List.length_append, List.length_cons, List.length_nil, Bool.or_false]; rfl); (intro τ hA hQ hN; ((try simp only [agree, Op.operands, Call.operands, go_sem, W, Nat.mul_one, Int.reduceEq, refsL_rcI, refsL_app, AV.refsL, AV.refs, List.length_append, List.length_cons, List.length_nil, Bool.or_false, go_sem, List.mem_cons, List.not_mem_nil, forall_eq_or_imp, forall_eq, List.append_toArray, Option.toArray] at hA); (try simp only [go_sem, W, Nat.mul_one, Int.reduceEq, refsL_rcI, refsL_app, AV.refsL, AV.refs, List.length_append, List.length_cons, List.length_nil, Bool.or_false, List.mem_cons, List.not_mem_nil, forall_eq_or_imp, forall_eq] at hQ hN); (first | (revert hA; intro hA) | have hA := trivial); (first | (revert hQ; intro hQ) | have hQ := trivial); (first | (revert hN; intro hN) | have hN := trivial); simp (disch := omega) only [go_sem, W, Nat.mul_one, Int.reduceEq, refsL_rcI, refsL_app, AV.refsL, AV.refs, List.length_append, List.length_cons, List.length_nil, Bool.or_false, go_sem, hA, hQ, hN]; (repeat (refine ndI (by first | assumption | omega | rfl) ?_)); (first | apply eff_rd | apply eff_st | apply eff_nw)))); (simp (disch := omega) only [St.eff, setO, hputs, go_sem, W, Nat.mul_one, Int.reduceEq, refsL_rcI, refsL_app, AV.refsL, AV.refs, List.length_append, List.length_cons, List.length_nil, Bool.or_false])) | ((with_reducible refine evC_draw ?_ ?_ ?_ ?_); kernel_rfl; kernel_rfl; (first | kernel_rfl | simp [newNames, isNew, St.free, freeH, AV.refsL, AV.refs]); intro R hR)))))
    all_goals exact hJ2 _ hlt (St.to.of_le (St.le_of (by simp [leT]) (by simp [leH, hget, rcI, ipv])))
  · have k1 : (decide ((i : Int) < 256)) = false := by simp; omega
    obtain rfl : i = 256 := by omega
    have hcy : cyN x y 256 = bitN (x + y) 256 := by
      unfold cyN bitN
      rw [Nat.mod_eq_of_lt (show x < 2 ^ 256 from hx), Nat.mod_eq_of_lt (show y < 2 ^ 256 from hy)]
      have : (x + y) / 2 ^ 256 < 2 := Nat.div_lt_of_lt_mul (by have : x < 2 ^ 256 := hx; have : y < 2 ^ 256 := hy; omega)
      omega
    rw [hcy]
    have hr : rcI tot = rcI (bitsL (x + y) 256) ++ [vi .i64 (bitN (x + y) 256 : Nat)] := by
      rw [← htot, ht]
      simp [rcI, ipv]
    generalize bitsL (x + y) 256 = out at hol hr ⊢
    have k2 := rcI_len out
    generalize bitN (x + y) 256 = s at hr ⊢
    (have W := ndI k1 (ndI k2 (ndI @wrI @refsL_map)); (repeat (any_goals (first | ((with_reducible refine evL_one ?_ ?_); rfl; intro K hK; simp (disch := omega) only [go_sem, W, hol, Nat.mul_one, refsL_rcI, refsL_app, AV.refsL, AV.refs, List.length_append, List.length_cons, List.length_nil, Bool.or_false]; ((repeat (refine ndI (by first | assumption | omega | rfl) ?_)); refine hK _ ?_; clear hK K)) | (with_reducible first | (refine evL_nil ?_; refine hR _ ?_; clear hR R) | ((first | refine evC_seq ?_ | refine evC_block ?_); intro J hJ hJ') | (refine evC_region ?_; intro R hR) | (refine hJ _ ?_; clear hJ hJ' J) | refine evC_skip ?_ | refine evC_ret ?_ | refine evC_exit ?_) | ((with_reducible refine hJ' _ _ ?_ ?_); (focus (simp; done)); clear hJ hJ' J) | ((with_reducible apply evC_cond); rfl; rfl; all_goals (intro hc; first | (cases hc; done) | (try simp only at hc))) | ((with_reducible refine evD_nil ?_ ?_); kernel_rfl; (with_reducible refine hR _ ?_); clear hR R) | (((with_reducible apply evD_any); rfl; rfl; (simp (disch := omega) only [rdE, rdOf, go_sem, W, hol, Nat.mul_one, refsL_rcI, refsL_app, AV.refsL, AV.refs, List.length_append, List.length_cons, List.length_nil, Bool.or_false]; rfl); (intro τ hA hQ hN; ((try simp only [agree, Op.operands, Call.operands, go_sem, W, hol, Nat.mul_one, refsL_rcI, refsL_app, AV.refsL, AV.refs, List.length_append, List.length_cons, List.length_nil, Bool.or_false, go_sem, List.mem_cons, List.not_mem_nil, forall_eq_or_imp, forall_eq, List.append_toArray, Option.toArray] at hA); (try simp only [go_sem, W, hol, Nat.mul_one, refsL_rcI, refsL_app, AV.refsL, AV.refs, List.length_append, List.length_cons, List.length_nil, Bool.or_false, List.mem_cons, List.not_mem_nil, forall_eq_or_imp, forall_eq] at hQ hN); (first | (revert hA; intro hA) | have hA := trivial); (first | (revert hQ; intro hQ) | have hQ := trivial); (first | (revert hN; intro hN) | have hN := trivial); simp (disch := omega) only [go_sem, W, hol, Nat.mul_one, refsL_rcI, refsL_app, AV.refsL, AV.refs, List.length_append, List.length_cons, List.length_nil, Bool.or_false, go_sem, hA, hQ, hN]; (repeat (refine ndI (by first | assumption | omega | rfl) ?_)); (first | apply eff_rd | apply eff_st | apply eff_nw)))); (simp (disch := omega) only [St.eff, setO, hputs, go_sem, W, hol, Nat.mul_one, refsL_rcI, refsL_app, AV.refsL, AV.refs, List.length_append, List.length_cons, List.length_nil, Bool.or_false])) | ((with_reducible refine evC_draw ?_ ?_ ?_ ?_); kernel_rfl; kernel_rfl; (first | kernel_rfl | simp [newNames, isNew, St.free, freeH, AV.refsL, AV.refs]); intro R hR)))))
    all_goals rw [hr]
    all_goals (refine ⟨by simp, ⟨_, ?_, AV.le_refl _⟩, leH_get (by simp [leH, hget])⟩; simp only [Try.results90, resL, ldA, oneOf, go_sem])
theorem addb_fn (e1 e2 : Bool) (x y : Nat) (hx : x < WW) (hy : y < WW) : Fn Try.prog 90 [isl e1 (bitsL x 256), isl e2 (bitsL y 256)] [] (isl false (bitsL (x + y) 257)) [] := frzI (bitsL_len _ _) (add_row e1 e2 x y hx hy)
end Go.Proofs.Ytiggambibcohcaa
namespace Go.Proofs.Ytiggambibcohcaa
open Go.RowKit
open Nat (reduceBEq)
set_option maxRecDepth 20000
set_option maxHeartbeats 2000000
theorem orN {a b : Nat} (ha : a < 18446744073709551616) (hb : b < 18446744073709551616) : IntKind.u64.wrap (BitVec.ofInt IntKind.u64.bits (a : Int) ||| BitVec.ofInt IntKind.u64.bits (b : Int)).toNat = ((a ||| b : Nat) : Int) := by
  have e : (BitVec.ofInt IntKind.u64.bits (a : Int) ||| BitVec.ofInt IntKind.u64.bits (b : Int)).toNat = a ||| b := by
    show (BitVec.ofInt 64 (a : Int) ||| BitVec.ofInt 64 (b : Int)).toNat = _
    rw [BitVec.toNat_or, BitVec.ofInt_natCast, BitVec.ofInt_natCast, BitVec.toNat_ofNat, BitVec.toNat_ofNat, Nat.mod_eq_of_lt ha, Nat.mod_eq_of_lt hb]
  rw [e]
  have h : a ||| b < 2 ^ 64 := Nat.or_lt_two_pow ha hb
  exact wrU (by omega) (by omega)
theorem orR {a r : Nat} (hr : r < 64) (ha : a < 2 ^ r) : IntKind.u64.wrap (BitVec.ofInt IntKind.u64.bits (a : Int) ||| BitVec.ofInt IntKind.u64.bits ((2 ^ r : Nat) : Int)).toNat = ((a + 2 ^ r : Nat) : Int) := by
  have h2 : 2 ^ r ≤ 9223372036854775808 := Nat.pow_le_pow_right (n := 2) (by omega) (show r ≤ 63 by omega)
  rw [orN (by omega) (by omega), Nat.or_comm]
  have h3 := Nat.two_pow_add_eq_or_of_lt (i := r) (b := a) ha 1
  rw [Nat.mul_one] at h3
  rw [← h3, Nat.add_comm]
theorem shl1 {r : Nat} (hr : r < 64) : IntKind.u64.wrap (1 * 2 ^ (min r IntKind.u64.bits)) = ((2 ^ r : Nat) : Int) := by
  have hm : min r IntKind.u64.bits = r := Nat.min_eq_left (show r ≤ 64 by omega)
  have h2 : 2 ^ r ≤ 9223372036854775808 := Nat.pow_le_pow_right (n := 2) (by omega) (show r ≤ 63 by omega)
  rw [hm, Int.one_mul, show ((2 : Int) ^ r) = ((2 ^ r : Nat) : Int) by simp]
  generalize 2 ^ r = R at h2 ⊢
  exact wrU (by omega) (by omega)
theorem limb0 {w R : Nat} (hw : w < R) (hR : R ≤ 9223372036854775808) : l0 w = (w : Int) ∧ l0 (w + R) = ((w + R : Nat) : Int) ∧ l1 (w + R) = l1 w ∧ l2 (w + R) = l2 w ∧ l3 (w + R) = l3 w := by
  unfold l0 l1 l2 l3
  refine ⟨?_, ?_, ?_, ?_, ?_⟩ <;> congr 1 <;> omega
theorem limb1 {w R : Nat} (hw : w < 18446744073709551616 * R) (hR : R ≤ 9223372036854775808) : l1 w = ((w / 18446744073709551616 : Nat) : Int) ∧ w / 18446744073709551616 < R ∧ l0 (w + 18446744073709551616 * R) = l0 w ∧ l1 (w + 18446744073709551616 * R) = ((w / 18446744073709551616 + R : Nat) : Int) ∧ l2 (w + 18446744073709551616 * R) = l2 w ∧ l3 (w + 18446744073709551616 * R) = l3 w := by
  unfold l0 l1 l2 l3
  refine ⟨?_, ?_, ?_, ?_, ?_, ?_⟩ <;> (try congr 1) <;> omega
theorem limb2 {w R : Nat} (hw : w < 18446744073709551616 * (18446744073709551616 * R)) (hR : R ≤ 9223372036854775808) : l2 w = ((w / 18446744073709551616 / 18446744073709551616 : Nat) : Int) ∧ w / 18446744073709551616 / 18446744073709551616 < R ∧ l0 (w + 18446744073709551616 * (18446744073709551616 * R)) = l0 w ∧ l1 (w + 18446744073709551616 * (18446744073709551616 * R)) = l1 w ∧ l2 (w + 18446744073709551616 * (18446744073709551616 * R)) = ((w / 18446744073709551616 / 18446744073709551616 + R : Nat) : Int) ∧ l3 (w + 18446744073709551616 * (18446744073709551616 * R)) = l3 w := by
  unfold l0 l1 l2 l3
  have e : (w + 18446744073709551616 * (18446744073709551616 * R)) / 18446744073709551616 = w / 18446744073709551616 + 18446744073709551616 * R := by omega
  rw [e]
  have hw1 : w / 18446744073709551616 < 18446744073709551616 * R := by omega
  have e0 : (w + 18446744073709551616 * (18446744073709551616 * R)) % 18446744073709551616 = w % 18446744073709551616 := by omega
  rw [e0]
  generalize w / 18446744073709551616 = v at hw1
  refine ⟨?_, ?_, rfl, ?_, ?_, ?_⟩ <;> (try congr 1) <;> omega
theorem limb3 {w R : Nat} (hw : w < 18446744073709551616 * (18446744073709551616 * (18446744073709551616 * R))) (hR : R ≤ 9223372036854775808) : l3 w = ((w / 18446744073709551616 / 18446744073709551616 / 18446744073709551616 : Nat) : Int) ∧ w / 18446744073709551616 / 18446744073709551616 / 18446744073709551616 < R ∧ l0 (w + 18446744073709551616 * (18446744073709551616 * (18446744073709551616 * R))) = l0 w ∧ l1 (w + 18446744073709551616 * (18446744073709551616 * (18446744073709551616 * R))) = l1 w ∧ l2 (w + 18446744073709551616 * (18446744073709551616 * (18446744073709551616 * R))) = l2 w ∧ l3 (w + 18446744073709551616 * (18446744073709551616 * (18446744073709551616 * R))) = ((w / 18446744073709551616 / 18446744073709551616 / 18446744073709551616 + R : Nat) : Int) := by
  unfold l0 l1 l2 l3
  have e : (w + 18446744073709551616 * (18446744073709551616 * (18446744073709551616 * R))) / 18446744073709551616 = w / 18446744073709551616 + 18446744073709551616 * (18446744073709551616 * R) := by omega
  have e0 : (w + 18446744073709551616 * (18446744073709551616 * (18446744073709551616 * R))) % 18446744073709551616 = w % 18446744073709551616 := by omega
  have hw1 : w / 18446744073709551616 < 18446744073709551616 * (18446744073709551616 * R) := by omega
  rw [e, e0]
  generalize w / 18446744073709551616 = v at hw1
  have e2 : (v + 18446744073709551616 * (18446744073709551616 * R)) / 18446744073709551616 = v / 18446744073709551616 + 18446744073709551616 * R := by omega
  have e3 : (v + 18446744073709551616 * (18446744073709551616 * R)) % 18446744073709551616 = v % 18446744073709551616 := by omega
  have hw2 : v / 18446744073709551616 < 18446744073709551616 * R := by omega
  rw [e2, e3]
  generalize v / 18446744073709551616 = u at hw2
  refine ⟨?_, ?_, rfl, rfl, ?_, ?_⟩ <;> (try congr 1) <;> omega
theorem set_bit {z i : Nat} (hb : bitN z i = 1) : z % 2 ^ (i + 1) = z % 2 ^ i + 2 ^ i := by
  rw [Nat.mod_pow_succ]
  have : z / 2 ^ i % 2 = 1 := hb
  rw [this, Nat.mul_one]
theorem unset_bit {z i : Nat} (hb : bitN z i = 0) : z % 2 ^ (i + 1) = z % 2 ^ i := by
  rw [Nat.mod_pow_succ]
  have : z / 2 ^ i % 2 = 0 := hb
  rw [this, Nat.mul_zero, Nat.add_zero]
theorem of_step {z i : Nat} (hi : i < 256) (hb : bitN z i = 1) :
    (i / 64 = 0 ∧ IntKind.u64.wrap (BitVec.ofInt IntKind.u64.bits (l0 (z % 2 ^ i)) ||| BitVec.ofInt IntKind.u64.bits ((2 ^ (i % 64) : Nat) : Int)).toNat = l0 (z % 2 ^ (i + 1)) ∧ l1 (z % 2 ^ (i + 1)) = l1 (z % 2 ^ i) ∧ l2 (z % 2 ^ (i + 1)) = l2 (z % 2 ^ i) ∧ l3 (z % 2 ^ (i + 1)) = l3 (z % 2 ^ i)) ∨
    (i / 64 = 1 ∧ IntKind.u64.wrap (BitVec.ofInt IntKind.u64.bits (l1 (z % 2 ^ i)) ||| BitVec.ofInt IntKind.u64.bits ((2 ^ (i % 64) : Nat) : Int)).toNat = l1 (z % 2 ^ (i + 1)) ∧ l0 (z % 2 ^ (i + 1)) = l0 (z % 2 ^ i) ∧ l2 (z % 2 ^ (i + 1)) = l2 (z % 2 ^ i) ∧ l3 (z % 2 ^ (i + 1)) = l3 (z % 2 ^ i)) ∨
    (i / 64 = 2 ∧ IntKind.u64.wrap (BitVec.ofInt IntKind.u64.bits (l2 (z % 2 ^ i)) ||| BitVec.ofInt IntKind.u64.bits ((2 ^ (i % 64) : Nat) : Int)).toNat = l2 (z % 2 ^ (i + 1)) ∧ l0 (z % 2 ^ (i + 1)) = l0 (z % 2 ^ i) ∧ l1 (z % 2 ^ (i + 1)) = l1 (z % 2 ^ i) ∧ l3 (z % 2 ^ (i + 1)) = l3 (z % 2 ^ i)) ∨
    (i / 64 = 3 ∧ IntKind.u64.wrap (BitVec.ofInt IntKind.u64.bits (l3 (z % 2 ^ i)) ||| BitVec.ofInt IntKind.u64.bits ((2 ^ (i % 64) : Nat) : Int)).toNat = l3 (z % 2 ^ (i + 1)) ∧ l0 (z % 2 ^ (i + 1)) = l0 (z % 2 ^ i) ∧ l1 (z % 2 ^ (i + 1)) = l1 (z % 2 ^ i) ∧ l2 (z % 2 ^ (i + 1)) = l2 (z % 2 ^ i)) := by
  have hr : i % 64 < 64 := Nat.mod_lt _ (by decide)
  have hR : 2 ^ (i % 64) ≤ 9223372036854775808 := Nat.pow_le_pow_right (n := 2) (by omega) (show i % 64 ≤ 63 by omega)
  have hw : z % 2 ^ i < 2 ^ i := Nat.mod_lt _ (Nat.pos_of_ne_zero (by simp))
  have hpow : 2 ^ i = 2 ^ (64 * (i / 64)) * 2 ^ (i % 64) := by rw [← Nat.pow_add, Nat.div_add_mod]
  rw [set_bit hb]
  generalize z % 2 ^ i = w at hw ⊢
  have hor : ∀ a : Nat, a < 2 ^ (i % 64) → _ := fun a ha => orR hr ha
  generalize 2 ^ (i % 64) = R at *
  have hq : i / 64 = 0 ∨ i / 64 = 1 ∨ i / 64 = 2 ∨ i / 64 = 3 := by omega
  rcases hq with hq | hq | hq | hq
  · rw [hq] at hpow
    rw [show 2 ^ (64 * 0) = 1 from rfl, Nat.one_mul] at hpow
    rw [hpow] at hw ⊢
    obtain ⟨h0, h1, h2, h3, h4⟩ := limb0 hw hR
    exact .inl ⟨hq, by rw [h0, h1]; exact hor w hw, h2, h3, h4⟩
  · rw [hq] at hpow
    rw [show 2 ^ (64 * 1) = 18446744073709551616 from rfl] at hpow
    rw [hpow] at hw ⊢
    obtain ⟨h0, h1, h2, h3, h4, h5⟩ := limb1 hw hR
    exact .inr (.inl ⟨hq, by rw [h0, h3]; exact hor _ h1, h2, h4, h5⟩)
  · rw [hq] at hpow
    rw [show 2 ^ (64 * 2) = 18446744073709551616 * 18446744073709551616 from rfl, Nat.mul_assoc] at hpow
    rw [hpow] at hw ⊢
    obtain ⟨h0, h1, h2, h3, h4, h5⟩ := limb2 hw hR
    exact .inr (.inr (.inl ⟨hq, by rw [h0, h4]; exact hor _ h1, h2, h3, h5⟩))
  · rw [hq] at hpow
    rw [show 2 ^ (64 * 3) = 18446744073709551616 * (18446744073709551616 * 18446744073709551616) from rfl, Nat.mul_assoc, Nat.mul_assoc] at hpow
    rw [hpow] at hw ⊢
    obtain ⟨h0, h1, h2, h3, h4, h5⟩ := limb3 hw hR
    exact .inr (.inr (.inr ⟨hq, by rw [h0, h5]; exact hor _ h1, h2, h3, h4⟩))
theorem ofb_fn (ex : Bool) (z k : Nat) (hk : 256 ≤ k) (hk2 : k ≤ 257) : Fn Try.prog 89 [isl ex (bitsL z k)] [] (wN (z % WW)) [] := by
  have hlen := bitsL_len z k
  have hbit : ∀ i, i < k → ((((bitsL z k).flatMap ipv).drop i).take 1 = [.v (.int .i64 (bitN z i : Nat))]) := fun i hi => isl_at (bitsL_at hi)
  generalize bitsL z k = bl at hlen hbit ⊢
  (refine fn_of Try.func89 rfl (by rfl) ?_; simp only [Try.ntmps89, List.length_cons, List.length_nil, Nat.reduceAdd, Nat.reduceSub, List.replicate, List.cons_append, List.nil_append])
  (repeat (any_goals (first | ((with_reducible refine evL_one ?_ ?_); rfl; intro K hK; simp only [go_sem, hlen]; ((repeat (refine ndI (by first | assumption | omega | rfl) ?_)); refine hK _ ?_; clear hK K)) | (with_reducible first | (refine evL_nil ?_; refine hR _ ?_; clear hR R) | ((first | refine evC_seq ?_ | refine evC_block ?_); intro J hJ hJ') | (refine evC_region ?_; intro R hR) | (refine hJ _ ?_; clear hJ hJ' J) | refine evC_skip ?_ | refine evC_ret ?_ | refine evC_exit ?_) | ((with_reducible refine hJ' _ _ ?_ ?_); (focus (simp; done)); clear hJ hJ' J) | ((with_reducible apply evL_unmet); rfl; rfl; rfl; (try simp only [go_sem, hlen])) | ((with_reducible apply evL_grd); rfl; rfl; rfl; all_goals (intro hb; first | (cases hb; done) | ((try simp only [Bool.not_true, Bool.not_false] at hb); (first | ((with_reducible intro K hK); simp only [go_sem, hlen]; ((repeat (refine ndI (by first | assumption | omega | rfl) ?_)); refine hK _ ?_; clear hK K)) | ((fail_if_success (with_reducible intro _)); simp only [go_sem, hlen]))))) | ((with_reducible apply evC_cond); rfl; rfl; all_goals (intro hc; first | (cases hc; done) | (try simp only at hc))) | ((with_reducible refine evD_nil ?_ ?_); kernel_rfl; (with_reducible refine hR _ ?_); clear hR R) | (((with_reducible apply evD_any); rfl; rfl; (simp only [rdE, rdOf, go_sem, hlen]; rfl); (intro τ hA hQ hN; ((try simp only [agree, Op.operands, Call.operands, go_sem, hlen, go_sem, List.mem_cons, List.not_mem_nil, forall_eq_or_imp, forall_eq, List.append_toArray, Option.toArray] at hA); (try simp only [go_sem, hlen, List.mem_cons, List.not_mem_nil, forall_eq_or_imp, forall_eq] at hQ hN); (first | (revert hA; intro hA) | have hA := trivial); (first | (revert hQ; intro hQ) | have hQ := trivial); (first | (revert hN; intro hN) | have hN := trivial); simp only [go_sem, hlen, go_sem, hA, hQ, hN]; (repeat (refine ndI (by first | assumption | omega | rfl) ?_)); (first | apply eff_rd | apply eff_st | apply eff_nw)))); (simp only [St.eff, setO, hputs, go_sem, hlen])) | ((with_reducible refine evC_draw ?_ ?_ ?_ ?_); kernel_rfl; kernel_rfl; (first | kernel_rfl | simp [newNames, isNew, St.free, freeH, AV.refsL, AV.refs]); intro R hR))))
  refine evC_upto k (fun i => ⟨[.any, .any, .ptr 2 0, .ptr 3 0, .any, .any, isl ex bl, vi .i64 k, vi .i64 i, .any, .any, .any, .any, .any, .any, .any, .any, .any, .any, .any, .any, .any, .any, .any, .any, .any, .any, .any, .any, .any], [(2, [vi .u64 0, vi .u64 0, vi .u64 0, vi .u64 0]), (3, [vi .u64 (l0 (z % 2 ^ min i 256)), vi .u64 (l1 (z % 2 ^ min i 256)), vi .u64 (l2 (z % 2 ^ min i 256)), vi .u64 (l3 (z % 2 ^ min i 256))])]⟩) (St.le_of (by simp [leT, hlen]) (by simp [leH, hget, Nat.mod_one, l0_zero, l1_zero, l2_zero, l3_zero])) ?_
  intro i hi J hJ hJ'
  (try dsimp only at hJ ⊢)
  rcases Nat.lt_or_ge i k with hlt | hge
  · have k1 : (decide ((i : Int) < (k : Int))) = true := by simp; omega
    have k7 : (i : Int) + 1 = ((i + 1 : Nat) : Int) := by omega
    have k2 := hbit i hlt
    have hil : i < bl.length := by omega
    have b1 := bitN_lt z i
    rcases Nat.lt_or_ge i 256 with h256 | h256
    · have k3 : (decide ((i : Int) < 256)) = true := by simp; omega
      rw [Nat.min_eq_left (by omega : i ≤ 256)] at *
      rw [Nat.min_eq_left (by omega : i + 1 ≤ 256)] at hJ
      rcases (by omega : bitN z i = 0 ∨ bitN z i = 1) with hb | hb
      · have k4 : ((bitN z i : Nat) : Int) = 0 := by rw [hb]; rfl
        rw [unset_bit hb] at hJ
        (have W := ndI k1 (ndI k2 (ndI k3 (ndI k4 (ndI k7 @wrI)))); (repeat (any_goals (first | ((with_reducible refine evL_one ?_ ?_); rfl; intro K hK; simp (disch := omega) only [go_sem, W, Nat.mul_one, Int.reduceBEq]; ((repeat (refine ndI (by first | assumption | omega | rfl) ?_)); refine hK _ ?_; clear hK K)) | (with_reducible first | (refine evL_nil ?_; refine hR _ ?_; clear hR R) | ((first | refine evC_seq ?_ | refine evC_block ?_); intro J hJ hJ') | (refine evC_region ?_; intro R hR) | (refine hJ _ ?_; clear hJ hJ' J) | refine evC_skip ?_ | refine evC_ret ?_ | refine evC_exit ?_) | ((with_reducible refine hJ' _ _ ?_ ?_); (focus (simp; done)); clear hJ hJ' J) | ((with_reducible apply evL_unmet); rfl; rfl; rfl; (try simp (disch := omega) only [go_sem, W, Nat.mul_one, Int.reduceBEq])) | ((with_reducible apply evL_grd); rfl; rfl; rfl; all_goals (intro hb; first | (cases hb; done) | ((try simp only [Bool.not_true, Bool.not_false] at hb); (first | ((with_reducible intro K hK); simp (disch := omega) only [go_sem, W, Nat.mul_one, Int.reduceBEq]; ((repeat (refine ndI (by first | assumption | omega | rfl) ?_)); refine hK _ ?_; clear hK K)) | ((fail_if_success (with_reducible intro _)); simp (disch := omega) only [go_sem, W, Nat.mul_one, Int.reduceBEq]))))) | ((with_reducible apply evC_cond); rfl; rfl; all_goals (intro hc; first | (cases hc; done) | (try simp only at hc))) | ((with_reducible refine evD_nil ?_ ?_); kernel_rfl; (with_reducible refine hR _ ?_); clear hR R) | (((with_reducible apply evD_any); rfl; rfl; (simp (disch := omega) only [rdE, rdOf, go_sem, W, Nat.mul_one, Int.reduceBEq]; rfl); (intro τ hA hQ hN; ((try simp only [agree, Op.operands, Call.operands, go_sem, W, Nat.mul_one, Int.reduceBEq, go_sem, List.mem_cons, List.not_mem_nil, forall_eq_or_imp, forall_eq, List.append_toArray, Option.toArray] at hA); (try simp only [go_sem, W, Nat.mul_one, Int.reduceBEq, List.mem_cons, List.not_mem_nil, forall_eq_or_imp, forall_eq] at hQ hN); (first | (revert hA; intro hA) | have hA := trivial); (first | (revert hQ; intro hQ) | have hQ := trivial); (first | (revert hN; intro hN) | have hN := trivial); simp (disch := omega) only [go_sem, W, Nat.mul_one, Int.reduceBEq, go_sem, hA, hQ, hN]; (repeat (refine ndI (by first | assumption | omega | rfl) ?_)); (first | apply eff_rd | apply eff_st | apply eff_nw)))); (simp (disch := omega) only [St.eff, setO, hputs, go_sem, W, Nat.mul_one, Int.reduceBEq])) | ((with_reducible refine evC_draw ?_ ?_ ?_ ?_); kernel_rfl; kernel_rfl; (first | kernel_rfl | simp [newNames, isNew, St.free, freeH, AV.refsL, AV.refs]); intro R hR)))))
        all_goals exact hJ _ hlt (St.le_of (by simp [leT]) (by simp [leH, hget]))
      · have k4 : ((bitN z i : Nat) : Int) = 1 := by rw [hb]; rfl
        have e3 : (i : Int).tdiv 64 = ((i / 64 : Nat) : Int) := rfl
        have e4 : (i : Int).tmod 64 = ((i % 64 : Nat) : Int) := rfl
        have e5 := shl1 (Nat.mod_lt i (show 0 < 64 by decide))
        have os := of_step h256 hb
        generalize ((2 ^ (i % 64) : Nat) : Int) = R at e5 os
        generalize z % 2 ^ (i + 1) = w2 at os hJ
        generalize z % 2 ^ i = w at os ⊢
        rcases os with ⟨hq, o1, o2, o3, o4⟩ | ⟨hq, o1, o2, o3, o4⟩ | ⟨hq, o1, o2, o3, o4⟩ | ⟨hq, o1, o2, o3, o4⟩
        all_goals rw [o2, o3, o4] at hJ
        all_goals (have W := ndI k1 (ndI k2 (ndI k3 (ndI k4 (ndI k7 (ndI e3 (ndI e4 (ndI e5 (ndI o1 @wrI)))))))); (repeat (any_goals (first | ((with_reducible refine evL_one ?_ ?_); rfl; intro K hK; simp (disch := omega) only [St.free, freeH, reduceCtorEq, Nat.reduceMod, Nat.reduceDiv, Nat.reduceSub, Nat.reduceMul, Int.reduceToNat, Int.reduceLT, Int.reduceLE, Nat.reduceEqDiff, ↓reduceIte, Nat.reduceLeDiff, Nat.reduceLT, Nat.reduceAdd, Nat.reduceBNe, Nat.reduceBEq, forall_const, evz, pickAV, AV.cells, ofV, evO, W, hq, Nat.mul_one, Int.reduceBEq, Int.cast_ofNat_Int, Int.natCast_one, Int.reduceEq, Int.toNat_natCast, Int.natCast_nonneg, ty3, ty24, ty27, ty105]; ((repeat (refine ndI (by first | assumption | omega | rfl) ?_)); refine hK _ ?_; clear hK K)) | (with_reducible first | (refine evL_nil ?_; refine hR _ ?_; clear hR R) | ((first | refine evC_seq ?_ | refine evC_block ?_); intro J hJ hJ') | (refine evC_region ?_; intro R hR) | (refine hJ _ ?_; clear hJ hJ' J) | refine evC_skip ?_ | refine evC_ret ?_ | refine evC_exit ?_) | ((with_reducible refine hJ' _ _ ?_ ?_); (focus (simp; done)); clear hJ hJ' J) | ((with_reducible apply evL_unmet); rfl; rfl; rfl; (try simp (disch := omega) only [St.free, freeH, reduceCtorEq, Nat.reduceMod, Nat.reduceDiv, Nat.reduceSub, Nat.reduceMul, Int.reduceToNat, Int.reduceLT, Int.reduceLE, Nat.reduceEqDiff, ↓reduceIte, Nat.reduceLeDiff, Nat.reduceLT, Nat.reduceAdd, Nat.reduceBNe, Nat.reduceBEq, forall_const, evz, pickAV, AV.cells, ofV, evO, W, hq, Nat.mul_one, Int.reduceBEq, Int.cast_ofNat_Int, Int.natCast_one, Int.reduceEq, Int.toNat_natCast, Int.natCast_nonneg, ty3, ty24, ty27, ty105])) | ((with_reducible apply evL_grd); rfl; rfl; rfl; all_goals (intro hb; first | (cases hb; done) | ((try simp only [Bool.not_true, Bool.not_false] at hb); (first | ((with_reducible intro K hK); simp (disch := omega) only [St.free, freeH, reduceCtorEq, Nat.reduceMod, Nat.reduceDiv, Nat.reduceSub, Nat.reduceMul, Int.reduceToNat, Int.reduceLT, Int.reduceLE, Nat.reduceEqDiff, ↓reduceIte, Nat.reduceLeDiff, Nat.reduceLT, Nat.reduceAdd, Nat.reduceBNe, Nat.reduceBEq, forall_const, evz, pickAV, AV.cells, ofV, evO, W, hq, Nat.mul_one, Int.reduceBEq, Int.cast_ofNat_Int, Int.natCast_one, Int.reduceEq, Int.toNat_natCast, Int.natCast_nonneg, ty3, ty24, ty27, ty105]; ((repeat (refine ndI (by first | assumption | omega | rfl) ?_)); refine hK _ ?_; clear hK K)) | ((fail_if_success (with_reducible intro _)); simp (disch := omega) only [St.free, freeH, reduceCtorEq, Nat.reduceMod, Nat.reduceDiv, Nat.reduceSub, Nat.reduceMul, Int.reduceToNat, Int.reduceLT, Int.reduceLE, Nat.reduceEqDiff, ↓reduceIte, Nat.reduceLeDiff, Nat.reduceLT, Nat.reduceAdd, Nat.reduceBNe, Nat.reduceBEq, forall_const, evz, pickAV, AV.cells, ofV, evO, W, hq, Nat.mul_one, Int.reduceBEq, Int.cast_ofNat_Int, Int.natCast_one, Int.reduceEq, Int.toNat_natCast, Int.natCast_nonneg, ty3, ty24, ty27, ty105]))))) | ((with_reducible apply evC_cond); rfl; rfl; all_goals (intro hc; first | (cases hc; done) | (try simp only at hc))) | ((with_reducible refine evD_nil ?_ ?_); kernel_rfl; (with_reducible refine hR _ ?_); clear hR R) | (((with_reducible apply evD_any); rfl; rfl; (simp (disch := omega) only [rdE, rdOf, St.free, freeH, reduceCtorEq, Nat.reduceMod, Nat.reduceDiv, Nat.reduceSub, Nat.reduceMul, Int.reduceToNat, Int.reduceLT, Int.reduceLE, Nat.reduceEqDiff, ↓reduceIte, Nat.reduceLeDiff, Nat.reduceLT, Nat.reduceAdd, Nat.reduceBNe, Nat.reduceBEq, forall_const, evz, pickAV, AV.cells, ofV, evO, W, hq, Nat.mul_one, Int.reduceBEq, Int.cast_ofNat_Int, Int.natCast_one, Int.reduceEq, Int.toNat_natCast, Int.natCast_nonneg]; rfl); (intro τ hA hQ hN; ((try simp only [agree, Op.operands, Call.operands, reduceCtorEq, Nat.reduceMod, Nat.reduceDiv, Nat.reduceSub, Nat.reduceMul, Int.reduceToNat, Int.reduceLT, Int.reduceLE, Nat.reduceEqDiff, ↓reduceIte, Nat.reduceLeDiff, Nat.reduceLT, Nat.reduceAdd, Nat.reduceBNe, Nat.reduceBEq, forall_const, evz, pickAV, AV.cells, ofV, evO, W, hq, Nat.mul_one, Int.reduceBEq, Int.cast_ofNat_Int, Int.natCast_one, Int.reduceEq, Int.toNat_natCast, Int.natCast_nonneg, ty3, ty24, ty27, ty105, List.mem_cons, List.not_mem_nil, forall_eq_or_imp, forall_eq, List.append_toArray, Option.toArray] at hA); (try simp only [reduceCtorEq, Nat.reduceMod, Nat.reduceDiv, Nat.reduceSub, Nat.reduceMul, Int.reduceToNat, Int.reduceLT, Int.reduceLE, Nat.reduceEqDiff, ↓reduceIte, Nat.reduceLeDiff, Nat.reduceLT, Nat.reduceAdd, Nat.reduceBNe, Nat.reduceBEq, forall_const, evz, pickAV, AV.cells, ofV, evO, W, hq, Nat.mul_one, Int.reduceBEq, Int.cast_ofNat_Int, Int.natCast_one, Int.reduceEq, Int.toNat_natCast, Int.natCast_nonneg, List.mem_cons, List.not_mem_nil, forall_eq_or_imp, forall_eq] at hQ hN); (first | (revert hA; intro hA) | have hA := trivial); (first | (revert hQ; intro hQ) | have hQ := trivial); (first | (revert hN; intro hN) | have hN := trivial); simp (disch := omega) only [reduceCtorEq, Nat.reduceMod, Nat.reduceDiv, Nat.reduceSub, Nat.reduceMul, Int.reduceToNat, Int.reduceLT, Int.reduceLE, Nat.reduceEqDiff, ↓reduceIte, Nat.reduceLeDiff, Nat.reduceLT, Nat.reduceAdd, Nat.reduceBNe, Nat.reduceBEq, forall_const, evz, pickAV, AV.cells, ofV, evO, W, hq, Nat.mul_one, Int.reduceBEq, Int.cast_ofNat_Int, Int.natCast_one, Int.reduceEq, Int.toNat_natCast, Int.natCast_nonneg, ty3, ty24, ty27, ty105, hA, hQ, hN]; (repeat (refine ndI (by first | assumption | omega | rfl) ?_)); (first | apply eff_rd | apply eff_st | apply eff_nw)))); (simp (disch := omega) only [St.eff, setO, hputs, St.free, freeH, reduceCtorEq, Nat.reduceMod, Nat.reduceDiv, Nat.reduceSub, Nat.reduceMul, Int.reduceToNat, Int.reduceLT, Int.reduceLE, Nat.reduceEqDiff, ↓reduceIte, Nat.reduceLeDiff, Nat.reduceLT, Nat.reduceAdd, Nat.reduceBNe, Nat.reduceBEq, forall_const, evz, pickAV, AV.cells, ofV, evO, W, hq, Nat.mul_one, Int.reduceBEq, Int.cast_ofNat_Int, Int.natCast_one, Int.reduceEq, Int.toNat_natCast, Int.natCast_nonneg])) | ((with_reducible refine evC_draw ?_ ?_ ?_ ?_); kernel_rfl; kernel_rfl; (first | kernel_rfl | simp [newNames, isNew, St.free, freeH, AV.refsL, AV.refs]); intro R hR)))))
        all_goals exact hJ _ hlt (St.le_of (by simp [leT]) (by simp [leH, hget]))
    · have k3 : (decide ((i : Int) < 256)) = false := by simp; omega
      rw [Nat.min_eq_right (by omega : 256 ≤ i)] at *
      rw [Nat.min_eq_right (by omega : 256 ≤ i + 1)] at hJ
      (have W := ndI k1 (ndI k2 (ndI k3 (ndI k7 @wrI))); (repeat (any_goals (first | ((with_reducible refine evL_one ?_ ?_); rfl; intro K hK; simp (disch := omega) only [go_sem, W, Nat.mul_one]; ((repeat (refine ndI (by first | assumption | omega | rfl) ?_)); refine hK _ ?_; clear hK K)) | (with_reducible first | (refine evL_nil ?_; refine hR _ ?_; clear hR R) | ((first | refine evC_seq ?_ | refine evC_block ?_); intro J hJ hJ') | (refine evC_region ?_; intro R hR) | (refine hJ _ ?_; clear hJ hJ' J) | refine evC_skip ?_ | refine evC_ret ?_ | refine evC_exit ?_) | ((with_reducible refine hJ' _ _ ?_ ?_); (focus (simp; done)); clear hJ hJ' J) | ((with_reducible apply evL_unmet); rfl; rfl; rfl; (try simp (disch := omega) only [go_sem, W, Nat.mul_one])) | ((with_reducible apply evL_grd); rfl; rfl; rfl; all_goals (intro hb; first | (cases hb; done) | ((try simp only [Bool.not_true, Bool.not_false] at hb); (first | ((with_reducible intro K hK); simp (disch := omega) only [go_sem, W, Nat.mul_one]; ((repeat (refine ndI (by first | assumption | omega | rfl) ?_)); refine hK _ ?_; clear hK K)) | ((fail_if_success (with_reducible intro _)); simp (disch := omega) only [go_sem, W, Nat.mul_one]))))) | ((with_reducible apply evC_cond); rfl; rfl; all_goals (intro hc; first | (cases hc; done) | (try simp only at hc))) | ((with_reducible refine evD_nil ?_ ?_); kernel_rfl; (with_reducible refine hR _ ?_); clear hR R) | (((with_reducible apply evD_any); rfl; rfl; (simp (disch := omega) only [rdE, rdOf, go_sem, W, Nat.mul_one]; rfl); (intro τ hA hQ hN; ((try simp only [agree, Op.operands, Call.operands, go_sem, W, Nat.mul_one, go_sem, List.mem_cons, List.not_mem_nil, forall_eq_or_imp, forall_eq, List.append_toArray, Option.toArray] at hA); (try simp only [go_sem, W, Nat.mul_one, List.mem_cons, List.not_mem_nil, forall_eq_or_imp, forall_eq] at hQ hN); (first | (revert hA; intro hA) | have hA := trivial); (first | (revert hQ; intro hQ) | have hQ := trivial); (first | (revert hN; intro hN) | have hN := trivial); simp (disch := omega) only [go_sem, W, Nat.mul_one, go_sem, hA, hQ, hN]; (repeat (refine ndI (by first | assumption | omega | rfl) ?_)); (first | apply eff_rd | apply eff_st | apply eff_nw)))); (simp (disch := omega) only [St.eff, setO, hputs, go_sem, W, Nat.mul_one])) | ((with_reducible refine evC_draw ?_ ?_ ?_ ?_); kernel_rfl; kernel_rfl; (first | kernel_rfl | simp [newNames, isNew, St.free, freeH, AV.refsL, AV.refs]); intro R hR)))))
      all_goals exact hJ _ hlt (St.le_of (by simp [leT]) (by simp [leH, hget]))
  · have k1 : (decide ((i : Int) < (k : Int))) = false := by simp; omega
    rw [Nat.min_eq_right (by omega : 256 ≤ i)]
    (repeat (any_goals (first | ((with_reducible refine evL_one ?_ ?_); rfl; intro K hK; simp only [go_sem, k1]; ((repeat (refine ndI (by first | assumption | omega | rfl) ?_)); refine hK _ ?_; clear hK K)) | (with_reducible first | (refine evL_nil ?_; refine hR _ ?_; clear hR R) | ((first | refine evC_seq ?_ | refine evC_block ?_); intro J hJ hJ') | (refine evC_region ?_; intro R hR) | (refine hJ _ ?_; clear hJ hJ' J) | refine evC_skip ?_ | refine evC_ret ?_ | refine evC_exit ?_) | ((with_reducible refine hJ' _ _ ?_ ?_); (focus (simp; done)); clear hJ hJ' J) | ((with_reducible apply evL_unmet); rfl; rfl; rfl; (try simp only [go_sem, k1])) | ((with_reducible apply evL_grd); rfl; rfl; rfl; all_goals (intro hb; first | (cases hb; done) | ((try simp only [Bool.not_true, Bool.not_false] at hb); (first | ((with_reducible intro K hK); simp only [go_sem, k1]; ((repeat (refine ndI (by first | assumption | omega | rfl) ?_)); refine hK _ ?_; clear hK K)) | ((fail_if_success (with_reducible intro _)); simp only [go_sem, k1]))))) | ((with_reducible apply evC_cond); rfl; rfl; all_goals (intro hc; first | (cases hc; done) | (try simp only at hc))) | ((with_reducible refine evD_nil ?_ ?_); kernel_rfl; (with_reducible refine hR _ ?_); clear hR R) | (((with_reducible apply evD_any); rfl; rfl; (simp only [rdE, rdOf, go_sem, k1]; rfl); (intro τ hA hQ hN; ((try simp only [agree, Op.operands, Call.operands, go_sem, k1, go_sem, List.mem_cons, List.not_mem_nil, forall_eq_or_imp, forall_eq, List.append_toArray, Option.toArray] at hA); (try simp only [go_sem, k1, List.mem_cons, List.not_mem_nil, forall_eq_or_imp, forall_eq] at hQ hN); (first | (revert hA; intro hA) | have hA := trivial); (first | (revert hQ; intro hQ) | have hQ := trivial); (first | (revert hN; intro hN) | have hN := trivial); simp only [go_sem, k1, go_sem, hA, hQ, hN]; (repeat (refine ndI (by first | assumption | omega | rfl) ?_)); (first | apply eff_rd | apply eff_st | apply eff_nw)))); (simp only [St.eff, setO, hputs, go_sem, k1])) | ((with_reducible refine evC_draw ?_ ?_ ?_ ?_); kernel_rfl; kernel_rfl; (first | kernel_rfl | simp [newNames, isNew, St.free, freeH, AV.refsL, AV.refs]); intro R hR))))
    all_goals (refine ⟨by simp, ⟨_, ?_, AV.le_refl _⟩, leH_get (by simp [leH, hget])⟩; simp only [Try.results89, resL, ldA, oneOf, go_sem])
end Go.Proofs.Ytiggambibcohcaa
namespace Go.Proofs.Ytiggambibcohcaa
open Go.RowKit
open Nat (reduceBEq)
set_option maxRecDepth 20000
set_option maxHeartbeats 2000000
theorem over_bit {x y : Nat} (hx : x < WW) (hy : y < WW) : (((bitN (x + y) 256 : Nat) : Int) == 1) = decide (WW ≤ x + y) := by
  have hx' : x < 2 ^ 256 := hx
  have hy' : y < 2 ^ 256 := hy
  have hW : WW = 2 ^ 256 := rfl
  rw [hW]
  unfold bitN
  generalize (2 : Nat) ^ 256 = M at hx' hy' ⊢
  rw [Bool.eq_iff_iff]
  simp only [beq_iff_eq, decide_eq_true_eq]
  have h1 : (x + y) / M < 2 := Nat.div_lt_of_lt_mul (by omega)
  rcases Nat.lt_or_ge (x + y) M with h | h
  · rw [Nat.div_eq_of_lt h]; simp; omega
  · have : 1 ≤ (x + y) / M := (Nat.le_div_iff_mul_le (by omega)).2 (by omega)
    have e : (x + y) / M = 1 := by omega
    rw [e]; simp; omega
theorem refadd_fn (x y : Nat) (hx : x < WW) (hy : y < WW) : Fn Try.prog 75 [wN x, wN y] [] (.tup [wN ((x + y) % WW), vb (decide (WW ≤ x + y))]) [] := by
  have b1 := bits_fn x hx
  have b2 := bits_fn y hy
  have ad := addb_fn false false x y hx hy
  have of := ofb_fn false (x + y) 257 (by decide) (by decide)
  have ob := over_bit hx hy
  have hl := bitsL_len (x + y) 257
  have hbit := isl_at (bitsL_at (z := x + y) (show 256 < 257 by decide))
  generalize decide (WW ≤ x + y) = q at ob ⊢
  generalize (x + y) % WW = r at of ⊢
  generalize bitN (x + y) 256 = s at ob hbit
  generalize bitsL (x + y) 257 = l at ad of hl hbit
  generalize bitsL x 256 = lx at b1 ad
  generalize bitsL y 256 = ly at b2 ad
  have hl2 : 256 < l.length := by omega
  (refine fn_of Try.func75 rfl (by rfl) ?_; simp only [Try.ntmps75, List.length_cons, List.length_nil, Nat.reduceAdd, Nat.reduceSub, List.replicate, List.cons_append, List.nil_append])
  (repeat (any_goals (first | ((with_reducible refine evL_one ?_ ?_); rfl; intro K hK; simp (disch := omega) only [go_sem, ob, hbit, hl, Nat.mul_one, Nat.reduceMul]; ((repeat (refine ndI (by first | assumption | omega | rfl) ?_)); refine hK _ ?_; clear hK K)) | (with_reducible first | (refine evL_nil ?_; refine hR _ ?_; clear hR R) | ((first | refine evC_seq ?_ | refine evC_block ?_); intro J hJ hJ') | (refine evC_region ?_; intro R hR) | (refine hJ _ ?_; clear hJ hJ' J) | refine evC_skip ?_ | refine evC_ret ?_ | refine evC_exit ?_) | ((with_reducible refine hJ' _ _ ?_ ?_); (focus (simp; done)); clear hJ hJ' J) | ((with_reducible apply evC_cond); rfl; rfl; all_goals (intro hc; first | (cases hc; done) | (try simp only at hc))) | ((with_reducible refine evD_nil ?_ ?_); kernel_rfl; (with_reducible refine hR _ ?_); clear hR R) | ((first | ((with_reducible apply evD_fcall); rfl; rfl; (first | ((first | (apply opF_callB (ad); rfl; rfl; rfl; rfl; exact Try.func90) | (apply opF_callB (of); rfl; rfl; rfl; rfl; exact Try.func89)); kernel_rfl; rfl; (simp (disch := omega) only [go_sem, ob, hbit, hl, Nat.mul_one, Nat.reduceMul]; rfl); (first | rfl | simp [AV.inNL, AV.inN])) | ((apply opF_callB (b1); rfl; rfl; rfl; rfl; exact Try.func91); kernel_rfl; rfl; (simp (disch := omega) only [go_sem, ob, hbit, hl, Nat.mul_one, Nat.reduceMul]; rfl); (first | rfl | simp [AV.inNL, AV.inN])) | ((apply opF_callB (b2); rfl; rfl; rfl; rfl; exact Try.func91); kernel_rfl; rfl; (simp (disch := omega) only [go_sem, ob, hbit, hl, Nat.mul_one, Nat.reduceMul]; rfl); (first | rfl | simp [AV.inNL, AV.inN])))) | ((with_reducible apply evD_any); rfl; rfl; (simp (disch := omega) only [rdE, rdOf, go_sem, ob, hbit, hl, Nat.mul_one, Nat.reduceMul]; rfl); (intro τ hA hQ hN; ((try simp only [agree, Op.operands, Call.operands, go_sem, ob, hbit, hl, Nat.mul_one, Nat.reduceMul, go_sem, List.mem_cons, List.not_mem_nil, forall_eq_or_imp, forall_eq, List.append_toArray, Option.toArray] at hA); (try simp only [go_sem, ob, hbit, hl, Nat.mul_one, Nat.reduceMul, List.mem_cons, List.not_mem_nil, forall_eq_or_imp, forall_eq] at hQ hN); (first | (revert hA; intro hA) | have hA := trivial); (first | (revert hQ; intro hQ) | have hQ := trivial); (first | (revert hN; intro hN) | have hN := trivial); simp (disch := omega) only [go_sem, ob, hbit, hl, Nat.mul_one, Nat.reduceMul, go_sem, hA, hQ, hN]; (repeat (refine ndI (by first | assumption | omega | rfl) ?_)); (first | apply eff_rd | apply eff_st | apply eff_nw))))); (simp (disch := omega) only [St.eff, setO, hputs, go_sem, ob, hbit, hl, Nat.mul_one, Nat.reduceMul])) | ((with_reducible refine evC_draw ?_ ?_ ?_ ?_); kernel_rfl; kernel_rfl; (first | kernel_rfl | simp [newNames, isNew, St.free, freeH, AV.refsL, AV.refs]); intro R hR))))
  all_goals (refine ⟨by simp, ⟨_, ?_, AV.le_refl _⟩, leH_get (by simp [leH, hget])⟩; simp only [Try.results75, resL, ldA, oneOf, go_sem])
def lessN (x y i : Nat) : Nat := if x % 2 ^ i < y % 2 ^ i then 1 else 0
theorem sub_step {x y i : Nat} (hx : x < WW) (hy : y < WW) (hi : i < 256) :
    (bitN x i : Int) - (bitN y i : Int) - (lessN x y i : Int) = (bitN (x + WW - y) i : Int) - 2 * (lessN x y (i + 1) : Int) := by
  have hp : 0 < 2 ^ i := Nat.pos_of_ne_zero (by simp)
  have hW : WW = 2 ^ i * (2 * 2 ^ (255 - i)) := by
    rw [show WW = 2 ^ 256 from rfl, ← Nat.pow_succ', ← Nat.pow_add, show i + (255 - i).succ = 256 by omega]
  have ex := Nat.div_add_mod x (2 ^ i)
  have ey := Nat.div_add_mod y (2 ^ i)
  have hX := Nat.mod_lt x hp
  have hY := Nat.mod_lt y hp
  unfold lessN
  rw [Nat.mod_pow_succ, Nat.mod_pow_succ]
  unfold bitN
  have hqy : y / 2 ^ i < 2 * 2 ^ (255 - i) := Nat.div_lt_of_lt_mul (by rw [← hW]; exact hy)
  generalize hM : 2 ^ (255 - i) = M at hW hqy
  have hz : (x + WW - y) / 2 ^ i = x / 2 ^ i + 2 * M - y / 2 ^ i - (if x % 2 ^ i < y % 2 ^ i then 1 else 0) := by
    generalize 2 ^ i = P at *
    generalize x / P = qx at *
    generalize y / P = qy at *
    generalize x % P = X at *
    generalize y % P = Y at *
    rw [hW, ← ex, ← ey]
    split
    · have : P * qx + X + P * (2 * M) - (P * qy + Y) = (P + X - Y) + P * (qx + 2 * M - qy - 1) := by
        rw [Nat.mul_sub, Nat.mul_sub, Nat.mul_add]
        have h1 : P * qy + P ≤ P * (2 * M) := by rw [← Nat.mul_succ]; exact Nat.mul_le_mul_left _ hqy
        omega
      rw [this, Nat.add_mul_div_left _ _ hp, Nat.div_eq_of_lt (by omega)]
      omega
    · have : P * qx + X + P * (2 * M) - (P * qy + Y) = (X - Y) + P * (qx + 2 * M - qy) := by
        rw [Nat.mul_sub, Nat.mul_add]
        have h1 : P * qy + P ≤ P * (2 * M) := by rw [← Nat.mul_succ]; exact Nat.mul_le_mul_left _ hqy
        omega
      rw [this, Nat.add_mul_div_left _ _ hp, Nat.div_eq_of_lt (by omega)]
      omega
  rw [hz]
  generalize 2 ^ i = P at *
  generalize x / P = qx at *
  generalize y / P = qy at *
  generalize x % P = X at *
  generalize y % P = Y at *
  have c1 : qx % 2 = 0 ∨ qx % 2 = 1 := by omega
  have c2 : qy % 2 = 0 ∨ qy % 2 = 1 := by omega
  rcases c1 with c1 | c1 <;> rcases c2 with c2 | c2 <;> rw [c1, c2] <;> simp only [Nat.mul_zero, Nat.mul_one, Nat.add_zero] <;> (repeat' split) <;> omega
theorem less_all {x y : Nat} (hx : x < WW) (hy : y < WW) : (((lessN x y 256 : Nat) : Int) == 1) = decide (x < y) := by
  unfold lessN
  rw [Nat.mod_eq_of_lt (show x < 2 ^ 256 from hx), Nat.mod_eq_of_lt (show y < 2 ^ 256 from hy)]
  by_cases h : x < y
  · rw [if_pos h, decide_eq_true h]; rfl
  · rw [if_neg h, decide_eq_false h]; rfl
theorem lessN_le (x y i : Nat) : lessN x y i < 2 := by unfold lessN; split <;> omega
abbrev stL2 (x y : Nat) (z : Nat) (r : Nat) (out : List Nat) (i : Nat) : St := ⟨[.any, .any, .ptr 2 0, .ptr 3 0, .ptr 4 0, .any, .row r 3 1 out.length, vi .i64 (lessN x y i : Nat), .any, .any, vi .i64 i, .any, .any, .any, .any, .any, .any, .any, .any, .any, .any, .any, .any, .any, .any, .any, .any, .any, .any, .any, .any, .any, .any, .any, .any], [(2, [vi .u64 (l0 x), vi .u64 (l1 x), vi .u64 (l2 x), vi .u64 (l3 x)]), (3, [vi .u64 (l0 y), vi .u64 (l1 y), vi .u64 (l2 y), vi .u64 (l3 y)]), (4, [vi .u64 0, vi .u64 0, vi .u64 0, vi .u64 0]), (r, rcI out)]⟩
theorem stL2_rn (x y z : Nat) (out : List Nat) (i : Nat) : (stL2 x y z 29 out i).to (stL2 x y z 500 out i) := by
  have h := St.to.rn (σ := stL2 x y z 29 out i) (fun r => if r = 29 then 500 else r) (fun r => if r = 500 then 29 else r) [2, 3, 4, 29] (by simp [AV.inNL, AV.inN]) (by simp) (by simp [inH, AV.inNL, AV.inN, rcI]) (by simp) (by simp)
  simpa [AV.renL, AV.ren, renH, rcI, stL2] using h
theorem refsub_fn (x y : Nat) (hx : x < WW) (hy : y < WW) : Fn Try.prog 74 [wN x, wN y] [] (.tup [wN ((x + WW - y) % WW), vb (decide (x < y))]) [] := by
  obtain ⟨z, hz⟩ : ∃ z, x + WW - y = z := ⟨_, rfl⟩
  have of := ofb_fn false z 256 (by decide) (by decide)
  have la := less_all hx hy
  rw [hz]
  generalize decide (x < y) = q at la ⊢
  generalize z % WW = r at of ⊢
  (refine fn_of Try.func74 rfl (by rfl) ?_; simp only [Try.ntmps74, List.length_cons, List.length_nil, Nat.reduceAdd, Nat.reduceSub, List.replicate, List.cons_append, List.nil_append])
  (repeat (any_goals (first | ((with_reducible refine evL_one ?_ ?_); rfl; intro K hK; simp only [go_sem]; ((repeat (refine ndI (by first | assumption | omega | rfl) ?_)); refine hK _ ?_; clear hK K)) | (with_reducible first | (refine evL_nil ?_; refine hR _ ?_; clear hR R) | ((first | refine evC_seq ?_ | refine evC_block ?_); intro J hJ hJ') | (refine evC_region ?_; intro R hR) | (refine hJ _ ?_; clear hJ hJ' J) | refine evC_skip ?_ | refine evC_ret ?_ | refine evC_exit ?_) | ((with_reducible refine hJ' _ _ ?_ ?_); (focus (simp; done)); clear hJ hJ' J) | ((with_reducible apply evC_cond); rfl; rfl; all_goals (intro hc; first | (cases hc; done) | (try simp only at hc))) | ((with_reducible refine evD_nil ?_ ?_); kernel_rfl; (with_reducible refine hR _ ?_); clear hR R) | (((with_reducible apply evD_any); rfl; rfl; (simp only [rdE, rdOf, go_sem]; rfl); (intro τ hA hQ hN; ((try simp only [agree, Op.operands, Call.operands, go_sem, List.mem_cons, List.not_mem_nil, forall_eq_or_imp, forall_eq, List.append_toArray, Option.toArray] at hA); (try simp only [go_sem, List.mem_cons, List.not_mem_nil, forall_eq_or_imp, forall_eq] at hQ hN); (first | (revert hA; intro hA) | have hA := trivial); (first | (revert hQ; intro hQ) | have hQ := trivial); (first | (revert hN; intro hN) | have hN := trivial); simp only [go_sem, hA, hQ, hN]; (repeat (refine ndI (by first | assumption | omega | rfl) ?_)); (first | apply eff_rd | apply eff_st | apply eff_nw)))); (simp only [St.eff, setO, hputs, go_sem])) | ((with_reducible refine evC_draw ?_ ?_ ?_ ?_); kernel_rfl; kernel_rfl; (first | kernel_rfl | simp [newNames, isNew, St.free, freeH, AV.refsL, AV.refs]); intro R hR))))
  refine evC_uptoT 256 (fun i => stL2 x y z 500 (bitsL z i) i) ?_ ?_
  · refine St.to.trans (St.to.of_le (τ := ⟨[.any, .any, .ptr 2 0, .ptr 3 0, .ptr 4 0, .any, .c (.v (.slice none 0 0)), vi .i64 0, .any, .any, vi .i64 0, .any, .any, .any, .any, .any, .any, .any, .any, .any, .any, .any, .any, .any, .any, .any, .any, .any, .any, .any, .any, .any, .any, .any, .any], [(2, [vi .u64 (l0 x), vi .u64 (l1 x), vi .u64 (l2 x), vi .u64 (l3 x)]), (3, [vi .u64 (l0 y), vi .u64 (l1 y), vi .u64 (l2 y), vi .u64 (l3 y)]), (4, [vi .u64 0, vi .u64 0, vi .u64 0, vi .u64 0])]⟩) (St.le_of (by simp [leT]) (by simp [leH, hget]))) ?_
    refine St.to.trans (St.to.nilrow 6 500 3 1 rfl (by simp) (by simp [St.free, freeH, AV.refsL, AV.refs]) (by decide)) (St.to.of_le (St.le_of (by simp [leT, bitsL, lessN, Nat.mod_one]) (by simp [leH, hget, hput, rcI, bitsL])))
  intro i hi J hJ hJ'
  dsimp only [stL2] at hJ ⊢
  have ht := bitsL_succ z i
  have hol := bitsL_len z i
  rcases Nat.lt_or_ge i 256 with hlt | hge
  · have k1 : (decide ((i : Int) < 256)) = true := by simp; omega
    have k7 : (i : Int) + 1 = ((i + 1 : Nat) : Int) := by omega
    have t1 := bitN_fn x hx i (by omega)
    have t2 := bitN_fn y hy i (by omega)
    have st := sub_step hx hy hlt
    rw [hz] at st
    have b1 := bitN_lt x i
    have b2 := bitN_lt y i
    have b3 := bitN_lt z i
    have b4 := lessN_le x y i
    have b5 := lessN_le x y (i + 1)
    rw [ht] at hJ
    generalize bitsL z i = out at hJ hol ⊢
    have k2 := rcI_len out
    generalize bitN x i = p at st b1 t1
    generalize bitN y i = q at st b2 t2
    generalize bitN z i = s at st b3 hJ
    have hJ2 : ∀ σ' : St, i + 1 ≤ 256 → σ'.to (stL2 x y z 29 (out ++ [s]) (i + 1)) → J .normal σ' := fun σ' h1 h2 => hJ σ' h1 (h2.trans (stL2_rn x y z _ _))
    dsimp only [stL2] at hJ2
    generalize lessN x y (i + 1) = c2 at st b5 hJ2
    generalize lessN x y i = c at st b4 ⊢
    rcases (by omega : c2 = 0 ∨ c2 = 1) with hc2 | hc2
    · have k3 : ((p : Int) - (q : Int)) - (c : Int) = (s : Int) := by omega
      have k4 : decide ((s : Int) < 0) = false := by simp
      have k5 : ((c2 : Nat) : Int) = 0 := by omega
      rw [k5] at hJ2
      (have W := ndI k1 (ndI k2 (ndI k3 (ndI k4 (ndI k7 (ndI @wrI @refsL_map))))); (repeat (any_goals (first | ((with_reducible refine evL_one ?_ ?_); rfl; intro K hK; simp (disch := omega) only [go_sem, W, Nat.mul_one, refsL_rcI, refsL_app, AV.refsL, AV.refs, List.length_append, List.length_cons, List.length_nil, Bool.or_false]; ((repeat (refine ndI (by first | assumption | omega | rfl) ?_)); refine hK _ ?_; clear hK K)) | (with_reducible first | (refine evL_nil ?_; refine hR _ ?_; clear hR R) | ((first | refine evC_seq ?_ | refine evC_block ?_); intro J hJ hJ') | (refine evC_region ?_; intro R hR) | (refine hJ _ ?_; clear hJ hJ' J) | refine evC_skip ?_ | refine evC_ret ?_ | refine evC_exit ?_) | ((with_reducible refine hJ' _ _ ?_ ?_); (focus (simp; done)); clear hJ hJ' J) | ((with_reducible apply evC_cond); rfl; rfl; all_goals (intro hc; first | (cases hc; done) | (try simp only at hc))) | ((with_reducible refine evD_nil ?_ ?_); kernel_rfl; (with_reducible refine hR _ ?_); clear hR R) | ((first | ((with_reducible apply evD_fcall); rfl; rfl; (first | ((apply opF_callB (t1); rfl; rfl; rfl; rfl; exact Try.func70); kernel_rfl; rfl; (simp (disch := omega) only [go_sem, W, Nat.mul_one, refsL_rcI, refsL_app, AV.refsL, AV.refs, List.length_append, List.length_cons, List.length_nil, Bool.or_false]; rfl); (first | rfl | simp [AV.inNL, AV.inN])) | ((apply opF_callB (t2); rfl; rfl; rfl; rfl; exact Try.func70); kernel_rfl; rfl; (simp (disch := omega) only [go_sem, W, Nat.mul_one, refsL_rcI, refsL_app, AV.refsL, AV.refs, List.length_append, List.length_cons, List.length_nil, Bool.or_false]; rfl); (first | rfl | simp [AV.inNL, AV.inN])))) | ((with_reducible apply evD_any); rfl; rfl; (simp (disch := omega) only [rdE, rdOf, go_sem, W, Nat.mul_one, refsL_rcI, refsL_app, AV.refsL, AV.refs, List.length_append, List.length_cons, List.length_nil, Bool.or_false]; rfl); (intro τ hA hQ hN; ((try simp only [agree, Op.operands, Call.operands, go_sem, W, Nat.mul_one, refsL_rcI, refsL_app, AV.refsL, AV.refs, List.length_append, List.length_cons, List.length_nil, Bool.or_false, go_sem, List.mem_cons, List.not_mem_nil, forall_eq_or_imp, forall_eq, List.append_toArray, Option.toArray] at hA); (try simp only [go_sem, W, Nat.mul_one, refsL_rcI, refsL_app, AV.refsL, AV.refs, List.length_append, List.length_cons, List.length_nil, Bool.or_false, List.mem_cons, List.not_mem_nil, forall_eq_or_imp, forall_eq] at hQ hN); (first | (revert hA; intro hA) | have hA := trivial); (first | (revert hQ; intro hQ) | have hQ := trivial); (first | (revert hN; intro hN) | have hN := trivial); simp (disch := omega) only [go_sem, W, Nat.mul_one, refsL_rcI, refsL_app, AV.refsL, AV.refs, List.length_append, List.length_cons, List.length_nil, Bool.or_false, go_sem, hA, hQ, hN]; (repeat (refine ndI (by first | assumption | omega | rfl) ?_)); (first | apply eff_rd | apply eff_st | apply eff_nw))))); (simp (disch := omega) only [St.eff, setO, hputs, go_sem, W, Nat.mul_one, refsL_rcI, refsL_app, AV.refsL, AV.refs, List.length_append, List.length_cons, List.length_nil, Bool.or_false])) | ((with_reducible refine evC_draw ?_ ?_ ?_ ?_); kernel_rfl; kernel_rfl; (simp [newNames, isNew, St.free, freeH, AV.refsL, AV.refs, refsL_rcI]); intro R hR)))))
      all_goals exact hJ2 _ hlt (St.to.of_le (St.le_of (by simp [leT]) (by simp [leH, hget, rcI, ipv])))
    · have k3 : ((p : Int) - (q : Int)) - (c : Int) = (s : Int) - 2 := by omega
      have k4 : decide ((s : Int) - 2 < 0) = true := by simp; omega
      have k5 : ((c2 : Nat) : Int) = 1 := by omega
      have k6 : (s : Int) - 2 + 2 = (s : Int) := by omega
      rw [k5] at hJ2
      (have W := ndI k1 (ndI k2 (ndI k3 (ndI k4 (ndI k6 (ndI k7 (ndI @wrI @refsL_map)))))); (repeat (any_goals (first | ((with_reducible refine evL_one ?_ ?_); rfl; intro K hK; simp (disch := omega) only [go_sem, W, Nat.mul_one, refsL_rcI, refsL_app, AV.refsL, AV.refs, List.length_append, List.length_cons, List.length_nil, Bool.or_false]; ((repeat (refine ndI (by first | assumption | omega | rfl) ?_)); refine hK _ ?_; clear hK K)) | (with_reducible first | (refine evL_nil ?_; refine hR _ ?_; clear hR R) | ((first | refine evC_seq ?_ | refine evC_block ?_); intro J hJ hJ') | (refine evC_region ?_; intro R hR) | (refine hJ _ ?_; clear hJ hJ' J) | refine evC_skip ?_ | refine evC_ret ?_ | refine evC_exit ?_) | ((with_reducible refine hJ' _ _ ?_ ?_); (focus (simp; done)); clear hJ hJ' J) | ((with_reducible apply evC_cond); rfl; rfl; all_goals (intro hc; first | (cases hc; done) | (try simp only at hc))) | ((with_reducible refine evD_nil ?_ ?_); kernel_rfl; (with_reducible refine hR _ ?_); clear hR R) | ((first | ((with_reducible apply evD_fcall); rfl; rfl; (first | ((apply opF_callB (t1); rfl; rfl; rfl; rfl; exact Try.func70); kernel_rfl; rfl; (simp (disch := omega) only [go_sem, W, Nat.mul_one, refsL_rcI, refsL_app, AV.refsL, AV.refs, List.length_append, List.length_cons, List.length_nil, Bool.or_false]; rfl); (first | rfl | simp [AV.inNL, AV.inN])) | ((apply opF_callB (t2); rfl; rfl; rfl; rfl; exact Try.func70); kernel_rfl; rfl; (simp (disch := omega) only [go_sem, W, Nat.mul_one, refsL_rcI, refsL_app, AV.refsL, AV.refs, List.length_append, List.length_cons, List.length_nil, Bool.or_false]; rfl); (first | rfl | simp [AV.inNL, AV.inN])))) | ((with_reducible apply evD_any); rfl; rfl; (simp (disch := omega) only [rdE, rdOf, go_sem, W, Nat.mul_one, refsL_rcI, refsL_app, AV.refsL, AV.refs, List.length_append, List.length_cons, List.length_nil, Bool.or_false]; rfl); (intro τ hA hQ hN; ((try simp only [agree, Op.operands, Call.operands, go_sem, W, Nat.mul_one, refsL_rcI, refsL_app, AV.refsL, AV.refs, List.length_append, List.length_cons, List.length_nil, Bool.or_false, go_sem, List.mem_cons, List.not_mem_nil, forall_eq_or_imp, forall_eq, List.append_toArray, Option.toArray] at hA); (try simp only [go_sem, W, Nat.mul_one, refsL_rcI, refsL_app, AV.refsL, AV.refs, List.length_append, List.length_cons, List.length_nil, Bool.or_false, List.mem_cons, List.not_mem_nil, forall_eq_or_imp, forall_eq] at hQ hN); (first | (revert hA; intro hA) | have hA := trivial); (first | (revert hQ; intro hQ) | have hQ := trivial); (first | (revert hN; intro hN) | have hN := trivial); simp (disch := omega) only [go_sem, W, Nat.mul_one, refsL_rcI, refsL_app, AV.refsL, AV.refs, List.length_append, List.length_cons, List.length_nil, Bool.or_false, go_sem, hA, hQ, hN]; (repeat (refine ndI (by first | assumption | omega | rfl) ?_)); (first | apply eff_rd | apply eff_st | apply eff_nw))))); (simp (disch := omega) only [St.eff, setO, hputs, go_sem, W, Nat.mul_one, refsL_rcI, refsL_app, AV.refsL, AV.refs, List.length_append, List.length_cons, List.length_nil, Bool.or_false])) | ((with_reducible refine evC_draw ?_ ?_ ?_ ?_); kernel_rfl; kernel_rfl; (simp [newNames, isNew, St.free, freeH, AV.refsL, AV.refs, refsL_rcI]); intro R hR)))))
      all_goals exact hJ2 _ hlt (St.to.of_le (St.le_of (by simp [leT]) (by simp [leH, hget, rcI, ipv])))
  · have k1 : (decide ((i : Int) < 256)) = false := by simp; omega
    obtain rfl : i = 256 := by omega
    generalize lessN x y 256 = c at la ⊢
    generalize bitsL z 256 = out at of hol ⊢
    (repeat (any_goals (first | ((with_reducible refine evL_one ?_ ?_); rfl; intro K hK; simp only [go_sem, k1]; ((repeat (refine ndI (by first | assumption | omega | rfl) ?_)); refine hK _ ?_; clear hK K)) | (with_reducible first | (refine evL_nil ?_; refine hR _ ?_; clear hR R) | ((first | refine evC_seq ?_ | refine evC_block ?_); intro J hJ hJ') | (refine evC_region ?_; intro R hR) | (refine hJ _ ?_; clear hJ hJ' J) | refine evC_skip ?_ | refine evC_ret ?_ | refine evC_exit ?_) | ((with_reducible refine hJ' _ _ ?_ ?_); (focus (simp; done)); clear hJ hJ' J) | ((with_reducible apply evC_cond); rfl; rfl; all_goals (intro hc; first | (cases hc; done) | (try simp only at hc))) | ((with_reducible refine evD_nil ?_ ?_); kernel_rfl; (with_reducible refine hR _ ?_); clear hR R) | (((with_reducible apply evD_any); rfl; rfl; (simp only [rdE, rdOf, go_sem, k1]; rfl); (intro τ hA hQ hN; ((try simp only [agree, Op.operands, Call.operands, go_sem, k1, go_sem, List.mem_cons, List.not_mem_nil, forall_eq_or_imp, forall_eq, List.append_toArray, Option.toArray] at hA); (try simp only [go_sem, k1, List.mem_cons, List.not_mem_nil, forall_eq_or_imp, forall_eq] at hQ hN); (first | (revert hA; intro hA) | have hA := trivial); (first | (revert hQ; intro hQ) | have hQ := trivial); (first | (revert hN; intro hN) | have hN := trivial); simp only [go_sem, k1, go_sem, hA, hQ, hN]; (repeat (refine ndI (by first | assumption | omega | rfl) ?_)); (first | apply eff_rd | apply eff_st | apply eff_nw)))); (simp only [St.eff, setO, hputs, go_sem, k1])) | ((with_reducible refine evC_draw ?_ ?_ ?_ ?_); kernel_rfl; kernel_rfl; (first | kernel_rfl | simp [newNames, isNew, St.free, freeH, AV.refsL, AV.refs]); intro R hR))))
    refine evL_to rfl (St.to.frz 500 (pcs := out.flatMap ipv) (by simp [hget, rcI])) ?_
    simp only [St.frz, AV.frzL, AV.frz, frzH, flat_length ipv_len, Nat.mul_one, if_true, eq_self, ↓reduceIte, Nat.reduceEqDiff]
    (repeat (any_goals (first | ((with_reducible refine evL_call ?_ ?_ ?_); rfl; rfl; intro K hK; ((apply opA_callB (of); rfl; rfl; rfl; rfl; exact Try.func89); kernel_rfl; rfl; (simp only [go_sem, la]; rfl); (first | rfl | simp [AV.inNL, AV.inN])); (simp only [go_sem, la]; refine hK _ ?_; clear hK K)) | ((with_reducible refine evL_one ?_ ?_); rfl; intro K hK; simp only [go_sem, la]; ((repeat (refine ndI (by first | assumption | omega | rfl) ?_)); refine hK _ ?_; clear hK K)) | (with_reducible first | (refine evL_nil ?_; refine hR _ ?_; clear hR R) | ((first | refine evC_seq ?_ | refine evC_block ?_); intro J hJ hJ') | (refine evC_region ?_; intro R hR) | (refine hJ _ ?_; clear hJ hJ' J) | refine evC_skip ?_ | refine evC_ret ?_ | refine evC_exit ?_) | ((with_reducible refine hJ' _ _ ?_ ?_); (focus (simp; done)); clear hJ hJ' J) | ((with_reducible apply evC_cond); rfl; rfl; all_goals (intro hc; first | (cases hc; done) | (try simp only at hc))) | ((with_reducible refine evD_nil ?_ ?_); kernel_rfl; (with_reducible refine hR _ ?_); clear hR R) | (((with_reducible apply evD_any); rfl; rfl; (simp only [rdE, rdOf, go_sem, la]; rfl); (intro τ hA hQ hN; ((try simp only [agree, Op.operands, Call.operands, go_sem, la, go_sem, List.mem_cons, List.not_mem_nil, forall_eq_or_imp, forall_eq, List.append_toArray, Option.toArray] at hA); (try simp only [go_sem, la, List.mem_cons, List.not_mem_nil, forall_eq_or_imp, forall_eq] at hQ hN); (first | (revert hA; intro hA) | have hA := trivial); (first | (revert hQ; intro hQ) | have hQ := trivial); (first | (revert hN; intro hN) | have hN := trivial); simp only [go_sem, la, go_sem, hA, hQ, hN]; (repeat (refine ndI (by first | assumption | omega | rfl) ?_)); (first | apply eff_rd | apply eff_st | apply eff_nw)))); (simp only [St.eff, setO, hputs, go_sem, la])) | ((with_reducible refine evC_draw ?_ ?_ ?_ ?_); kernel_rfl; kernel_rfl; (first | kernel_rfl | simp [newNames, isNew, St.free, freeH, AV.refsL, AV.refs]); intro R hR))))
    all_goals (refine ⟨by simp, ⟨_, ?_, AV.le_refl _⟩, leH_get (by simp [leH, hget])⟩; simp only [Try.results74, resL, ldA, oneOf, go_sem])
end Go.Proofs.Ytiggambibcohcaa
namespace Go.Proofs.Ytiggambibcohcaa
open Go.RowKit
open Nat (reduceBEq)
set_option maxRecDepth 20000
set_option maxHeartbeats 2000000
theorem refsum_fn (ex : Bool) (l : List Nat) (hl : l.length ≤ 1000) (hw : ∀ x ∈ l, x < WW) : Fn Try.prog 59 [wsl ex l] [] (.tup [wN (l.sum % WW), vb (decide (WW ≤ l.sum))]) [] := by
  have hW : 0 < WW := by decide
  obtain ⟨tn, htn⟩ : ∃ n, l.sum % WW = n := ⟨_, rfl⟩
  obtain ⟨tq, htq⟩ : ∃ q, decide (WW ≤ l.sum) = q := ⟨_, rfl⟩
  rw [htn, htq]
  (refine fn_of Try.func59 rfl (by rfl) ?_; simp only [Try.ntmps59, List.length_cons, List.length_nil, Nat.reduceAdd, Nat.reduceSub, List.replicate, List.cons_append, List.nil_append])
  (repeat (any_goals (first | ((with_reducible refine evL_one ?_ ?_); rfl; intro K hK; simp only [go_sem]; ((repeat (refine ndI (by first | assumption | omega | rfl) ?_)); refine hK _ ?_; clear hK K)) | (with_reducible first | (refine evL_nil ?_; refine hR _ ?_; clear hR R) | ((first | refine evC_seq ?_ | refine evC_block ?_); intro J hJ hJ') | (refine evC_region ?_; intro R hR) | (refine hJ _ ?_; clear hJ hJ' J) | refine evC_skip ?_ | refine evC_ret ?_ | refine evC_exit ?_) | ((with_reducible refine hJ' _ _ ?_ ?_); (focus (simp; done)); clear hJ hJ' J) | ((with_reducible apply evL_unmet); rfl; rfl; rfl; (try simp only [go_sem])) | ((with_reducible apply evL_grd); rfl; rfl; rfl; all_goals (intro hb; first | (cases hb; done) | ((try simp only [Bool.not_true, Bool.not_false] at hb); (first | ((with_reducible intro K hK); simp only [go_sem]; ((repeat (refine ndI (by first | assumption | omega | rfl) ?_)); refine hK _ ?_; clear hK K)) | ((fail_if_success (with_reducible intro _)); simp only [go_sem]))))) | ((with_reducible apply evC_cond); rfl; rfl; all_goals (intro hc; first | (cases hc; done) | (try simp only at hc))))))
  refine evC_loop (α := { p : Nat × Nat × Bool // p.1 ≤ l.length ∧ p.2.1 = (l.take p.1).sum % WW ∧ p.2.2 = decide (WW ≤ (l.take p.1).sum) }) (fun p => ⟨[wsl ex l, .any, .ptr 2 0, .any, .ptr 4 0, vb p.1.2.2, .any, .any, .any, .any, wsl ex l, vi .i64 l.length, vi .i64 p.1.1, .any, .any, .any, .any, .any, .any, .any, .any, .any, .any, .any, .any, .any, .any, .any, .any, .any], [(2, [vi .u64 0, vi .u64 0, vi .u64 0, vi .u64 0]), (4, [vi .u64 (l0 p.1.2.1), vi .u64 (l1 p.1.2.1), vi .u64 (l2 p.1.2.1), vi .u64 (l3 p.1.2.1)])]⟩) (fun p => l.length - p.1.1) ⟨(0, 0, false), Nat.zero_le _, by simp, by simp [WW]⟩ (St.le_of (by simp [leT]) (by simp [leH, hget, l0_zero, l1_zero, l2_zero, l3_zero])) ?_
  rintro ⟨⟨i, n, q⟩, hi, hn, hq⟩ J hJ hJ'
  dsimp only at hi hn hq hJ ⊢
  rcases Nat.lt_or_ge i l.length with hlt | hge
  · obtain ⟨y, hy⟩ : ∃ y, l[i]? = some y := ⟨l[i], List.getElem?_eq_getElem hlt⟩
    have k1 : (decide ((i : Int) < (l.length : Int))) = true := by simpa using hlt
    have k2 := wsl_at hy
    have k7 : (i : Int) + 1 = ((i + 1 : Nat) : Int) := by omega
    have hnw : n < WW := by rw [hn]; exact Nat.mod_lt _ hW
    have hyw := hw y (List.mem_of_getElem? hy)
    have ad := refadd_fn n y hnw hyw
    have hs : (l.take (i + 1)).sum = (l.take i).sum + y := by rw [List.take_add_one, hy]; simp
    have h1 : (n + y) % WW = (l.take (i + 1)).sum % WW := by rw [hs, hn, Nat.add_mod]; simp
    have h2 : (q || decide (WW ≤ n + y)) = decide (WW ≤ (l.take (i + 1)).sum) := by
      rw [Bool.eq_iff_iff, hq, hs]
      simp only [Bool.or_eq_true, decide_eq_true_eq]
      rcases Nat.lt_or_ge (l.take i).sum WW with h | h
      · rw [hn, Nat.mod_eq_of_lt h]; omega
      · omega
    obtain ⟨m, hm⟩ : ∃ m, (n + y) % WW = m := ⟨_, rfl⟩
    obtain ⟨b, hb⟩ : ∃ b, decide (WW ≤ n + y) = b := ⟨_, rfl⟩
    rw [hm, hb] at ad
    rw [hm] at h1
    rw [hb] at h2
    cases q with
    | true =>
      (have W := ndI k1 (ndI k2 (ndI k7 @wrI)); (repeat (any_goals (first | ((with_reducible refine evL_call ?_ ?_ ?_); rfl; rfl; intro K hK; ((apply opA_callB (ad); rfl; rfl; rfl; rfl; exact Try.func75); kernel_rfl; rfl; (simp (disch := omega) only [go_sem, W]; rfl); (first | rfl | simp [AV.inNL, AV.inN])); (simp (disch := omega) only [go_sem, W]; refine hK _ ?_; clear hK K)) | ((with_reducible refine evL_one ?_ ?_); rfl; intro K hK; simp (disch := omega) only [go_sem, W]; ((repeat (refine ndI (by first | assumption | omega | rfl) ?_)); refine hK _ ?_; clear hK K)) | (with_reducible first | (refine evL_nil ?_; refine hR _ ?_; clear hR R) | ((first | refine evC_seq ?_ | refine evC_block ?_); intro J hJ hJ') | (refine evC_region ?_; intro R hR) | (refine hJ _ ?_; clear hJ hJ' J) | refine evC_skip ?_ | refine evC_ret ?_ | refine evC_exit ?_) | ((with_reducible refine hJ' _ _ ?_ ?_); (focus (simp; done)); clear hJ hJ' J) | ((with_reducible apply evL_unmet); rfl; rfl; rfl; (try simp (disch := omega) only [go_sem, W])) | ((with_reducible apply evL_grd); rfl; rfl; rfl; all_goals (intro hb; first | (cases hb; done) | ((try simp only [Bool.not_true, Bool.not_false] at hb); (first | ((with_reducible intro K hK); simp (disch := omega) only [go_sem, W]; ((repeat (refine ndI (by first | assumption | omega | rfl) ?_)); refine hK _ ?_; clear hK K)) | ((fail_if_success (with_reducible intro _)); simp (disch := omega) only [go_sem, W]))))) | ((with_reducible apply evC_cond); rfl; rfl; all_goals (intro hc; first | (cases hc; done) | (try simp only at hc)))))))
      exact hJ _ ⟨(i + 1, m, true), hlt, h1, by simpa using h2⟩ (by simp only; omega) (St.le_of (by simp [leT]) (by simp [leH, hget]))
    | false =>
      (have W := ndI k1 (ndI k2 (ndI k7 @wrI)); (repeat (any_goals (first | ((with_reducible refine evL_call ?_ ?_ ?_); rfl; rfl; intro K hK; ((apply opA_callB (ad); rfl; rfl; rfl; rfl; exact Try.func75); kernel_rfl; rfl; (simp (disch := omega) only [go_sem, W]; rfl); (first | rfl | simp [AV.inNL, AV.inN])); (simp (disch := omega) only [go_sem, W]; refine hK _ ?_; clear hK K)) | ((with_reducible refine evL_one ?_ ?_); rfl; intro K hK; simp (disch := omega) only [go_sem, W]; ((repeat (refine ndI (by first | assumption | omega | rfl) ?_)); refine hK _ ?_; clear hK K)) | (with_reducible first | (refine evL_nil ?_; refine hR _ ?_; clear hR R) | ((first | refine evC_seq ?_ | refine evC_block ?_); intro J hJ hJ') | (refine evC_region ?_; intro R hR) | (refine hJ _ ?_; clear hJ hJ' J) | refine evC_skip ?_ | refine evC_ret ?_ | refine evC_exit ?_) | ((with_reducible refine hJ' _ _ ?_ ?_); (focus (simp; done)); clear hJ hJ' J) | ((with_reducible apply evL_unmet); rfl; rfl; rfl; (try simp (disch := omega) only [go_sem, W])) | ((with_reducible apply evL_grd); rfl; rfl; rfl; all_goals (intro hb; first | (cases hb; done) | ((try simp only [Bool.not_true, Bool.not_false] at hb); (first | ((with_reducible intro K hK); simp (disch := omega) only [go_sem, W]; ((repeat (refine ndI (by first | assumption | omega | rfl) ?_)); refine hK _ ?_; clear hK K)) | ((fail_if_success (with_reducible intro _)); simp (disch := omega) only [go_sem, W]))))) | ((with_reducible apply evC_cond); rfl; rfl; all_goals (intro hc; first | (cases hc; done) | (try simp only at hc)))))))
      exact hJ _ ⟨(i + 1, m, b), hlt, h1, by simpa using h2⟩ (by simp only; omega) (St.le_of (by simp [leT]) (by simp [leH, hget]))
  · have k1 : (decide ((i : Int) < (l.length : Int))) = false := by simpa using hge
    have e : l.take i = l := List.take_of_length_le hge
    rw [e, htn] at hn
    rw [e, htq] at hq
    rw [hn, hq]
    (repeat (any_goals (first | ((with_reducible refine evL_one ?_ ?_); rfl; intro K hK; simp only [go_sem, k1]; ((repeat (refine ndI (by first | assumption | omega | rfl) ?_)); refine hK _ ?_; clear hK K)) | (with_reducible first | (refine evL_nil ?_; refine hR _ ?_; clear hR R) | ((first | refine evC_seq ?_ | refine evC_block ?_); intro J hJ hJ') | (refine evC_region ?_; intro R hR) | (refine hJ _ ?_; clear hJ hJ' J) | refine evC_skip ?_ | refine evC_ret ?_ | refine evC_exit ?_) | ((with_reducible refine hJ' _ _ ?_ ?_); (focus (simp; done)); clear hJ hJ' J) | ((with_reducible apply evL_unmet); rfl; rfl; rfl; (try simp only [go_sem, k1])) | ((with_reducible apply evL_grd); rfl; rfl; rfl; all_goals (intro hb; first | (cases hb; done) | ((try simp only [Bool.not_true, Bool.not_false] at hb); (first | ((with_reducible intro K hK); simp only [go_sem, k1]; ((repeat (refine ndI (by first | assumption | omega | rfl) ?_)); refine hK _ ?_; clear hK K)) | ((fail_if_success (with_reducible intro _)); simp only [go_sem, k1]))))) | ((with_reducible apply evC_cond); rfl; rfl; all_goals (intro hc; first | (cases hc; done) | (try simp only at hc))))))
    all_goals (refine ⟨by simp, ⟨_, ?_, AV.le_refl _⟩, leH_get (by simp [leH, hget])⟩; simp only [Try.results59, resL, ldA, oneOf, go_sem])
end Go.Proofs.Ytiggambibcohcaa
namespace Go.Proofs.Ytiggambibcohcaa
open Go.RowKit
open Nat (reduceBEq)
set_option maxRecDepth 20000
set_option maxHeartbeats 2000000
theorem cmp_fn (x y : Nat) (hx : x < WW) (hy : y < WW) : Fn Try.prog 33 [wN x, wN y] [] (vi .i64 (if x < y then -1 else if y < x then 1 else 0)) [] := by
  have h : ∀ a b c d e f g h : Int, Fn Try.prog 33 [w4 a b c d, w4 e f g h] [] (vi .i64 (if d < h then -1 else if h < d then 1 else if c < g then -1 else if g < c then 1 else if b < f then -1 else if f < b then 1 else if a < e then -1 else if e < a then 1 else 0)) [] := by
    intro a b c d e f g h
    (refine fn_of Try.func33 rfl (by rfl) ?_; simp only [Try.ntmps33, List.length_cons, List.length_nil, Nat.reduceAdd, Nat.reduceSub, List.replicate, List.cons_append, List.nil_append])
    (repeat (any_goals (first | ((with_reducible refine evL_one ?_ ?_); rfl; intro K hK; simp (disch := omega) only [go_sem, wrI, Int.reduceSub, Int.reduceNeg, Int.reduceGE, decide_true, decide_false, ge_iff_le, gt_iff_lt]; ((repeat (refine ndI (by first | assumption | omega | rfl) ?_)); refine hK _ ?_; clear hK K)) | (with_reducible first | (refine evL_nil ?_; refine hR _ ?_; clear hR R) | ((first | refine evC_seq ?_ | refine evC_block ?_); intro J hJ hJ') | (refine evC_region ?_; intro R hR) | (refine hJ _ ?_; clear hJ hJ' J) | refine evC_skip ?_ | refine evC_ret ?_ | refine evC_exit ?_) | ((with_reducible refine hJ' _ _ ?_ ?_); (focus (simp; done)); clear hJ hJ' J) | ((with_reducible apply evC_cond); rfl; rfl; all_goals (intro hc; first | (cases hc; done) | (try simp only at hc))) | (with_reducible refine evC_rounds 5 ?_) | ((with_reducible refine evR_succ ?_); intro J hJ hJ') | ((with_reducible refine evD_nil ?_ ?_); kernel_rfl; (with_reducible refine hR _ ?_); clear hR R) | (((with_reducible apply evD_any); rfl; rfl; (simp (disch := omega) only [rdE, rdOf, go_sem, wrI, Int.reduceSub, Int.reduceNeg, Int.reduceGE, decide_true, decide_false, ge_iff_le, gt_iff_lt]; rfl); (intro τ hA hQ hN; ((try simp only [agree, Op.operands, Call.operands, go_sem, wrI, Int.reduceSub, Int.reduceNeg, Int.reduceGE, decide_true, decide_false, ge_iff_le, gt_iff_lt, go_sem, List.mem_cons, List.not_mem_nil, forall_eq_or_imp, forall_eq, List.append_toArray, Option.toArray] at hA); (try simp only [go_sem, wrI, Int.reduceSub, Int.reduceNeg, Int.reduceGE, decide_true, decide_false, ge_iff_le, gt_iff_lt, List.mem_cons, List.not_mem_nil, forall_eq_or_imp, forall_eq] at hQ hN); (first | (revert hA; intro hA) | have hA := trivial); (first | (revert hQ; intro hQ) | have hQ := trivial); (first | (revert hN; intro hN) | have hN := trivial); simp (disch := omega) only [go_sem, wrI, Int.reduceSub, Int.reduceNeg, Int.reduceGE, decide_true, decide_false, ge_iff_le, gt_iff_lt, go_sem, hA, hQ, hN]; (repeat (refine ndI (by first | assumption | omega | rfl) ?_)); (first | apply eff_rd | apply eff_st | apply eff_nw)))); (simp (disch := omega) only [St.eff, setO, hputs, go_sem, wrI, Int.reduceSub, Int.reduceNeg, Int.reduceGE, decide_true, decide_false, ge_iff_le, gt_iff_lt])) | ((with_reducible refine evC_draw ?_ ?_ ?_ ?_); kernel_rfl; kernel_rfl; (first | kernel_rfl | simp [newNames, isNew, St.free, freeH, AV.refsL, AV.refs]); intro R hR))))
    all_goals (refine ⟨by simp, ⟨_, ?_, AV.le_refl _⟩, leH_get (by simp [leH, hget])⟩; simp only [Try.results33, resL, ldA, oneOf, go_sem])
    all_goals simp_all
    all_goals (repeat' split) <;> first | rfl | omega
  have h1 := h (l0 x) (l1 x) (l2 x) (l3 x) (l0 y) (l1 y) (l2 y) (l3 y)
  obtain ⟨a, b, c, d, ex, ha, hb, hc, hd, e0, e1, e2, e3⟩ := split_w hx
  obtain ⟨a', b', c', d', ey, ha', hb', hc', hd', f0, f1, f2, f3⟩ := split_w hy
  have e : (if l3 x < l3 y then (-1 : Int) else if l3 y < l3 x then 1 else if l2 x < l2 y then -1 else if l2 y < l2 x then 1 else if l1 x < l1 y then -1 else if l1 y < l1 x then 1 else if l0 x < l0 y then -1 else if l0 y < l0 x then 1 else 0) = (if x < y then -1 else if y < x then 1 else 0) := by
    rw [e0, e1, e2, e3, f0, f1, f2, f3]
    clear h1 h e0 e1 e2 e3 f0 f1 f2 f3 hx hy
    subst ex ey
    repeat' split
    all_goals first | rfl | omega
  rw [e] at h1
  exact h1
end Go.Proofs.Ytiggambibcohcaa
namespace Go.Proofs.Ytiggambibcohcaa
open Go.RowKit
open Nat (reduceBEq)
set_option maxRecDepth 20000
set_option maxHeartbeats 2000000
structure Pr where
  k : Nat
  v : Nat
def Pr.ok (p : Pr) : Prop := p.k < WW ∧ p.v < WW
def Pr.pv (p : Pr) : List PV := [.v (.int .u64 (l0 p.k)), .v (.int .u64 (l1 p.k)), .v (.int .u64 (l2 p.k)), .v (.int .u64 (l3 p.k)), .v (.int .u64 (l0 p.v)), .v (.int .u64 (l1 p.v)), .v (.int .u64 (l2 p.v)), .v (.int .u64 (l3 p.v))]
theorem pr_len (p : Pr) : p.pv.length = 8 := rfl
def bpv (b : Nat) : List PV := [.v (.int .u8 (b : Int))]
theorem bpv_len (b : Nat) : (bpv b).length = 1 := rfl
abbrev bsV (l : List Nat) : PV := .sl false 1 l.length (l.flatMap bpv)
abbrev psV (l : List Pr) : PV := .sl false 8 l.length (l.flatMap Pr.pv)
structure Ac where
  a : Int
  b : Nat
  n : Int
  code : List Nat
  store : List Pr
def Ac.ok (x : Ac) : Prop := U x.a ∧ x.b < WW ∧ U x.n ∧ (x.code.length ≤ maxLen ∧ ∀ c ∈ x.code, c < 256) ∧ x.store.length ≤ maxLen ∧ ∀ p ∈ x.store, p.ok
def Ac.pv (x : Ac) : List PV := [.v (.int .u64 x.a), .v (.int .u64 (l0 x.b)), .v (.int .u64 (l1 x.b)), .v (.int .u64 (l2 x.b)), .v (.int .u64 (l3 x.b)), .v (.int .u64 x.n), bsV x.code, psV x.store]
theorem ac_len (x : Ac) : x.pv.length = 8 := rfl
abbrev ac8 (a : Int) (b : Nat) (n : Int) (c s : PV) : List AV := [vi .u64 a, vi .u64 (l0 b), vi .u64 (l1 b), vi .u64 (l2 b), vi .u64 (l3 b), vi .u64 n, .c c, .c s]
abbrev acA (x : Ac) : AV := .agg (ac8 x.a x.b x.n (bsV x.code) (psV x.store))
abbrev acS (ex : Bool) (l : List Ac) : AV := .c (.sl ex 8 l.length (l.flatMap Ac.pv))
abbrev stA (ex : Bool) (l : List Ac) : AV := .agg [acS ex l]
theorem ps_at {l : List Pr} {i : Nat} {y : Pr} (h : l[i]? = some y) : ((l.flatMap Pr.pv).drop (i * 8)).take 8 = [.v (.int .u64 (l0 y.k)), .v (.int .u64 (l1 y.k)), .v (.int .u64 (l2 y.k)), .v (.int .u64 (l3 y.k)), .v (.int .u64 (l0 y.v)), .v (.int .u64 (l1 y.v)), .v (.int .u64 (l2 y.v)), .v (.int .u64 (l3 y.v))] := flat_at (f := Pr.pv) pr_len h
theorem ac_at {l : List Ac} {i : Nat} {y : Ac} (h : l[i]? = some y) : ((l.flatMap Ac.pv).drop (i * 8)).take 8 = [.v (.int .u64 y.a), .v (.int .u64 (l0 y.b)), .v (.int .u64 (l1 y.b)), .v (.int .u64 (l2 y.b)), .v (.int .u64 (l3 y.b)), .v (.int .u64 y.n), bsV y.code, psV y.store] := flat_at (f := Ac.pv) ac_len h
def okP (st : List Pr) (j : Nat) : Bool := match st[j]? with
  | none => true
  | some p => decide (p.v ≠ 0) && (decide (j = 0) || match st[j - 1]? with
    | some q => decide (q.k < p.k)
    | none => true)
def okTo (st : List Pr) : Nat → Bool
  | 0 => true
  | i + 1 => okTo st i && okP st i
def okAc (x : Ac) : Bool := decide (x.a ≠ 0) && decide (x.code.length ≤ 200) && decide (x.store.length ≤ 24) && okTo x.store x.store.length
theorem okP_zero {st : List Pr} {p : Pr} (h : st[0]? = some p) : okP st 0 = decide (p.v ≠ 0) := by
  unfold okP; rw [h]; simp
theorem okP_succ {st : List Pr} {j : Nat} {q p : Pr} (hq : st[j]? = some q) (hp : st[j + 1]? = some p) : okP st (j + 1) = (decide (p.v ≠ 0) && decide (q.k < p.k)) := by
  unfold okP; rw [hp]; simp [hq]
theorem zero_dec {x : Nat} (hx : x < WW) : (l0 x == 0 && (l1 x == 0 && (l2 x == 0 && l3 x == 0))) = !decide (x ≠ 0) := by
  rw [wN_zero hx]
  by_cases h : x = 0 <;> simp [h]
theorem check_no (x : Ac) (hl : x.store.length ≤ maxLen) (hc : x.code.length ≤ maxLen) (h0 : (decide (x.a ≠ 0) && decide (x.code.length ≤ 200) && decide (x.store.length ≤ 24)) = false) : Fn Try.prog 12 [acA x] [] (vi .i64 161) [] := by
  obtain ⟨a, b, n, code, store⟩ := x
  dsimp only at hl hc h0
  obtain ⟨p1, e1⟩ : ∃ p, decide (a ≠ 0) = p := ⟨_, rfl⟩
  obtain ⟨p2, e2⟩ : ∃ p, decide (code.length ≤ 200) = p := ⟨_, rfl⟩
  obtain ⟨p3, e3⟩ : ∃ p, decide (store.length ≤ 24) = p := ⟨_, rfl⟩
  have f1 : (a != 0) = p1 := by rw [← e1]; by_cases h : a = 0 <;> simp [h]
  have f2 : decide ((code.length : Int) ≤ 200) = p2 := by rw [← e2]; exact decide_eq_decide.2 (by omega)
  have f3 : decide ((store.length : Int) ≤ 24) = p3 := by rw [← e3]; exact decide_eq_decide.2 (by omega)
  rw [e1, e2, e3] at h0
  clear e1 e2 e3
  have hlv : store.length < 9223372036854775808 := Nat.lt_succ_of_le hl
  (refine fn_of Try.func12 rfl (by rfl) ?_; simp only [Try.ntmps12, List.length_cons, List.length_nil, Nat.reduceAdd, Nat.reduceSub, List.replicate, List.cons_append, List.nil_append])
  (have W := ndI f1 (ndI f2 f3); (repeat (any_goals (first | ((with_reducible refine evL_one ?_ ?_); rfl; intro K hK; simp only [go_sem, W]; ((repeat (refine ndI (by first | assumption | omega | rfl) ?_)); refine hK _ ?_; clear hK K)) | (with_reducible first | (refine evL_nil ?_; refine hR _ ?_; clear hR R) | ((first | refine evC_seq ?_ | refine evC_block ?_); intro J hJ hJ') | (refine evC_region ?_; intro R hR) | (refine hJ _ ?_; clear hJ hJ' J) | refine evC_skip ?_ | refine evC_ret ?_ | refine evC_exit ?_) | ((with_reducible refine hJ' _ _ ?_ ?_); (focus (simp; done)); clear hJ hJ' J) | ((with_reducible apply evL_unmet); rfl; rfl; rfl; (try simp only [go_sem, W])) | ((with_reducible apply evL_grd); rfl; rfl; rfl; all_goals (intro hb; first | (cases hb; done) | ((try simp only [Bool.not_true, Bool.not_false] at hb); (first | ((with_reducible intro K hK); simp only [go_sem, W]; ((repeat (refine ndI (by first | assumption | omega | rfl) ?_)); refine hK _ ?_; clear hK K)) | ((fail_if_success (with_reducible intro _)); simp only [go_sem, W]))))) | ((with_reducible apply evC_cond); rfl; rfl; all_goals (intro hc; first | (cases hc; done) | (try simp only at hc))) | ((with_reducible refine evD_nil ?_ ?_); kernel_rfl; (with_reducible refine hR _ ?_); clear hR R) | ((first | ((with_reducible apply evD_skip); rfl; rfl; rfl; rfl) | ((with_reducible apply evD_unmet); rfl; rfl; rfl) | ((first | ((with_reducible apply evD_any); rfl; rfl) | ((with_reducible apply evD_gany); rfl; rfl; rfl; rfl; rfl)); (simp only [rdE, rdOf, go_sem, W]; rfl); (intro τ hA hQ hN; ((try simp only [agree, Op.operands, Call.operands, go_sem, W, go_sem, List.mem_cons, List.not_mem_nil, forall_eq_or_imp, forall_eq, List.append_toArray, Option.toArray] at hA); (try simp only [go_sem, W, List.mem_cons, List.not_mem_nil, forall_eq_or_imp, forall_eq] at hQ hN); (first | (revert hA; intro hA) | have hA := trivial); (first | (revert hQ; intro hQ) | have hQ := trivial); (first | (revert hN; intro hN) | have hN := trivial); simp only [go_sem, W, go_sem, hA, hQ, hN]; (repeat (refine ndI (by first | assumption | omega | rfl) ?_)); (first | apply eff_rd | apply eff_st | apply eff_nw))))); (simp only [St.eff, setO, hputs, go_sem, W])) | ((with_reducible apply evD_split); rfl; rfl; rfl; all_goals intro hb; all_goals (simp only [St.eff, setO, hputs, go_sem, W])) | ((with_reducible refine evC_draw ?_ ?_ ?_ ?_); kernel_rfl; kernel_rfl; (first | kernel_rfl | simp [newNames, isNew, St.free, freeH, AV.refsL, AV.refs]); intro R hR)))))
  all_goals refine evC_upto store.length (fun i => ⟨[.any, .ptr 1 0, vi .i64 0, vb false, .any, .any, .any, .any, .any, .any, .any, .any, .any, .any, .any, .any, .any, .any, .any, .any, .any, .any, .c (psV store), vi .i64 store.length, vi .i64 (i : Int), .any, .any, .any, .any, .any, .any, .any, .any, .any, .any, .any, .any, .any, .any, .any, .any, .any, .any, .any, .any, .any, .any, .any, .any, .any, .any, .any, .any, .any, .any, .any], [(1, ac8 a b n (bsV code) (psV store))]⟩) (St.le_of (by simp_all [leT]) (by simp [leH, hget])) ?_
  all_goals intro i hi J hJ hJ'
  all_goals (try dsimp only at hJ ⊢)
  all_goals rcases Nat.lt_or_ge i store.length with hlt | hge
  all_goals first
    | (have k1 : (decide ((i : Int) < (store.length : Int))) = true := decide_eq_true (by omega))
    | (have k1 : (decide ((i : Int) < (store.length : Int))) = false := decide_eq_false (by omega))
  all_goals first
    | (have hx := hlt
       obtain ⟨p, hp⟩ : ∃ p, store[i]? = some p := ⟨_, List.getElem?_eq_getElem hx⟩
       have k2 := ps_at hp)
    | (have k2 := True.intro)
  all_goals have k7 : (i : Int) + 1 = ((i + 1 : Nat) : Int) := by omega
  all_goals (have W := ndI k1 (ndI k2 (ndI k7 @wrI)); (repeat (any_goals (first | ((with_reducible refine evL_one ?_ ?_); rfl; intro K hK; simp (disch := omega) only [go_sem, W]; ((repeat (refine ndI (by first | assumption | omega | rfl) ?_)); refine hK _ ?_; clear hK K)) | (with_reducible first | (refine evL_nil ?_; refine hR _ ?_; clear hR R) | ((first | refine evC_seq ?_ | refine evC_block ?_); intro J hJ hJ') | (refine evC_region ?_; intro R hR) | (refine hJ _ ?_; clear hJ hJ' J) | refine evC_skip ?_ | refine evC_ret ?_ | refine evC_exit ?_) | ((with_reducible refine hJ' _ _ ?_ ?_); (focus (simp; done)); clear hJ hJ' J) | ((with_reducible apply evL_unmet); rfl; rfl; rfl; (try simp (disch := omega) only [go_sem, W])) | ((with_reducible apply evL_grd); rfl; rfl; rfl; all_goals (intro hb; first | (cases hb; done) | ((try simp only [Bool.not_true, Bool.not_false] at hb); (first | ((with_reducible intro K hK); simp (disch := omega) only [go_sem, W]; ((repeat (refine ndI (by first | assumption | omega | rfl) ?_)); refine hK _ ?_; clear hK K)) | ((fail_if_success (with_reducible intro _)); simp (disch := omega) only [go_sem, W]))))) | ((with_reducible apply evC_cond); rfl; rfl; all_goals (intro hc; first | (cases hc; done) | (try simp only at hc))) | ((with_reducible refine evD_nil ?_ ?_); kernel_rfl; (with_reducible refine hR _ ?_); clear hR R) | ((first | ((with_reducible apply evD_skip); rfl; rfl; rfl; rfl) | ((with_reducible apply evD_unmet); rfl; rfl; rfl) | ((first | ((with_reducible apply evD_any); rfl; rfl) | ((with_reducible apply evD_gany); rfl; rfl; rfl; rfl; rfl)); (simp (disch := omega) only [rdE, rdOf, go_sem, W]; rfl); (intro τ hA hQ hN; ((try simp only [agree, Op.operands, Call.operands, go_sem, W, go_sem, List.mem_cons, List.not_mem_nil, forall_eq_or_imp, forall_eq, List.append_toArray, Option.toArray] at hA); (try simp only [go_sem, W, List.mem_cons, List.not_mem_nil, forall_eq_or_imp, forall_eq] at hQ hN); (first | (revert hA; intro hA) | have hA := trivial); (first | (revert hQ; intro hQ) | have hQ := trivial); (first | (revert hN; intro hN) | have hN := trivial); simp (disch := omega) only [go_sem, W, go_sem, hA, hQ, hN]; (repeat (refine ndI (by first | assumption | omega | rfl) ?_)); (first | apply eff_rd | apply eff_st | apply eff_nw))))); (simp (disch := omega) only [St.eff, setO, hputs, go_sem, W])) | ((with_reducible apply evD_split); rfl; rfl; rfl; all_goals intro hb; all_goals (simp (disch := omega) only [St.eff, setO, hputs, go_sem, W])) | ((with_reducible refine evC_draw ?_ ?_ ?_ ?_); kernel_rfl; kernel_rfl; (first | kernel_rfl | simp [newNames, isNew, St.free, freeH, AV.refsL, AV.refs]); intro R hR)))))
  all_goals first | exact hJ _ hlt (St.le_of (by simp [leT]) (by simp [leH, hget])) | (refine ⟨by simp, ⟨_, ?_, AV.le_refl _⟩, leH_get (by simp [leH, hget])⟩; simp only [Try.results12, resL, ldA, oneOf, go_sem])
theorem check_yes (x : Ac) (hs : ∀ p ∈ x.store, p.ok) (h0 : (decide (x.a ≠ 0) && decide (x.code.length ≤ 200) && decide (x.store.length ≤ 24)) = true) : Fn Try.prog 12 [acA x] [] (vi .i64 (if okTo x.store x.store.length then 0 else 161)) [] := by
  obtain ⟨a, b, n, code, store⟩ := x
  dsimp only at hs h0 ⊢
  simp only [Bool.and_eq_true, decide_eq_true_eq] at h0
  obtain ⟨⟨h1, h2⟩, h3⟩ := h0
  have f1 : (a != 0) = true := by simp [h1]
  have f2 : decide ((code.length : Int) ≤ 200) = true := decide_eq_true (by omega)
  have f3 : decide ((store.length : Int) ≤ 24) = true := decide_eq_true (by omega)
  obtain ⟨rr, hrr⟩ : ∃ r, okTo store store.length = r := ⟨_, rfl⟩
  rw [hrr]
  (refine fn_of Try.func12 rfl (by rfl) ?_; simp only [Try.ntmps12, List.length_cons, List.length_nil, Nat.reduceAdd, Nat.reduceSub, List.replicate, List.cons_append, List.nil_append])
  (have W := ndI f1 (ndI f2 f3); (repeat (any_goals (first | ((with_reducible refine evL_one ?_ ?_); rfl; intro K hK; simp only [go_sem, W]; ((repeat (refine ndI (by first | assumption | omega | rfl) ?_)); refine hK _ ?_; clear hK K)) | (with_reducible first | (refine evL_nil ?_; refine hR _ ?_; clear hR R) | ((first | refine evC_seq ?_ | refine evC_block ?_); intro J hJ hJ') | (refine evC_region ?_; intro R hR) | (refine hJ _ ?_; clear hJ hJ' J) | refine evC_skip ?_ | refine evC_ret ?_ | refine evC_exit ?_) | ((with_reducible refine hJ' _ _ ?_ ?_); (focus (simp; done)); clear hJ hJ' J) | ((with_reducible apply evL_unmet); rfl; rfl; rfl; (try simp only [go_sem, W])) | ((with_reducible apply evL_grd); rfl; rfl; rfl; all_goals (intro hb; first | (cases hb; done) | ((try simp only [Bool.not_true, Bool.not_false] at hb); (first | ((with_reducible intro K hK); simp only [go_sem, W]; ((repeat (refine ndI (by first | assumption | omega | rfl) ?_)); refine hK _ ?_; clear hK K)) | ((fail_if_success (with_reducible intro _)); simp only [go_sem, W]))))) | ((with_reducible apply evC_cond); rfl; rfl; all_goals (intro hc; first | (cases hc; done) | (try simp only at hc))) | ((with_reducible refine evD_nil ?_ ?_); kernel_rfl; (with_reducible refine hR _ ?_); clear hR R) | ((first | ((with_reducible apply evD_skip); rfl; rfl; rfl; rfl) | ((with_reducible apply evD_unmet); rfl; rfl; rfl) | ((first | ((with_reducible apply evD_any); rfl; rfl) | ((with_reducible apply evD_gany); rfl; rfl; rfl; rfl; rfl)); (simp only [rdE, rdOf, go_sem, W]; rfl); (intro τ hA hQ hN; ((try simp only [agree, Op.operands, Call.operands, go_sem, W, go_sem, List.mem_cons, List.not_mem_nil, forall_eq_or_imp, forall_eq, List.append_toArray, Option.toArray] at hA); (try simp only [go_sem, W, List.mem_cons, List.not_mem_nil, forall_eq_or_imp, forall_eq] at hQ hN); (first | (revert hA; intro hA) | have hA := trivial); (first | (revert hQ; intro hQ) | have hQ := trivial); (first | (revert hN; intro hN) | have hN := trivial); simp only [go_sem, W, go_sem, hA, hQ, hN]; (repeat (refine ndI (by first | assumption | omega | rfl) ?_)); (first | apply eff_rd | apply eff_st | apply eff_nw))))); (simp only [St.eff, setO, hputs, go_sem, W])) | ((with_reducible apply evD_split); rfl; rfl; rfl; all_goals intro hb; all_goals (simp only [St.eff, setO, hputs, go_sem, W])) | ((with_reducible refine evC_draw ?_ ?_ ?_ ?_); kernel_rfl; kernel_rfl; (first | kernel_rfl | simp [newNames, isNew, St.free, freeH, AV.refsL, AV.refs]); intro R hR)))))
  refine evC_upto store.length (fun i => ⟨[.any, .ptr 1 0, vi .i64 0, vb (okTo store i), .any, .any, .any, .any, .any, .any, .any, .any, .any, .any, .any, .any, .any, .any, .any, .any, .any, .any, .c (psV store), vi .i64 store.length, vi .i64 (i : Int), .any, .any, .any, .any, .any, .any, .any, .any, .any, .any, .any, .any, .any, .any, .any, .any, .any, .any, .any, .any, .any, .any, .any, .any, .any, .any, .any, .any, .any, .any, .any], [(1, ac8 a b n (bsV code) (psV store))]⟩) (St.le_of (by simp [leT, okTo]) (by simp [leH, hget])) ?_
  intro i hi J hJ hJ'
  (try dsimp only at hJ ⊢)
  have k7 : (i : Int) + 1 = ((i + 1 : Nat) : Int) := by omega
  rcases Nat.lt_or_ge i store.length with hlt | hge
  · obtain ⟨p, hp⟩ : ∃ p, store[i]? = some p := ⟨_, List.getElem?_eq_getElem hlt⟩
    have k1 : (decide ((i : Int) < (store.length : Int))) = true := decide_eq_true (by omega)
    have k2 := ps_at hp
    have hv := zero_dec (hs p (List.mem_of_getElem? hp)).2
    obtain ⟨q1, hq1⟩ : ∃ q, decide (p.v ≠ 0) = q := ⟨_, rfl⟩
    rw [hq1] at hv
    have hnx : okTo store (i + 1) = (okTo store i && okP store i) := rfl
    rw [hnx] at hJ
    generalize okTo store i = g at hJ ⊢
    rcases Nat.eq_zero_or_pos i with h0 | h0
    · have n3 : ((i : Int) == 0) = true := by rw [h0]; rfl
      have hok : okP store i = q1 := by
        rw [h0] at hp ⊢
        rw [okP_zero hp, hq1]
      rw [hok] at hJ
      cases g <;> cases q1
      all_goals simp only [Bool.not_true, Bool.not_false] at hv
      all_goals (have W := ndI k1 (ndI k2 (ndI k7 (ndI n3 @wrI))); (repeat (any_goals (first | ((with_reducible refine evL_one ?_ ?_); rfl; intro K hK; simp (disch := omega) only [go_sem, W, hv]; ((repeat (refine ndI (by first | assumption | omega | rfl) ?_)); refine hK _ ?_; clear hK K)) | (with_reducible first | (refine evL_nil ?_; refine hR _ ?_; clear hR R) | ((first | refine evC_seq ?_ | refine evC_block ?_); intro J hJ hJ') | (refine evC_region ?_; intro R hR) | (refine hJ _ ?_; clear hJ hJ' J) | refine evC_skip ?_ | refine evC_ret ?_ | refine evC_exit ?_) | ((with_reducible refine hJ' _ _ ?_ ?_); (focus (simp; done)); clear hJ hJ' J) | ((with_reducible apply evL_unmet); rfl; rfl; rfl; (try simp (disch := omega) only [go_sem, W, hv])) | ((with_reducible apply evL_grd); rfl; rfl; rfl; all_goals (intro hb; first | (cases hb; done) | ((try simp only [Bool.not_true, Bool.not_false] at hb); (first | ((with_reducible intro K hK); simp (disch := omega) only [go_sem, W, hv]; ((repeat (refine ndI (by first | assumption | omega | rfl) ?_)); refine hK _ ?_; clear hK K)) | ((fail_if_success (with_reducible intro _)); simp (disch := omega) only [go_sem, W, hv]))))) | ((with_reducible apply evC_cond); rfl; rfl; all_goals (intro hc; first | (cases hc; done) | (try simp only at hc))) | ((with_reducible refine evD_nil ?_ ?_); kernel_rfl; (with_reducible refine hR _ ?_); clear hR R) | ((first | ((with_reducible apply evD_skip); rfl; rfl; rfl; rfl) | ((with_reducible apply evD_unmet); rfl; rfl; rfl) | ((first | ((with_reducible apply evD_any); rfl; rfl) | ((with_reducible apply evD_gany); rfl; rfl; rfl; rfl; rfl)); (simp (disch := omega) only [rdE, rdOf, go_sem, W, hv]; rfl); (intro τ hA hQ hN; ((try simp only [agree, Op.operands, Call.operands, go_sem, W, hv, go_sem, List.mem_cons, List.not_mem_nil, forall_eq_or_imp, forall_eq, List.append_toArray, Option.toArray] at hA); (try simp only [go_sem, W, hv, List.mem_cons, List.not_mem_nil, forall_eq_or_imp, forall_eq] at hQ hN); (first | (revert hA; intro hA) | have hA := trivial); (first | (revert hQ; intro hQ) | have hQ := trivial); (first | (revert hN; intro hN) | have hN := trivial); simp (disch := omega) only [go_sem, W, hv, go_sem, hA, hQ, hN]; (repeat (refine ndI (by first | assumption | omega | rfl) ?_)); (first | apply eff_rd | apply eff_st | apply eff_nw))))); (simp (disch := omega) only [St.eff, setO, hputs, go_sem, W, hv])) | ((with_reducible apply evD_split); rfl; rfl; rfl; all_goals intro hb; all_goals (simp (disch := omega) only [St.eff, setO, hputs, go_sem, W, hv])) | ((with_reducible refine evC_draw ?_ ?_ ?_ ?_); kernel_rfl; kernel_rfl; (first | kernel_rfl | simp [newNames, isNew, St.free, freeH, AV.refsL, AV.refs]); intro R hR)))))
      all_goals exact hJ _ hlt (St.le_of (by simp [leT]) (by simp [leH, hget]))
    · obtain ⟨j, hj⟩ : ∃ j, i = j + 1 := ⟨i - 1, by omega⟩
      obtain ⟨q, hq⟩ : ∃ q, store[j]? = some q := ⟨_, List.getElem?_eq_getElem (by omega)⟩
      have n3 : ((i : Int) == 0) = false := by rw [beq_eq_false_iff_ne]; omega
      have n4 := ps_at hq
      have n5 : (i : Int) - 1 = (j : Int) := by omega
      have hjl : j < store.length := by omega
      have cm := cmp_fn q.k p.k (hs q (List.mem_of_getElem? hq)).1 (hs p (List.mem_of_getElem? hp)).1
      obtain ⟨q2, hq2⟩ : ∃ c, decide (q.k < p.k) = c := ⟨_, rfl⟩
      have hok : okP store i = (q1 && q2) := by
        rw [hj] at hp ⊢
        rw [okP_succ hq hp, hq1, hq2]
      rw [hok] at hJ
      obtain ⟨cv, hcv, hcd⟩ : ∃ cv : Int, (if q.k < p.k then -1 else if p.k < q.k then 1 else 0 : Int) = cv ∧ decide (cv < 0) = q2 := by
        refine ⟨_, rfl, ?_⟩
        rw [← hq2]
        by_cases h : q.k < p.k
        · rw [if_pos h, decide_eq_true h]; rfl
        · rw [if_neg h, decide_eq_false h]; split <;> rfl
      rw [hcv] at cm
      cases g <;> cases q1 <;> cases q2
      all_goals simp only [Bool.not_true, Bool.not_false] at hv
      all_goals (have W := ndI k1 (ndI k2 (ndI k7 (ndI n3 (ndI n4 (ndI n5 @wrI))))); (repeat (any_goals (first | ((with_reducible refine evL_one ?_ ?_); rfl; intro K hK; simp (disch := omega) only [go_sem, W, hv, hcd]; ((repeat (refine ndI (by first | assumption | omega | rfl) ?_)); refine hK _ ?_; clear hK K)) | (with_reducible first | (refine evL_nil ?_; refine hR _ ?_; clear hR R) | ((first | refine evC_seq ?_ | refine evC_block ?_); intro J hJ hJ') | (refine evC_region ?_; intro R hR) | (refine hJ _ ?_; clear hJ hJ' J) | refine evC_skip ?_ | refine evC_ret ?_ | refine evC_exit ?_) | ((with_reducible refine hJ' _ _ ?_ ?_); (focus (simp; done)); clear hJ hJ' J) | ((with_reducible apply evL_unmet); rfl; rfl; rfl; (try simp (disch := omega) only [go_sem, W, hv, hcd])) | ((with_reducible apply evL_grd); rfl; rfl; rfl; all_goals (intro hb; first | (cases hb; done) | ((try simp only [Bool.not_true, Bool.not_false] at hb); (first | ((with_reducible intro K hK); simp (disch := omega) only [go_sem, W, hv, hcd]; ((repeat (refine ndI (by first | assumption | omega | rfl) ?_)); refine hK _ ?_; clear hK K)) | ((fail_if_success (with_reducible intro _)); simp (disch := omega) only [go_sem, W, hv, hcd]))))) | ((with_reducible apply evC_cond); rfl; rfl; all_goals (intro hc; first | (cases hc; done) | (try simp only at hc))) | ((with_reducible refine evD_nil ?_ ?_); kernel_rfl; (with_reducible refine hR _ ?_); clear hR R) | ((first | ((with_reducible apply evD_skip); rfl; rfl; rfl; rfl) | ((with_reducible apply evD_unmet); rfl; rfl; rfl) | ((first | ((with_reducible apply evD_fcall); rfl; rfl) | ((with_reducible apply evD_gcall); rfl; rfl; rfl; rfl; rfl)); ((apply opF_callB (cm); rfl; rfl; rfl; rfl; exact Try.func33); kernel_rfl; rfl; (simp (disch := omega) only [go_sem, W, hv, hcd]; rfl); (first | rfl | simp [AV.inNL, AV.inN]))) | ((first | ((with_reducible apply evD_any); rfl; rfl) | ((with_reducible apply evD_gany); rfl; rfl; rfl; rfl; rfl)); (simp (disch := omega) only [rdE, rdOf, go_sem, W, hv, hcd]; rfl); (intro τ hA hQ hN; ((try simp only [agree, Op.operands, Call.operands, go_sem, W, hv, hcd, go_sem, List.mem_cons, List.not_mem_nil, forall_eq_or_imp, forall_eq, List.append_toArray, Option.toArray] at hA); (try simp only [go_sem, W, hv, hcd, List.mem_cons, List.not_mem_nil, forall_eq_or_imp, forall_eq] at hQ hN); (first | (revert hA; intro hA) | have hA := trivial); (first | (revert hQ; intro hQ) | have hQ := trivial); (first | (revert hN; intro hN) | have hN := trivial); simp (disch := omega) only [go_sem, W, hv, hcd, go_sem, hA, hQ, hN]; (repeat (refine ndI (by first | assumption | omega | rfl) ?_)); (first | apply eff_rd | apply eff_st | apply eff_nw))))); (simp (disch := omega) only [St.eff, setO, hputs, go_sem, W, hv, hcd])) | ((with_reducible apply evD_split); rfl; rfl; rfl; all_goals intro hb; all_goals (simp (disch := omega) only [St.eff, setO, hputs, go_sem, W, hv, hcd])) | ((with_reducible refine evC_draw ?_ ?_ ?_ ?_); kernel_rfl; kernel_rfl; (first | kernel_rfl | simp [newNames, isNew, St.free, freeH, AV.refsL, AV.refs]); intro R hR)))))
      all_goals exact hJ _ hlt (St.le_of (by simp [leT]) (by simp [leH, hget]))
  · have k1 : (decide ((i : Int) < (store.length : Int))) = false := decide_eq_false (by omega)
    have e : i = store.length := by omega
    rw [e, hrr]
    rw [e] at k1
    (repeat (any_goals (first | ((with_reducible refine evL_one ?_ ?_); rfl; intro K hK; simp only [go_sem, k1]; ((repeat (refine ndI (by first | assumption | omega | rfl) ?_)); refine hK _ ?_; clear hK K)) | (with_reducible first | (refine evL_nil ?_; refine hR _ ?_; clear hR R) | ((first | refine evC_seq ?_ | refine evC_block ?_); intro J hJ hJ') | (refine evC_region ?_; intro R hR) | (refine hJ _ ?_; clear hJ hJ' J) | refine evC_skip ?_ | refine evC_ret ?_ | refine evC_exit ?_) | ((with_reducible refine hJ' _ _ ?_ ?_); (focus (simp; done)); clear hJ hJ' J) | ((with_reducible apply evL_unmet); rfl; rfl; rfl; (try simp only [go_sem, k1])) | ((with_reducible apply evL_grd); rfl; rfl; rfl; all_goals (intro hb; first | (cases hb; done) | ((try simp only [Bool.not_true, Bool.not_false] at hb); (first | ((with_reducible intro K hK); simp only [go_sem, k1]; ((repeat (refine ndI (by first | assumption | omega | rfl) ?_)); refine hK _ ?_; clear hK K)) | ((fail_if_success (with_reducible intro _)); simp only [go_sem, k1]))))) | ((with_reducible apply evC_cond); rfl; rfl; all_goals (intro hc; first | (cases hc; done) | (try simp only at hc))) | ((with_reducible refine evD_nil ?_ ?_); kernel_rfl; (with_reducible refine hR _ ?_); clear hR R) | ((first | ((with_reducible apply evD_skip); rfl; rfl; rfl; rfl) | ((with_reducible apply evD_unmet); rfl; rfl; rfl) | ((first | ((with_reducible apply evD_any); rfl; rfl) | ((with_reducible apply evD_gany); rfl; rfl; rfl; rfl; rfl)); (simp only [rdE, rdOf, go_sem, k1]; rfl); (intro τ hA hQ hN; ((try simp only [agree, Op.operands, Call.operands, go_sem, k1, go_sem, List.mem_cons, List.not_mem_nil, forall_eq_or_imp, forall_eq, List.append_toArray, Option.toArray] at hA); (try simp only [go_sem, k1, List.mem_cons, List.not_mem_nil, forall_eq_or_imp, forall_eq] at hQ hN); (first | (revert hA; intro hA) | have hA := trivial); (first | (revert hQ; intro hQ) | have hQ := trivial); (first | (revert hN; intro hN) | have hN := trivial); simp only [go_sem, k1, go_sem, hA, hQ, hN]; (repeat (refine ndI (by first | assumption | omega | rfl) ?_)); (first | apply eff_rd | apply eff_st | apply eff_nw))))); (simp only [St.eff, setO, hputs, go_sem, k1])) | ((with_reducible apply evD_split); rfl; rfl; rfl; all_goals intro hb; all_goals (simp only [St.eff, setO, hputs, go_sem, k1])) | ((with_reducible refine evC_draw ?_ ?_ ?_ ?_); kernel_rfl; kernel_rfl; (first | kernel_rfl | simp [newNames, isNew, St.free, freeH, AV.refsL, AV.refs]); intro R hR))))
    all_goals simp only [Bool.not_eq_true', Bool.not_eq_false'] at hc
    all_goals rw [hc]
    all_goals (refine ⟨by simp, ⟨_, ?_, AV.le_refl _⟩, leH_get (by simp [leH, hget])⟩; simp only [Try.results12, resL, ldA, oneOf, go_sem])
theorem check_fn (x : Ac) (hs : ∀ p ∈ x.store, p.ok) (hl : x.store.length ≤ maxLen) (hc : x.code.length ≤ maxLen) : Fn Try.prog 12 [acA x] [] (vi .i64 (if okAc x then 0 else 161)) [] := by
  unfold okAc
  obtain ⟨c, h0⟩ : ∃ c, (decide (x.a ≠ 0) && decide (x.code.length ≤ 200) && decide (x.store.length ≤ 24)) = c := ⟨_, rfl⟩
  rw [h0]
  cases c
  · rw [Bool.false_and]
    exact check_no x hl hc h0
  · rw [Bool.true_and]
    exact check_yes x hs h0
def emptyA (x : Ac) : Bool := decide (x.b = 0) && decide (x.n = 0) && decide (x.code.length + x.store.length = 0)
theorem empty_fn (x : Ac) (hb : x.b < WW) (hl : x.store.length ≤ maxLen) (hc : x.code.length ≤ maxLen) (h : x.code.length + x.store.length ≤ maxLen) : Fn Try.prog 48 [acA x] [] (vb (emptyA x)) [] := by
  obtain ⟨a, b, n, code, store⟩ := x
  dsimp only at hb hl hc h
  unfold emptyA
  dsimp only
  have f1 := wN_zero hb
  obtain ⟨p1, e1⟩ : ∃ p, decide (b = 0) = p := ⟨_, rfl⟩
  obtain ⟨p2, e2⟩ : ∃ p, decide (n = 0) = p := ⟨_, rfl⟩
  obtain ⟨p3, e3⟩ : ∃ p, decide (code.length + store.length = 0) = p := ⟨_, rfl⟩
  have f2 : (n == 0) = p2 := by rw [← e2, Bool.eq_iff_iff]; simp
  have f3 : ((code.length : Int) + (store.length : Int)) = ((code.length + store.length : Nat) : Int) := by omega
  have f4 : (((code.length + store.length : Nat) : Int) == 0) = p3 := by
    rw [← e3, Bool.eq_iff_iff, beq_iff_eq, decide_eq_true_eq]; omega
  have hm : code.length + store.length < 9223372036854775808 := Nat.lt_succ_of_le h
  rw [e1] at f1
  rw [e1, e2, e3]
  clear e1 e2 e3
  generalize code.length + store.length = m at f3 f4 hm
  cases p1 <;> cases p2 <;> cases p3
  all_goals (refine fn_of Try.func48 rfl (by rfl) ?_; simp only [Try.ntmps48, List.length_cons, List.length_nil, Nat.reduceAdd, Nat.reduceSub, List.replicate, List.cons_append, List.nil_append])
  all_goals (have W := ndI f1 (ndI f2 (ndI f3 (ndI f4 @wrI))); (repeat (any_goals (first | ((with_reducible refine evL_one ?_ ?_); rfl; intro K hK; simp (disch := omega) only [go_sem, W]; ((repeat (refine ndI (by first | assumption | omega | rfl) ?_)); refine hK _ ?_; clear hK K)) | (with_reducible first | (refine evL_nil ?_; refine hR _ ?_; clear hR R) | ((first | refine evC_seq ?_ | refine evC_block ?_); intro J hJ hJ') | (refine evC_region ?_; intro R hR) | (refine hJ _ ?_; clear hJ hJ' J) | refine evC_skip ?_ | refine evC_ret ?_ | refine evC_exit ?_) | ((with_reducible refine hJ' _ _ ?_ ?_); (focus (simp; done)); clear hJ hJ' J) | ((with_reducible apply evL_unmet); rfl; rfl; rfl; (try simp (disch := omega) only [go_sem, W])) | ((with_reducible apply evL_grd); rfl; rfl; rfl; all_goals (intro hb; first | (cases hb; done) | ((try simp only [Bool.not_true, Bool.not_false] at hb); (first | ((with_reducible intro K hK); simp (disch := omega) only [go_sem, W]; ((repeat (refine ndI (by first | assumption | omega | rfl) ?_)); refine hK _ ?_; clear hK K)) | ((fail_if_success (with_reducible intro _)); simp (disch := omega) only [go_sem, W]))))) | ((with_reducible apply evC_cond); rfl; rfl; all_goals (intro hc; first | (cases hc; done) | (try simp only at hc)))))))
  all_goals (refine ⟨by simp, ⟨_, ?_, AV.le_refl _⟩, leH_get (by simp [leH, hget])⟩; simp only [Try.results48, resL, ldA, oneOf, go_sem])
  all_goals rfl
end Go.Proofs.Ytiggambibcohcaa
