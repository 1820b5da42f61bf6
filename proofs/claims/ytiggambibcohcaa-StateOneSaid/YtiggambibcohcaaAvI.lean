/-
  Literals, lengths and cuts over abstract states. No program in sight.
-/
import Derived.Test.YtiggambibcohcaaAvH
namespace Go.Proofs.Ytiggambibcohcaa
open Go.RowKit
set_option linter.unusedSimpArgs false
set_option linter.unusedVariables false

/-! literals -/
def fillA (pl : List (Nat × Nat)) (cs : List AV) : List (Nat × AV) → Option (List AV)
  | [] => some cs
  | (i, x) :: rest => match pl[i]?, x.cells with
    | some (off, size), some ys => if ys.length = size ∧ off + size ≤ cs.length then fillA pl (spl cs off ys) rest else none
    | _, _ => none
/-- the places of a struct's fields, of an array's elements -/
def plT (P : Program) (t : TypeId) : Option (List (Nat × Nat)) :=
  match P.underlying t with
  | some (.struct fs) => fs.toList.mapM (fun f => (P.info? f.type).map fun i => (f.offset, i.size))
  | some (.array n e) => (P.info? e).map fun i => (List.range n).map fun k => (k * i.size, i.size)
  | _ => none
theorem fillA_run {S : Nat → Prop} {ι : Nat → Nat × Nat × Nat} {w : World} {pl : List (Nat × Nat)} {place : Nat → Option (Nat × Nat)} (hp : ∀ i p, pl[i]? = some p → place i = some p) : ∀ (parts : List (Nat × AV)) (vs : List (Nat × Value)) (us : List Value) (cs ds : List AV),
    RVs S ι w us cs → vs.length = parts.length → (∀ (j : Nat) (p : Nat × Value) (q : Nat × AV), vs[j]? = some p → parts[j]? = some q → p.1 = q.1 ∧ RV S ι w p.2 q.2) → fillA pl cs parts = some ds → ∃ us' : List Value, Instr.fill place us.toArray vs = some us'.toArray ∧ RVs S ι w us' ds
  | [], vs, us, cs, ds, hu, hl, _, h => by
    obtain rfl := List.eq_nil_of_length_eq_zero hl
    cases h
    exact ⟨us, rfl, hu⟩
  | (i, x) :: parts, [], us, cs, ds, hu, hl, _, h => by simp at hl
  | (i, x) :: parts, (i', v) :: vs, us, cs, ds, hu, hl, hv, h => by
    obtain ⟨rfl, hvx⟩ := hv 0 _ _ rfl rfl
    simp only at hvx
    unfold fillA at h
    split at h
    · rename_i off size ys hpl hys
      split at h
      · rename_i hcond
        obtain ⟨hsz, hle⟩ := hcond
        have hc := hvx.cells hys
        have hvs : v.cells.size = size := by rw [← hsz, ← hc.1]; simp
        obtain ⟨g1, g2⟩ := Great.foldl_set off v.cells.toList 0 us.toArray
        have hul := hu.1
        obtain ⟨us', h1, h2⟩ := fillA_run hp parts vs ((v.cells.toList.zipIdx 0).foldl (fun cs (x : Value × Nat) => cs.setIfInBounds (off + x.2) x.1) us.toArray).toList (spl cs off ys) ds
          ⟨by simp only [Array.length_toList, g1, spl, List.size_toArray, List.length_append, List.length_take, List.length_drop]; omega, fun j u x' hj hx' => by
            simp only [Array.getElem?_toList] at hj
            rw [g2 j] at hj
            have hyl : v.cells.toList.length = ys.length := hc.1
            simp only [Nat.add_zero, List.size_toArray] at hj
            unfold spl at hx'
            simp only [List.getElem?_append, List.length_take, List.getElem?_take, List.getElem?_drop, List.length_append] at hx'
            have e2 : min off cs.length = off := by omega
            rw [e2] at hx'
            by_cases hj1 : j < off
            · rw [if_neg (by omega)] at hj
              rw [if_pos (by omega), if_pos hj1, if_pos hj1] at hx'
              exact hu.2 j u x' (by simpa using hj) hx'
            · by_cases hj2 : j < off + ys.length
              · rw [if_pos (by omega)] at hj
                rw [if_pos (by omega), if_neg hj1] at hx'
                exact hc.2 _ u x' hj hx'
              · rw [if_neg (by omega)] at hj
                rw [if_neg (by omega)] at hx'
                have e4 : off + ys.length + (j - (off + ys.length)) = j := by omega
                rw [e4] at hx'
                exact hu.2 j u x' (by simpa using hj) hx'⟩
          (by simpa using hl) (fun j p q hj hq => hv (j + 1) p q (by simpa using hj) (by simpa using hq)) h
        refine ⟨us', ?_, h2⟩
        unfold Instr.fill
        rw [hp i' _ hpl]
        simp only
        rw [if_neg (by simp [hvs]; omega)]
        rw [← h1]
        congr 1
        rw [← Array.foldl_toList, Array.toList_zipIdx]
      · cases h
    · cases h
theorem built_of {P : Program} {t : TypeId} {pl : List (Nat × Nat)} {z : List Value} (hp : plT P t = some pl) (hz : zeroT P t = some z) : ∃ place : Nat → Option (Nat × Nat), (∀ i p, pl[i]? = some p → place i = some p) ∧ ∀ parts, P.built t parts = Instr.fill place z.toArray parts := by
  unfold zeroT at hz
  unfold plT at hp
  cases hi : P.info? t with
  | none => simp [hi] at hz
  | some it =>
    cases hzz : it.zero with
    | none => simp [hi, hzz] at hz
    | some zv =>
      have hzc : zv.cells = z.toArray := by simp [hi, hzz] at hz; rw [← hz]
      split at hp
      · rename_i fs hu
        refine ⟨fun i => pl.toArray[i]?, fun i p h => by simpa using h, fun parts => ?_⟩
        unfold Program.built
        rw [hi, hu]
        simp only [hzz, hp, hzc]
      · rename_i n e hu
        cases he : P.info? e with
        | none => simp [he] at hp
        | some ie =>
          simp [he] at hp
          refine ⟨fun i => some (i * ie.size, ie.size), fun i p h => ?_, fun parts => ?_⟩
          · rw [← hp] at h
            simp only [List.getElem?_map, Option.map_eq_some_iff] at h
            obtain ⟨k, hk, rfl⟩ := h
            have := List.getElem?_eq_some_iff.1 hk
            obtain ⟨_, e⟩ := this
            simp at e
            rw [e]
          · unfold Program.built
            rw [hi, hu]
            simp only [hzz, he, hzc]
      · cases hp
section
variable {P : Program} {o : Oper} {σ : St} {K : St → Prop}
theorem parts_rv {E : Env} {ι : Nat → Nat × Nat × Nat} {a : Act} {w : World} (h : Conc E ι σ a w) {parts : Array (Nat × Operand)} (hk : parts.toList.all (fun p => okConst p.2) = true) :
    ∀ (j : Nat) (p : Nat × Value) (q : Nat × AV), (parts.toList.map fun x => (x.1, a.eval x.2))[j]? = some p → (parts.toList.map fun x => (x.1, σ.ev x.2))[j]? = some q → p.1 = q.1 ∧ RV (Sx E ι σ.H) ι w p.2 q.2 := fun j p q hp hq => by
  simp only [List.getElem?_map, Option.map_eq_some_iff] at hp hq
  obtain ⟨x, hx, rfl⟩ := hp
  obtain ⟨y, hy, rfl⟩ := hq
  rw [hx] at hy; cases hy
  exact ⟨rfl, h.ev x.2 (List.all_eq_true.1 hk x (List.mem_of_getElem? hx))⟩
theorem opA_build {t : TypeId} {parts : Array (Nat × Operand)} {pl : List (Nat × Nat)} {z : List Value} {ds : List AV} (ho : o.op = .build t parts) (hk : parts.toList.all (fun p => okConst p.2) = true) (hp : plT P t = some pl) (hz : zeroT P t = some z) (h1 : z.all (·.oneCell') = true)
    (hf : fillA pl (z.map fun x => .c (.v x)) (parts.toList.map fun x => (x.1, σ.ev x.2)) = some ds) (hK : K (σ.put o.dst (.agg ds))) : OpA P o σ K :=
  opA_val _ hK fun E ι a w h => by
    obtain ⟨place, hpl, hb⟩ := built_of hp hz
    obtain ⟨us', hrun, hrv⟩ := fillA_run (S := Sx E ι σ.H) (ι := ι) (w := w) hpl _ (parts.toList.map fun x => (x.1, a.eval x.2)) z _ ds (zeroT_one (t := t) h1) (by simp) (parts_rv h hk) hf
    refine ⟨.agg us'.toArray, ?_, hrv.agg⟩
    have hpt : (parts.map fun x => (x.1, a.eval x.2)).toList = parts.toList.map fun x => (x.1, a.eval x.2) := by simp
    have := run_build (P := P) w t (parts.map fun x => (x.1, a.eval x.2)) us'.toArray (by rw [hpt, hb]; exact hrun)
    simp only [execOp, ho, Sem.run_bind, this, Result.andThen_ok, Sem.run_pure]
theorem opA_buildSlice {d : Nat} {t : TypeId} {len e sz by_ : Nat} {parts : Array (Nat × Operand)} {z : List Value} {ds : List AV} (ho : o.op = .buildSlice t len parts) (hk : parts.toList.all (fun p => okConst p.2) = true) (hs : slcZ P t = some (e, sz, by_)) (hz : zeroT P e = some z) (h1 : z.all (·.oneCell') = true)
    (hsmall : len * sz ≤ 16777216) (hsz : 0 < sz) (hd : o.dst = some d) (hfr : σ.free d = true) (hd2 : d < 1000) (hf : fillA ((List.range len).map fun k => (k * sz, sz)) (List.replicate (len * sz) .any) (parts.toList.map fun x => (x.1, σ.ev x.2)) = some ds) (hlen : ds.length = len * sz) (hcs : AV.refsL d ds = false)
    (hK : K ((St.mk σ.T (hput σ.H d ds)).put o.dst (.row d e sz len))) : OpA P o σ K :=
  opA_new (.row d e sz len) hd hfr hd2 hcs hK fun E ι a w h => by
    obtain ⟨hu, i, zv, hi, hiz, hsize, hbytes, hzs⟩ := slcZ_spec hs
    have hzl : zv.cells.toList = z := by simp [zeroT, hi, hiz] at hz; exact hz
    have hz1 : ∀ k, k < zv.cells.size → (zv.cells[k]!).oneCell' = true := fun k hk => by
      have hmem : zv.cells[k]! ∈ z := by rw [← hzl]; simp [hk]
      exact List.all_eq_true.1 h1 _ hmem
    by_cases h0 : len * sz = 0
    · have hlen0 : len = 0 := by
        rcases Nat.mul_eq_zero.1 h0 with h | h
        · exact h
        · omega
      subst hlen0
      have hds : ds = [] := List.eq_nil_of_length_eq_zero (by simpa using hlen)
      subst hds
      have hparts : parts = #[] := by
        cases hpl : parts.toList with
        | nil => exact Array.toList_eq_nil_iff.1 hpl
        | cons x r => rw [hpl] at hf; simp [fillA] at hf
      subst hparts
      refine ⟨.slice (some ⟨w.heap.size, 0, none⟩) 0 0, #[], e, ?_, Nat.le_refl _, fun j u x hu => by simp at hu, fun u hu => by simp at hu, fun S ι' w' hι => .rnil _ d e sz (by rw [hι]; rfl)⟩
      simp [execOp, ho, Instr.buildSlice, run_underlying hu, sizeOf, typeInfo, hi, hsize, newRow, Instr.fill]
      have : ∀ f : Nat → Value, Array.map f (Array.range 0) = #[] := fun f => by apply Array.ext'; simp
      rw [this]
    · have hrow : ∃ us : List Value, ((Array.range (len * i.size)).map (zv.cells[· % zv.cells.size]!)) = us.toArray ∧ RVs (Sx E ι σ.H) ι w us (List.replicate (len * sz) .any) := by
        refine ⟨((Array.range (len * i.size)).map (zv.cells[· % zv.cells.size]!)).toList, by apply Array.ext'; simp, by simp [hsize], fun j u x hu hx => ?_⟩
        rw [List.getElem?_replicate] at hx
        split at hx
        · cases hx
          refine ⟨.any _, ?_⟩
          simp only [Array.getElem?_toList, Array.getElem?_map, Option.map_eq_some_iff] at hu
          obtain ⟨k, _, rfl⟩ := hu
          exact hz1 _ (Nat.mod_lt _ (by omega))
        · cases hx
      obtain ⟨us, hus, hrv⟩ := hrow
      obtain ⟨us', hrun, hrv'⟩ := fillA_run (S := Sx E ι σ.H) (ι := ι) (w := w) (pl := (List.range len).map fun k => (k * sz, sz)) (place := fun k => some (k * i.size, i.size)) (fun k p hp => by
        simp only [List.getElem?_map, Option.map_eq_some_iff] at hp
        obtain ⟨m, hm, rfl⟩ := hp
        obtain ⟨_, e⟩ := List.getElem?_eq_some_iff.1 hm
        simp at e
        rw [e, hsize]) _ (parts.toList.map fun x => (x.1, a.eval x.2)) us _ ds hrv (by simp) (parts_rv h hk) hf
      have hlu : us'.length = len * sz := by rw [hrv'.1, hlen]
      refine ⟨.slice (some ⟨w.heap.size, 0, none⟩) len len, us'.toArray, e, ?_, by simp [hrv'.1], fun j u x hu hx => hrv'.2 j u x (by simpa using hu) hx, fun u hu => hrv'.ones u (by simpa using hu), fun S ι' w' hι => ?_⟩
      · have hpt : (parts.map fun x => (x.1, a.eval x.2)).toList = parts.toList.map fun x => (x.1, a.eval x.2) := by simp
        have := run_buildSlice (P := P) w t e len (parts.map fun x => (x.1, a.eval x.2)) us'.toArray i zv hu hi hiz (by rw [hsize]; omega) (by rw [hsize]; exact h0) (by rw [hus, hpt]; exact hrun)
        simp only [execOp, ho, Sem.run_bind, this, Result.andThen_ok, Sem.run_pure]
      · have hml : len ≤ maxLen := by
          have : len * 1 ≤ len * sz := Nat.mul_le_mul_left _ hsz
          unfold maxLen; omega
        have := RV.row (S := S) (ι := ι') (w := w') d e sz len len (Nat.le_refl _) hml (by rw [hι]; simp [hlu]) (by rw [hι]) (by rw [hι]; simp [hlu]; omega)
        rwa [hι] at this
def plsFrom (sz : Nat) : Nat → Nat → List (Nat × Nat)
  | _, 0 => []
  | off, n + 1 => (off, sz) :: plsFrom sz (off + sz) n
theorem plsFrom_eq (sz : Nat) : ∀ (n off : Nat), plsFrom sz off n = (List.range n).map fun k => (off + k * sz, sz)
  | 0, off => rfl
  | n + 1, off => by
    rw [plsFrom, plsFrom_eq sz n (off + sz), List.range_succ_eq_map, List.map_cons, List.map_map]
    congr 1
    · simp
    · apply List.map_congr_left
      intro k _
      simp only [Function.comp, Nat.succ_eq_add_one, Nat.add_mul, Nat.one_mul, Prod.mk.injEq, and_true]
      omega
/-! lengths and cuts -/
def lenA : AV → Option Nat
  | .row _ _ _ n => some n
  | .cut _ _ _ _ n _ _ => some n
  | .c (.sl _ _ n _) => some n
  | .c (.v (.slice none 0 0)) => some 0
  | _ => none
theorem opA_len {t : TypeId} {x : Operand} {n : Nat} (ho : o.op = .call { callee := .builtin .len, args := #[x], argTypes := #[t] }) (hx : okConst x = true) (hs : (slcT P t).isSome = true) (hn : lenA (σ.ev x) = some n) (hK : K (σ.put o.dst (.c (.v (.int .i64 n))))) : OpA P o σ K :=
  opA_val _ hK fun E ι a w h => by
    have hxv := h.ev x hx
    generalize he : a.eval x = v at hxv
    generalize hes : σ.ev x = y at hxv hn
    have hv : ∃ A c, v = .slice A n c := by
      cases hxv with
      | row r e sz n' c => simp [lenA] at hn; subst hn; exact ⟨_, _, rfl⟩
      | rnil A r e sz => simp [lenA] at hn; subst hn; exact ⟨_, _, rfl⟩
      | cut r e sz lo n' c => simp [lenA] at hn; subst hn; exact ⟨_, _, rfl⟩
      | cnil A r e sz => simp [lenA] at hn; subst hn; exact ⟨_, _, rfl⟩
      | c v p hp =>
        cases hp with
        | v _ _ =>
          unfold lenA at hn
          split at hn
          · rename_i heq; cases heq
          · rename_i heq; cases heq
          · rename_i heq; cases heq
          · rename_i heq; cases heq; cases hn; exact ⟨_, _, rfl⟩
          · cases hn
        | sl ex sz A n' c us cs => simp [lenA] at hn; subst hn; exact ⟨_, _, rfl⟩
      | _ => simp [lenA] at hn
    obtain ⟨A, c, rfl⟩ := hv
    obtain ⟨p, hp⟩ := Option.isSome_iff_exists.1 hs
    have hu : ∃ e, P.underlying t = some (.slice e) := by
      unfold slcT at hp
      split at hp
      · rename_i e hu; exact ⟨e, hu⟩
      · cases hp
    obtain ⟨e, hu⟩ := hu
    refine ⟨.int .i64 n, ?_, rv_const _ rfl⟩
    simp [execOp, ho, resolve, invoke, builtin, he, Builtin.len_, run_underlying hu, goInt]
/-- a bound that is an operand, or not given -/
def bnd (ev : Operand → AV) (dflt : Nat) : Option Operand → Option Int
  | none => some dflt
  | some x => match ev x with
    | .c (.v (.int _ m)) => some m
    | _ => none
theorem run_sliceBound {k : IntKind} {m : Int} {y : Nat} {code : BoundsCode} (h : 0 ≤ m ∧ m ≤ y) (w : World) : (Instr.sliceBound (.int k m) y code).run P w = .ok m.toNat w := by
  simp [Instr.sliceBound, asIntOf_int, h]
def tightB (mx : Option Operand) (m h : Int) : Bool := mx.isSome && decide (m = h)
theorem opA_slice {t e sz by_ n : Nat} {ex : Bool} {cs : List PV} {x : Operand} {lo hi mx : Option Operand} {l h m : Int} (ho : o.op = .slice t x lo hi mx) (hx : okConst x = true) (hlo : lo.toList.all okConst = true) (hhi : hi.toList.all okConst = true) (hmx : mx.toList.all okConst = true) (hs : slcT P t = some (e, sz, by_))
    (h1 : (σ.ev x).le (.c (.sl ex sz n cs))) (hl : bnd σ.ev 0 lo = some l) (hh : bnd σ.ev n hi = some h) (hm : bnd σ.ev n mx = some m) (hmi : mx.isSome = true → hi.isSome = true) (hb : 0 ≤ l ∧ l ≤ h ∧ h ≤ n ∧ (mx.isSome = true → h ≤ m ∧ m ≤ n))
    (hK : K (σ.put o.dst (.c (.sl (tightB mx m h) sz (h.toNat - l.toNat) ((cs.drop (l.toNat * sz)).take ((h.toNat - l.toNat) * sz)))))) : OpA P o σ K :=
  opA_val _ hK fun E ι a w hc => by
    have hxv := h1 _ _ _ _ (hc.ev x hx)
    generalize he : a.eval x = v at hxv
    cases hxv with
    | c _ _ hp =>
      cases hp with
      | sl _ _ A _ c us _ g1 g2 g3 g4 hul hcl g5 g6 =>
        have hinfo : ∃ i, P.underlying t = some (.slice e) ∧ P.info? e = some i ∧ i.size = sz := by
          unfold slcT at hs
          split at hs
          · rename_i e' hu
            split at hs
            · rename_i i hi
              simp only [Option.some.injEq, Prod.mk.injEq] at hs
              obtain ⟨rfl, rfl, rfl⟩ := hs
              exact ⟨i, hu, hi, rfl⟩
            · cases hs
          · cases hs
        obtain ⟨i, hu, hi', hsz⟩ := hinfo
        have hsize : (sizeOf e).run P w = .ok sz w := run_szT (by simp [szT, hi', hsz]) w
        have bv : ∀ {op : Option Operand} {dflt : Nat} {q : Int} (hok : op.toList.all okConst = true) (hq : bnd σ.ev dflt op = some q), (op = none ∧ q = dflt) ∨ ∃ x k, op = some x ∧ a.eval x = .int k q := fun {op dflt q} hok hq => by
          cases op with
          | none => simp [bnd] at hq; exact .inl ⟨rfl, hq.symm⟩
          | some x =>
            unfold bnd at hq
            simp only at hq
            split at hq
            · rename_i k m' hev
              cases hq
              have := hc.ev x (by simpa using hok)
              rw [hev] at this
              exact .inr ⟨x, k, rfl, this.v_inv.1⟩
            · cases hq
        obtain ⟨b1, b2, b3, b4⟩ := hb
        -- the bounds as the model reckons them
        have hbounds : ∃ M, (Instr.sliceBounds true n c (lo.map a.eval) (hi.map a.eval) (mx.map a.eval)).run P w = .ok (l.toNat, h.toNat, M) w ∧ h.toNat ≤ M ∧ M ≤ c ∧ (mx.isSome = true → M = m.toNat) ∧ (mx.isSome = false → M = c) := by
          rcases bv hmx hm with ⟨rfl, rfl⟩ | ⟨xm, km, rfl, em⟩
          · refine ⟨c, ?_, by omega, Nat.le_refl _, (fun h => by cases h), fun _ => rfl⟩
            rcases bv hhi hh with ⟨rfl, rfl⟩ | ⟨xh, kh, rfl, eh⟩
            · rcases bv hlo hl with ⟨rfl, rfl⟩ | ⟨xl, kl, rfl, el⟩
              · simp [Instr.sliceBounds]
              · simp [Instr.sliceBounds, el, run_sliceBound (P := P) (m := l) (y := n) ⟨b1, by omega⟩]
            · have hbh := fun code => run_sliceBound (P := P) (k := kh) (m := h) (y := c) (code := code) ⟨by omega, by omega⟩ w
              rcases bv hlo hl with ⟨rfl, rfl⟩ | ⟨xl, kl, rfl, el⟩
              · simp [Instr.sliceBounds, eh, hbh]
              · simp [Instr.sliceBounds, eh, el, hbh, run_sliceBound (P := P) (m := l) (y := h.toNat) ⟨b1, by omega⟩]
          · obtain ⟨c1, c2⟩ := b4 rfl
            refine ⟨m.toNat, ?_, by omega, by omega, fun _ => rfl, fun h => by cases h⟩
            have hbm := fun code => run_sliceBound (P := P) (k := km) (m := m) (y := c) (code := code) ⟨by omega, by omega⟩ w
            rcases bv hhi hh with ⟨rfl, rfl⟩ | ⟨xh, kh, rfl, eh⟩
            · have := hmi rfl; cases this
            · have hbh := fun code => run_sliceBound (P := P) (k := kh) (m := h) (y := m.toNat) (code := code) ⟨by omega, by omega⟩ w
              rcases bv hlo hl with ⟨rfl, rfl⟩ | ⟨xl, kl, rfl, el⟩
              · simp [Instr.sliceBounds, em, eh, hbm, hbh]
              · simp [Instr.sliceBounds, em, eh, el, hbm, hbh, run_sliceBound (P := P) (m := l) (y := h.toNat) ⟨b1, by omega⟩]
        obtain ⟨M, hrunb, hM1, hM2, hM3, hM4⟩ := hbounds
        have hrun : (execOp a.eval o).run P w = .ok (.value (.slice (if M = l.toNat then A else A.map (·.add (l.toNat * sz))) (h.toNat - l.toNat) (M - l.toNat))) w := by
          simp only [execOp, ho, he, Instr.sliceAt, Sem.run_bind, run_underlying hu, Result.andThen_ok, Instr.slice, hrunb, hsize, Sem.run_pure]
        refine ⟨_, hrun, .c _ _ (.sl _ sz _ _ _ ((us.drop (l.toNat * sz)).take ((h.toNat - l.toNat) * sz)) _ (by omega) (by omega) (fun hA => ?_) (fun hex => ?_) (by simp [hul]) ?_ (fun hne => ?_) fun j u y hu' hy => ?_)⟩
        · by_cases hMl : M = l.toNat
          · omega
          · rw [if_neg hMl] at hA
            cases A with
            | none => have := g3 rfl; omega
            | some ad => cases hA
        · cases mx with
          | none => simp [tightB] at hex
          | some xm =>
            simp [tightB] at hex
            have := hM3 rfl
            omega
        · have : (h.toNat - l.toNat) * sz ≤ cs.length - l.toNat * sz := by
            rw [hcl, ← Nat.sub_mul]; exact Nat.mul_le_mul_right _ (by omega)
          rw [List.length_take, List.length_drop]; omega
        · have hne' : us ≠ [] := by intro e; subst e; simp at hne
          obtain ⟨b, off, rfl, hS, hcell⟩ := g5 hne'
          have hhl : ¬ h.toNat - l.toNat = 0 := by intro e; rw [e] at hne; simp at hne
          rw [if_neg (by omega)]
          refine ⟨b, off + l.toNat * sz, by simp [add_none], hS, fun j u hu' => ?_⟩
          rw [List.getElem?_take] at hu'
          split at hu'
          · rw [List.getElem?_drop] at hu'; rw [Nat.add_assoc]; exact hcell _ u hu'
          · cases hu'
        · rw [List.getElem?_take] at hu' hy
          split at hu'
          · rename_i hj
            rw [if_pos hj] at hy
            rw [List.getElem?_drop] at hu' hy; exact g6 _ u y hu' hy
          · cases hu'
theorem opA_min2 {ts : Array TypeId} {x y : Operand} {k k' : IntKind} {m n : Int} (ho : o.op = .call { callee := .builtin .min, args := #[x, y], argTypes := ts }) (hx : okConst x = true) (hy : okConst y = true) (h1 : σ.ev x = .c (.v (.int k m))) (h2 : σ.ev y = .c (.v (.int k' n))) (hK : K (σ.put o.dst (.c (.v (.int k (if n < m then n else m)))))) : OpA P o σ K :=
  opA_val _ hK fun E ι a w h => by
    have hxv := h.ev x hx
    rw [h1] at hxv
    have hyv := h.ev y hy
    rw [h2] at hyv
    obtain ⟨e1, _⟩ := hxv.v_inv
    obtain ⟨e2, _⟩ := hyv.v_inv
    refine ⟨.int k (if n < m then n else m), ?_, rv_const _ rfl⟩
    simp [execOp, ho, resolve, invoke, builtin, e1, e2, Builtin.min_, Builtin.min2]
end
end Go.Proofs.Ytiggambibcohcaa
