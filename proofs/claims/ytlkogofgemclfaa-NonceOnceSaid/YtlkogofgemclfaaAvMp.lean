/-
  Maps of the call's own, whose keys are numbers: made, written, read. An operation that writes into a map asks that it was made behind the call's beginning; so the codes are reckoned where the beginning is known. No program in sight.
-/
import Derived.Test.YtlkogofgemclfaaAvL
import Derived.Test.YtlkogofgemclfaaAvQb
import Derived.MapKept
import Derived.WideKeyMaps
namespace Go.Proofs.Ytlkogofgemclfaa
open Go.RowKit Go.MapKept
set_option linter.unusedSimpArgs false
set_option linter.unusedVariables false
mutual
def PV.hasMp : PV → Bool
  | .v _ => false
  | .sl _ _ _ cs => PV.hasMpL cs
  | .mp _ _ => true
def PV.hasMpL : List PV → Bool
  | [] => false
  | x :: l => PV.hasMp x || PV.hasMpL l
end
theorem hasMpL_get : ∀ {l : List PV}, PV.hasMpL l = false → ∀ (j : Nat) (x : PV), l[j]? = some x → PV.hasMp x = false
  | [], _, j, x, hx => by simp at hx
  | y :: l, h, j, x, hx => by
    unfold PV.hasMpL at h
    rw [Bool.or_eq_false_iff] at h
    cases j with
    | zero => simp at hx; subst hx; exact h.1
    | succ j => exact hasMpL_get h.2 j x (by simpa using hx)
theorem hasMpL_app (l r : List PV) : PV.hasMpL (l ++ r) = (PV.hasMpL l || PV.hasMpL r) := by
  induction l with
  | nil => simp [PV.hasMpL]
  | cons x l ih => simp [PV.hasMpL, ih, Bool.or_assoc]
theorem hasMpL_flat {α : Type} (f : α → List PV) (h : ∀ x, PV.hasMpL (f x) = false) (l : List α) : PV.hasMpL (l.flatMap f) = false := by
  induction l with
  | nil => rfl
  | cons x l ih => rw [List.flatMap_cons, hasMpL_app, h, ih]; rfl
mutual
def AV.hasMp : AV → Bool
  | .any => false
  | .c p => PV.hasMp p
  | .agg cs => AV.hasMpA cs
  | .tup cs => AV.hasMpA cs
  | .ptr _ _ => false
  | .row _ _ _ _ => false
  | .cut _ _ _ _ _ _ _ => false
  | .ep cs => PV.hasMpL cs
  | .fn _ cs => AV.hasMpA cs
def AV.hasMpA : List AV → Bool
  | [] => false
  | x :: l => AV.hasMp x || AV.hasMpA l
end
theorem hasMpA_get : ∀ {l : List AV}, AV.hasMpA l = false → ∀ (j : Nat) (x : AV), l[j]? = some x → AV.hasMp x = false
  | [], _, j, x, hx => by simp at hx
  | y :: l, h, j, x, hx => by
    unfold AV.hasMpA at h
    rw [Bool.or_eq_false_iff] at h
    cases j with
    | zero => simp at hx; subst hx; exact h.1
    | succ j => exact hasMpA_get h.2 j x (by simpa using hx)
theorem hasMpA_map (l : List PV) : AV.hasMpA (l.map .c) = PV.hasMpL l := by
  induction l with
  | nil => rfl
  | cons x l ih => simp [AV.hasMpA, AV.hasMp, PV.hasMpL, ih]
def hasMpH (H : List (Nat × List AV)) : Bool :=
  match H with
  | [] => false
  | (_, cs) :: H => AV.hasMpA cs || hasMpH H
theorem hasMpH_get : ∀ {H : List (Nat × List AV)}, hasMpH H = false → ∀ (r : Nat) (cs : List AV), hget H r = some cs → AV.hasMpA cs = false
  | [], _, r, cs, h => by cases h
  | (k, ds) :: H, hm, r, cs, h => by
    unfold hasMpH at hm
    rw [Bool.or_eq_false_iff] at hm
    unfold hget at h
    split at h
    · cases h; exact hm.1
    · exact hasMpH_get hm.2 r cs h
section
variable {S S' : Nat → Prop} {ι : Nat → Nat × Nat × Nat} {w w' : World}
/-- a value in which no map lies is one of another world, if the blocks of cells are as they were -/
theorem RVp.nmono (hS : ∀ b cur e z, S b → w.heap[b]? = some (Obj.cells cur e z) → S' b ∧ w'.heap[b]? = w.heap[b]?) {v : Value} {p : PV} (h : RVp S w v p) : PV.hasMp p = false → RVp S' w' v p := by
  induction h with
  | v x h => exact fun _ => .v x h
  | sl ex sz A n c us cs h1 h2 h3 hx hl hn h4 _ ih =>
    intro hm
    refine .sl ex sz A n c us cs h1 h2 h3 hx hl hn (fun hne => ?_) fun j u x hu hx' => ih j u x hu hx' (hasMpL_get (by unfold PV.hasMp at hm; exact hm) j x hx')
    obtain ⟨b, o, hA, hb, hc⟩ := h4 hne
    obtain ⟨u, rest, hu⟩ := List.exists_cons_of_ne_nil hne
    obtain ⟨cur, e, z, hh0⟩ := cells_of_cell (hc 0 u (by rw [hu]; rfl))
    obtain ⟨hS', hh⟩ := hS b cur e z hb hh0
    exact ⟨b, o, hA, hS', fun j u hu => (World.cell?_of_block (w := w) (a := ⟨b, o + j, none⟩) hh).trans (hc j u hu)⟩
  | mp => intro hm; cases hm
theorem RV.nmono (hS : ∀ b cur e z, S b → w.heap[b]? = some (Obj.cells cur e z) → S' b ∧ w'.heap[b]? = w.heap[b]?) {v : Value} {x : AV} (h : RV S ι w v x) : AV.hasMp x = false → RV S' ι w' v x := by
  induction h with
  | any x => exact fun _ => .any x
  | c x p h => exact fun hm => .c x p (h.nmono hS (by unfold AV.hasMp at hm; exact hm))
  | agg us cs hl h1 _ ih => exact fun hm => .agg us cs hl h1 fun j u x hu hx => ih j u x hu hx (hasMpA_get (by unfold AV.hasMp at hm; exact hm) j x hx)
  | tup us cs hl _ ih => exact fun hm => .tup us cs hl fun j u x hu hx => ih j u x hu hx (hasMpA_get (by unfold AV.hasMp at hm; exact hm) j x hx)
  | ptr r off => exact fun _ => .ptr r off
  | row r e sz n c h1 h2 h3 h4 h0 => exact fun _ => .row r e sz n c h1 h2 h3 h4 h0
  | rnil A r e sz h => exact fun _ => .rnil A r e sz h
  | cut r e sz lo n c ex h1 h2 h3 hx h4 h0 => exact fun _ => .cut r e sz lo n c ex h1 h2 h3 hx h4 h0
  | cnil A r e sz lo ex h => exact fun _ => .cnil A r e sz lo ex h
  | ep b o us cs hl hne hb h4 h5 =>
    intro hm
    obtain ⟨u0, rest, hu0⟩ := List.exists_cons_of_ne_nil hne
    obtain ⟨cur, e, z, hh0⟩ := cells_of_cell (h4 0 u0 (by rw [hu0]; rfl))
    obtain ⟨hS', hh⟩ := hS b cur e z hb hh0
    exact .ep b o _ cs hl hne hS' (fun j u hu => (World.cell?_of_block (w := w) (a := ⟨b, o + j, none⟩) hh).trans (h4 j u hu)) (fun j u x hu hx => (h5 j u x hu hx).nmono hS (hasMpL_get (by unfold AV.hasMp at hm; exact hm) j x hx))
  | fn f us cs hl _ ih => exact fun hm => .fn f us cs hl fun j u x hu hx => ih j u x hu hx (hasMpA_get (by unfold AV.hasMp at hm; exact hm) j x hx)
end
/-- what is known of a value once a map was written -/
def AV.mpU (b : Nat) (es : List (Value × Value)) (x : AV) : AV :=
  match x with
  | .c (.mp b0 _) => if b0 = b then .c (.mp b es) else .any
  | x => if AV.hasMp x then .any else x
theorem mpU_any (b : Nat) (es : List (Value × Value)) : AV.mpU b es .any = .any := rfl
theorem mpU_no {b : Nat} {es : List (Value × Value)} {x : AV} (h : AV.hasMp x = false) : AV.mpU b es x = x := by
  unfold AV.mpU
  split
  · cases h
  · rw [h]; rfl
theorem mpU_mp (b : Nat) (es es' : List (Value × Value)) : AV.mpU b es (.c (.mp b es')) = .c (.mp b es) := by
  show (if b = b then AV.c (.mp b es) else .any) = _
  rw [if_pos rfl]
section
variable {E : Env} {ι : Nat → Nat × Nat × Nat} {σ : St} {a : Act} {w : World} {b clk clk' : Nat} {X X' : Array MapEntry}
theorem put_ne (hb : w.heap[b]? = some (.map X clk)) (o' : Obj) {b' : Nat} {o : Obj} (h : w.heap[b']? = some o) (hn : ∀ Y c, o ≠ .map Y c) : (w.putObj b o').heap[b']? = w.heap[b']? :=
  World.putObj_heap_other fun e => by subst e; rw [hb] at h; cases h; exact hn _ _ rfl
theorem RV.mpU {S : Nat → Prop} {v : Value} {x : AV} (h : RV S ι w v x) (hb : w.heap[b]? = some (.map X clk)) : RV S ι (w.putObj b (.map X' clk')) v (x.mpU b (X'.toList.map fun e => (e.key, e.val))) := by
  have hlt := (Array.getElem?_eq_some_iff.1 hb).1
  unfold AV.mpU
  split
  · rename_i b0 es0
    split
    · rename_i e
      subst e
      cases h with
      | c _ _ hp => cases hp with
        | mp _ _ Y c hS hh he => exact .c _ _ (.mp _ _ X' clk' hS (World.putObj_heap_same hlt) rfl)
    · exact .any _
  · split
    · exact .any _
    · rename_i hm
      exact h.nmono (fun b' cur e z hS hh => ⟨hS, put_ne hb _ hh fun _ _ h => by cases h⟩) (by simpa using hm)
/-- a map of the call's own is written -/
theorem Conc.remap (h : Conc E ι σ a w) (hb : w.heap[b]? = some (.map X clk)) (hE : E.w.heap.size ≤ b) (hH : hasMpH σ.H = false) : Conc E ι ⟨σ.T.map (AV.mpU b (X'.toList.map fun e => (e.key, e.val))), σ.H⟩ a (w.putObj b (.map X' clk')) := by
  have hlt := (Array.getElem?_eq_some_iff.1 hb).1
  refine ⟨?_, by rw [List.length_map]; exact h.size, fun i => ?_, ⟨fun r cs hr => ?_, h.heap.inj⟩, ⟨h.keep.os, h.keep.tape, h.keep.output, by simpa using h.keep.size, fun b' hb' hbD => ?_, h.keep.mine⟩⟩
  · obtain ⟨Ds, h1, h2, h3⟩ := h.defers
    refine ⟨Ds, h1, h2, fun D hD => ?_⟩
    obtain ⟨g1, g2, g3⟩ := h3 D hD
    exact ⟨g1, g2, (put_ne hb _ g3 fun _ _ h => by cases h).trans g3⟩
  · have e : (σ.T.map (AV.mpU b (X'.toList.map fun e => (e.key, e.val)))).getD i .any = (σ.T.getD i .any).mpU b (X'.toList.map fun e => (e.key, e.val)) := by
      rw [List.getD_eq_getElem?_getD, List.getD_eq_getElem?_getD, List.getElem?_map]
      cases σ.T[i]? <;> rfl
    rw [e]
    exact (h.tmp i).mpU hb
  · rcases h.heap.blk r cs hr with h0 | ⟨cur, hh, hs, hlen, hc, hone1⟩
    · exact .inl h0
    · have hm := hasMpH_get hH r cs hr
      exact .inr ⟨cur, (put_ne hb _ hh fun _ _ h => by cases h).trans hh, hs, hlen, fun j u x hu hx => ⟨(hc j u x hu hx).1.nmono (fun b' cur e z hS hh => ⟨hS, put_ne hb _ hh fun _ _ h => by cases h⟩) (hasMpA_get hm j x hx), (hc j u x hu hx).2⟩, hone1⟩
  · rw [World.putObj_heap_other (by omega)]; exact h.keep.block b' hb' hbD
end

/-! maps from numbers, by lists -/
section
variable {V : Type}
def im (f : V → Value) (m : List (Int × V)) : List (Value × Value) := m.map fun p => (Value.int .u64 p.1, f p.2)
def mfind (k : Int) : List (Int × V) → Nat → Option (Nat × V)
  | [], _ => none
  | p :: m, i => if k = p.1 then some (i, p.2) else mfind k m (i + 1)
/-- what a map has of a key -/
def mget (z : V) (m : List (Int × V)) (k : Int) : V := match mfind k m 0 with | some (_, v) => v | none => z
/-- a map in which a key has something -/
def mput (m : List (Int × V)) (k : Int) (v : V) : List (Int × V) :=
  match m with
  | [] => [(k, v)]
  | p :: m => if k = p.1 then (k, v) :: m else p :: mput m k v
theorem mfind_add (k : Int) : ∀ (m : List (Int × V)) (i : Nat), mfind k m i = (mfind k m 0).map fun p => (p.1 + i, p.2)
  | [], _ => rfl
  | p :: m, i => by
    unfold mfind
    split
    · simp
    · rw [mfind_add k m (i + 1), mfind_add k m (0 + 1), Option.map_map]
      congr 1
      funext q
      simp; omega
theorem mget_nil (z : V) (k : Int) : mget z [] k = z := rfl
theorem mget_cons (z : V) (p : Int × V) (m : List (Int × V)) (k : Int) : mget z (p :: m) k = if k = p.1 then p.2 else mget z m k := by
  have e : mfind k (p :: m) 0 = if k = p.1 then some (0, p.2) else mfind k m (0 + 1) := rfl
  unfold mget
  rw [e]
  by_cases h : k = p.1
  · rw [if_pos h, if_pos h]
  · rw [if_neg h, if_neg h, mfind_add k m (0 + 1)]
    cases mfind k m 0 <;> rfl
theorem mget_put (z : V) (k : Int) (v : V) (q : Int) : ∀ m : List (Int × V), mget z (mput m k v) q = if q = k then v else mget z m q
  | [] => by
    unfold mput
    rw [mget_cons, mget_nil]
  | p :: m => by
    unfold mput
    split
    · rename_i h
      rw [mget_cons, mget_cons, ← h]
      split <;> rfl
    · rename_i h
      rw [mget_cons, mget_put z k v q m, mget_cons]
      by_cases h1 : q = p.1
      · rw [if_pos h1, if_pos h1, if_neg (by omega)]
      · rw [if_neg h1, if_neg h1]
theorem mput_none {k : Int} {v : V} : ∀ {m : List (Int × V)}, mfind k m 0 = none → mput m k v = m ++ [(k, v)]
  | [], _ => rfl
  | p :: m, h => by
    unfold mfind at h
    split at h
    · cases h
    · rename_i hk
      rw [mfind_add] at h
      unfold mput
      rw [if_neg hk, mput_none (by simpa using h)]; rfl
theorem mput_some {k : Int} {v u : V} : ∀ {m : List (Int × V)} {j : Nat}, mfind k m 0 = some (j, u) → j < m.length ∧ (m[j]?).map (·.1) = some k ∧ mput m k v = m.set j (k, v)
  | [], _, h => by cases h
  | p :: m, j, h => by
    unfold mfind at h
    unfold mput
    split at h
    · rename_i hk
      cases h
      rw [if_pos hk]
      exact ⟨by simp, by simp [hk], rfl⟩
    · rename_i hk
      rw [mfind_add] at h
      obtain ⟨⟨j', u'⟩, h1, h2⟩ := Option.map_eq_some_iff.1 h
      cases h2
      obtain ⟨g1, g2, g3⟩ := mput_some (v := v) h1
      rw [if_neg hk, g3]
      exact ⟨by simp; omega, by simpa using g2, by simp⟩
theorem findNow_im (f : V → Value) (k : Int) : ∀ (l : List MapEntry) (m : List (Int × V)) (i : Nat), l.map (fun e => (e.key, e.val)) = im f m → Instr.findNow (.int .u64) (.int .u64 k) l i = some ((mfind k m i).map fun p => (p.1, f p.2))
  | [], [], i, _ => rfl
  | [], p :: m, i, h => by cases h
  | e :: l, [], i, h => by cases h
  | e :: l, p :: m, i, h => by
    simp only [im, List.map_cons, List.cons.injEq, Prod.mk.injEq] at h
    obtain ⟨⟨h1, h2⟩, h3⟩ := h
    have ih := findNow_im f k l m (i + 1) h3
    unfold Instr.findNow mfind
    rw [h1]
    unfold Instr.sameNow
    by_cases hk : k = p.1
    · have : (k == p.1) = true := by simpa using hk
      simp [this, hk, h2]
    · have : (k == p.1) = false := by simpa using hk
      simp [this, hk, ih]
theorem keys_im {f : V → Value} {l : List MapEntry} {m : List (Int × V)} (h : l.map (fun e => (e.key, e.val)) = im f m) : ∀ e ∈ l, ∃ i, e.key = .int .u64 i := fun e he => by
  have h1 : (e.key, e.val) ∈ im f m := by rw [← h]; exact List.mem_map.2 ⟨e, he, rfl⟩
  obtain ⟨p, _, hp⟩ := List.mem_map.1 h1
  simp only [Prod.mk.injEq] at hp
  exact ⟨p.1, hp.1.symm⟩
end
section
variable {P : Program} {o : Oper} {σ : St} {K : St → Prop} {V : Type}
theorem run_zeroV {t : TypeId} {z : Value} (h : (P.info? t).bind (·.zero) = some z) (w : World) : (zeroValue t).run P w = .ok z w := by
  cases hi : P.info? t with
  | none => simp [hi] at h
  | some i =>
    cases hz : i.zero with
    | none => simp [hi, hz] at h
    | some v => simp [hi, hz] at h; subst h; simp [zeroValue, typeInfo, hi, hz]
theorem isKey_u64 (k : Int) : IsKey (.int .u64) (.int .u64 k) := by simp [IsKey]
/-- a map is read -/
theorem opA_lookup (f : V → Value) (z : V) (m : List (Int × V)) {t kt et : TypeId} {x ix : Operand} {b : Nat} {k : Int} (ho : o.op = .lookup t x ix false) (hx : okConst x = true) (hi : okConst ix = true) (hm : P.underlying t = some (.map kt et)) (hkt : P.underlying kt = some (.int .u64))
    (hz : ∀ w, (zeroValue et).run P w = .ok (f z) w) (h1 : σ.ev x = .c (.mp b (im f m))) (h2 : σ.ev ix = .c (.v (.int .u64 k))) (hf : ∀ v, (f v).oneCell' = true) (hK : K (σ.put o.dst (.c (.v (f (mget z m k)))))) : OpA P o σ K := by
  refine opA_val _ hK fun E ι a w h => ?_
  have hxv := h.ev x hx
  rw [h1] at hxv
  have hiv := h.ev ix hi
  rw [h2] at hiv
  obtain ⟨ei, _⟩ := hiv.v_inv
  generalize he : a.eval x = v at hxv
  cases hxv with
  | c _ _ hp =>
    cases hp with
    | mp _ _ X clk hS hh hE =>
      refine ⟨f (mget z m k), ?_, .c _ _ (.v _ (hf _))⟩
      have hfn := findNow_im f k X.toList m 0 hE
      unfold mget
      unfold execOp
      simp only [ho, he, ei]
      cases hr : mfind k m 0 with
      | none =>
        rw [hr] at hfn
        simp [Instr.lookup, run_underlying hm, MapKept.run_getObj_map hh, MapKept.run_checkKey hkt (isKey_u64 k), MapKept.run_findKey hkt hfn, Result.andThen, hz]
      | some p =>
        rw [hr] at hfn
        simp [Instr.lookup, run_underlying hm, MapKept.run_getObj_map hh, MapKept.run_checkKey hkt (isKey_u64 k), MapKept.run_findKey hkt hfn, Result.andThen]
/-- a map is made -/
theorem opE_makeMap {E0 : Env} {t : TypeId} (ho : o.op = .makeMap t none) (hK : ∀ b, E0.w.heap.size ≤ b → K (σ.put o.dst (.c (.mp b [])))) : OpE (fun E => E = E0) P o σ K := by
  intro E ι a w hE hc K' Q hK'
  subst hE
  have hS : Sx E ι σ.H w.heap.size := by
    refine ⟨.inr (.inl hc.keep.size), fun r cs hr hz e => ?_⟩
    rcases hc.heap.blk r cs hr with ⟨h0, _⟩ | ⟨cur, hh, _⟩
    · exact hz h0
    · have := (Array.getElem?_eq_some_iff.1 hh).1
      omega
  have hc1 := hc.alloc (.map #[] 0)
  have hnew : (w.alloc (.map #[] 0)).heap[w.heap.size]? = some (.map #[] 0) := World.alloc_heap_new w _
  have hr : (execOp a.eval o).run P w = .ok (.value (.map (some w.heap.size))) (w.alloc (.map #[] 0)) := by
    unfold execOp
    simp only [ho]
    rfl
  have h2 := hK' ι _ _ _ (hK w.heap.size hc.keep.size) (hc1.put o.dst (.c _ _ (.mp w.heap.size [] #[] 0 hS hnew rfl)))
  refine wpIn_of_wp (by unfold opNd; rw [ho]) ?_
  unfold Oper.wp
  rw [hr]
  exact h2
/-- an operation, where something is known of what the call began with (in frames that defer nothing) -/
def OpW (p : Env → Prop) (P : Program) (o : Oper) (σ : St) (K : St → Prop) : Prop :=
  ∀ (E : Env) (ι : Nat → Nat × Nat × Nat) (a : Act) (w : World), p E → Conc E ι σ a w → ∀ (K' : Act → World → Prop) (Q : Exit → Act → World → Prop), (∀ ι' σ' a' w', K σ' → Conc E ι' σ' a' w' → K' a' w') → o.wp P a w K' Q
theorem OpA.toW {p : Env → Prop} (h : OpA P o σ K) : OpW p P o σ K := fun E ι a w _ hc => h E ι a w hc
/-- a map is written -/
theorem opW_mapUpdateC {E0 : Env} (f : V → Value) (m : List (Int × V)) {t kt et : TypeId} {x ix vx : Operand} {b : Nat} {k : Int} {v : V} (ho : o.op = .mapUpdate t x ix vx) (hd : o.dst = none) (hi : okConst ix = true) (hvx : okConst vx = true) (hm : P.underlying t = some (.map kt et)) (hkt : P.underlying kt = some (.int .u64))
    (h1 : ∀ E ι a w, Conc E ι σ a w → a.eval x = .map (some b) ∧ ∃ X clk, w.heap[b]? = some (.map X clk) ∧ X.toList.map (fun e => (e.key, e.val)) = im f m) (h2 : σ.ev ix = .c (.v (.int .u64 k))) (h3 : σ.ev vx = .c (.v (f v))) (hb : E0.w.heap.size ≤ b) (hH : hasMpH σ.H = false) (hK : K ⟨σ.T.map (AV.mpU b (im f (mput m k v))), σ.H⟩) : OpW (fun E => E = E0) P o σ K := by
  intro E ι a w hE hc K' Q hK'
  subst hE
  have hiv := hc.ev ix hi
  rw [h2] at hiv
  obtain ⟨ei, _⟩ := hiv.v_inv
  have hvv := hc.ev vx hvx
  rw [h3] at hvv
  obtain ⟨ev, _⟩ := hvv.v_inv
  obtain ⟨he, X, clk, hh, hE⟩ := h1 E ι a w hc
  have hfn := findNow_im f k X.toList m 0 hE
  obtain ⟨X', clk', hrun, hX'⟩ : ∃ X' clk', (execOp a.eval o).run P w = .ok .skip (w.putObj b (.map X' clk')) ∧ X'.toList.map (fun e => (e.key, e.val)) = im f (mput m k v) := by
    cases hr : mfind k m 0 with
    | none =>
      rw [hr] at hfn
      refine ⟨X.push { key := .int .u64 k, val := f v, born := clk }, clk + 1, ?_, ?_⟩
      · unfold execOp
        simp [ho, he, ei, ev, Instr.mapUpdate, run_underlying hm, MapKept.run_getObj_map hh, MapKept.run_checkKey hkt (isKey_u64 k), MapKept.run_findKey hkt hfn, MapKept.run_setObj_map _ hh, Result.andThen, World.putObj]
      · rw [mput_none hr, Array.toList_push, List.map_append, hE]
        simp [im]
    | some p =>
      obtain ⟨j, u⟩ := p
      rw [hr] at hfn
      obtain ⟨g1, g2, g3⟩ := mput_some (v := v) hr
      have hj : j < X.size := by
        have := congrArg List.length hE
        simp [im] at this
        omega
      have hkey : X[j].key = .int .u64 k := by
        have h4 : (X.toList.map fun e => (e.key, e.val))[j]? = (im f m)[j]? := by rw [hE]
        rw [List.getElem?_map] at h4
        unfold im at h4
        rw [List.getElem?_map] at h4
        obtain ⟨q, hq, hq1⟩ := Option.map_eq_some_iff.1 g2
        rw [hq] at h4
        simp [hj] at h4
        rw [h4.1, hq1]
      refine ⟨X.modify j fun e => { e with key := .int .u64 k, val := f v }, clk, ?_, ?_⟩
      · unfold execOp
        simp [ho, he, ei, ev, Instr.mapUpdate, run_underlying hm, MapKept.run_getObj_map hh, MapKept.run_checkKey hkt (isKey_u64 k), MapKept.run_findKey hkt hfn, hj, hkey, MapKept.run_keyThatStays (isKey_u64 k), MapKept.run_setObj_map _ hh, Result.andThen, World.putObj]
      · rw [g3]
        have h5 : im f (m.set j (k, v)) = (im f m).set j (.int .u64 k, f v) := by unfold im; rw [List.map_set]
        rw [h5, ← hE]
        refine List.ext_getElem? fun i => ?_
        rw [List.getElem?_map, List.getElem?_set, List.getElem?_map, Array.getElem?_toList, Array.getElem?_toList]
        by_cases hij : j = i
        · subst hij
          rw [if_pos rfl]
          simp [hj, Array.getElem?_modify, Array.getElem_modify]
        · rw [if_neg hij]
          simp [Array.getElem?_modify, hij]
  have h4 := hK' ι _ _ _ hK (hX' ▸ hc.remap (X' := X') (clk' := clk') hh hb hH)
  unfold Oper.wp
  rw [hrun]
  simpa [Oper.upon, hd, Act.put] using h4
theorem opW_mapUpdate {E0 : Env} (f : V → Value) (m : List (Int × V)) {t kt et : TypeId} {x ix vx : Operand} {b : Nat} {k : Int} {v : V} (ho : o.op = .mapUpdate t x ix vx) (hd : o.dst = none) (hx : okConst x = true) (hi : okConst ix = true) (hvx : okConst vx = true) (hm : P.underlying t = some (.map kt et)) (hkt : P.underlying kt = some (.int .u64))
    (h1 : σ.ev x = .c (.mp b (im f m))) (h2 : σ.ev ix = .c (.v (.int .u64 k))) (h3 : σ.ev vx = .c (.v (f v))) (hb : E0.w.heap.size ≤ b) (hH : hasMpH σ.H = false) (hK : K ⟨σ.T.map (AV.mpU b (im f (mput m k v))), σ.H⟩) : OpW (fun E => E = E0) P o σ K :=
  opW_mapUpdateC f m ho hd hi hvx hm hkt (fun E ι a w hc => by
    have hxv := hc.ev x hx
    rw [h1] at hxv
    generalize a.eval x = y at hxv
    cases hxv with
    | c _ _ hp =>
      cases hp with
      | mp _ _ X clk hS hh hE => exact ⟨rfl, X, clk, hh, hE⟩) h2 h3 hb hH hK
/-- so, where an operand is known to be the map, and what is in it lies in another temporary -/
theorem opW_mapUpdateT {E0 : Env} (f : V → Value) (m : List (Int × V)) {t kt et : TypeId} {x ix vx : Operand} {b : Nat} {k : Int} {v : V} (d : Nat) (ho : o.op = .mapUpdate t x ix vx) (hd : o.dst = none) (hx : okConst x = true) (hi : okConst ix = true) (hvx : okConst vx = true) (hm : P.underlying t = some (.map kt et)) (hkt : P.underlying kt = some (.int .u64))
    (h0 : σ.T.getD d .any = .c (.mp b (im f m))) (h1 : σ.ev x = .c (.v (.map (some b)))) (h2 : σ.ev ix = .c (.v (.int .u64 k))) (h3 : σ.ev vx = .c (.v (f v))) (hb : E0.w.heap.size ≤ b) (hH : hasMpH σ.H = false) (hK : K ⟨σ.T.map (AV.mpU b (im f (mput m k v))), σ.H⟩) : OpW (fun E => E = E0) P o σ K :=
  opW_mapUpdateC f m ho hd hi hvx hm hkt (fun E ι a w hc => by
    have hxv := hc.ev x hx
    rw [h1] at hxv
    obtain ⟨ex, _⟩ := hxv.v_inv
    have hdv := hc.tmp d
    rw [h0] at hdv
    generalize a.tmps.getD d undef = y at hdv
    cases hdv with
    | c _ _ hp =>
      cases hp with
      | mp _ _ X clk hS hh hE => exact ⟨ex, X, clk, hh, hE⟩) h2 h3 hb hH hK
theorem opE_mapUpdate {E0 : Env} (f : V → Value) (m : List (Int × V)) {t kt et : TypeId} {x ix vx : Operand} {b : Nat} {k : Int} {v : V} (ho : o.op = .mapUpdate t x ix vx) (hd : o.dst = none) (hx : okConst x = true) (hi : okConst ix = true) (hvx : okConst vx = true) (hm : P.underlying t = some (.map kt et)) (hkt : P.underlying kt = some (.int .u64))
    (h1 : σ.ev x = .c (.mp b (im f m))) (h2 : σ.ev ix = .c (.v (.int .u64 k))) (h3 : σ.ev vx = .c (.v (f v))) (hb : E0.w.heap.size ≤ b) (hH : hasMpH σ.H = false) (hK : K ⟨σ.T.map (AV.mpU b (im f (mput m k v))), σ.H⟩) : OpE (fun E => E = E0) P o σ K :=
  fun E ι a w hE hc K' Q hK' => wpIn_of_wp (by unfold opNd; rw [ho]) (opW_mapUpdate f m ho hd hx hi hvx hm hkt h1 h2 h3 hb hH hK E ι a w hE hc K' Q hK')
/-- a map is read, in a region that draws its order -/
theorem opF_lookup (f : V → Value) (z : V) (m : List (Int × V)) {t kt et : TypeId} {x ix : Operand} {b : Nat} {k : Int} (ho : o.op = .lookup t x ix false) (hx : okConst x = true) (hi : okConst ix = true) (hm : P.underlying t = some (.map kt et)) (hkt : P.underlying kt = some (.int .u64))
    (hz : ∀ w, (zeroValue et).run P w = .ok (f z) w) (h1 : σ.ev x = .c (.mp b (im f m))) (h2 : σ.ev ix = .c (.v (.int .u64 k))) (hf : ∀ v, (f v).oneCell' = true) : OpF P o σ.ev (hget σ.H) (.c (.v (f (mget z m k)))) [] [] := fun τ hA _ => by
  have e1 : τ.ev x = σ.ev x := hA x (by rw [ho]; simp [Op.operands])
  have e2 : τ.ev ix = σ.ev ix := hA ix (by rw [ho]; simp [Op.operands])
  exact opA_lookup f z m ho hx hi hm hkt hz (by rw [e1]; exact h1) (by rw [e2]; exact h2) hf (by cases o.dst <;> rfl)
end
/-! sets, by lists: maps to bools whose keys are of many cells -/
theorem RV.vals {S : Nat → Prop} {ι : Nat → Nat × Nat × Nat} {w : World} {v : Value} {xs : List Value} (h : RV S ι w v (.agg (xs.map fun x => .c (.v x)))) : v = .agg xs.toArray := by
  cases h with
  | agg us _ hl _ hu =>
    have : us = xs := by
      refine List.ext_getElem? fun j => ?_
      rw [List.length_map] at hl
      rcases Nat.lt_or_ge j us.length with h | h
      · have h1 := hu j us[j] (.c (.v xs[j])) (List.getElem?_eq_getElem h) (by simp [show j < xs.length by omega])
        rw [List.getElem?_eq_getElem h, List.getElem?_eq_getElem (show j < xs.length by omega), h1.v_inv.1]
      · rw [List.getElem?_eq_none h, List.getElem?_eq_none (by omega)]
    rw [this]
def setM {κ : Type} (kf : κ → List Value) (ks : List κ) : List (Value × Value) := ks.map fun k => (Value.agg (kf k).toArray, .bool true)
def sput {κ : Type} [DecidableEq κ] (ks : List κ) (k : κ) : List κ := if k ∈ ks then ks else ks ++ [k]
theorem mem_sput {κ : Type} [DecidableEq κ] (ks : List κ) (k q : κ) : q ∈ sput ks k ↔ q = k ∨ q ∈ ks := by
  unfold sput
  split
  · rename_i h
    constructor
    · exact .inr
    · rintro (rfl | h2)
      · exact h
      · exact h2
  · simp [or_comm]
section
variable {P : Program} {o : Oper} {σ : St} {K : St → Prop} {κ : Type}
theorem set_find {kt : TypeId} (KL : WideMaps.KeyLaw P kt) (kf : κ → List Value) (hinj : ∀ a b, kf a = kf b → a = b) {ks : List κ} {k : κ} (hks : ∀ q ∈ ks, ∃ l, keyOf P kt (.agg (kf q).toArray) = some l) (hk : ∃ l, keyOf P kt (.agg (kf k).toArray) = some l)
    {X : Array MapEntry} (hE : X.toList.map (fun e => (e.key, e.val)) = setM kf ks) (w : World) :
    (k ∉ ks ∧ (Instr.findKey kt (.agg (kf k).toArray) X.toList).run P w = .ok none w) ∨ (k ∈ ks ∧ ∃ j e, (Instr.findKey kt (.agg (kf k).toArray) X.toList).run P w = .ok (some (j, .bool true)) w ∧ X[j]? = some e ∧ e.key = .agg (kf k).toArray ∧ e.val = .bool true) := by
  obtain ⟨lx, hlx⟩ := hk
  have mem : ∀ e ∈ X.toList, ∃ q ∈ ks, e.key = .agg (kf q).toArray ∧ e.val = .bool true := fun e he => by
    have h1 : (e.key, e.val) ∈ setM kf ks := by rw [← hE]; exact List.mem_map.2 ⟨e, he, rfl⟩
    obtain ⟨q, hq, hp⟩ := List.mem_map.1 h1
    simp only [Prod.mk.injEq] at hp
    exact ⟨q, hq, hp.1.symm, hp.2.symm⟩
  have keyEq : ∀ q, (Value.agg (kf q).toArray : Value) = .agg (kf k).toArray → q = k := fun q h => by
    refine hinj _ _ ?_
    have := congrArg (fun v : Value => match v with | .agg c => c.toList | _ => []) h
    simpa using this
  rcases KL.find w hlx X.toList (fun e he => by
    obtain ⟨q, hq, h1, _⟩ := mem e he
    rw [h1]; exact hks q hq) with ⟨h1, h2⟩ | ⟨j, e, h1, h2, h3⟩
  · refine .inl ⟨fun hm => ?_, h1⟩
    have h4 : ((Value.agg (kf k).toArray : Value), Value.bool true) ∈ X.toList.map (fun e => (e.key, e.val)) := by rw [hE]; exact List.mem_map.2 ⟨k, hm, rfl⟩
    obtain ⟨e, he, hp⟩ := List.mem_map.1 h4
    simp only [Prod.mk.injEq] at hp
    exact h2 e he hp.1
  · obtain ⟨q, hq, g1, g2⟩ := mem e (List.mem_of_getElem? h2)
    have hqk := keyEq q (by rw [← g1, h3])
    subst hqk
    rw [g2] at h1
    exact .inr ⟨hq, j, e, h1, by simpa using h2, h3, g2⟩
/-- a set is asked -/
theorem opA_lookupS [DecidableEq κ] {t kt et : TypeId} (KL : WideMaps.KeyLaw P kt) (kf : κ → List Value) (hinj : ∀ a b, kf a = kf b → a = b) {ks : List κ} {k : κ} {x ix : Operand} {b : Nat} (hks : ∀ q ∈ ks, ∃ l, keyOf P kt (.agg (kf q).toArray) = some l) (hk : ∃ l, keyOf P kt (.agg (kf k).toArray) = some l)
    (ho : o.op = .lookup t x ix false) (hx : okConst x = true) (hi : okConst ix = true) (hm : P.underlying t = some (.map kt et)) (hz : ∀ w, (zeroValue et).run P w = .ok (.bool false) w) (h1 : σ.ev x = .c (.mp b (setM kf ks))) (h2 : σ.ev ix = .agg ((kf k).map fun x => .c (.v x))) (hK : K (σ.put o.dst (.c (.v (.bool (decide (k ∈ ks))))))) : OpA P o σ K := by
  refine opA_val _ hK fun E ι a w h => ?_
  have hxv := h.ev x hx
  rw [h1] at hxv
  have hiv := h.ev ix hi
  rw [h2] at hiv
  have ei := hiv.vals
  generalize he : a.eval x = v at hxv
  cases hxv with
  | c _ _ hp =>
    cases hp with
    | mp _ _ X clk hS hh hE =>
      refine ⟨.bool (decide (k ∈ ks)), ?_, .c _ _ (.v _ rfl)⟩
      unfold execOp
      simp only [ho, he, ei]
      obtain ⟨lk, hlk⟩ := hk
      have hc := KL.check w X.isEmpty hlk
      rcases set_find KL kf hinj hks ⟨lk, hlk⟩ hE w with ⟨hn, hf⟩ | ⟨hy, j, e, hf, _⟩
      · simp [Instr.lookup, run_underlying hm, MapKept.run_getObj_map hh, hc, hf, Result.andThen, hz, hn]
      · simp [Instr.lookup, run_underlying hm, MapKept.run_getObj_map hh, hc, hf, Result.andThen, hy]
/-- something is laid into a set -/
theorem opE_setPut [DecidableEq κ] {E0 : Env} {t kt et : TypeId} (KL : WideMaps.KeyLaw P kt) (kf : κ → List Value) (hinj : ∀ a b, kf a = kf b → a = b) {ks : List κ} {k : κ} {x ix vx : Operand} {b : Nat} (hks : ∀ q ∈ ks, ∃ l, keyOf P kt (.agg (kf q).toArray) = some l) (hk : ∃ l, keyOf P kt (.agg (kf k).toArray) = some l)
    (ho : o.op = .mapUpdate t x ix vx) (hd : o.dst = none) (hx : okConst x = true) (hi : okConst ix = true) (hvx : okConst vx = true) (hm : P.underlying t = some (.map kt et)) (h1 : σ.ev x = .c (.mp b (setM kf ks))) (h2 : σ.ev ix = .agg ((kf k).map fun x => .c (.v x))) (h3 : σ.ev vx = .c (.v (.bool true))) (hb : E0.w.heap.size ≤ b) (hH : hasMpH σ.H = false) (hK : K ⟨σ.T.map (AV.mpU b (setM kf (sput ks k))), σ.H⟩) : OpE (fun E => E = E0) P o σ K := by
  intro E ι a w hEq hc K' Q hK'
  subst hEq
  have hxv := hc.ev x hx
  rw [h1] at hxv
  have hiv := hc.ev ix hi
  rw [h2] at hiv
  have ei := hiv.vals
  have hvv := hc.ev vx hvx
  rw [h3] at hvv
  obtain ⟨ev, _⟩ := hvv.v_inv
  generalize he : a.eval x = y at hxv
  cases hxv with
  | c _ _ hp =>
    cases hp with
    | mp _ _ X clk hS hh hE =>
      obtain ⟨lk, hlk⟩ := hk
      have hck := KL.check w false hlk
      obtain ⟨X', clk', hrun, hX'⟩ : ∃ X' clk', (execOp a.eval o).run P w = .ok .skip (w.putObj b (.map X' clk')) ∧ X'.toList.map (fun e => (e.key, e.val)) = setM kf (sput ks k) := by
        rcases set_find KL kf hinj hks ⟨lk, hlk⟩ hE w with ⟨hn, hf⟩ | ⟨hy, j, e, hf, hj, hkey, hval⟩
        · refine ⟨X.push { key := .agg (kf k).toArray, val := .bool true, born := clk }, clk + 1, ?_, ?_⟩
          · unfold execOp
            simp [ho, he, ei, ev, Instr.mapUpdate, run_underlying hm, MapKept.run_getObj_map hh, hck, hf, MapKept.run_setObj_map _ hh, Result.andThen, World.putObj]
          · unfold sput
            rw [if_neg hn, Array.toList_push, List.map_append, hE]
            simp [setM]
        · have hst := KL.stays w hlk
          have hjl := (Array.getElem?_eq_some_iff.1 hj).1
          have hjk : (X[j]?).map (·.key) = some (.agg (kf k).toArray) := by rw [hj]; exact congrArg some hkey
          refine ⟨X.modify j fun e => { e with key := .agg (kf k).toArray, val := .bool true }, clk, ?_, ?_⟩
          · unfold execOp
            have hjx : X[j] = e := (Array.getElem?_eq_some_iff.1 hj).2
            simp [ho, he, ei, ev, Instr.mapUpdate, run_underlying hm, MapKept.run_getObj_map hh, hck, hf, hjl, hjx, hkey, hst, MapKept.run_setObj_map _ hh, Result.andThen, World.putObj]
          · unfold sput
            rw [if_pos hy, ← hE]
            refine List.ext_getElem? fun i => ?_
            rw [List.getElem?_map, List.getElem?_map, Array.getElem?_toList, Array.getElem?_toList]
            by_cases hij : j = i
            · subst hij
              have hjx : X[j] = e := (Array.getElem?_eq_some_iff.1 hj).2
              simp [hjl, Array.getElem?_modify, Array.getElem_modify, hjx, hkey, hval]
            · simp [Array.getElem?_modify, hij]
      have h4 := hK' ι _ _ _ hK (hX' ▸ hc.remap (X' := X') (clk' := clk') hh hb hH)
      refine wpIn_of_wp (by unfold opNd; rw [ho]) ?_
      unfold Oper.wp
      rw [hrun]
      simpa [Oper.upon, hd, Act.put] using h4
end
section
variable {p : Env → Prop} {P : Program} {σ : St} {Φ : Exit → St → Prop}
theorem AWE.seqI {x y : Code} (h : ∀ Ψ : Exit → St → Prop, (∀ σ', AWE p P y σ' Φ → Ψ .normal σ') → (∀ ex σ', ex ≠ .normal → Φ ex σ' → Ψ ex σ') → AWE p P x σ Ψ) : AWE p P (.seq x y) σ Φ :=
  AWE.seq (h _ (fun _ h => h) fun ex σ' hne h' => by
    cases ex with
    | normal => exact absurd rfl hne
    | _ => exact h')
theorem AWE.seqIR {id : Nat} {ops : Array Oper} {d : Bool} {y : Code} (h : ∀ Ψ : Exit → St → Prop, (∀ σ', AWE p P y σ' Φ → Ψ .normal σ') → (∀ ex σ', ex ≠ .normal → Φ ex σ' → Ψ ex σ') → AWE p P (.region id ops d) σ Ψ) : AWE p P (.seq (.region id ops d) y) σ Φ := AWE.seqI h
theorem AWE.seqIC {c : Operand} {u v y : Code} (h : ∀ Ψ : Exit → St → Prop, (∀ σ', AWE p P y σ' Φ → Ψ .normal σ') → (∀ ex σ', ex ≠ .normal → Φ ex σ' → Ψ ex σ') → AWE p P (.cond c u v) σ Ψ) : AWE p P (.seq (.cond c u v) y) σ Φ := AWE.seqI h
theorem AWE.seqIS {id : Nat} {ops : Array Oper} {d : Bool} {c : Operand} {u v y : Code} (h : ∀ Ψ : Exit → St → Prop, (∀ σ', AWE p P y σ' Φ → Ψ .normal σ') → (∀ ex σ', ex ≠ .normal → Φ ex σ' → Ψ ex σ') → AWE p P (.seq (.region id ops d) (.cond c u v)) σ Ψ) : AWE p P (.seq (.seq (.region id ops d) (.cond c u v)) y) σ Φ := AWE.seqI h
theorem AWE.blockI {id : Nat} {x : Code} (h : ∀ Ψ : Exit → St → Prop, (∀ σ', Φ .normal σ' → Ψ (.exit id) σ') → (∀ ex σ', (∀ j, ex = .exit j → j ≠ id) → Φ ex σ' → Ψ ex σ') → AWE p P x σ Ψ) : AWE p P (.block id x) σ Φ :=
  AWE.block (h _ (fun σ' h' => by show (if id = id then _ else _); rw [if_pos rfl]; exact h') fun ex σ' hne h' => by
    cases ex with
    | exit j => show (if j = id then _ else _); rw [if_neg (hne j rfl)]; exact h'
    | _ => exact h')
theorem AWE.loopI {c : Code} {α : Type} (I : α → St) (μ : α → Nat) (x0 : α) (h0 : σ.to (I x0))
    (round : ∀ (x : α) (Ψ : Exit → St → Prop), (∀ σ' y, μ y < μ x → σ'.to (I y) → Ψ .normal σ') → (∀ ex σ', ex ≠ .normal → Φ ex σ' → Ψ ex σ') → AWE p P c (I x) Ψ) : AWE p P (.loop c) σ Φ :=
  AWE.loop I μ x0 h0 fun x => round x _ (fun σ' y h1 h2 => ⟨y, h1, h2⟩) fun ex σ' hne h' => by
    cases ex with
    | normal => exact absurd rfl hne
    | _ => exact h'
/-- a region of which one operation asks what is known -/
theorem AWE.regionI {id : Nat} {l : List Oper} (k : Nat) {o : Oper} (hk : l[k]? = some o) (n0 : l.all (fun x => opNd x) = true) (hg : o.guard = none)
    (h : ∀ R : St → Prop, (∀ σ1, (OpE p P o σ1 fun σ2 => ∀ R2 : St → Prop, (∀ σ', Φ .normal σ' → R2 σ') → evL P l.toArray (l.drop (k + 1)) σ2 R2) → R σ1) → evL P l.toArray (l.take k) σ R) : AWE p P (.region id l.toArray false) σ Φ :=
  AWE.region_at k hk n0 fun R hR => h R fun σ1 h1 => hR σ1 ⟨.inl hg, h1⟩
end
def isMapW (o : Oper) : Bool := match o.op with | .mapUpdate _ _ _ _ => true | .makeMap _ _ => true | _ => false
section
variable {p : Env → Prop} {P : Program} {σ : St} {Φ : Exit → St → Prop}
theorem AWE.regionM {id : Nat} {l : List Oper} {k : Nat} {o : Oper} (hf : l.findIdx? isMapW = some k) (hk : l[k]? = some o) (n0 : l.all (fun x => opNd x) = true) (hg : o.guard = none)
    (h : ∀ R : St → Prop, (∀ σ1, (OpE p P o σ1 fun σ2 => ∀ R2 : St → Prop, (∀ σ', Φ .normal σ' → R2 σ') → evL P l.toArray (l.drop (k + 1)) σ2 R2) → R σ1) → evL P l.toArray (l.take k) σ R) : AWE p P (.region id l.toArray false) σ Φ :=
  AWE.regionI k hk n0 hg h
theorem AWE.ofR {id : Nat} {ops : Array Oper} (h : evC P (.region id ops false) σ Φ) : AWE p P (.region id ops false) σ Φ := AWE.of h
theorem AWE.ofRD {id : Nat} {ops : Array Oper} (h : evC P (.region id ops true) σ Φ) : AWE p P (.region id ops true) σ Φ := AWE.of h
theorem AWE.ofSkip (h : Φ .normal σ) : AWE p P .skip σ Φ := AWE.of (evC_skip h)
theorem AWE.ofRet (h : Φ .ret σ) : AWE p P .ret σ Φ := AWE.of (evC_ret h)
theorem AWE.ofExit {id : Nat} (h : Φ (.exit id) σ) : AWE p P (.exit id) σ Φ := AWE.of (evC_exit h)
end
/-- A REGION THAT DRAWS ITS ORDER, by a state for each set of its operations that are done -/
theorem AWE.drawJ {p : Env → Prop} {P : Program} {id : Nat} {l : List Oper} {σ0 : St} {Φ : Exit → St → Prop} (hm : P.follows .mixedOrders = true) (hback : edgesBack l = true) (hgl : guardless l = true) (J : (Nat → Bool) → St) (h0 : σ0.to (J fun _ => false))
    (hE : ∀ (L : Nat → Bool) (i : Nat) (o : Oper), l[i]? = some o → L i = false → closedL l L → (∀ e ∈ o.after, Region.binds .any e = true → L e.on = true) → isMapW o = false → ∀ R : St → Prop, (∀ σ', σ'.to (J fun j => if j = i then true else L j) → R σ') → evL P #[] [o] (J L) R)
    (hW : ∀ (L : Nat → Bool) (i : Nat) (o : Oper), l[i]? = some o → L i = false → closedL l L → (∀ e ∈ o.after, Region.binds .any e = true → L e.on = true) → isMapW o = true → OpW p P o (J L) fun σ' => σ'.to (J fun j => if j = i then true else L j))
    (hΦ : ∀ L, (∀ j, j < l.length → L j = true) → Φ .normal (J L)) : AWE p P (.region id l.toArray true) σ0 Φ := by
  intro E ι a w hp hc
  refine wp_region_any hm ?_
  obtain ⟨ι0, hc0⟩ := h0 E ι a w hc
  have hd0 := hc0.drawn (w.drawn + 1)
  generalize ({ w with drawn := w.drawn + 1 } : World) = w0 at hd0
  have step : ∀ (L : Nat → Bool) (i : Nat) (o : Oper), l[i]? = some o → L i = false → closedL l L → (∀ e ∈ o.after, Region.binds .any e = true → L e.on = true) → OpW p P o (J L) fun σ' => σ'.to (J fun j => if j = i then true else L j) := fun L i o h1 h2 h3 h4 => by
    cases hk : isMapW o with
    | true => exact hW L i o h1 h2 h3 h4 hk
    | false =>
      have hg : o.guard = none := by
        have := List.all_eq_true.1 hgl o (List.mem_of_getElem? h1)
        simpa using this
      have := hE L i o h1 h2 h3 h4 hk _ fun _ h => h
      unfold evL at this
      rw [hg] at this
      exact OpA.toW this
  have hready : ∀ (listed : Array Bool) (i : Nat), listed.size = l.length → i ∈ Region.ready .any l.toArray listed → ∃ o, l[i]? = some o ∧ listed.getD i false = false ∧ ∀ e ∈ o.after, Region.binds .any e = true → listed.getD e.on false = true := fun listed i hsz hi => ready_of hsz hi
  have key : ∀ (fuel : Nat) (listed : Array Bool) (a : Act) (w : World) (ι : Nat → Nat × Nat × Nat), listed.size = l.length → closedL l (fun j => listed.getD j false) → cntL (fun j => listed.getD j false) l.length ≤ fuel →
      Conc E ι (J fun j => listed.getD j false) a w → wpAny P .any l.toArray (fun ex a' w' => ∃ ι' σ', Conc E ι' σ' a' w' ∧ Φ ex σ') fuel listed a w := by
    intro fuel
    induction fuel with
    | zero =>
      intro listed a w ι hsz hcl hcnt hc
      have hall := cntL_zero (L := fun j => listed.getD j false) l.length (by omega)
      refine ⟨?_, ι, _, hc, hΦ _ hall⟩
      refine List.eq_nil_iff_forall_not_mem.2 fun i hi => ?_
      obtain ⟨o, ho, hu, _⟩ := hready listed i hsz hi
      have : listed.getD i false = true := hall i (List.getElem?_eq_some_iff.1 ho).1
      rw [hu] at this; cases this
    | succ fuel ih =>
      intro listed a w ι hsz hcl hcnt hc
      refine ⟨fun hnil => ⟨ι, _, hc, hΦ _ fun j hj => ?_⟩, fun i hi => ?_⟩
      · refine Classical.byContradiction fun hn => ?_
        have key2 : ∀ m, (∃ j, j < m ∧ j < l.length ∧ listed.getD j false = false) → ∃ j, j < l.length ∧ listed.getD j false = false ∧ ∀ k, k < j → listed.getD k false = true := by
          intro m
          induction m with
          | zero => rintro ⟨j, hj, _⟩; omega
          | succ m ihm =>
            rintro ⟨j, hj, hjl, hju⟩
            by_cases hlow : ∃ k, k < m ∧ k < l.length ∧ listed.getD k false = false
            · exact ihm hlow
            · refine ⟨j, hjl, hju, fun k hk => Classical.byContradiction fun hku => hlow ⟨k, by omega, by omega, by simpa using hku⟩⟩
        obtain ⟨j, hjl, hju, hlow⟩ := key2 l.length ⟨j, hj, hj, by simpa using hn⟩
        have ho : l[j]? = some l[j] := List.getElem?_eq_getElem hjl
        have hb := List.all_eq_true.1 hback j (by simpa using hjl)
        simp only [ho, Array.all_eq_true_iff_forall_mem, Bool.or_eq_true, Bool.not_eq_true', decide_eq_true_eq] at hb
        have hmem : j ∈ Region.ready .any l.toArray listed := by
          unfold Region.ready
          rw [List.mem_filter]
          refine ⟨by simpa using hjl, ?_⟩
          simp only [Bool.and_eq_true, Bool.not_eq_true', List.getElem?_toArray, ho, Option.map_some, Option.getD_some, Array.all_eq_true_iff_forall_mem]
          refine ⟨?_, fun e he => ?_⟩
          · simp only [Array.getD, hsz, hjl, dif_pos] at hju ⊢
            exact hju
          · rcases hb e he with h | h
            · simp [h]
            · simp [hlow e.on h]
        rw [hnil] at hmem; cases hmem
      · obtain ⟨o, ho, hu, hpre⟩ := hready listed i hsz hi
        have hil := (List.getElem?_eq_some_iff.1 ho).1
        have hset : ∀ j, j ≠ i → (listed.setIfInBounds i true).getD j false = listed.getD j false := fun j hj => by
          simp [Array.getD_eq_getD_getElem?, Array.getElem?_setIfInBounds_ne (Ne.symm hj)]
        have hset' : (listed.setIfInBounds i true).getD i false = true := by
          simp [Array.getD, hsz, hil]
        have hcl' : closedL l (fun j => (listed.setIfInBounds i true).getD j false) := fun j x hx hLj ed hed hb => by
          by_cases hj : j = i
          · subst hj
            rw [ho] at hx; cases hx
            have := hpre ed hed hb
            show (listed.setIfInBounds j true).getD ed.on false = true
            by_cases h : ed.on = j
            · rw [h]; exact hset'
            · rw [hset _ h]; exact this
          · have hLj' : listed.getD j false = true := by rw [← hset j hj]; exact hLj
            have := hcl j x hx hLj' ed hed hb
            show (listed.setIfInBounds i true).getD ed.on false = true
            by_cases h : ed.on = i
            · rw [h]; exact hset'
            · rw [hset _ h]; exact this
        have hcnt' : cntL (fun j => (listed.setIfInBounds i true).getD j false) l.length ≤ fuel := by
          have := (cntL_set (L := fun j => listed.getD j false) (L' := fun j => (listed.setIfInBounds i true).getD j false) hu hset' hset l.length).1 hil
          omega
        have hfun : (fun j => (listed.setIfInBounds i true).getD j false) = fun j => if j = i then true else listed.getD j false := by
          funext j
          by_cases hj : j = i
          · rw [if_pos hj, hj]; exact hset'
          · rw [if_neg hj]; exact hset j hj
        have hg : o.guard = none := by
          have := List.all_eq_true.1 hgl o (List.mem_of_getElem? ho)
          simpa using this
        unfold wpOp
        simp only [List.getElem?_toArray, ho]
        have hw : Region.wanted o (yielded l.toArray a.tmps) = true := by simp [Region.wanted, hg]
        rw [if_pos hw]
        refine .inl (step _ i o ho hu hcl hpre E ι a w hp hc _ _ fun ι' σ' a' w' hk hc' => ?_)
        obtain ⟨ι2, hc2⟩ := hk E ι' a' w' hc'
        exact ih _ a' w' ι2 (by simpa using hsz) hcl' hcnt' (by rw [hfun]; exact hc2)
  have hempty : (fun j => (Array.replicate l.length false).getD j false) = fun _ => false := by
    funext j
    simp [Array.getD_eq_getD_getElem?, Array.getElem?_replicate]
    split <;> rfl
  have hkey := key l.length (Array.replicate l.length false) a w0 ι0 (by simp) (by rw [hempty]; intro j x hx hL; cases hL) (by
    rw [hempty]
    have : ∀ k, cntL (fun _ => false) k ≤ k := by
      intro k
      induction k with
      | zero => exact Nat.le_refl _
      | succ k ih => unfold cntL; split <;> omega
    exact this _) (by rw [hempty]; exact hd0)
  simpa using hkey
/-- what is known of a map may be forgotten -/
theorem St.to.mpv {T : List AV} {H : List (Nat × List AV)} (i : Nat) {b : Nat} {es : List (Value × Value)} (h : T.getD i .any = .c (.mp b es)) : (St.mk T H).to ⟨T.set i (.c (.v (.map (some b)))), H⟩ := St.to.of_le ⟨by simp, fun j => by
  by_cases hj : i = j
  · subst hj
    rcases Nat.lt_or_ge i T.length with hl | hl
    · have e : (T.set i (.c (.v (.map (some b))))).getD i .any = .c (.v (.map (some b))) := by simp [List.getD, hl]
      show (T.getD i .any).le ((T.set i (.c (.v (.map (some b))))).getD i .any)
      rw [e, h]
      intro S ι w v hv
      cases hv with
      | c _ _ hp => cases hp with | mp => exact .c _ _ (.v _ rfl)
    · rw [List.getD_eq_getElem?_getD, List.getElem?_eq_none hl] at h; cases h
  · have e : (T.set i (.c (.v (.map (some b))))).getD j .any = T.getD j .any := by simp [List.getD, List.getElem?_set, hj]
    show (T.getD j .any).le ((T.set i (.c (.v (.map (some b))))).getD j .any)
    rw [e]; exact AV.le_refl _, fun r cs h => h⟩
/-- nothing, as a slice of no element -/
theorem St.to.nilsl {T : List AV} {H : List (Nat × List AV)} (i : Nat) (ex : Bool) (sz : Nat) (h : T.getD i .any = .c (.v (.slice none 0 0))) : (St.mk T H).to ⟨T.set i (.c (.sl ex sz 0 [])), H⟩ := St.to.of_le ⟨by simp, fun j => by
  by_cases hj : i = j
  · subst hj
    rcases Nat.lt_or_ge i T.length with hl | hl
    · have e : (T.set i (.c (.sl ex sz 0 []))).getD i .any = .c (.sl ex sz 0 []) := by simp [List.getD, hl]
      show (T.getD i .any).le ((T.set i (.c (.sl ex sz 0 []))).getD i .any)
      rw [e, h]
      exact AV.le_nil ex sz
    · rw [List.getD_eq_getElem?_getD, List.getElem?_eq_none hl] at h; cases h
  · have e : (T.set i (.c (.sl ex sz 0 []))).getD j .any = T.getD j .any := by simp [List.getD, List.getElem?_set, hj]
    show (T.getD j .any).le ((T.set i (.c (.sl ex sz 0 []))).getD j .any)
    rw [e]; exact AV.le_refl _, fun r cs h => h⟩
/-- known, or not -/
def ifv (c : Bool) (x : AV) : AV := if c = true then x else .any
theorem ifv_true (x : AV) : ifv true x = x := rfl
theorem mpU_ifv {b : Nat} {es : List (Value × Value)} {c : Bool} {x : AV} (h : AV.hasMp x = false) : AV.mpU b es (ifv c x) = ifv c x := by
  cases c
  · rfl
  · exact mpU_no h
theorem mpU_ptr (b : Nat) (es : List (Value × Value)) (r o : Nat) : AV.mpU b es (.ptr r o) = .ptr r o := rfl
theorem mpU_v (b : Nat) (es : List (Value × Value)) (x : Value) : AV.mpU b es (.c (.v x)) = .c (.v x) := rfl
theorem mpU_ifp (b : Nat) (es : List (Value × Value)) (c : Bool) (r o : Nat) : AV.mpU b es (ifv c (.ptr r o)) = ifv c (.ptr r o) := mpU_ifv rfl
theorem mpU_ifw (b : Nat) (es : List (Value × Value)) (c : Bool) (x : Value) : AV.mpU b es (ifv c (.c (.v x))) = ifv c (.c (.v x)) := mpU_ifv rfl
theorem Fn.known {P : Program} {f : FuncId} {args : List AV} {H0 H1 : List (Nat × List AV)} {res : AV} (h : ∀ E0, FnW (fun E => E = E0) P f args H0 res H1) : Fn P f args H0 res H1 := fun E vs => h E E vs rfl
end Go.Proofs.Ytlkogofgemclfaa
