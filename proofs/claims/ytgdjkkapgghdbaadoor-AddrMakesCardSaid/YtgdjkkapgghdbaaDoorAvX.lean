/-
  Calls of functions for which the model stands in. No program in sight.
-/
import Derived.Test.YtgdjkkapgghdbaaDoorAvQ
import Derived.Laws.Externs
import Derived.Lib.Overlaps
import Derived.Lib.AppendZerosOnto
import Derived.Laws.CopyRow
import Derived.Deep.OwnRows
namespace Go.Proofs.YtgdjkkapgghdbaaDoor
open Go.RowKit
set_option linter.unusedSimpArgs false
set_option linter.unusedVariables false
def Ext (P : Program) (f : FuncId) (args : List Value) (res : AV) : Prop :=
  ∀ w : World, ∃ r, (callFunc f args.toArray).run P w = .ok (.value r) w ∧ ∀ (S : Nat → Prop) (ι : Nat → Nat × Nat × Nat) (w' : World), RV S ι w' r res
def AV.ones : List AV → Option (List Value)
  | [] => some []
  | .c (.v x) :: l => (AV.ones l).map (x :: ·)
  | _ => none
theorem ones_eq : ∀ {l : List AV} {vs : List Value}, AV.ones l = some vs → l = vs.map fun v => .c (.v v)
  | [], vs, h => by cases h; rfl
  | .c (.v x) :: l, vs, h => by
    simp only [AV.ones, Option.map_eq_some_iff] at h
    obtain ⟨ws, h', rfl⟩ := h
    rw [ones_eq h']; rfl
  | .c (.sl _ _ _ _) :: _, _, h => by cases h
  | .any :: _, _, h => by cases h
  | .agg _ :: _, _, h => by cases h
  | .tup _ :: _, _, h => by cases h
  | .ptr _ _ :: _, _, h => by cases h
  | .row _ _ _ _ :: _, _, h => by cases h
  | .cut _ _ _ _ _ _ _ :: _, _, h => by cases h
  | .ep _ :: _, _, h => by cases h
  | .fn _ _ :: _, _, h => by cases h
section
variable {P : Program} {o : Oper} {σ : St} {K : St → Prop} {f : FuncId} {vs : List Value} {res : AV} {fo : Operand} {cas : Array Operand} {ts : Array TypeId}
theorem opA_ext (hF : Ext P f vs res) (ho : o.op = .call { callee := .value fo, args := cas, argTypes := ts }) (hfo : okConst fo = true) (has : cas.toList.all okConst = true) (hf : σ.ev fo = .fn f [])
    (hargs : AV.ones (cas.toList.map σ.ev) = some vs) (hK : K (σ.put o.dst res)) : OpA P o σ K :=
  opA_val _ hK fun E ι a w h => by
    have hfv := h.ev fo hfo
    rw [hf] at hfv
    generalize hfe : a.eval fo = fv at hfv
    cases hfv with
    | fn _ us _ hul hus =>
      obtain rfl := List.eq_nil_of_length_eq_zero hul
      obtain ⟨r, hr, hv⟩ := hF w
      refine ⟨r, ?_, hv _ _ _⟩
      have hev : cas.toList.map a.eval = vs := by
        have h1 := ones_eq hargs
        refine List.ext_getElem? fun j => ?_
        have h2 : (cas.toList.map σ.ev)[j]? = (vs.map fun v => AV.c (.v v))[j]? := by rw [h1]
        rw [List.getElem?_map, List.getElem?_map] at h2
        rw [List.getElem?_map]
        cases hx : cas.toList[j]? with
        | none =>
          rw [hx] at h2
          cases hv' : vs[j]? with
          | none => rfl
          | some v => rw [hv'] at h2; cases h2
        | some x =>
          rw [hx] at h2
          cases hv' : vs[j]? with
          | none => rw [hv'] at h2; cases h2
          | some v =>
            rw [hv'] at h2
            simp only [Option.map_some, Option.some.injEq] at h2
            have h3 := h.ev x (List.all_eq_true.1 has x (List.mem_of_getElem? hx))
            rw [h2] at h3
            simp only [Option.map_some, Option.some.injEq]
            exact h3.v_inv.1
      have h1 : cas.map a.eval = vs.toArray := by rw [← hev, ← Array.toList_map]
      simp only [execOp, ho, resolve, hfe, Deferred.ofValue, h1, Sem.run_bind, Sem.run_pure, Result.andThen_ok, invoke, Array.empty_append, List.append_toArray, List.nil_append, List.append_nil, hr]
theorem opF_ext (hF : Ext P f vs res) (ho : o.op = .call { callee := .value fo, args := cas, argTypes := ts }) (hfo : okConst fo = true) (has : cas.toList.all okConst = true) (hf : σ.ev fo = .fn f [])
    (hargs : AV.ones (cas.toList.map σ.ev) = some vs) : OpF P o σ.ev (hget σ.H) res [] [] :=
  fun τ hA hQ => by
    have hA' : ∀ x ∈ fo :: cas.toList, τ.ev x = σ.ev x := fun x hx => hA x (by rw [ho]; simpa [Op.operands, Call.operands] using hx)
    have hmap : cas.toList.map τ.ev = cas.toList.map σ.ev := List.map_congr_left fun x hx => hA' x (by simp [hx])
    refine opA_ext hF ho hfo has (by rw [hA' fo (by simp)]; exact hf) (by rw [hmap]; exact hargs) ?_
    cases o.dst <;> rfl
end
theorem ext_of {P : Program} {f : FuncId} {fn : Func} {e : Array Value → Sem Value} {vs : List Value} {r : Value} {res : AV} (hf : P.funcs[f]? = some fn) (hname : (fn.name == "runtime.NumGoroutine") = false)
    (hb : fn.body.isNone = true) (hn : Extern.findNext fn = none) (he : Extern.find fn = some e) (hr : ∀ w, (e vs.toArray).run P w = .ok r w) (hv : ∀ (S : Nat → Prop) (ι : Nat → Nat × Nat × Nat) (w' : World), RV S ι w' r res) : Ext P f vs res :=
  fun w => ⟨r, by rw [run_callFunc_extern hf hname hb hn he, hr w]; rfl, hv⟩
open Go.RowKit Go.Lib

theorem run_copy_rowS {P : Program} (w : World) (dT sT ty elem : TypeId) (g o dLen dCap : Nat) (a : Addr) (sLen sCap sz : Nat) (cur : Array Value) (t : TypeId) (cs : List Value)
    (hu : P.underlying dT = some (.slice elem)) (hs : (P.info? elem).map (·.size) = some sz)
    (hg : w.heap[g]? = some (.cells cur t (0, 0))) (hn : cs.length = Nat.min sLen dLen * sz)
    (hsrc : ∀ j v, cs[j]? = some v → w.cell? (a.add j) = some v) (hfit : o + cs.length ≤ cur.size) (h1 : ∀ v ∈ cs, v.oneCell' = true) :
    (Builtin.copy_ #[dT, sT] ty #[.slice (some ⟨g, o, none⟩) dLen dCap, .slice (some a) sLen sCap]).run P w =
      .ok (goInt (Nat.min sLen dLen)) (w.setRow g (cur.toList.take o ++ cs ++ cur.toList.drop (o + cs.length)).toArray) := by
  have hl := run_loadCells_list (P := P) w a cs hsrc
  have hst := run_storeCells_at P g o t cs 0 cur w hg (by simpa using hfit) h1
  cases hq : P.info? elem with
  | none => simp [hq] at hs
  | some i =>
    have hi : i.size = sz := by simpa [hq] using hs
    simp [Builtin.copy_, run_underlying hu, Builtin.lenOf, Builtin.firstCells, sizeOf, typeInfo, hq, hi, ← hn, hl, hst]
theorem run_copy_none' {P : Program} (w : World) (dT sT ty elem : TypeId) (d : Option Addr) (dLen dCap sLen sCap : Nat) (hu : P.underlying dT = some (.slice elem)) (sz : Nat) (hs : (P.info? elem).map (·.size) = some sz) (a : Option Addr) (hn : Nat.min sLen dLen = 0) :
    (Builtin.copy_ #[dT, sT] ty #[.slice d dLen dCap, .slice a sLen sCap]).run P w = .ok (goInt 0) w := by
  cases hq : P.info? elem with
  | none => simp [hq] at hs
  | some i => cases a <;> cases d <;> simp [Builtin.copy_, run_underlying hu, Builtin.lenOf, Builtin.firstCells, sizeOf, typeInfo, hq, hn, storeCells, loadCells, loadCellsFrom]

section
variable {P : Program} {w : World}
theorem run_appz (t tn ty e : TypeId) (i : TypeInfo) (z : Value) (sz bytes : Nat) (kq kn : IntKind) (ht : P.underlying t = some (.slice e)) (htn : P.underlying tn = some (.int kn)) (hi : P.info? e = some i) (hz : i.zero = some z) (hsize : i.size = sz) (hby : i.bytes = bytes) (hzs : z.cells.size = sz) (hsz : 0 < sz) (hby0 : 0 < bytes)
    (B : Nat) (A : Option Addr) (n c : Nat) (xs : List Value) (hr : Sl w B sz A n c xs) (k : Nat) (h0 : 0 < k) (hg : c < n + k) (hbytes : (n + k) * bytes ≤ 140737488355328) :
    ∃ c' w' zs, (Builtin.append_ #[t, tn] ty #[.slice A n c, .int kq k]).run P w = .ok (.slice (some ⟨w.heap.size, 0, none⟩) (n + k) c') w' ∧ Ow w' w.heap.size e sz (some ⟨w.heap.size, 0, none⟩) (n + k) c' (xs ++ zs) ∧ zs.length = k * sz ∧ (z.cells.toList.all (·.oneCell') = true → ∀ u ∈ zs, u.oneCell' = true) ∧ Below w.heap.size w w' ∧ w'.heap.size = w.heap.size + 1 ∧ ((∀ u ∈ xs, u.oneCell' = true) → z.cells.toList.all (·.oneCell') = true → AllOne w' w.heap.size) := by
  have hold : (Builtin.firstCells i.size n (.slice A n c)).run P w.drew = .ok xs.toArray w.drew := by
    rcases A with _ | a
    · obtain ⟨rfl, rfl, rfl⟩ := hr.of_none
      exact run_firstCells_none _ _ _ _ _
    · rw [hsize]
      refine run_firstCells_some w.drew sz n a n c xs hr.len_ fun j v hj => ?_
      have hn : 0 < n := by
        rcases Nat.eq_zero_or_pos n with h | h
        · subst h
          have : xs = [] := List.eq_nil_of_length_eq_zero (by simpa using hr.len_)
          subst this; simp at hj
        · exact h
      obtain ⟨b, o, hA, _, hc⟩ := hr.cells hn
      injection hA with hA
      subst hA
      rw [add_none]
      exact hc j v hj
  have hb1 : k * bytes ≤ (n + k) * bytes := Nat.mul_le_mul_right _ (by omega)
  have hb2 : (n + k) * 1 ≤ (n + k) * bytes := Nat.mul_le_mul_left _ hby0
  have hrun := run_append_grow_zeros w t tn ty e i z kq kn ht htn hi hz A n c xs hold k h0 (by omega) hg (by omega) (by rw [hby]; omega) (by rw [hby]; exact growslice_fits hg hbytes)
  have hzl : (Builtin.zeroCells z.cells k).size = k * sz := by simp [Builtin.zeroCells, hzs]
  have hzl2 : ∀ q, (Builtin.zeroCells z.cells q).size = q * sz := by intro q; simp [Builtin.zeroCells, hzs]
  have hxl := hr.len_
  have hgc : n + k ≤ grownCap w (n + k) c e ∧ grownCap w (n + k) c e ≤ maxLen := ⟨grownCap_ge _ _ _ _, grownCap_le_maxLen _ _ _ _ (by unfold maxLen; omega)⟩
  refine ⟨_, _, (Builtin.zeroCells z.cells k).toList, hrun, ⟨?_, .inr ⟨w.heap.size, _, _, rfl, Nat.le_refl _, heap_alloc_new w.drew _, hgc.1, hgc.2, ?_, ?_⟩⟩, by simpa using hzl, zeroCells_one z.cells k, (Below.refl _ _).drew.alloc (Nat.le_refl _) _, by simp [World.size_alloc], fun hx1 hz1 cur' t' f' hh' u hu => ?_⟩
  rotate_right
  · have := heap_alloc_new w.drew (.cells (xs.toArray ++ Builtin.zeroCells z.cells k ++ Builtin.zeroCells z.cells (grownCap w (n + k) c e - (n + k))) e)
    rw [show w.drew.heap.size = w.heap.size from rfl] at this
    rw [this] at hh'
    cases hh'
    simp only [Array.toList_append, List.append_assoc, List.mem_append] at hu
    rcases hu with hu | hu | hu
    · exact hx1 u hu
    · exact zeroCells_one z.cells _ hz1 u hu
    · exact zeroCells_one z.cells _ hz1 u hu
  · simp [hzl, hxl, Nat.add_mul]
  · simp [hzl, hzl2, hxl, ← Nat.add_mul]
    congr 1; omega
  · rw [Array.toList_append, Array.toList_append, List.take_append_of_le_length (by simp [hzl, hxl, Nat.add_mul]), List.take_of_length_le (by simp [hzl, hxl, Nat.add_mul])]
end

/-! parts of rows -/
theorem RV.row_cut {S : Nat → Prop} {ι : Nat → Nat × Nat × Nat} {w : World} {v : Value} {r e sz n : Nat} (h : RV S ι w v (.row r e sz n)) : ∃ c, n ≤ c ∧ c ≤ maxLen ∧ RV S ι w v (.cut r e sz 0 n c true) := by
  cases h with
  | row _ _ _ _ c h1 h2 h3 h4 h0 =>
    refine ⟨c, h1, h2, ?_⟩
    have := RV.cut (S := S) (ι := ι) (w := w) r e sz 0 n c true h1 h2 (by rw [Nat.zero_add]; omega) (fun _ => by rw [Nat.zero_add]; exact h3) h4 h0
    rwa [Nat.zero_mul] at this
  | rnil A _ _ _ h => exact ⟨0, Nat.le_refl _, Nat.zero_le _, .cnil A r e sz 0 true fun _ _ => h⟩
theorem AV.le_cut (r e sz n m : Nat) : (AV.cut r e sz 0 n m true).le (.row r e sz n) := fun S ι w v h => by
  cases h with
  | cut _ _ _ _ _ _ _ h1 h2 h3 hx h4 h0 =>
    have hx' := hx rfl
    rw [Nat.zero_add] at hx'
    have := RV.row (S := S) (ι := ι) (w := w) r e sz n m h1 h2 hx' h4 h0
    rwa [Nat.zero_mul]
  | cnil A _ _ _ _ _ h => exact .rnil A r e sz (h rfl rfl)
def AV.part : AV → Option (Nat × Nat × Nat × Nat × Nat)
  | .row r e sz n => some (r, e, sz, 0, n)
  | .cut r e sz lo n _ _ => some (r, e, sz, lo, n)
  | _ => none
theorem RV.part {S : Nat → Prop} {ι : Nat → Nat × Nat × Nat} {w : World} {v : Value} {x : AV} {r e sz lo n : Nat} (h : RV S ι w v x) (hp : x.part = some (r, e, sz, lo, n)) :
    ∃ A c, v = .slice A n c ∧ n ≤ c ∧ c ≤ maxLen ∧ (0 < n → A = some ⟨(ι r).1, lo * sz, none⟩ ∧ (lo + n) * sz ≤ (ι r).2.1 ∧ (ι r).2.1 ≠ 0) := by
  cases h with
  | row _ _ _ _ c h1 h2 h3 h4 h0 =>
    cases hp
    refine ⟨_, c, rfl, h1, h2, fun _ => ⟨by rw [Nat.zero_mul], ?_, h0⟩⟩
    rw [Nat.zero_add, ← h3]; exact Nat.mul_le_mul_right _ h1
  | rnil A => cases hp; exact ⟨A, 0, rfl, Nat.le_refl _, Nat.zero_le _, fun h => absurd h (by omega)⟩
  | cut _ _ _ _ _ c _ h1 h2 h3 hx h4 h0 =>
    cases hp
    exact ⟨_, c, rfl, h1, h2, fun _ => ⟨rfl, Nat.le_trans (Nat.mul_le_mul_right _ (by omega)) h3, h0⟩⟩
  | cnil A => cases hp; exact ⟨A, 0, rfl, Nat.le_refl _, Nat.zero_le _, fun h => absurd h (by omega)⟩
  | _ => cases hp
def St.src2 (σ : St) (sz : Nat) : AV → Option (Nat × List AV)
  | .row r _ _ n => (hget σ.H r).map fun cs => (n, cs.take (n * sz))
  | .cut r _ _ lo n _ _ => (hget σ.H r).map fun cs => (n, (cs.drop (lo * sz)).take (n * sz))
  | .c (.sl _ _ n cs) => some (n, cs.map .c)
  | .c (.v (.slice none 0 0)) => some (0, [])
  | _ => none
def szOf : AV → Nat → Bool
  | .row _ _ s _, sz => s == sz
  | .cut _ _ s _ _ _ _, sz => s == sz
  | .c (.sl _ s _ _), sz => s == sz
  | _, _ => true
section
variable {E : Env} {ι : Nat → Nat × Nat × Nat} {σ : St} {a : Act} {w : World}
theorem Conc.src2 (h : Conc E ι σ a w) {v : Value} {x : AV} {n sz : Nat} {ds : List AV} (hv : RV (Sx E ι σ.H) ι w v x) (hs : σ.src2 sz x = some (n, ds)) (hso : szOf x sz = true) (hl : ds.length = n * sz) (h0 : 0 < sz) :
    ∃ A c us, v = .slice A n c ∧ Sl w w.heap.size sz A n c us ∧ RVs (Sx E ι σ.H) ι w us ds := by
  have empty : ∀ {A : Option Addr} {c : Nat}, n = 0 → 0 ≤ c → c ≤ maxLen → (A = none → c = 0) → Sl w w.heap.size sz A n c [] ∧ RVs (Sx E ι σ.H) ι w [] ds := fun {A c} e h1 h2 h3 => by
    subst e
    exact ⟨⟨h1, h2, h3, by simp, fun h => absurd h (by omega)⟩, by rw [Nat.zero_mul] at hl; exact hl.symm, fun j u x hu => by cases hu⟩
  by_cases hp : ∃ r e sz' lo, x.part = some (r, e, sz', lo, n)
  · obtain ⟨r, e, sz', lo, hp⟩ := hp
    obtain ⟨A, c, rfl, h1, h2, h3⟩ := hv.part hp
    have hn : A = none → c = 0 := by
      cases hv with
      | row => intro h; cases h
      | rnil => intro; rfl
      | cut => intro h; cases h
      | cnil => intro; rfl
      | c => cases hp
      | _ => cases hp
    rcases Nat.eq_zero_or_pos n with hn0 | hn0
    · obtain ⟨g1, g2⟩ := empty (A := A) (c := c) hn0 (Nat.zero_le _) h2 hn
      exact ⟨A, c, [], rfl, g1, g2⟩
    · obtain ⟨rfl, h4, h5⟩ := h3 hn0
      have key : ∃ cs, hget σ.H r = some cs ∧ sz' = sz ∧ ds = (cs.drop (lo * sz)).take (n * sz) := by
        cases x with
        | row r' e' s' n' =>
          simp only [AV.part, Option.some.injEq, Prod.mk.injEq] at hp
          obtain ⟨rfl, rfl, rfl, rfl, rfl⟩ := hp
          simp only [St.src2, Option.map_eq_some_iff, Prod.mk.injEq] at hs
          obtain ⟨cs, hr, _, rfl⟩ := hs
          exact ⟨cs, hr, by simpa [szOf] using hso, by rw [Nat.zero_mul, List.drop_zero]⟩
        | cut r' e' s' lo' n' c' ex =>
          simp only [AV.part, Option.some.injEq, Prod.mk.injEq] at hp
          obtain ⟨rfl, rfl, rfl, rfl, rfl⟩ := hp
          simp only [St.src2, Option.map_eq_some_iff, Prod.mk.injEq] at hs
          obtain ⟨cs, hr, _, rfl⟩ := hs
          exact ⟨cs, hr, by simpa [szOf] using hso, rfl⟩
        | _ => cases hp
      obtain ⟨cs, hr, rfl, rfl⟩ := key
      rcases h.heap.blk r cs hr with ⟨hz, _⟩ | ⟨cur, hh, hsz, hlc, hc, hone1⟩
      · exact absurd hz h5
      · have e1 : (lo + n) * sz' = lo * sz' + n * sz' := Nat.add_mul _ _ _
        refine ⟨_, c, (cur.toList.drop (lo * sz')).take (n * sz'), rfl, ⟨h1, h2, hn, by simp; omega, fun _ => ⟨(ι r).1, lo * sz', rfl, (Array.getElem?_eq_some_iff.1 hh).1, fun j u hu => ?_⟩⟩, ⟨by rw [hl]; simp; omega, fun j u x hu hx => ?_⟩⟩
        · rw [List.getElem?_take] at hu
          split at hu
          · rw [List.getElem?_drop] at hu
            simp only [World.cell?, hh]
            simpa using hu
          · cases hu
        · rw [List.getElem?_take] at hu hx
          split at hu
          · rename_i hj
            rw [if_pos hj] at hx
            rw [List.getElem?_drop] at hu hx
            exact hc _ u x (by simpa using hu) hx
          · cases hu
  · have hs' : σ.src x = some (n, ds) := by
      cases x with
      | row r e s n' =>
        simp only [St.src2, Option.map_eq_some_iff, Prod.mk.injEq] at hs
        obtain ⟨cs, hr, rfl, _⟩ := hs
        exact absurd ⟨r, e, s, 0, rfl⟩ hp
      | cut r e s lo n' c ex =>
        simp only [St.src2, Option.map_eq_some_iff, Prod.mk.injEq] at hs
        obtain ⟨cs, hr, rfl, _⟩ := hs
        exact absurd ⟨r, e, s, lo, rfl⟩ hp
      | c p =>
        cases p with
        | sl => exact hs
        | mp => simp [St.src2] at hs
        | v z =>
          unfold St.src2 at hs
          split at hs
          · rename_i heq; cases heq
          · rename_i heq; cases heq
          · rename_i heq; cases heq
          · rename_i heq; cases heq; exact hs
          · cases hs
      | _ => cases hs
    exact h.src hv hs' hl h0
theorem spl_get {R : Value → AV → Prop} {cur us : List Value} {cs ys : List AV} {o : Nat} (hc : ∀ (j : Nat) (u : Value) (x : AV), cur[j]? = some u → cs[j]? = some x → R u x) (hy : us.length = ys.length) (hv : ∀ (j : Nat) (u : Value) (x : AV), us[j]? = some u → ys[j]? = some x → R u x)
    (h1 : o + us.length ≤ cur.length) (h2 : o ≤ cs.length) : ∀ (j : Nat) (u : Value) (x : AV), (cur.take o ++ us ++ cur.drop (o + us.length))[j]? = some u → (spl cs o ys)[j]? = some x → R u x := fun j u x hu hx => by
  unfold spl at hx
  simp only [List.getElem?_append, List.length_take, List.getElem?_take, List.getElem?_drop, List.length_append] at hu hx
  have e1 : min o cur.length = o := by omega
  have e2 : min o cs.length = o := by omega
  rw [e1] at hu
  rw [e2] at hx
  by_cases hj1 : j < o + ys.length
  · rw [if_pos (by omega)] at hu
    rw [if_pos (by omega)] at hx
    by_cases hj2 : j < o
    · rw [if_pos hj2, if_pos hj2] at hu hx
      exact hc j u x hu hx
    · rw [if_neg hj2] at hu hx
      exact hv _ u x hu hx
  · rw [if_neg (by omega)] at hu
    rw [if_neg (by omega)] at hx
    have e3 : o + us.length + (j - (o + us.length)) = j := by omega
    have e4 : o + ys.length + (j - (o + ys.length)) = j := by omega
    rw [e3] at hu
    rw [e4] at hx
    exact hc j u x hu hx
theorem spl_length {cs ys : List AV} {o : Nat} (h : o + ys.length ≤ cs.length) : (spl cs o ys).length = cs.length := by
  unfold spl; simp; omega
theorem spl_nil (cs : List AV) (o : Nat) : spl cs o [] = cs := by simp [spl]
theorem Conc.lay (h : Conc E ι σ a w) {r o : Nat} {cs ys : List AV} {us : List Value} (hr : hget σ.H r = some cs) {cur : Array Value} (hh : w.heap[(ι r).1]? = some (.cells cur (ι r).2.2 (0, 0))) (hz : (ι r).2.1 ≠ 0) (hsz : cur.size = (ι r).2.1) (hl : cs.length ≤ cur.size)
    (hcur : ∀ (j : Nat) (u : Value) (x : AV), cur[j]? = some u → cs[j]? = some x → RV (Sx E ι σ.H) ι w u x ∧ u.oneCell' = true) (hone1 : ∀ u ∈ cur.toList, u.oneCell' = true) (hv : RVs (Sx E ι σ.H) ι w us ys) (hfit : o + ys.length ≤ cs.length) :
    Conc E ι ⟨σ.T, hput σ.H r (spl cs o ys)⟩ a (w.setRow (ι r).1 (cur.toList.take o ++ us ++ cur.toList.drop (o + us.length)).toArray) := by
  have hul := hv.1
  refine h.set hr hh hz (by simp; omega) (by rw [spl_length hfit]; simp; omega) (fun j u x hu hx => ?_) fun u hu => ?_
  rotate_left
  · simp only [List.append_assoc, List.mem_append] at hu
    rcases hu with hu | hu | hu
    · exact hone1 u (List.mem_of_mem_take hu)
    · exact hv.ones u hu
    · exact hone1 u (List.mem_of_mem_drop hu)
  simp only [List.getElem?_toArray] at hu
  exact spl_get (R := fun u x => RV (Sx E ι σ.H) ι w u x ∧ u.oneCell' = true) (fun j u x hu hx => hcur j u x (by simpa using hu) hx) hul hv.2 (by simp; omega) (by omega) j u x hu hx
theorem Conc.same (h : Conc E ι σ a w) {r : Nat} {cs : List AV} (hr : hget σ.H r = some cs) : Conc E ι ⟨σ.T, hput σ.H r cs⟩ a w :=
  h.le ⟨rfl, fun i => AV.le_refl _, fun q es hq => by
    have hq' : hget (hput σ.H r cs) q = some es := hq
    rw [hget_put] at hq'
    split at hq'
    · rename_i e; subst e; cases hq'; exact hr
    · exact hq'⟩
end
theorem take_rvs {S : Nat → Prop} {ι : Nat → Nat × Nat × Nat} {w : World} {us : List Value} {cs : List AV} (h : RVs S ι w us cs) (k : Nat) : RVs S ι w (us.take k) (cs.take k) :=
  ⟨by simp [h.1], fun j u x hu hx => by
    rw [List.getElem?_take] at hu hx
    split at hu
    · rename_i hj; rw [if_pos hj] at hx; exact h.2 j u x hu hx
    · cases hu⟩
section
variable {P : Program} {o : Oper} {σ : St} {K : St → Prop}
theorem slcT_spec {t e sz by_ : Nat} (h : slcT P t = some (e, sz, by_)) : P.underlying t = some (.slice e) ∧ ∃ i, P.info? e = some i ∧ i.size = sz ∧ i.bytes = by_ := by
  unfold slcT at h
  split at h
  · rename_i e' hu
    split at h
    · rename_i i hi
      simp only [Option.some.injEq, Prod.mk.injEq] at h
      obtain ⟨rfl, rfl, rfl⟩ := h
      exact ⟨hu, i, hi, rfl, rfl⟩
    · cases h
  · cases h
theorem opA_copy {t t' sz r e lo n m : Nat} {x y : Operand} {cs ds : List AV} (ho : o.op = .call { callee := .builtin .copy, args := #[x, y], argTypes := #[t, t'] }) (hx : okConst x = true) (hy : okConst y = true) (hs : (slcT P t).map (fun p => p.2.1) = some sz) (h0 : 0 < sz)
    (hp : (σ.ev x).part = some (r, e, sz, lo, n)) (hr : hget σ.H r = some cs) (hsrc : σ.src2 sz (σ.ev y) = some (m, ds)) (hso : szOf (σ.ev y) sz = true) (hl : ds.length = m * sz) (hfit : (lo + n) * sz ≤ cs.length)
    (hK : K ((St.mk σ.T (hput σ.H r (spl cs (lo * sz) (ds.take (min m n * sz))))).put o.dst (.c (.v (.int .i64 (min m n : Nat)))))) : OpA P o σ K := by
  intro E ι a w hc K' Q hK'
  obtain ⟨e0, by_, hs⟩ := slcT_of hs
  obtain ⟨A, c, hxv, g1, g2, g3⟩ := (hc.ev x hx).part hp
  obtain ⟨B, c', us, hyv, hsl, hus⟩ := hc.src2 (hc.ev y hy) hsrc hso hl h0
  obtain ⟨hu, i, hi, his, _⟩ := slcT_spec hs
  have hsz : (P.info? e0).map (·.size) = some sz := by rw [hi]; simp [his]
  have fin : ∀ {w' : World}, (Builtin.copy_ #[t, t'] o.type #[.slice A n c, .slice B m c']).run P w = .ok (goInt (Nat.min m n)) w' → Conc E ι ⟨σ.T, hput σ.H r (spl cs (lo * sz) (ds.take (min m n * sz)))⟩ a w' → o.wp P a w K' Q := fun {w'} hrun hcn => by
    unfold Oper.wp execOp
    simp only [ho, resolve, invoke, builtin, Sem.run_bind, Sem.run_pure, Result.andThen_ok, List.map_toArray, List.map_cons, List.map_nil, hxv, hyv, hrun]
    exact hK' _ _ _ _ hK (hcn.put o.dst (rv_const _ rfl))
  rcases Nat.eq_zero_or_pos (min m n) with hz | hz
  · have hrun0 := run_copy_none' (P := P) w t t' o.type e0 A n c m c' hu sz hsz B hz
    refine fin (w' := w) (by rw [show Nat.min m n = 0 from hz]; exact hrun0) ?_
    rw [hz, Nat.zero_mul, List.take_zero, spl_nil]
    exact hc.same hr
  · obtain ⟨rfl, g4, g5⟩ := g3 (by omega)
    obtain ⟨b, off, rfl, _, hcell⟩ := hsl.cells (by omega)
    rcases hc.heap.blk r cs hr with ⟨hz0, _⟩ | ⟨cur, hh, hcz, hlc, hcur, hone1⟩
    · exact absurd hz0 g5
    · have hul : us.length = m * sz := hsl.len_
      have hmm : min m n * sz ≤ m * sz := Nat.mul_le_mul_right _ (by omega)
      have hmn : min m n * sz ≤ n * sz := Nat.mul_le_mul_right _ (by omega)
      have e1 : (lo + n) * sz = lo * sz + n * sz := Nat.add_mul _ _ _
      have htl : (us.take (min m n * sz)).length = min m n * sz := by rw [List.length_take]; omega
      have hus' := take_rvs hus (min m n * sz)
      have hrun := run_copy_rowS (P := P) w t t' o.type e0 (ι r).1 (lo * sz) n c ⟨b, off, none⟩ m c' sz cur (ι r).2.2 (us.take (min m n * sz)) hu hsz hh htl (fun j v hv => by
        rw [add_none]
        rw [List.getElem?_take] at hv
        split at hv
        · exact hcell j v hv
        · cases hv) (by rw [htl]; omega) (RVs.one hus')
      exact fin hrun (hc.lay hr hh g5 hcz hlc hcur hone1 hus' (by rw [← hus'.1, htl]; omega))
end
open Go.RowKit Go.Lib

section
variable {P : Program} {o : Oper} {σ : St} {K : St → Prop}
theorem run_bounds {ev : Operand → AV} {ea : Operand → Value} {lo hi mx : Option Operand} {n c : Nat} {l h m : Int} {w : World}
    (bv : ∀ (op : Option Operand) (dflt : Nat) (q : Int), (op = lo ∨ op = hi ∨ op = mx) → bnd ev dflt op = some q → (op = none ∧ q = dflt) ∨ ∃ x k, op = some x ∧ ea x = .int k q)
    (hl : bnd ev 0 lo = some l) (hh : bnd ev n hi = some h) (hm : bnd ev c mx = some m) (hmi : mx.isSome = true → hi.isSome = true) (hb : 0 ≤ l ∧ l ≤ h ∧ h ≤ m ∧ m ≤ c) :
    (Instr.sliceBounds true n c (lo.map ea) (hi.map ea) (mx.map ea)).run P w = .ok (l.toNat, h.toNat, m.toNat) w := by
  obtain ⟨b1, b2, b3, b4⟩ := hb
  rcases bv mx c m (.inr (.inr rfl)) hm with ⟨rfl, rfl⟩ | ⟨xm, km, rfl, em⟩
  · rcases bv hi n h (.inr (.inl rfl)) hh with ⟨rfl, rfl⟩ | ⟨xh, kh, rfl, eh⟩
    · rcases bv lo 0 l (.inl rfl) hl with ⟨rfl, rfl⟩ | ⟨xl, kl, rfl, el⟩
      · simp [Instr.sliceBounds]
      · simp [Instr.sliceBounds, el, run_sliceBound (P := P) (m := l) (y := n) ⟨b1, by omega⟩]
    · have hbh := fun code => run_sliceBound (P := P) (k := kh) (m := h) (y := c) (code := code) ⟨by omega, by omega⟩ w
      rcases bv lo 0 l (.inl rfl) hl with ⟨rfl, rfl⟩ | ⟨xl, kl, rfl, el⟩
      · simp [Instr.sliceBounds, eh, hbh]
      · simp [Instr.sliceBounds, eh, el, hbh, run_sliceBound (P := P) (m := l) (y := h.toNat) ⟨b1, by omega⟩]
  · have hbm := fun code => run_sliceBound (P := P) (k := km) (m := m) (y := c) (code := code) ⟨by omega, by omega⟩ w
    rcases bv hi n h (.inr (.inl rfl)) hh with ⟨rfl, rfl⟩ | ⟨xh, kh, rfl, eh⟩
    · have := hmi rfl; cases this
    · have hbh := fun code => run_sliceBound (P := P) (k := kh) (m := h) (y := m.toNat) (code := code) ⟨by omega, by omega⟩ w
      rcases bv lo 0 l (.inl rfl) hl with ⟨rfl, rfl⟩ | ⟨xl, kl, rfl, el⟩
      · simp [Instr.sliceBounds, em, eh, hbm, hbh]
      · simp [Instr.sliceBounds, em, eh, el, hbm, hbh, run_sliceBound (P := P) (m := l) (y := h.toNat) ⟨b1, by omega⟩]
theorem Conc.bv {E : Env} {ι : Nat → Nat × Nat × Nat} {a : Act} {w : World} (hc : Conc E ι σ a w) {lo hi mx : Option Operand} (hlo : lo.toList.all okConst = true) (hhi : hi.toList.all okConst = true) (hmx : mx.toList.all okConst = true) :
    ∀ (op : Option Operand) (dflt : Nat) (q : Int), (op = lo ∨ op = hi ∨ op = mx) → bnd σ.ev dflt op = some q → (op = none ∧ q = dflt) ∨ ∃ x k, op = some x ∧ a.eval x = .int k q := fun op dflt q hop hq => by
  have hok : op.toList.all okConst = true := by rcases hop with rfl | rfl | rfl <;> assumption
  cases op with
  | none => simp [bnd] at hq; exact .inl ⟨rfl, hq.symm⟩
  | some x =>
    unfold bnd at hq
    simp only at hq
    split at hq
    · rename_i k m' hev
      cases hq
      have := hc.ev x (by simpa using hok)
      rw [hev] at this
      exact .inr ⟨x, k, rfl, this.v_inv.1⟩
    · cases hq
theorem opA_slice_cut {t e sz r lo0 n c : Nat} {ex : Bool} {x : Operand} {lo hi mx : Option Operand} {l h m : Int} (ho : o.op = .slice t x lo hi mx) (hx : okConst x = true) (hlo : lo.toList.all okConst = true) (hhi : hi.toList.all okConst = true) (hmx : mx.toList.all okConst = true) (hs : (slcT P t).map (fun p => p.2.1) = some sz)
    (h1 : σ.ev x = .cut r e sz lo0 n c ex) (hl : bnd σ.ev 0 lo = some l) (hh : bnd σ.ev n hi = some h) (hm : bnd σ.ev c mx = some m) (hmi : mx.isSome = true → hi.isSome = true) (hb : 0 ≤ l ∧ l ≤ h ∧ h ≤ m ∧ m ≤ c)
    (hK : K (σ.put o.dst (.cut r e sz (lo0 + l.toNat) (h.toNat - l.toNat) (m.toNat - l.toNat) (ex && !mx.isSome)))) : OpA P o σ K :=
  opA_val _ hK fun E ι a w hc => by
    have hxv := hc.ev x hx
    rw [h1] at hxv
    generalize he : a.eval x = v at hxv
    obtain ⟨e0, by_, hs⟩ := slcT_of hs
    obtain ⟨hu, i, hi', hsz, _⟩ := slcT_spec hs
    have hsize : (sizeOf e0).run P w = .ok sz w := run_szT (by simp [szT, hi', hsz]) w
    have hrunb := run_bounds (P := P) (w := w) (hc.bv hlo hhi hmx) hl hh hm hmi hb
    obtain ⟨b1, b2, b3, b4⟩ := hb
    have run : ∀ {A : Option Addr}, v = .slice A n c → (execOp a.eval o).run P w = .ok (.value (.slice (if m.toNat = l.toNat then A else A.map (·.add (l.toNat * sz))) (h.toNat - l.toNat) (m.toNat - l.toNat))) w := fun {A} hv => by
      subst hv
      simp only [execOp, ho, he, Instr.sliceAt, Sem.run_bind, run_underlying hu, Result.andThen_ok, Instr.slice, hrunb, hsize, Sem.run_pure]
    have mxn : mx = none → m = c := fun e => by subst e; simp [bnd] at hm; exact hm.symm
    cases hxv with
    | cut _ _ _ _ _ _ _ g1 g2 g3 gx g4 g0 =>
      refine ⟨_, run rfl, ?_⟩
      by_cases hml : m.toNat = l.toNat
      · rw [if_pos hml]
        have e1 : h.toNat - l.toNat = 0 := by omega
        have e2 : m.toNat - l.toNat = 0 := by omega
        rw [e1, e2]
        refine .cnil _ r e sz _ _ fun hex h0 => ?_
        simp only [Bool.and_eq_true, Bool.not_eq_true', Option.isSome_eq_false_iff, Option.isNone_iff_eq_none] at hex
        have := mxn hex.2
        have hq := gx hex.1
        rw [show lo0 + c = 0 by omega, Nat.zero_mul] at hq
        exact hq.symm
      · rw [if_neg hml]
        have e1 : (lo0 + l.toNat) * sz = lo0 * sz + l.toNat * sz := Nat.add_mul _ _ _
        have := RV.cut (S := Sx E ι σ.H) (ι := ι) (w := w) r e sz (lo0 + l.toNat) (h.toNat - l.toNat) (m.toNat - l.toNat) (ex && !mx.isSome) (by omega) (by omega)
          (Nat.le_trans (Nat.mul_le_mul_right _ (by omega)) g3) (fun hex => by
            simp only [Bool.and_eq_true, Bool.not_eq_true', Option.isSome_eq_false_iff, Option.isNone_iff_eq_none] at hex
            have := mxn hex.2
            rw [show lo0 + l.toNat + (m.toNat - l.toNat) = lo0 + c by omega]; exact gx hex.1) g4 g0
        rw [e1] at this
        simpa [add_none] using this
    | cnil A _ _ _ _ _ g =>
      refine ⟨_, run rfl, ?_⟩
      have e0 : l.toNat = 0 := by omega
      have e1 : h.toNat = 0 := by omega
      have e2 : m.toNat = 0 := by omega
      rw [e0, e1, e2]
      simp only [Nat.sub_self, if_true, Nat.add_zero]
      exact .cnil _ r e sz _ _ fun hex h0 => g (by simpa using (Bool.and_eq_true _ _ ▸ hex : _ ∧ _).1) h0
theorem opA_slice_row {t e sz r n : Nat} {x : Operand} {lo hi mx : Option Operand} {l h m : Int} (ho : o.op = .slice t x lo hi mx) (hx : okConst x = true) (hlo : lo.toList.all okConst = true) (hhi : hi.toList.all okConst = true) (hmx : mx.toList.all okConst = true) (hs : (slcT P t).map (fun p => p.2.1) = some sz)
    (h1 : σ.ev x = .row r e sz n) (hl : bnd σ.ev 0 lo = some l) (hh : bnd σ.ev n hi = some h) (hm : bnd σ.ev n mx = some m) (hmi : mx.isSome = true → hi.isSome = true) (hb : 0 ≤ l ∧ l ≤ h ∧ h ≤ m ∧ m ≤ n)
    (hK : ∀ q : Nat, h.toNat - l.toNat ≤ q → (mx.isSome = true → q = m.toNat - l.toNat) → K (σ.put o.dst (.cut r e sz l.toNat (h.toNat - l.toNat) q (!mx.isSome)))) : OpA P o σ K := by
  intro E ι a w hc K' Q hK'
  obtain ⟨c, hc1, hc2, hcv⟩ := (show RV (Sx E ι σ.H) ι w (a.eval x) (.row r e sz n) by rw [← h1]; exact hc.ev x hx).row_cut
  obtain ⟨b1, b2, b3, b4⟩ := hb
  obtain ⟨e0, by_, hs⟩ := slcT_of hs
  obtain ⟨hu, i, hi', hsz, _⟩ := slcT_spec hs
  have hsize : (sizeOf e0).run P w = .ok sz w := run_szT (by simp [szT, hi', hsz]) w
  obtain ⟨m', hm', hmm, hmn⟩ : ∃ m' : Int, bnd σ.ev c mx = some m' ∧ (h ≤ m' ∧ m' ≤ c) ∧ (mx.isSome = true → m' = m) := by
    cases mx with
    | none => exact ⟨c, rfl, ⟨by omega, by omega⟩, fun h => by cases h⟩
    | some y => exact ⟨m, hm, ⟨b3, by omega⟩, fun _ => rfl⟩
  have mxn : mx = none → m' = c := fun e => by subst e; simp [bnd] at hm'; exact hm'.symm
  have hrunb := run_bounds (P := P) (w := w) (hc.bv hlo hhi hmx) hl hh hm' hmi ⟨b1, b2, hmm.1, hmm.2⟩
  generalize he : a.eval x = v at hcv
  have run : ∀ {A : Option Addr}, v = .slice A n c → (execOp a.eval o).run P w = .ok (.value (.slice (if m'.toNat = l.toNat then A else A.map (·.add (l.toNat * sz))) (h.toNat - l.toNat) (m'.toNat - l.toNat))) w := fun {A} hv => by
    subst hv
    simp only [execOp, ho, he, Instr.sliceAt, Sem.run_bind, run_underlying hu, Result.andThen_ok, Instr.slice, hrunb, hsize, Sem.run_pure]
  have fin : ∀ {u : Value}, (execOp a.eval o).run P w = .ok (.value u) w → RV (Sx E ι σ.H) ι w u (.cut r e sz l.toNat (h.toNat - l.toNat) (m'.toNat - l.toNat) (!mx.isSome)) → o.wp P a w K' Q := fun {u} hr hv => by
    unfold Oper.wp
    rw [hr]
    exact hK' ι _ _ _ (hK (m'.toNat - l.toNat) (by omega) (fun h => by rw [hmn h])) (hc.put o.dst hv)
  cases hcv with
  | cut _ _ _ _ _ _ _ g1 g2 g3 gx g4 g0 =>
    have gx' := gx rfl
    refine fin (run rfl) ?_
    rw [Nat.zero_add] at g3 gx'
    by_cases hml : m'.toNat = l.toNat
    · rw [if_pos hml]
      have e1 : h.toNat - l.toNat = 0 := by omega
      have e2 : m'.toNat - l.toNat = 0 := by omega
      rw [e1, e2]
      refine .cnil _ r e sz _ _ fun hex h0 => ?_
      simp only [Bool.not_eq_true', Option.isSome_eq_false_iff, Option.isNone_iff_eq_none] at hex
      have := mxn hex
      rw [← gx', show c = 0 by omega, Nat.zero_mul]
    · rw [if_neg hml]
      have := RV.cut (S := Sx E ι σ.H) (ι := ι) (w := w) r e sz l.toNat (h.toNat - l.toNat) (m'.toNat - l.toNat) (!mx.isSome) (by omega) (by omega)
        (Nat.le_trans (Nat.mul_le_mul_right _ (by omega)) g3) (fun hex => by
          simp only [Bool.not_eq_true', Option.isSome_eq_false_iff, Option.isNone_iff_eq_none] at hex
          have := mxn hex
          rw [show l.toNat + (m'.toNat - l.toNat) = c by omega]; exact gx') g4 g0
      simpa [add_none] using this
  | cnil A _ _ _ _ _ g =>
    refine fin (run rfl) ?_
    have e0 : l.toNat = 0 := by omega
    have e1 : h.toNat = 0 := by omega
    have e2 : m'.toNat = 0 := by omega
    rw [e0, e1, e2]
    simp only [Nat.sub_self, if_true]
    exact .cnil _ r e sz _ _ fun hex h0 => g rfl rfl
theorem opA_cap_cut {t r e sz lo n c : Nat} {ex : Bool} {x : Operand} (ho : o.op = .call { callee := .builtin .cap, args := #[x], argTypes := #[t] }) (hx : okConst x = true) (hs : (slcT P t).isSome = true) (hn : σ.ev x = .cut r e sz lo n c ex) (hK : K (σ.put o.dst (.c (.v (.int .i64 c))))) : OpA P o σ K :=
  opA_val _ hK fun E ι a w h => by
    have hxv := h.ev x hx
    rw [hn] at hxv
    obtain ⟨A, hv⟩ : ∃ A, a.eval x = .slice A n c := by
      generalize a.eval x = v at hxv
      cases hxv with
      | cut => exact ⟨_, rfl⟩
      | cnil => exact ⟨_, rfl⟩
    obtain ⟨p, hp⟩ := Option.isSome_iff_exists.1 hs
    obtain ⟨hu, _⟩ := slcT_spec (e := p.1) (sz := p.2.1) (by_ := p.2.2) hp
    exact ⟨.int .i64 c, by simp [execOp, ho, resolve, invoke, builtin, hv, Builtin.cap_, run_underlying hu, goInt], rv_const _ rfl⟩
theorem opA_index_cut {t r e sz lo n c : Nat} {ex : Bool} {x i : Operand} {k : IntKind} {m : Int} (ho : o.op = .indexAddr t x i) (hx : okConst x = true) (hi0 : okConst i = true) (h1 : σ.ev x = .cut r e sz lo n c ex) (hi : σ.ev i = .c (.v (.int k m))) (hs : (slcT P t).map (fun p => p.2.1) = some sz)
    (hb : 0 ≤ m ∧ m < n) (hK : K (σ.put o.dst (.ptr r ((lo + m.toNat) * sz)))) : OpA P o σ K :=
  opA_val _ hK fun E ι a w h => by
    have hxv := h.ev x hx
    have hiv := h.ev i hi0
    rw [h1] at hxv
    rw [hi] at hiv
    obtain ⟨e2, _⟩ := hiv.v_inv
    generalize he : a.eval x = v at hxv
    obtain ⟨e0, by_, hs⟩ := slcT_of hs
    obtain ⟨hu, ie, hie, hsz, _⟩ := slcT_spec hs
    have hsize : (sizeOf e0).run P w = .ok sz w := run_szT (by simp [szT, hie, hsz]) w
    cases hxv with
    | cut _ _ _ _ _ _ _ g1 g2 g3 gx g4 g0 =>
      refine ⟨.pointer (some ⟨(ι r).1, (lo + m.toNat) * sz, none⟩), ?_, .ptr _ _⟩
      have e3 : (lo + m.toNat) * sz = lo * sz + m.toNat * sz := Nat.add_mul _ _ _
      simp [execOp, ho, he, e2, Instr.indexAt, run_underlying hu, asIntOf_int, hsize, hb, add_none, e3]
    | cnil => omega
end
end Go.Proofs.YtgdjkkapgghdbaaDoor

