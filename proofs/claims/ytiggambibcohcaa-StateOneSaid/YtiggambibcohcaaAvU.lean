/-
  Slices of parts of rows over abstract states: cut, copied, appended to, made. No program in sight.
-/
import Derived.Test.YtiggambibcohcaaAvX
import Derived.Lib.Overlaps
import Derived.Lib.AppendZerosOnto
import Derived.Laws.CopyRow
namespace Go.Proofs.Ytiggambibcohcaa
open Go.RowKit Go.Lib
set_option linter.unusedSimpArgs false
set_option linter.unusedVariables false

theorem run_copy_rowS {P : Program} (w : World) (dT sT ty elem : TypeId) (g o dLen dCap : Nat) (a : Addr) (sLen sCap sz : Nat) (cur : Array Value) (t : TypeId) (cs : List Value)
    (hu : P.underlying dT = some (.slice elem)) (hs : (P.info? elem).map (·.size) = some sz)
    (hg : w.heap[g]? = some (.cells cur t (0, 0))) (hn : cs.length = Nat.min sLen dLen * sz)
    (hsrc : ∀ j v, cs[j]? = some v → w.cell? (a.add j) = some v) (hfit : o + cs.length ≤ cur.size) (h1 : ∀ v ∈ cs, v.oneCell' = true) :
    (Builtin.copy_ #[dT, sT] ty #[.slice (some ⟨g, o, none⟩) dLen dCap, .slice (some a) sLen sCap]).run P w =
      .ok (goInt (Nat.min sLen dLen)) (w.setRow g (cur.toList.take o ++ cs ++ cur.toList.drop (o + cs.length)).toArray) := by
  have hl := run_loadCells_list (P := P) w a cs hsrc
  have hst := run_storeCells_at P g o t cs 0 cur w hg (by simpa using hfit) h1
  cases hq : P.info? elem with
  | none => simp [hq] at hs
  | some i =>
    have hi : i.size = sz := by simpa [hq] using hs
    simp [Builtin.copy_, run_underlying hu, Builtin.lenOf, Builtin.firstCells, sizeOf, typeInfo, hq, hi, ← hn, hl, hst]
theorem run_copy_none' {P : Program} (w : World) (dT sT ty elem : TypeId) (d : Option Addr) (dLen dCap sLen sCap : Nat) (hu : P.underlying dT = some (.slice elem)) (sz : Nat) (hs : (P.info? elem).map (·.size) = some sz) (a : Option Addr) (hn : Nat.min sLen dLen = 0) :
    (Builtin.copy_ #[dT, sT] ty #[.slice d dLen dCap, .slice a sLen sCap]).run P w = .ok (goInt 0) w := by
  cases hq : P.info? elem with
  | none => simp [hq] at hs
  | some i => cases a <;> cases d <;> simp [Builtin.copy_, run_underlying hu, Builtin.lenOf, Builtin.firstCells, sizeOf, typeInfo, hq, hn, storeCells, loadCells, loadCellsFrom]


section
variable {P : Program} {w : World}
/-- 'append(s[:n], make([]T, k)...)' beyond the capacity: a new row -/
theorem run_appz (t tn ty e : TypeId) (i : TypeInfo) (z : Value) (sz bytes : Nat) (kq kn : IntKind) (ht : P.underlying t = some (.slice e)) (htn : P.underlying tn = some (.int kn)) (hi : P.info? e = some i) (hz : i.zero = some z) (hsize : i.size = sz) (hby : i.bytes = bytes) (hzs : z.cells.size = sz) (hsz : 0 < sz) (hby0 : 0 < bytes)
    (B : Nat) (A : Option Addr) (n c : Nat) (xs : List Value) (hr : Sl w B sz A n c xs) (k : Nat) (h0 : 0 < k) (hg : c < n + k) (hbytes : (n + k) * bytes ≤ 140737488355328) :
    ∃ c' w' zs, (Builtin.append_ #[t, tn] ty #[.slice A n c, .int kq k]).run P w = .ok (.slice (some ⟨w.heap.size, 0, none⟩) (n + k) c') w' ∧ Ow w' w.heap.size e sz (some ⟨w.heap.size, 0, none⟩) (n + k) c' (xs ++ zs) ∧ zs.length = k * sz ∧ (z.cells.toList.all (·.oneCell') = true → ∀ u ∈ zs, u.oneCell' = true) ∧ Below w.heap.size w w' ∧ w'.heap.size = w.heap.size + 1 ∧ ((∀ u ∈ xs, u.oneCell' = true) → z.cells.toList.all (·.oneCell') = true → AllOne w' w.heap.size) := by
  have hold : (Builtin.firstCells i.size n (.slice A n c)).run P w.drew = .ok xs.toArray w.drew := by
    rcases A with _ | a
    · obtain ⟨rfl, rfl, rfl⟩ := hr.of_none
      exact run_firstCells_none _ _ _ _ _
    · rw [hsize]
      refine run_firstCells_some w.drew sz n a n c xs hr.len_ fun j v hj => ?_
      have hn : 0 < n := by
        rcases Nat.eq_zero_or_pos n with h | h
        · subst h
          have : xs = [] := List.eq_nil_of_length_eq_zero (by simpa using hr.len_)
          subst this; simp at hj
        · exact h
      obtain ⟨b, o, hA, _, hc⟩ := hr.cells hn
      injection hA with hA
      subst hA
      rw [add_none]
      exact hc j v hj
  have hb1 : k * bytes ≤ (n + k) * bytes := Nat.mul_le_mul_right _ (by omega)
  have hb2 : (n + k) * 1 ≤ (n + k) * bytes := Nat.mul_le_mul_left _ hby0
  have hrun := run_append_grow_zeros w t tn ty e i z kq kn ht htn hi hz A n c xs hold k h0 (by omega) hg (by omega) (by rw [hby]; omega) (by rw [hby]; exact growslice_fits hg hbytes)
  have hzl : (Builtin.zeroCells z.cells k).size = k * sz := by simp [Builtin.zeroCells, hzs]
  have hzl2 : ∀ q, (Builtin.zeroCells z.cells q).size = q * sz := by intro q; simp [Builtin.zeroCells, hzs]
  have hxl := hr.len_
  have hgc : n + k ≤ grownCap w (n + k) c e ∧ grownCap w (n + k) c e ≤ maxLen := ⟨grownCap_ge _ _ _ _, grownCap_le_maxLen _ _ _ _ (by unfold maxLen; omega)⟩
  refine ⟨_, _, (Builtin.zeroCells z.cells k).toList, hrun, ⟨?_, .inr ⟨w.heap.size, _, _, rfl, Nat.le_refl _, heap_alloc_new w.drew _, hgc.1, hgc.2, ?_, ?_⟩⟩, by simpa using hzl, zeroCells_one z.cells k, (Below.refl _ _).drew.alloc (Nat.le_refl _) _, by simp [World.size_alloc], fun hx1 hz1 cur' t' f' hh' u hu => ?_⟩
  rotate_right
  · have := heap_alloc_new w.drew (.cells (xs.toArray ++ Builtin.zeroCells z.cells k ++ Builtin.zeroCells z.cells (grownCap w (n + k) c e - (n + k))) e)
    rw [show w.drew.heap.size = w.heap.size from rfl] at this
    rw [this] at hh'
    cases hh'
    simp only [Array.toList_append, List.append_assoc, List.mem_append] at hu
    rcases hu with hu | hu | hu
    · exact hx1 u hu
    · exact zeroCells_one z.cells _ hz1 u hu
    · exact zeroCells_one z.cells _ hz1 u hu
  · simp [hzl, hxl, Nat.add_mul]
  · simp [hzl, hzl2, hxl, ← Nat.add_mul]
    congr 1; omega
  · rw [Array.toList_append, Array.toList_append, List.take_append_of_le_length (by simp [hzl, hxl, Nat.add_mul]), List.take_of_length_le (by simp [hzl, hxl, Nat.add_mul])]
end

/-! parts of rows -/
theorem RV.row_cut {S : Nat → Prop} {ι : Nat → Nat × Nat × Nat} {w : World} {v : Value} {r e sz n : Nat} (h : RV S ι w v (.row r e sz n)) : ∃ c, n ≤ c ∧ c ≤ maxLen ∧ RV S ι w v (.cut r e sz 0 n c true) := by
  cases h with
  | row _ _ _ _ c h1 h2 h3 h4 h0 =>
    refine ⟨c, h1, h2, ?_⟩
    have := RV.cut (S := S) (ι := ι) (w := w) r e sz 0 n c true h1 h2 (by rw [Nat.zero_add]; omega) (fun _ => by rw [Nat.zero_add]; exact h3) h4 h0
    rwa [Nat.zero_mul] at this
  | rnil A _ _ _ h => exact ⟨0, Nat.le_refl _, Nat.zero_le _, .cnil A r e sz 0 true fun _ _ => h⟩
theorem AV.le_cut (r e sz n m : Nat) : (AV.cut r e sz 0 n m true).le (.row r e sz n) := fun S ι w v h => by
  cases h with
  | cut _ _ _ _ _ _ _ h1 h2 h3 hx h4 h0 =>
    have hx' := hx rfl
    rw [Nat.zero_add] at hx'
    have := RV.row (S := S) (ι := ι) (w := w) r e sz n m h1 h2 hx' h4 h0
    rwa [Nat.zero_mul]
  | cnil A _ _ _ _ _ h => exact .rnil A r e sz (h rfl rfl)
def AV.part : AV → Option (Nat × Nat × Nat × Nat × Nat)
  | .row r e sz n => some (r, e, sz, 0, n)
  | .cut r e sz lo n _ _ => some (r, e, sz, lo, n)
  | _ => none
theorem RV.part {S : Nat → Prop} {ι : Nat → Nat × Nat × Nat} {w : World} {v : Value} {x : AV} {r e sz lo n : Nat} (h : RV S ι w v x) (hp : x.part = some (r, e, sz, lo, n)) :
    ∃ A c, v = .slice A n c ∧ n ≤ c ∧ c ≤ maxLen ∧ (0 < n → A = some ⟨(ι r).1, lo * sz, none⟩ ∧ (lo + n) * sz ≤ (ι r).2.1 ∧ (ι r).2.1 ≠ 0) := by
  cases h with
  | row _ _ _ _ c h1 h2 h3 h4 h0 =>
    cases hp
    refine ⟨_, c, rfl, h1, h2, fun _ => ⟨by rw [Nat.zero_mul], ?_, h0⟩⟩
    rw [Nat.zero_add, ← h3]; exact Nat.mul_le_mul_right _ h1
  | rnil A => cases hp; exact ⟨A, 0, rfl, Nat.le_refl _, Nat.zero_le _, fun h => absurd h (by omega)⟩
  | cut _ _ _ _ _ c _ h1 h2 h3 hx h4 h0 =>
    cases hp
    exact ⟨_, c, rfl, h1, h2, fun _ => ⟨rfl, Nat.le_trans (Nat.mul_le_mul_right _ (by omega)) h3, h0⟩⟩
  | cnil A => cases hp; exact ⟨A, 0, rfl, Nat.le_refl _, Nat.zero_le _, fun h => absurd h (by omega)⟩
  | _ => cases hp
/-- the elements of a slice, of a part too: how many, and the cells -/
def St.src2 (σ : St) (sz : Nat) : AV → Option (Nat × List AV)
  | .row r _ _ n => (hget σ.H r).map fun cs => (n, cs.take (n * sz))
  | .cut r _ _ lo n _ _ => (hget σ.H r).map fun cs => (n, (cs.drop (lo * sz)).take (n * sz))
  | .c (.sl _ _ n cs) => some (n, cs.map .c)
  | .c (.v (.slice none 0 0)) => some (0, [])
  | _ => none
def szOf : AV → Nat → Bool
  | .row _ _ s _, sz => s == sz
  | .cut _ _ s _ _ _ _, sz => s == sz
  | .c (.sl _ s _ _), sz => s == sz
  | _, _ => true
section
variable {E : Env} {ι : Nat → Nat × Nat × Nat} {σ : St} {a : Act} {w : World}
theorem Conc.src2 (h : Conc E ι σ a w) {v : Value} {x : AV} {n sz : Nat} {ds : List AV} (hv : RV (Sx E ι σ.H) ι w v x) (hs : σ.src2 sz x = some (n, ds)) (hso : szOf x sz = true) (hl : ds.length = n * sz) (h0 : 0 < sz) :
    ∃ A c us, v = .slice A n c ∧ Sl w w.heap.size sz A n c us ∧ RVs (Sx E ι σ.H) ι w us ds := by
  have empty : ∀ {A : Option Addr} {c : Nat}, n = 0 → 0 ≤ c → c ≤ maxLen → (A = none → c = 0) → Sl w w.heap.size sz A n c [] ∧ RVs (Sx E ι σ.H) ι w [] ds := fun {A c} e h1 h2 h3 => by
    subst e
    exact ⟨⟨h1, h2, h3, by simp, fun h => absurd h (by omega)⟩, by rw [Nat.zero_mul] at hl; exact hl.symm, fun j u x hu => by cases hu⟩
  by_cases hp : ∃ r e sz' lo, x.part = some (r, e, sz', lo, n)
  · obtain ⟨r, e, sz', lo, hp⟩ := hp
    obtain ⟨A, c, rfl, h1, h2, h3⟩ := hv.part hp
    have hn : A = none → c = 0 := by
      cases hv with
      | row => intro h; cases h
      | rnil => intro; rfl
      | cut => intro h; cases h
      | cnil => intro; rfl
      | c => cases hp
      | _ => cases hp
    rcases Nat.eq_zero_or_pos n with hn0 | hn0
    · obtain ⟨g1, g2⟩ := empty (A := A) (c := c) hn0 (Nat.zero_le _) h2 hn
      exact ⟨A, c, [], rfl, g1, g2⟩
    · obtain ⟨rfl, h4, h5⟩ := h3 hn0
      have key : ∃ cs, hget σ.H r = some cs ∧ sz' = sz ∧ ds = (cs.drop (lo * sz)).take (n * sz) := by
        cases x with
        | row r' e' s' n' =>
          simp only [AV.part, Option.some.injEq, Prod.mk.injEq] at hp
          obtain ⟨rfl, rfl, rfl, rfl, rfl⟩ := hp
          simp only [St.src2, Option.map_eq_some_iff, Prod.mk.injEq] at hs
          obtain ⟨cs, hr, _, rfl⟩ := hs
          exact ⟨cs, hr, by simpa [szOf] using hso, by rw [Nat.zero_mul, List.drop_zero]⟩
        | cut r' e' s' lo' n' c' ex =>
          simp only [AV.part, Option.some.injEq, Prod.mk.injEq] at hp
          obtain ⟨rfl, rfl, rfl, rfl, rfl⟩ := hp
          simp only [St.src2, Option.map_eq_some_iff, Prod.mk.injEq] at hs
          obtain ⟨cs, hr, _, rfl⟩ := hs
          exact ⟨cs, hr, by simpa [szOf] using hso, rfl⟩
        | _ => cases hp
      obtain ⟨cs, hr, rfl, rfl⟩ := key
      rcases h.heap.blk r cs hr with ⟨hz, _⟩ | ⟨cur, hh, hsz, hlc, hc, hone1⟩
      · exact absurd hz h5
      · have e1 : (lo + n) * sz' = lo * sz' + n * sz' := Nat.add_mul _ _ _
        refine ⟨_, c, (cur.toList.drop (lo * sz')).take (n * sz'), rfl, ⟨h1, h2, hn, by simp; omega, fun _ => ⟨(ι r).1, lo * sz', rfl, (Array.getElem?_eq_some_iff.1 hh).1, fun j u hu => ?_⟩⟩, ⟨by rw [hl]; simp; omega, fun j u x hu hx => ?_⟩⟩
        · rw [List.getElem?_take] at hu
          split at hu
          · rw [List.getElem?_drop] at hu
            simp only [World.cell?, hh]
            simpa using hu
          · cases hu
        · rw [List.getElem?_take] at hu hx
          split at hu
          · rename_i hj
            rw [if_pos hj] at hx
            rw [List.getElem?_drop] at hu hx
            exact hc _ u x (by simpa using hu) hx
          · cases hu
  · have hs' : σ.src x = some (n, ds) := by
      cases x with
      | row r e s n' =>
        simp only [St.src2, Option.map_eq_some_iff, Prod.mk.injEq] at hs
        obtain ⟨cs, hr, rfl, _⟩ := hs
        exact absurd ⟨r, e, s, 0, rfl⟩ hp
      | cut r e s lo n' c ex =>
        simp only [St.src2, Option.map_eq_some_iff, Prod.mk.injEq] at hs
        obtain ⟨cs, hr, rfl, _⟩ := hs
        exact absurd ⟨r, e, s, lo, rfl⟩ hp
      | c p =>
        cases p with
        | sl => exact hs
        | v z =>
          unfold St.src2 at hs
          split at hs
          · rename_i heq; cases heq
          · rename_i heq; cases heq
          · rename_i heq; cases heq
          · rename_i heq; cases heq; exact hs
          · cases hs
      | _ => cases hs
    exact h.src hv hs' hl h0
/-- cells that are laid over others -/
theorem spl_get {R : Value → AV → Prop} {cur us : List Value} {cs ys : List AV} {o : Nat} (hc : ∀ (j : Nat) (u : Value) (x : AV), cur[j]? = some u → cs[j]? = some x → R u x) (hy : us.length = ys.length) (hv : ∀ (j : Nat) (u : Value) (x : AV), us[j]? = some u → ys[j]? = some x → R u x)
    (h1 : o + us.length ≤ cur.length) (h2 : o ≤ cs.length) : ∀ (j : Nat) (u : Value) (x : AV), (cur.take o ++ us ++ cur.drop (o + us.length))[j]? = some u → (spl cs o ys)[j]? = some x → R u x := fun j u x hu hx => by
  unfold spl at hx
  simp only [List.getElem?_append, List.length_take, List.getElem?_take, List.getElem?_drop, List.length_append] at hu hx
  have e1 : min o cur.length = o := by omega
  have e2 : min o cs.length = o := by omega
  rw [e1] at hu
  rw [e2] at hx
  by_cases hj1 : j < o + ys.length
  · rw [if_pos (by omega)] at hu
    rw [if_pos (by omega)] at hx
    by_cases hj2 : j < o
    · rw [if_pos hj2, if_pos hj2] at hu hx
      exact hc j u x hu hx
    · rw [if_neg hj2] at hu hx
      exact hv _ u x hu hx
  · rw [if_neg (by omega)] at hu
    rw [if_neg (by omega)] at hx
    have e3 : o + us.length + (j - (o + us.length)) = j := by omega
    have e4 : o + ys.length + (j - (o + ys.length)) = j := by omega
    rw [e3] at hu
    rw [e4] at hx
    exact hc j u x hu hx
theorem spl_length {cs ys : List AV} {o : Nat} (h : o + ys.length ≤ cs.length) : (spl cs o ys).length = cs.length := by
  unfold spl; simp; omega
theorem spl_nil (cs : List AV) (o : Nat) : spl cs o [] = cs := by simp [spl]
/-- a store of many cells into a block that has a name -/
theorem Conc.lay (h : Conc E ι σ a w) {r o : Nat} {cs ys : List AV} {us : List Value} (hr : hget σ.H r = some cs) {cur : Array Value} (hh : w.heap[(ι r).1]? = some (.cells cur (ι r).2.2 (0, 0))) (hz : (ι r).2.1 ≠ 0) (hsz : cur.size = (ι r).2.1) (hl : cs.length ≤ cur.size)
    (hcur : ∀ (j : Nat) (u : Value) (x : AV), cur[j]? = some u → cs[j]? = some x → RV (Sx E ι σ.H) ι w u x ∧ u.oneCell' = true) (hone1 : ∀ u ∈ cur.toList, u.oneCell' = true) (hv : RVs (Sx E ι σ.H) ι w us ys) (hfit : o + ys.length ≤ cs.length) :
    Conc E ι ⟨σ.T, hput σ.H r (spl cs o ys)⟩ a (w.setRow (ι r).1 (cur.toList.take o ++ us ++ cur.toList.drop (o + us.length)).toArray) := by
  have hul := hv.1
  refine h.set hr hh hz (by simp; omega) (by rw [spl_length hfit]; simp; omega) (fun j u x hu hx => ?_) fun u hu => ?_
  rotate_left
  · simp only [List.append_assoc, List.mem_append] at hu
    rcases hu with hu | hu | hu
    · exact hone1 u (List.mem_of_mem_take hu)
    · exact hv.ones u hu
    · exact hone1 u (List.mem_of_mem_drop hu)
  simp only [List.getElem?_toArray] at hu
  exact spl_get (R := fun u x => RV (Sx E ι σ.H) ι w u x ∧ u.oneCell' = true) (fun j u x hu hx => hcur j u x (by simpa using hu) hx) hul hv.2 (by simp; omega) (by omega) j u x hu hx
theorem Conc.same (h : Conc E ι σ a w) {r : Nat} {cs : List AV} (hr : hget σ.H r = some cs) : Conc E ι ⟨σ.T, hput σ.H r cs⟩ a w :=
  h.le ⟨rfl, fun i => AV.le_refl _, fun q es hq => by
    have hq' : hget (hput σ.H r cs) q = some es := hq
    rw [hget_put] at hq'
    split at hq'
    · rename_i e; subst e; cases hq'; exact hr
    · exact hq'⟩
end
theorem take_rvs {S : Nat → Prop} {ι : Nat → Nat × Nat × Nat} {w : World} {us : List Value} {cs : List AV} (h : RVs S ι w us cs) (k : Nat) : RVs S ι w (us.take k) (cs.take k) :=
  ⟨by simp [h.1], fun j u x hu hx => by
    rw [List.getElem?_take] at hu hx
    split at hu
    · rename_i hj; rw [if_pos hj] at hx; exact h.2 j u x hu hx
    · cases hu⟩
section
variable {P : Program} {o : Oper} {σ : St} {K : St → Prop}
theorem slcT_spec {t e sz by_ : Nat} (h : slcT P t = some (e, sz, by_)) : P.underlying t = some (.slice e) ∧ ∃ i, P.info? e = some i ∧ i.size = sz ∧ i.bytes = by_ := by
  unfold slcT at h
  split at h
  · rename_i e' hu
    split at h
    · rename_i i hi
      simp only [Option.some.injEq, Prod.mk.injEq] at h
      obtain ⟨rfl, rfl, rfl⟩ := h
      exact ⟨hu, i, hi, rfl, rfl⟩
    · cases h
  · cases h
theorem opA_copy {t t' sz r e lo n m : Nat} {x y : Operand} {cs ds : List AV} (ho : o.op = .call { callee := .builtin .copy, args := #[x, y], argTypes := #[t, t'] }) (hx : okConst x = true) (hy : okConst y = true) (hs : (slcT P t).map (fun p => p.2.1) = some sz) (h0 : 0 < sz)
    (hp : (σ.ev x).part = some (r, e, sz, lo, n)) (hr : hget σ.H r = some cs) (hsrc : σ.src2 sz (σ.ev y) = some (m, ds)) (hso : szOf (σ.ev y) sz = true) (hl : ds.length = m * sz) (hfit : (lo + n) * sz ≤ cs.length)
    (hK : K ((St.mk σ.T (hput σ.H r (spl cs (lo * sz) (ds.take (min m n * sz))))).put o.dst (.c (.v (.int .i64 (min m n : Nat)))))) : OpA P o σ K := by
  intro E ι a w hc K' Q hK'
  obtain ⟨e0, by_, hs⟩ := slcT_of hs
  obtain ⟨A, c, hxv, g1, g2, g3⟩ := (hc.ev x hx).part hp
  obtain ⟨B, c', us, hyv, hsl, hus⟩ := hc.src2 (hc.ev y hy) hsrc hso hl h0
  obtain ⟨hu, i, hi, his, _⟩ := slcT_spec hs
  have hsz : (P.info? e0).map (·.size) = some sz := by rw [hi]; simp [his]
  have fin : ∀ {w' : World}, (Builtin.copy_ #[t, t'] o.type #[.slice A n c, .slice B m c']).run P w = .ok (goInt (Nat.min m n)) w' → Conc E ι ⟨σ.T, hput σ.H r (spl cs (lo * sz) (ds.take (min m n * sz)))⟩ a w' → o.wp P a w K' Q := fun {w'} hrun hcn => by
    unfold Oper.wp execOp
    simp only [ho, resolve, invoke, builtin, Sem.run_bind, Sem.run_pure, Result.andThen_ok, List.map_toArray, List.map_cons, List.map_nil, hxv, hyv, hrun]
    exact hK' _ _ _ _ hK (hcn.put o.dst (rv_const _ rfl))
  rcases Nat.eq_zero_or_pos (min m n) with hz | hz
  · have hrun0 := run_copy_none' (P := P) w t t' o.type e0 A n c m c' hu sz hsz B hz
    refine fin (w' := w) (by rw [show Nat.min m n = 0 from hz]; exact hrun0) ?_
    rw [hz, Nat.zero_mul, List.take_zero, spl_nil]
    exact hc.same hr
  · obtain ⟨rfl, g4, g5⟩ := g3 (by omega)
    obtain ⟨b, off, rfl, _, hcell⟩ := hsl.cells (by omega)
    rcases hc.heap.blk r cs hr with ⟨hz0, _⟩ | ⟨cur, hh, hcz, hlc, hcur, hone1⟩
    · exact absurd hz0 g5
    · have hul : us.length = m * sz := hsl.len_
      have hmm : min m n * sz ≤ m * sz := Nat.mul_le_mul_right _ (by omega)
      have hmn : min m n * sz ≤ n * sz := Nat.mul_le_mul_right _ (by omega)
      have e1 : (lo + n) * sz = lo * sz + n * sz := Nat.add_mul _ _ _
      have htl : (us.take (min m n * sz)).length = min m n * sz := by rw [List.length_take]; omega
      have hus' := take_rvs hus (min m n * sz)
      have hrun := run_copy_rowS (P := P) w t t' o.type e0 (ι r).1 (lo * sz) n c ⟨b, off, none⟩ m c' sz cur (ι r).2.2 (us.take (min m n * sz)) hu hsz hh htl (fun j v hv => by
        rw [add_none]
        rw [List.getElem?_take] at hv
        split at hv
        · exact hcell j v hv
        · cases hv) (by rw [htl]; omega) (RVs.one hus')
      exact fin hrun (hc.lay hr hh g5 hcz hlc hcur hone1 hus' (by rw [← hus'.1, htl]; omega))
theorem opF_copy {t t' sz r e lo n m : Nat} {rd : List Nat} {x y : Operand} {cs ds : List AV} (ho : o.op = .call { callee := .builtin .copy, args := #[x, y], argTypes := #[t, t'] }) (hx : okConst x = true) (hy : okConst y = true) (hs : (slcT P t).map (fun p => p.2.1) = some sz) (h0 : 0 < sz)
    (hp : (σ.ev x).part = some (r, e, sz, lo, n)) (hr : hget σ.H r = some cs) (hsrc : σ.src2 sz (σ.ev y) = some (m, ds)) (hso : szOf (σ.ev y) sz = true) (hl : ds.length = m * sz) (hfit : (lo + n) * sz ≤ cs.length) (hrd : r :: AV.rows (σ.ev y) = rd) :
    OpF P o σ.ev (hget σ.H) (.c (.v (.int .i64 (min m n : Nat)))) rd [(r, spl cs (lo * sz) (ds.take (min m n * sz)))] :=
  fun τ hA hQ => by
    have hA' : ∀ z ∈ [x, y], τ.ev z = σ.ev z := fun z hz => hA z (by rw [ho]; simpa [Op.operands, Call.operands] using hz)
    have ex := hA' x (by simp)
    have ey := hA' y (by simp)
    have hr' : hget τ.H r = some cs := by rw [hQ r (by rw [← hrd]; simp)]; exact hr
    have hq : ∀ q ∈ AV.rows (σ.ev y), hget τ.H q = hget σ.H q := fun q hq => hQ q (by rw [← hrd]; simp [hq])
    refine opA_copy ho hx hy hs h0 (by rw [ex]; exact hp) hr' (m := m) (ds := ds) ?_ (by rw [ey]; exact hso) hl hfit ?_
    · rw [ey, ← hsrc]
      unfold St.src2
      split
      · rename_i heq; rw [hq _ (by rw [heq]; simp [AV.rows])]
      · rename_i heq; rw [hq _ (by rw [heq]; simp [AV.rows])]
      · rfl
      · rfl
      · rfl
    · cases o.dst <;> rfl
end
end Go.Proofs.Ytiggambibcohcaa
