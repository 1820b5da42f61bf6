/-
  Parts of rows cut, appended to, made; functions that are handed rows and hand them back. No program in sight.
-/
import Derived.Test.YtiggambibcohcaaAvU
import Derived.Deep.OwnRows
namespace Go.Proofs.Ytiggambibcohcaa
open Go.RowKit Go.Lib
set_option linter.unusedSimpArgs false
set_option linter.unusedVariables false

section
variable {P : Program} {o : Oper} {σ : St} {K : St → Prop}
/-- bounds, as the model reckons them -/
theorem run_bounds {ev : Operand → AV} {ea : Operand → Value} {lo hi mx : Option Operand} {n c : Nat} {l h m : Int} {w : World}
    (bv : ∀ (op : Option Operand) (dflt : Nat) (q : Int), (op = lo ∨ op = hi ∨ op = mx) → bnd ev dflt op = some q → (op = none ∧ q = dflt) ∨ ∃ x k, op = some x ∧ ea x = .int k q)
    (hl : bnd ev 0 lo = some l) (hh : bnd ev n hi = some h) (hm : bnd ev c mx = some m) (hmi : mx.isSome = true → hi.isSome = true) (hb : 0 ≤ l ∧ l ≤ h ∧ h ≤ m ∧ m ≤ c) :
    (Instr.sliceBounds true n c (lo.map ea) (hi.map ea) (mx.map ea)).run P w = .ok (l.toNat, h.toNat, m.toNat) w := by
  obtain ⟨b1, b2, b3, b4⟩ := hb
  rcases bv mx c m (.inr (.inr rfl)) hm with ⟨rfl, rfl⟩ | ⟨xm, km, rfl, em⟩
  · rcases bv hi n h (.inr (.inl rfl)) hh with ⟨rfl, rfl⟩ | ⟨xh, kh, rfl, eh⟩
    · rcases bv lo 0 l (.inl rfl) hl with ⟨rfl, rfl⟩ | ⟨xl, kl, rfl, el⟩
      · simp [Instr.sliceBounds]
      · simp [Instr.sliceBounds, el, run_sliceBound (P := P) (m := l) (y := n) ⟨b1, by omega⟩]
    · have hbh := fun code => run_sliceBound (P := P) (k := kh) (m := h) (y := c) (code := code) ⟨by omega, by omega⟩ w
      rcases bv lo 0 l (.inl rfl) hl with ⟨rfl, rfl⟩ | ⟨xl, kl, rfl, el⟩
      · simp [Instr.sliceBounds, eh, hbh]
      · simp [Instr.sliceBounds, eh, el, hbh, run_sliceBound (P := P) (m := l) (y := h.toNat) ⟨b1, by omega⟩]
  · have hbm := fun code => run_sliceBound (P := P) (k := km) (m := m) (y := c) (code := code) ⟨by omega, by omega⟩ w
    rcases bv hi n h (.inr (.inl rfl)) hh with ⟨rfl, rfl⟩ | ⟨xh, kh, rfl, eh⟩
    · have := hmi rfl; cases this
    · have hbh := fun code => run_sliceBound (P := P) (k := kh) (m := h) (y := m.toNat) (code := code) ⟨by omega, by omega⟩ w
      rcases bv lo 0 l (.inl rfl) hl with ⟨rfl, rfl⟩ | ⟨xl, kl, rfl, el⟩
      · simp [Instr.sliceBounds, em, eh, hbm, hbh]
      · simp [Instr.sliceBounds, em, eh, el, hbm, hbh, run_sliceBound (P := P) (m := l) (y := h.toNat) ⟨b1, by omega⟩]
theorem Conc.bv {E : Env} {ι : Nat → Nat × Nat × Nat} {a : Act} {w : World} (hc : Conc E ι σ a w) {lo hi mx : Option Operand} (hlo : lo.toList.all okConst = true) (hhi : hi.toList.all okConst = true) (hmx : mx.toList.all okConst = true) :
    ∀ (op : Option Operand) (dflt : Nat) (q : Int), (op = lo ∨ op = hi ∨ op = mx) → bnd σ.ev dflt op = some q → (op = none ∧ q = dflt) ∨ ∃ x k, op = some x ∧ a.eval x = .int k q := fun op dflt q hop hq => by
  have hok : op.toList.all okConst = true := by rcases hop with rfl | rfl | rfl <;> assumption
  cases op with
  | none => simp [bnd] at hq; exact .inl ⟨rfl, hq.symm⟩
  | some x =>
    unfold bnd at hq
    simp only at hq
    split at hq
    · rename_i k m' hev
      cases hq
      have := hc.ev x (by simpa using hok)
      rw [hev] at this
      exact .inr ⟨x, k, rfl, this.v_inv.1⟩
    · cases hq
theorem opA_slice_cut {t e sz r lo0 n c : Nat} {ex : Bool} {x : Operand} {lo hi mx : Option Operand} {l h m : Int} (ho : o.op = .slice t x lo hi mx) (hx : okConst x = true) (hlo : lo.toList.all okConst = true) (hhi : hi.toList.all okConst = true) (hmx : mx.toList.all okConst = true) (hs : (slcT P t).map (fun p => p.2.1) = some sz)
    (h1 : σ.ev x = .cut r e sz lo0 n c ex) (hl : bnd σ.ev 0 lo = some l) (hh : bnd σ.ev n hi = some h) (hm : bnd σ.ev c mx = some m) (hmi : mx.isSome = true → hi.isSome = true) (hb : 0 ≤ l ∧ l ≤ h ∧ h ≤ m ∧ m ≤ c)
    (hK : K (σ.put o.dst (.cut r e sz (lo0 + l.toNat) (h.toNat - l.toNat) (m.toNat - l.toNat) (ex && !mx.isSome)))) : OpA P o σ K :=
  opA_val _ hK fun E ι a w hc => by
    have hxv := hc.ev x hx
    rw [h1] at hxv
    generalize he : a.eval x = v at hxv
    obtain ⟨e0, by_, hs⟩ := slcT_of hs
    obtain ⟨hu, i, hi', hsz, _⟩ := slcT_spec hs
    have hsize : (sizeOf e0).run P w = .ok sz w := run_szT (by simp [szT, hi', hsz]) w
    have hrunb := run_bounds (P := P) (w := w) (hc.bv hlo hhi hmx) hl hh hm hmi hb
    obtain ⟨b1, b2, b3, b4⟩ := hb
    have run : ∀ {A : Option Addr}, v = .slice A n c → (execOp a.eval o).run P w = .ok (.value (.slice (if m.toNat = l.toNat then A else A.map (·.add (l.toNat * sz))) (h.toNat - l.toNat) (m.toNat - l.toNat))) w := fun {A} hv => by
      subst hv
      simp only [execOp, ho, he, Instr.sliceAt, Sem.run_bind, run_underlying hu, Result.andThen_ok, Instr.slice, hrunb, hsize, Sem.run_pure]
    have mxn : mx = none → m = c := fun e => by subst e; simp [bnd] at hm; exact hm.symm
    cases hxv with
    | cut _ _ _ _ _ _ _ g1 g2 g3 gx g4 g0 =>
      refine ⟨_, run rfl, ?_⟩
      by_cases hml : m.toNat = l.toNat
      · rw [if_pos hml]
        have e1 : h.toNat - l.toNat = 0 := by omega
        have e2 : m.toNat - l.toNat = 0 := by omega
        rw [e1, e2]
        refine .cnil _ r e sz _ _ fun hex h0 => ?_
        simp only [Bool.and_eq_true, Bool.not_eq_true', Option.isSome_eq_false_iff, Option.isNone_iff_eq_none] at hex
        have := mxn hex.2
        have hq := gx hex.1
        rw [show lo0 + c = 0 by omega, Nat.zero_mul] at hq
        exact hq.symm
      · rw [if_neg hml]
        have e1 : (lo0 + l.toNat) * sz = lo0 * sz + l.toNat * sz := Nat.add_mul _ _ _
        have := RV.cut (S := Sx E ι σ.H) (ι := ι) (w := w) r e sz (lo0 + l.toNat) (h.toNat - l.toNat) (m.toNat - l.toNat) (ex && !mx.isSome) (by omega) (by omega)
          (Nat.le_trans (Nat.mul_le_mul_right _ (by omega)) g3) (fun hex => by
            simp only [Bool.and_eq_true, Bool.not_eq_true', Option.isSome_eq_false_iff, Option.isNone_iff_eq_none] at hex
            have := mxn hex.2
            rw [show lo0 + l.toNat + (m.toNat - l.toNat) = lo0 + c by omega]; exact gx hex.1) g4 g0
        rw [e1] at this
        simpa [add_none] using this
    | cnil A _ _ _ _ _ g =>
      refine ⟨_, run rfl, ?_⟩
      have e0 : l.toNat = 0 := by omega
      have e1 : h.toNat = 0 := by omega
      have e2 : m.toNat = 0 := by omega
      rw [e0, e1, e2]
      simp only [Nat.sub_self, if_true, Nat.add_zero]
      exact .cnil _ r e sz _ _ fun hex h0 => g (by simpa using (Bool.and_eq_true _ _ ▸ hex : _ ∧ _).1) h0
theorem opA_slice_row {t e sz r n : Nat} {x : Operand} {lo hi mx : Option Operand} {l h m : Int} (ho : o.op = .slice t x lo hi mx) (hx : okConst x = true) (hlo : lo.toList.all okConst = true) (hhi : hi.toList.all okConst = true) (hmx : mx.toList.all okConst = true) (hs : (slcT P t).map (fun p => p.2.1) = some sz)
    (h1 : σ.ev x = .row r e sz n) (hl : bnd σ.ev 0 lo = some l) (hh : bnd σ.ev n hi = some h) (hm : bnd σ.ev n mx = some m) (hmi : mx.isSome = true → hi.isSome = true) (hb : 0 ≤ l ∧ l ≤ h ∧ h ≤ m ∧ m ≤ n)
    (hK : ∀ q : Nat, h.toNat - l.toNat ≤ q → (mx.isSome = true → q = m.toNat - l.toNat) → K (σ.put o.dst (.cut r e sz l.toNat (h.toNat - l.toNat) q (!mx.isSome)))) : OpA P o σ K := by
  intro E ι a w hc K' Q hK'
  obtain ⟨c, hc1, hc2, hcv⟩ := (show RV (Sx E ι σ.H) ι w (a.eval x) (.row r e sz n) by rw [← h1]; exact hc.ev x hx).row_cut
  obtain ⟨b1, b2, b3, b4⟩ := hb
  obtain ⟨e0, by_, hs⟩ := slcT_of hs
  obtain ⟨hu, i, hi', hsz, _⟩ := slcT_spec hs
  have hsize : (sizeOf e0).run P w = .ok sz w := run_szT (by simp [szT, hi', hsz]) w
  obtain ⟨m', hm', hmm, hmn⟩ : ∃ m' : Int, bnd σ.ev c mx = some m' ∧ (h ≤ m' ∧ m' ≤ c) ∧ (mx.isSome = true → m' = m) := by
    cases mx with
    | none => exact ⟨c, rfl, ⟨by omega, by omega⟩, fun h => by cases h⟩
    | some y => exact ⟨m, hm, ⟨b3, by omega⟩, fun _ => rfl⟩
  have mxn : mx = none → m' = c := fun e => by subst e; simp [bnd] at hm'; exact hm'.symm
  have hrunb := run_bounds (P := P) (w := w) (hc.bv hlo hhi hmx) hl hh hm' hmi ⟨b1, b2, hmm.1, hmm.2⟩
  generalize he : a.eval x = v at hcv
  have run : ∀ {A : Option Addr}, v = .slice A n c → (execOp a.eval o).run P w = .ok (.value (.slice (if m'.toNat = l.toNat then A else A.map (·.add (l.toNat * sz))) (h.toNat - l.toNat) (m'.toNat - l.toNat))) w := fun {A} hv => by
    subst hv
    simp only [execOp, ho, he, Instr.sliceAt, Sem.run_bind, run_underlying hu, Result.andThen_ok, Instr.slice, hrunb, hsize, Sem.run_pure]
  have fin : ∀ {u : Value}, (execOp a.eval o).run P w = .ok (.value u) w → RV (Sx E ι σ.H) ι w u (.cut r e sz l.toNat (h.toNat - l.toNat) (m'.toNat - l.toNat) (!mx.isSome)) → o.wp P a w K' Q := fun {u} hr hv => by
    unfold Oper.wp
    rw [hr]
    exact hK' ι _ _ _ (hK (m'.toNat - l.toNat) (by omega) (fun h => by rw [hmn h])) (hc.put o.dst hv)
  cases hcv with
  | cut _ _ _ _ _ _ _ g1 g2 g3 gx g4 g0 =>
    have gx' := gx rfl
    refine fin (run rfl) ?_
    rw [Nat.zero_add] at g3 gx'
    by_cases hml : m'.toNat = l.toNat
    · rw [if_pos hml]
      have e1 : h.toNat - l.toNat = 0 := by omega
      have e2 : m'.toNat - l.toNat = 0 := by omega
      rw [e1, e2]
      refine .cnil _ r e sz _ _ fun hex h0 => ?_
      simp only [Bool.not_eq_true', Option.isSome_eq_false_iff, Option.isNone_iff_eq_none] at hex
      have := mxn hex
      rw [← gx', show c = 0 by omega, Nat.zero_mul]
    · rw [if_neg hml]
      have := RV.cut (S := Sx E ι σ.H) (ι := ι) (w := w) r e sz l.toNat (h.toNat - l.toNat) (m'.toNat - l.toNat) (!mx.isSome) (by omega) (by omega)
        (Nat.le_trans (Nat.mul_le_mul_right _ (by omega)) g3) (fun hex => by
          simp only [Bool.not_eq_true', Option.isSome_eq_false_iff, Option.isNone_iff_eq_none] at hex
          have := mxn hex
          rw [show l.toNat + (m'.toNat - l.toNat) = c by omega]; exact gx') g4 g0
      simpa [add_none] using this
  | cnil A _ _ _ _ _ g =>
    refine fin (run rfl) ?_
    have e0 : l.toNat = 0 := by omega
    have e1 : h.toNat = 0 := by omega
    have e2 : m'.toNat = 0 := by omega
    rw [e0, e1, e2]
    simp only [Nat.sub_self, if_true]
    exact .cnil _ r e sz _ _ fun hex h0 => g rfl rfl
theorem opA_len_part {t r e sz lo n : Nat} {x : Operand} (ho : o.op = .call { callee := .builtin .len, args := #[x], argTypes := #[t] }) (hx : okConst x = true) (hs : (slcT P t).isSome = true) (hn : (σ.ev x).part = some (r, e, sz, lo, n)) (hK : K (σ.put o.dst (.c (.v (.int .i64 n))))) : OpA P o σ K :=
  opA_val _ hK fun E ι a w h => by
    obtain ⟨A, c, hv, _⟩ := (h.ev x hx).part hn
    obtain ⟨p, hp⟩ := Option.isSome_iff_exists.1 hs
    obtain ⟨hu, _⟩ := slcT_spec (e := p.1) (sz := p.2.1) (by_ := p.2.2) hp
    exact ⟨.int .i64 n, by simp [execOp, ho, resolve, invoke, builtin, hv, Builtin.len_, run_underlying hu, goInt], rv_const _ rfl⟩
theorem opA_cap_cut {t r e sz lo n c : Nat} {ex : Bool} {x : Operand} (ho : o.op = .call { callee := .builtin .cap, args := #[x], argTypes := #[t] }) (hx : okConst x = true) (hs : (slcT P t).isSome = true) (hn : σ.ev x = .cut r e sz lo n c ex) (hK : K (σ.put o.dst (.c (.v (.int .i64 c))))) : OpA P o σ K :=
  opA_val _ hK fun E ι a w h => by
    have hxv := h.ev x hx
    rw [hn] at hxv
    obtain ⟨A, hv⟩ : ∃ A, a.eval x = .slice A n c := by
      generalize a.eval x = v at hxv
      cases hxv with
      | cut => exact ⟨_, rfl⟩
      | cnil => exact ⟨_, rfl⟩
    obtain ⟨p, hp⟩ := Option.isSome_iff_exists.1 hs
    obtain ⟨hu, _⟩ := slcT_spec (e := p.1) (sz := p.2.1) (by_ := p.2.2) hp
    exact ⟨.int .i64 c, by simp [execOp, ho, resolve, invoke, builtin, hv, Builtin.cap_, run_underlying hu, goInt], rv_const _ rfl⟩
theorem opA_index_cut {t r e sz lo n c : Nat} {ex : Bool} {x i : Operand} {k : IntKind} {m : Int} (ho : o.op = .indexAddr t x i) (hx : okConst x = true) (hi0 : okConst i = true) (h1 : σ.ev x = .cut r e sz lo n c ex) (hi : σ.ev i = .c (.v (.int k m))) (hs : (slcT P t).map (fun p => p.2.1) = some sz)
    (hb : 0 ≤ m ∧ m < n) (hK : K (σ.put o.dst (.ptr r ((lo + m.toNat) * sz)))) : OpA P o σ K :=
  opA_val _ hK fun E ι a w h => by
    have hxv := h.ev x hx
    have hiv := h.ev i hi0
    rw [h1] at hxv
    rw [hi] at hiv
    obtain ⟨e2, _⟩ := hiv.v_inv
    generalize he : a.eval x = v at hxv
    obtain ⟨e0, by_, hs⟩ := slcT_of hs
    obtain ⟨hu, ie, hie, hsz, _⟩ := slcT_spec hs
    have hsize : (sizeOf e0).run P w = .ok sz w := run_szT (by simp [szT, hie, hsz]) w
    cases hxv with
    | cut _ _ _ _ _ _ _ g1 g2 g3 gx g4 g0 =>
      refine ⟨.pointer (some ⟨(ι r).1, (lo + m.toNat) * sz, none⟩), ?_, .ptr _ _⟩
      have e3 : (lo + m.toNat) * sz = lo * sz + m.toNat * sz := Nat.add_mul _ _ _
      simp [execOp, ho, he, e2, Instr.indexAt, run_underlying hu, asIntOf_int, hsize, hb, add_none, e3]
    | cnil => omega
end
end Go.Proofs.Ytiggambibcohcaa
