/-
  Regions that draw their order: the operations reckoned in the text's order, each with what it reads and writes; a check that no two of them that may change places meet. No program in sight.
-/
import Derived.Test.YtgdjkkapgghdbaaDoorAvM
import Derived.Orders
import Derived.LoopN
namespace Go.Proofs.YtgdjkkapgghdbaaDoor
open Go.RowKit
set_option linter.unusedSimpArgs false
set_option linter.unusedVariables false

def setO (T : List AV) (dst : Option Tmp) (v : AV) : List AV := match dst with | some d => T.set d v | none => T
def St.eff (σ : St) (dst : Option Tmp) (v : AV) (wr : List (Nat × List AV)) : St := ⟨setO σ.T dst v, hputs σ.H wr⟩
def agree (o : Oper) (ev ev' : Operand → AV) : Prop := ∀ x ∈ o.op.operands.toList, ev' x = ev x
def OpF (P : Program) (o : Oper) (ev : Operand → AV) (hg : Nat → Option (List AV)) (v : AV) (rd : List Nat) (wr : List (Nat × List AV)) : Prop :=
  ∀ τ : St, agree o ev τ.ev → (∀ r ∈ rd, hget τ.H r = hg r) → OpA P o τ fun ρ => ρ = τ.eff o.dst v wr
theorem OpF.local {P : Program} {o : Oper} {ev ev' : Operand → AV} {hg hg' : Nat → Option (List AV)} {v : AV} {rd : List Nat} {wr : List (Nat × List AV)} (h : OpF P o ev hg v rd wr) (he : agree o ev ev') (hr : ∀ r ∈ rd, hg' r = hg r) : OpF P o ev' hg' v rd wr :=
  fun τ h1 h2 => h τ (fun x hx => (h1 x hx).trans (he x hx)) fun r hr' => (h2 r hr').trans (hr r hr')
def rdOf : AV → List Nat
  | .ptr r _ => [r]
  | .row r _ _ _ => [r]
  | .cut r _ _ _ _ _ _ => [r]
  | _ => []
structure Ef where
  v : AV
  rd : List Nat
  wr : List (Nat × List AV)
  nw : List Nat
def OpN (P : Program) (o : Oper) (ev : Operand → AV) (hg : Nat → Option (List AV)) (e : Ef) : Prop :=
  ∀ τ : St, agree o ev τ.ev → (∀ r ∈ e.rd, hget τ.H r = hg r) → (∀ d ∈ e.nw, τ.free d = true) → OpA P o τ fun ρ => ρ = τ.eff o.dst e.v e.wr
theorem OpF.toN {P : Program} {o : Oper} {ev : Operand → AV} {hg : Nat → Option (List AV)} {v : AV} {rd : List Nat} {wr : List (Nat × List AV)} (h : OpF P o ev hg v rd wr) : OpN P o ev hg ⟨v, rd, wr, []⟩ :=
  fun τ h1 h2 _ => h τ h1 h2
def Ef.names (d : Nat) (e : Ef) : Bool := AV.refs d e.v || e.wr.any fun p => p.1 == d || AV.refsL d p.2
def isNew (o : Oper) : Bool := match o.op with
  | .buildSlice _ _ _ => true
  | .alloc _ => true
  | .box _ _ => true
  | .call _ => true
  | _ => false
def newNames (l : List Oper) : List Nat := (l.filter isNew).filterMap (·.dst)
theorem refsL_set {d : Nat} {v : AV} (hv : AV.refs d v = false) : ∀ (T : List AV) (i : Nat), AV.refsL d T = false → AV.refsL d (T.set i v) = false
  | [], _, h => h
  | x :: T, 0, h => by
    simp only [List.set, AV.refsL, Bool.or_eq_false_iff] at h ⊢
    exact ⟨hv, h.2⟩
  | x :: T, i + 1, h => by
    simp only [List.set, AV.refsL, Bool.or_eq_false_iff] at h ⊢
    exact ⟨h.1, refsL_set hv T i h.2⟩
theorem freeH_put {d r : Nat} {cs : List AV} (hr : (r == d) = false) (hc : AV.refsL d cs = false) : ∀ (H : List (Nat × List AV)), freeH d H = true → freeH d (hput H r cs) = true
  | [], _ => by simp [hput, freeH, hc, bne, hr]
  | (k, ds) :: H, h => by
    simp only [freeH, Bool.and_eq_true, Bool.not_eq_true'] at h
    unfold hput
    split
    · simp [freeH, bne, hr, hc, h.2]
    · simp only [freeH, Bool.and_eq_true, Bool.not_eq_true']
      exact ⟨h.1, freeH_put hr hc H h.2⟩
theorem freeH_puts {d : Nat} (H : List (Nat × List AV)) (hH : freeH d H = true) : ∀ (wr : List (Nat × List AV)), (wr.any fun p => p.1 == d || AV.refsL d p.2) = false → freeH d (hputs H wr) = true
  | [], _ => hH
  | (k, cs) :: wr, h => by
    simp only [List.any_cons, Bool.or_eq_false_iff] at h
    exact freeH_put h.1.1 h.1.2 _ (freeH_puts H hH wr h.2)
theorem eff_free {σ : St} {d : Nat} {dst : Option Tmp} {e : Ef} (h : σ.free d = true) (hn : e.names d = false) : (σ.eff dst e.v e.wr).free d = true := by
  unfold St.free at h ⊢
  unfold Ef.names at hn
  simp only [Bool.and_eq_true, Bool.not_eq_true', Bool.or_eq_false_iff] at h hn ⊢
  refine ⟨?_, freeH_puts _ h.2 _ hn.2⟩
  show AV.refsL d (setO σ.T dst e.v) = false
  cases dst with
  | none => exact h.1
  | some t => exact refsL_set hn.1 _ _ h.1
def Ef.wn (e : Ef) : List Nat := e.wr.map (·.1)
def stL (ops : List Oper) (es : List Ef) (listed : Nat → Bool) : Nat → St → St
  | 0, σ => σ
  | k + 1, σ =>
    let τ := stL ops es listed k σ
    if listed k then match ops[k]?, es[k]? with
      | some o, some e => τ.eff o.dst e.v e.wr
      | _, _ => τ
    else τ
def maskOf (acc : List Nat) (es : List Edge) (s : Nat) : Nat := es.foldl (fun s e => if Region.binds .any e then s ||| 2 ^ e.on ||| acc.getD e.on 0 else s) s
def masks : List Oper → List Nat → List Nat
  | [], acc => acc
  | o :: l, acc => masks l (acc ++ [maskOf acc o.after.toList 0])
def pre (l : List Oper) (i j : Nat) : Bool := ((masks l []).getD i 0).testBit j
def apartE (ops : Array Oper) (x y : Oper) (ex ey : Ef) : Bool :=
  x.apart ops y && ey.wn.all (fun r => !ex.rd.contains r && !ex.wn.contains r) && ex.wn.all (fun r => !ey.rd.contains r)
def freshOK (l : List Oper) (es : List Ef) : Bool :=
  (List.range l.length).all fun i => match es[i]? with
    | some e => e.nw.all fun d => (newNames l).contains d && (List.range l.length).all fun j => j == i || pre l j i || match es[j]? with
      | some ej => !ej.names d
      | none => false
    | none => true
def drawOK (l : List Oper) (es : List Ef) : Bool :=
  freshOK l es && (List.range l.length).all fun i => (List.range i).all fun j => pre l i j || match l[i]?, l[j]?, es[i]?, es[j]? with
    | some x, some y, some ex, some ey => apartE l.toArray x y ex ey
    | _, _, _, _ => false

/-! whatever the order -/
theorem setO_length (T : List AV) (dst : Option Tmp) (v : AV) : (setO T dst v).length = T.length := by cases dst <;> simp [setO]
theorem setO_ne {T : List AV} {dst : Option Tmp} {v : AV} {t : Nat} (h : dst ≠ some t) : (setO T dst v).getD t .any = T.getD t .any := by
  cases dst with
  | none => rfl
  | some d =>
    have hne : d ≠ t := fun e => h (by rw [e])
    show (T.set d v).getD t .any = _
    rw [List.getD_eq_getElem?_getD, List.getD_eq_getElem?_getD, List.getElem?_set_ne hne]
theorem setO_same {T T' : List AV} {t : Nat} {v : AV} (hl : T.length = T'.length) : (setO T (some t) v).getD t .any = (setO T' (some t) v).getD t .any := by
  show (T.set t v).getD t .any = (T'.set t v).getD t .any
  rw [List.getD_eq_getElem?_getD, List.getD_eq_getElem?_getD]
  by_cases h : t < T.length
  · rw [List.getElem?_set_self (by omega), List.getElem?_set_self (by omega)]
  · rw [List.getElem?_eq_none (by simp; omega), List.getElem?_eq_none (by simp; omega)]
section
variable {l : List Oper} {es : List Ef} {σ : St}
theorem stL_length (L : Nat → Bool) : ∀ k, (stL l es L k σ).T.length = σ.T.length
  | 0 => rfl
  | k + 1 => by
    unfold stL
    simp only
    split
    · split
      · show (setO _ _ _).length = _
        rw [setO_length, stL_length L k]
      · exact stL_length L k
    · exact stL_length L k
theorem stL_T {L1 L2 : Nat → Bool} {t : Nat} : ∀ k, (∀ j o, j < k → L1 j ≠ L2 j → l[j]? = some o → o.dst ≠ some t) → (stL l es L1 k σ).T.getD t .any = (stL l es L2 k σ).T.getD t .any
  | 0, _ => rfl
  | k + 1, h => by
    have ih := stL_T k fun j o hj hne ho => h j o (by omega) hne ho
    unfold stL
    simp only
    cases h1 : L1 k <;> cases h2 : L2 k
    · simpa using ih
    · simp only [Bool.false_eq_true, if_false, if_true]
      split
      · rename_i o e ho he
        rw [ih]
        exact (setO_ne (h k o (by omega) (by rw [h1, h2]; simp) ho)).symm
      · exact ih
    · simp only [Bool.false_eq_true, if_false, if_true]
      split
      · rename_i o e ho he
        rw [← ih]
        exact setO_ne (h k o (by omega) (by rw [h1, h2]; simp) ho)
      · exact ih
    · simp only [if_true]
      split
      · rename_i o e ho he
        by_cases hd : o.dst = some t
        · show (setO _ o.dst _).getD t .any = (setO _ o.dst _).getD t .any
          rw [hd]
          exact setO_same (by rw [stL_length, stL_length])
        · show (setO _ o.dst _).getD t .any = (setO _ o.dst _).getD t .any
          rw [setO_ne hd, setO_ne hd]; exact ih
      · exact ih
theorem hget_wn {wr : List (Nat × List AV)} {r : Nat} (h : r ∉ wr.map (·.1)) : hget wr r = none := by
  cases hg : hget wr r with
  | none => rfl
  | some cs => exact absurd (hget_keys hg) h
theorem stL_H {L1 L2 : Nat → Bool} {r : Nat} : ∀ k, (∀ j e, j < k → L1 j ≠ L2 j → es[j]? = some e → r ∉ e.wn) → hget (stL l es L1 k σ).H r = hget (stL l es L2 k σ).H r
  | 0, _ => rfl
  | k + 1, h => by
    have ih := stL_H k fun j o hj hne ho => h j o (by omega) hne ho
    unfold stL
    simp only
    cases h1 : L1 k <;> cases h2 : L2 k
    · simpa using ih
    · simp only [Bool.false_eq_true, if_false, if_true]
      split
      · rename_i o e ho he
        show _ = hget (hputs _ e.wr) r
        rw [hget_puts, hget_wn (h k e (by omega) (by rw [h1, h2]; simp) he)]
        exact ih
      · exact ih
    · simp only [Bool.false_eq_true, if_false, if_true]
      split
      · rename_i o e ho he
        show hget (hputs _ e.wr) r = _
        rw [hget_puts, hget_wn (h k e (by omega) (by rw [h1, h2]; simp) he)]
        exact ih
      · exact ih
    · simp only [if_true]
      split
      · rename_i o e ho he
        show hget (hputs _ e.wr) r = hget (hputs _ e.wr) r
        rw [hget_puts, hget_puts, ih]
      · exact ih
theorem stL_free {d : Nat} {L : Nat → Bool} (h0 : σ.free d = true) : ∀ k, (∀ j e, j < k → L j = true → es[j]? = some e → e.names d = false) → (stL l es L k σ).free d = true
  | 0, _ => h0
  | k + 1, h => by
    have ih := stL_free h0 k fun j e hj => h j e (by omega)
    unfold stL
    simp only
    split
    · rename_i hL
      split
      · rename_i o e ho he
        exact eff_free ih (h k e (by omega) hL he)
      · exact ih
    · exact ih
theorem stL_all (i : Nat) : ∀ k, i ≤ k → stL l es (fun j => decide (j < i)) k σ = stL l es (fun _ => true) i σ := by
  have low : ∀ k, k ≤ i → stL l es (fun j => decide (j < i)) k σ = stL l es (fun _ => true) k σ := by
    intro k
    induction k with
    | zero => exact fun _ => rfl
    | succ k ih =>
      intro hk
      unfold stL
      simp only [ih (by omega), show k < i by omega, decide_true, if_true]
  intro k
  induction k with
  | zero =>
    intro hi
    obtain rfl : i = 0 := by omega
    rfl
  | succ k ih =>
    intro hi
    by_cases hk : i ≤ k
    · rw [← ih hk]
      conv => lhs; unfold stL
      simp only [show ¬ k < i by omega, decide_false, Bool.false_eq_true, if_false]
    · obtain rfl : i = k + 1 := by omega
      exact low _ (Nat.le_refl _)
end
theorem Conc.drawn {E : Env} {ι : Nat → Nat × Nat × Nat} {σ : St} {a : Act} {w : World} (h : Conc E ι σ a w) (n : Nat) : Conc E ι σ a { w with drawn := n } := by
  have hR : ∀ {v : Value} {x : AV}, RV (Sx E ι σ.H) ι w v x → RV (Sx E ι σ.H) ι { w with drawn := n } v x := fun hv => RV.mono (S' := Sx E ι σ.H) (w := w) (w' := { w with drawn := n }) (fun b hb _ => ⟨hb, rfl⟩) hv fun _ _ => rfl
  refine ⟨h.defers.mono fun b hb _ => ⟨hb, rfl⟩, h.size, fun i => hR (h.tmp i), ⟨fun r cs hr => ?_, h.heap.inj⟩, ⟨h.keep.os, h.keep.tape, h.keep.output, h.keep.size, h.keep.block, h.keep.mine⟩⟩
  rcases h.heap.blk r cs hr with h0 | ⟨cur, hh, hs, hl, hc, hone1⟩
  · exact .inl h0
  · exact .inr ⟨cur, hh, hs, hl, fun j u x hu hx => ⟨hR (hc j u x hu hx).1, (hc j u x hu hx).2⟩, hone1⟩
def StepD (P : Program) (l : List Oper) (σ : St) (o : Oper) (e : Ef) : Prop :=
  (o.guard = none ∧ OpN P o σ.ev (hget σ.H) e) ∨
  ∃ j want d b, o.guard = some (j, want) ∧ (l[j]?).bind (·.dst) = some d ∧ (σ.T.getD d .any = .c (.v (.bool b)) ∧ ((b = want ∧ OpN P o σ.ev (hget σ.H) e) ∨ (b = !want ∧ e = ⟨.tup [], [], [], []⟩)) ∨ σ.T.getD d .any = .tup [] ∧ e = ⟨.tup [], [], [], []⟩)
def edgesBack (l : List Oper) : Bool := (List.range l.length).all fun i => match l[i]? with | some o => o.after.all fun e => !Region.binds .any e || decide (e.on < i) | none => true
def closedL (l : List Oper) (L : Nat → Bool) : Prop := ∀ j o, l[j]? = some o → L j = true → ∀ e ∈ o.after, Region.binds .any e = true → L e.on = true
theorem maskOf_bit (acc : List Nat) (m : Nat) : ∀ (es : List Edge) (s : Nat), (maskOf acc es s).testBit m = true → s.testBit m = true ∨ ∃ e ∈ es, Region.binds .any e = true ∧ (m = e.on ∨ (acc.getD e.on 0).testBit m = true)
  | [], s, h => .inl h
  | e :: es, s, h => by
    unfold maskOf at h
    rw [List.foldl_cons] at h
    rcases maskOf_bit acc m es _ h with h | ⟨e', h1, h2, h3⟩
    · split at h
      · rename_i hb
        rw [Nat.testBit_or, Nat.testBit_or, Nat.testBit_two_pow] at h
        simp only [Bool.or_eq_true, decide_eq_true_eq] at h
        rcases h with (h | h) | h
        · exact .inl h
        · exact .inr ⟨e, by simp, hb, .inl h.symm⟩
        · exact .inr ⟨e, by simp, hb, .inr h⟩
      · exact .inl h
    · exact .inr ⟨e', by simp [h1], h2, h3⟩
theorem masks_listed {L : Nat → Bool} : ∀ (l2 l1 : List Oper) (acc : List Nat), acc.length = l1.length → closedL (l1 ++ l2) L → (∀ i, i < acc.length → (∀ o, (l1 ++ l2)[i]? = some o → ∀ e ∈ o.after, Region.binds .any e = true → L e.on = true) → ∀ m, (acc.getD i 0).testBit m = true → L m = true) →
    ∀ i, (∀ o, (l1 ++ l2)[i]? = some o → ∀ e ∈ o.after, Region.binds .any e = true → L e.on = true) → ∀ m, ((masks l2 acc).getD i 0).testBit m = true → L m = true
  | [], l1, acc, hl, hc, h, i, hi, m, hm => by
    unfold masks at hm
    rcases Nat.lt_or_ge i acc.length with hlt | hge
    · exact h i hlt hi m hm
    · rw [List.getD_eq_getElem?_getD, List.getElem?_eq_none hge] at hm
      simp at hm
  | o :: l2, l1, acc, hl, hc, h, i, hi, m, hm => by
    unfold masks at hm
    have e : l1 ++ o :: l2 = (l1 ++ [o]) ++ l2 := by simp
    rw [e] at hc h hi
    refine masks_listed l2 (l1 ++ [o]) _ (by simp [hl]) hc (fun k hk hke q hq => ?_) i hi m hm
    rcases Nat.lt_or_ge k acc.length with hlt | hge
    · refine h k hlt hke q ?_
      rwa [List.getD_eq_getElem?_getD, List.getElem?_append_left hlt, ← List.getD_eq_getElem?_getD] at hq
    · obtain rfl : k = acc.length := by simp at hk; omega
      rw [List.getD_eq_getElem?_getD, List.getElem?_append_right (Nat.le_refl _), Nat.sub_self] at hq
      simp only [List.getElem?_cons_zero, Option.getD_some] at hq
      have ho : ((l1 ++ [o]) ++ l2)[acc.length]? = some o := by rw [hl]; simp
      rcases maskOf_bit acc q _ 0 hq with hq | ⟨ed, h1, h2, h3⟩
      · simp at hq
      · have hL := hke o ho ed (by simpa using h1) h2
        rcases h3 with rfl | h3
        · exact hL
        · rcases Nat.lt_or_ge ed.on acc.length with hlt | hge
          · exact h ed.on hlt (fun o' ho' e' he' hb' => hc ed.on o' ho' hL e' he' hb') q h3
          · rw [List.getD_eq_getElem?_getD, List.getElem?_eq_none hge] at h3
            simp at h3
theorem pre_listed {l : List Oper} {L : Nat → Bool} (hc : closedL l L) (i : Nat) (hi : ∀ o, l[i]? = some o → ∀ e ∈ o.after, Region.binds .any e = true → L e.on = true) (m : Nat) (hm : pre l i m = true) : L m = true :=
  masks_listed l [] [] rfl hc (fun i h => by simp at h) i hi m hm
def cntL (L : Nat → Bool) : Nat → Nat
  | 0 => 0
  | k + 1 => cntL L k + if L k then 0 else 1
theorem cntL_set {L L' : Nat → Bool} {i : Nat} (hi : L i = false) (hi' : L' i = true) (hne : ∀ j, j ≠ i → L' j = L j) : ∀ k, (i < k → cntL L' k + 1 = cntL L k) ∧ (k ≤ i → cntL L' k = cntL L k)
  | 0 => ⟨fun h => by omega, fun _ => rfl⟩
  | k + 1 => by
    obtain ⟨h1, h2⟩ := cntL_set hi hi' hne k
    unfold cntL
    by_cases hk : k = i
    · subst hk
      rw [hi, hi']
      exact ⟨fun _ => by rw [h2 (Nat.le_refl _)]; simp, fun h => by omega⟩
    · rw [hne k hk]
      exact ⟨fun h => by have := h1 (by omega); omega, fun h => by rw [h2 (by omega)]⟩
theorem cntL_zero {L : Nat → Bool} : ∀ k, cntL L k = 0 → ∀ j, j < k → L j = true
  | k + 1, h, j, hj => by
    unfold cntL at h
    by_cases hk : j = k
    · subst hk
      cases hL : L j with
      | true => rfl
      | false => rw [hL] at h; simp at h
    · exact cntL_zero k (by omega) j (by omega)
def drawOp (P : Program) (ops : Array Oper) (Q : Exit → Act → World → Prop) (i : Nat) (K : Act → World → Prop) (a : Act) (w : World) : Prop :=
  match ops[i]? with
  | none => K a w
  | some o => if Region.wanted o (yielded ops a.tmps) then o.wp P a w K Q else K (a.put o.dst undef) w
def drawAny (P : Program) (ops : Array Oper) (Q : Exit → Act → World → Prop) : Nat → Array Bool → Act → World → Prop
  | 0, listed, a, w => Region.ready .any ops listed = [] ∧ Q .normal a w
  | fuel + 1, listed, a, w => (Region.ready .any ops listed = [] → Q .normal a w) ∧ ∀ i ∈ Region.ready .any ops listed, drawOp P ops Q i (drawAny P ops Q fuel (listed.setIfInBounds i true)) a w
theorem drawAny_wp {P : Program} {ops : Array Oper} {Q : Exit → Act → World → Prop} : ∀ (fuel : Nat) (listed : Array Bool) (a : Act) (w : World), drawAny P ops Q fuel listed a w → wpAny P .any ops Q fuel listed a w
  | 0, _, _, _, h => h
  | fuel + 1, listed, a, w, h => ⟨h.1, fun i hi => by
    have h2 := h.2 i hi
    unfold drawOp at h2
    unfold wpOp
    split
    · rename_i e; simp only [e] at h2; exact drawAny_wp fuel _ _ _ h2
    · rename_i o e
      simp only [e] at h2
      split at h2
      · rename_i hw; rw [if_pos hw]; exact .inl (Oper.wp_mono (fun a w h => drawAny_wp fuel _ a w h) h2)
      · rename_i hw; rw [if_neg hw]; exact drawAny_wp fuel _ _ _ h2⟩
theorem region_draw_any {P : Program} {l : List Oper} {es : List Ef} {σ0 : St} {Φ : Exit → St → Prop} (hm : P.follows .mixedOrders = true) (hlen : es.length = l.length) (hok : drawOK l es = true) (hback : edgesBack l = true) (hnew : ∀ d ∈ newNames l, σ0.free d = true)
    (steps : ∀ i o e, l[i]? = some o → es[i]? = some e → StepD P l (stL l es (fun _ => true) i σ0) o e) (hΦ : Φ .normal (stL l es (fun _ => true) l.length σ0)) : ∀ (E : Env) (ι : Nat → Nat × Nat × Nat) (a : Act) (w : World), Conc E ι σ0 a w → drawAny P l.toArray (fun ex a' w' => ∃ ι' σ', Conc E ι' σ' a' w' ∧ Φ ex σ') l.toArray.size (Array.replicate l.toArray.size false) a { w with drawn := w.drawn + 1 } := by
  intro E ι a w hc
  have hd0 := hc.drawn (w.drawn + 1)
  generalize ({ w with drawn := w.drawn + 1 } : World) = w0 at hd0
  -- pairs
  have pair : ∀ i j x y ex ey, j < i → l[i]? = some x → l[j]? = some y → es[i]? = some ex → es[j]? = some ey → pre l i j = true ∨ apartE l.toArray x y ex ey = true := fun i j x y ex ey hji hx hy hex hey => by
    have hi := (List.getElem?_eq_some_iff.1 hx).1
    have hok2 := hok
    unfold drawOK at hok2
    rw [Bool.and_eq_true] at hok2
    have h1 := List.all_eq_true.1 hok2.2 i (by simpa using hi)
    have h2 := List.all_eq_true.1 h1 j (by simpa using hji)
    simp only [hx, hy, hex, hey, Bool.or_eq_true] at h2
    exact h2
  have ef : ∀ i x, l[i]? = some x → ∃ e, es[i]? = some e := fun i x hx => ⟨es[i]'(by rw [hlen]; exact (List.getElem?_eq_some_iff.1 hx).1), List.getElem?_eq_getElem _⟩
  have key : ∀ (fuel : Nat) (listed : Array Bool) (a : Act) (w : World) (ι : Nat → Nat × Nat × Nat), listed.size = l.length → closedL l (fun j => listed.getD j false) → cntL (fun j => listed.getD j false) l.length ≤ fuel →
      Conc E ι (stL l es (fun j => listed.getD j false) l.length σ0) a w → drawAny P l.toArray (fun ex a' w' => ∃ ι' σ', Conc E ι' σ' a' w' ∧ Φ ex σ') fuel listed a w := by
    intro fuel
    have done : ∀ (listed : Array Bool) (a : Act) (w : World) (ι : Nat → Nat × Nat × Nat), (∀ j, j < l.length → listed.getD j false = true) → Conc E ι (stL l es (fun j => listed.getD j false) l.length σ0) a w → ∃ ι' σ', Conc E ι' σ' a w ∧ Φ .normal σ' := fun listed a w ι hall hc => by
      refine ⟨ι, _, hc.le (τ := stL l es (fun _ => true) l.length σ0) ⟨by rw [stL_length, stL_length], fun t => AV.le_of ?_, fun r cs hr => ?_⟩, hΦ⟩
      · exact stL_T _ fun j o hj hne _ => absurd (hall j hj) (by simpa using hne)
      · rw [← hr]; exact stL_H _ fun j e hj hne _ => absurd (hall j hj) (by simpa using hne)
    have hready : ∀ (listed : Array Bool) (i : Nat), listed.size = l.length → i ∈ Region.ready .any l.toArray listed → ∃ o, l[i]? = some o ∧ listed.getD i false = false ∧ ∀ e ∈ o.after, Region.binds .any e = true → listed.getD e.on false = true := fun listed i hsz hi => by
      unfold Region.ready at hi
      rw [List.mem_filter] at hi
      obtain ⟨h1, h2⟩ := hi
      have hin : i < l.length := by simpa using h1
      have ho : l[i]? = some l[i] := List.getElem?_eq_getElem hin
      simp only [Bool.and_eq_true, Bool.not_eq_true', List.getElem?_toArray, ho, Option.map_some, Option.getD_some, Array.all_eq_true_iff_forall_mem] at h2
      refine ⟨_, ho, ?_, fun e he hb => ?_⟩
      · have := h2.1
        simp only [Array.getD, hsz, hin, dif_pos] at this ⊢
        exact this
      · have := h2.2 e he
        simpa [hb] using this
    induction fuel with
    | zero =>
      intro listed a w ι hsz hcl hcnt hc
      have hall := cntL_zero (L := fun j => listed.getD j false) l.length (by omega)
      refine ⟨?_, done listed a w ι hall hc⟩
      refine List.eq_nil_iff_forall_not_mem.2 fun i hi => ?_
      obtain ⟨o, ho, hu, _⟩ := hready listed i hsz hi
      have := hall i (List.getElem?_eq_some_iff.1 ho).1
      rw [hu] at this; cases this
    | succ fuel ih =>
      intro listed a w ι hsz hcl hcnt hc
      refine ⟨fun hnil => done listed a w ι (fun j hj => ?_) hc, fun i hi => ?_⟩
      · -- the first that is not listed would be ready
        refine Classical.byContradiction fun hn => ?_
        have hex : ∃ j, j < l.length ∧ listed.getD j false = false := ⟨j, hj, by simpa using hn⟩
        have key2 : ∀ m, (∃ j, j < m ∧ j < l.length ∧ listed.getD j false = false) → ∃ j, j < l.length ∧ listed.getD j false = false ∧ ∀ k, k < j → listed.getD k false = true := by
          intro m
          induction m with
          | zero => rintro ⟨j, hj, _⟩; omega
          | succ m ihm =>
            rintro ⟨j, hj, hjl, hju⟩
            by_cases hlow : ∃ k, k < m ∧ k < l.length ∧ listed.getD k false = false
            · exact ihm hlow
            · refine ⟨j, hjl, hju, fun k hk => Classical.byContradiction fun hku => hlow ⟨k, by omega, by omega, by simpa using hku⟩⟩
        obtain ⟨j, hjl, hju, hlow⟩ := key2 l.length (by obtain ⟨j, h1, h2⟩ := hex; exact ⟨j, h1, h1, h2⟩)
        have ho : l[j]? = some l[j] := List.getElem?_eq_getElem hjl
        have hb := List.all_eq_true.1 hback j (by simpa using hjl)
        simp only [ho, Array.all_eq_true_iff_forall_mem, Bool.or_eq_true, Bool.not_eq_true', decide_eq_true_eq] at hb
        have hmem : j ∈ Region.ready .any l.toArray listed := by
          unfold Region.ready
          rw [List.mem_filter]
          refine ⟨by simpa using hjl, ?_⟩
          simp only [Bool.and_eq_true, Bool.not_eq_true', List.getElem?_toArray, ho, Option.map_some, Option.getD_some, Array.all_eq_true_iff_forall_mem]
          refine ⟨?_, fun e he => ?_⟩
          · simp only [Array.getD, hsz, hjl, dif_pos] at hju ⊢
            exact hju
          · rcases hb e he with h | h
            · simp [h]
            · simp [hlow e.on h]
        rw [hnil] at hmem; cases hmem
      · obtain ⟨o, ho, hu, hpre⟩ := hready listed i hsz hi
        obtain ⟨e, he⟩ := ef i o ho
        have hil := (List.getElem?_eq_some_iff.1 ho).1
        -- those that differ from the text's order do not meet it
        have hdiff : ∀ j x ex, j < l.length → l[j]? = some x → es[j]? = some ex → (listed.getD j false) ≠ decide (j < i) → x.dst.toList.all (fun d => !(o.looksAt l.toArray).contains d) = true ∧ (∀ r ∈ e.rd, r ∉ ex.wn) := fun j x ex hj hx hex hne => by
          rcases Nat.lt_trichotomy j i with hji | hji | hji
          · have hun : listed.getD j false = false := by
              cases h : listed.getD j false with
              | false => rfl
              | true => rw [h] at hne; simp [hji] at hne
            rcases pair i j o x e ex hji ho hx he hex with hr | hr
            · have := pre_listed hcl i (fun o' ho' => by rw [ho] at ho'; cases ho'; exact hpre) j hr
              rw [hun] at this; cases this
            · unfold apartE at hr
              simp only [Bool.and_eq_true] at hr
              obtain ⟨_, _, h3⟩ := Oper.apart_spec hr.1.1
              refine ⟨?_, fun r hr' hrw => ?_⟩
              · cases hd : x.dst with
                | none => rfl
                | some d => simpa using h3 d hd
              · have := List.all_eq_true.1 hr.1.2 r hrw
                simp at this
                exact this.1 hr'
          · subst hji
            rw [hu] at hne; simp at hne
          · have hli : listed.getD j false = true := by
              cases h : listed.getD j false with
              | true => rfl
              | false => rw [h] at hne; simp at hne; omega
            rcases pair j i x o ex e hji hx ho hex he with hr | hr
            · have := pre_listed hcl j (fun o' ho' => hcl j o' ho' hli) i hr
              rw [hu] at this; cases this
            · unfold apartE at hr
              simp only [Bool.and_eq_true] at hr
              obtain ⟨h1, _, _⟩ := Oper.apart_spec hr.1.1
              refine ⟨?_, fun r hr' hrw => ?_⟩
              · cases hd : x.dst with
                | none => rfl
                | some d => simpa using h1 d hd
              · have := List.all_eq_true.1 hr.2 r hrw
                simp at this
                exact this hr'
        have htext := stL_all (l := l) (es := es) (σ := σ0) i l.length (by omega)
        have hT : ∀ t ∈ o.looksAt l.toArray, (stL l es (fun j => listed.getD j false) l.length σ0).T.getD t .any = (stL l es (fun _ => true) i σ0).T.getD t .any := fun t ht => by
          rw [← htext]
          refine stL_T _ fun j x hj hne hx hd => ?_
          obtain ⟨ex, hex⟩ := ef j x hx
          have := (hdiff j x ex hj hx hex hne).1
          rw [hd] at this
          simp at this
          exact this ht
        have hH : ∀ r ∈ e.rd, hget (stL l es (fun j => listed.getD j false) l.length σ0).H r = hget (stL l es (fun _ => true) i σ0).H r := fun r hr => by
          rw [← htext]
          refine stL_H _ fun j ex hj hne hex hrw => ?_
          have hx : l[j]? = some l[j] := List.getElem?_eq_getElem hj
          exact (hdiff j _ ex hj hx hex hne).2 r hr hrw
        have hN : ∀ d ∈ e.nw, (stL l es (fun j => listed.getD j false) l.length σ0).free d = true := fun d hd => by
          have hf := hok
          unfold drawOK at hf
          rw [Bool.and_eq_true] at hf
          have h1 := List.all_eq_true.1 hf.1 i (by simpa using hil)
          simp only [he] at h1
          have h2 := List.all_eq_true.1 h1 d hd
          rw [Bool.and_eq_true] at h2
          refine stL_free (hnew d (by simpa using h2.1)) _ fun j ej hj hLj hej => ?_
          have h3 := List.all_eq_true.1 h2.2 j (by simpa using hj)
          simp only [hej, Bool.or_eq_true, Bool.not_eq_true'] at h3
          rcases h3 with (h3 | h3) | h3
          · have : j = i := by simpa using h3
            subst this
            rw [hu] at hLj; cases hLj
          · have hjo : l[j]? = some l[j] := List.getElem?_eq_getElem hj
            have := pre_listed hcl j (fun o' ho' => hcl j o' ho' hLj) i h3
            rw [hu] at this; cases this
          · exact h3
        generalize hτ : stL l es (fun j => listed.getD j false) l.length σ0 = τ at *
        have hag : agree o (stL l es (fun _ => true) i σ0).ev τ.ev := fun x hx => by
          cases x with
          | tmp t => exact hT t (List.mem_append_left _ (List.mem_filterMap.2 ⟨.tmp t, hx, rfl⟩))
          | _ => rfl
        -- behind it
        have hset : ∀ j, j ≠ i → (listed.setIfInBounds i true).getD j false = listed.getD j false := fun j hj => by
          simp [Array.getD_eq_getD_getElem?, Array.getElem?_setIfInBounds_ne (Ne.symm hj)]
        have hset' : (listed.setIfInBounds i true).getD i false = true := by
          simp [Array.getD, hsz, hil]
        have hcl' : closedL l (fun j => (listed.setIfInBounds i true).getD j false) := fun j x hx hLj ed hed hb => by
          by_cases hj : j = i
          · subst hj
            rw [ho] at hx; cases hx
            have := hpre ed hed hb
            show (listed.setIfInBounds j true).getD ed.on false = true
            by_cases h : ed.on = j
            · rw [h]; exact hset'
            · rw [hset _ h]; exact this
          · have hLj' : listed.getD j false = true := by rw [← hset j hj]; exact hLj
            have := hcl j x hx hLj' ed hed hb
            show (listed.setIfInBounds i true).getD ed.on false = true
            by_cases h : ed.on = i
            · rw [h]; exact hset'
            · rw [hset _ h]; exact this
        have hcnt' : cntL (fun j => (listed.setIfInBounds i true).getD j false) l.length ≤ fuel := by
          have := (cntL_set (L := fun j => listed.getD j false) (L' := fun j => (listed.setIfInBounds i true).getD j false) hu hset' hset l.length).1 hil
          omega
        have hlater : ∀ j x ex, i < j → l[j]? = some x → es[j]? = some ex → (listed.setIfInBounds i true).getD j false = true → x.dst ≠ o.dst ∨ x.dst = none := fun j x ex hij hx hex hLj => by
          rw [hset j (by omega)] at hLj
          rcases pair j i x o ex e hij hx ho hex he with hr | hr
          · have := pre_listed hcl j (fun o' ho' => hcl j o' ho' hLj) i hr
            rw [hu] at this; cases this
          · unfold apartE at hr
            simp only [Bool.and_eq_true] at hr
            obtain ⟨_, h2, _⟩ := Oper.apart_spec hr.1.1
            cases hd : x.dst with
            | none => exact .inr rfl
            | some d => exact .inl fun e => h2 d hd e.symm
        have hlaterH : ∀ j x ex, i < j → l[j]? = some x → es[j]? = some ex → (listed.setIfInBounds i true).getD j false = true → ∀ r ∈ e.wn, r ∉ ex.wn := fun j x ex hij hx hex hLj r hr hrw => by
          rw [hset j (by omega)] at hLj
          rcases pair j i x o ex e hij hx ho hex he with hr' | hr'
          · have := pre_listed hcl j (fun o' ho' => hcl j o' ho' hLj) i hr'
            rw [hu] at this; cases this
          · unfold apartE at hr'
            simp only [Bool.and_eq_true] at hr'
            have := List.all_eq_true.1 hr'.1.2 r hr
            simp at this
            exact this.2 hrw
        have hle : (τ.eff o.dst e.v e.wr).le (stL l es (fun j => (listed.setIfInBounds i true).getD j false) l.length σ0) := by
          have hstep : stL l es (fun j => (listed.setIfInBounds i true).getD j false) (i + 1) σ0 = (stL l es (fun j => (listed.setIfInBounds i true).getD j false) i σ0).eff o.dst e.v e.wr := by
            conv => lhs; unfold stL
            simp only [hset', if_true, ho, he]
          refine ⟨by show (setO τ.T o.dst e.v).length = _; rw [setO_length, ← hτ, stL_length, stL_length], fun t => AV.le_of ?_, fun r cs hr => ?_⟩
          · by_cases hd : o.dst = some t
            · have h1 : ∀ k, i + 1 ≤ k → k ≤ l.length → (stL l es (fun j => (listed.setIfInBounds i true).getD j false) k σ0).T.getD t .any = (stL l es (fun j => (listed.setIfInBounds i true).getD j false) (i + 1) σ0).T.getD t .any := by
                intro k
                induction k with
                | zero => intro h; omega
                | succ k ihk =>
                  intro h1 h2
                  by_cases hk : k = i
                  · subst hk; rfl
                  · rw [← ihk (by omega) (by omega)]
                    conv => lhs; unfold stL
                    simp only
                    split
                    · rename_i hLk
                      split
                      · rename_i x ex hx hex
                        refine setO_ne ?_
                        rcases hlater k x ex (by omega) hx hex hLk with h | h
                        · rwa [hd] at h
                        · rw [h]; simp
                      · rfl
                    · rfl
              rw [h1 l.length (by omega) (Nat.le_refl _), hstep]
              show (setO τ.T o.dst e.v).getD t .any = (setO _ o.dst e.v).getD t .any
              rw [hd]
              exact setO_same (by rw [← hτ, stL_length, stL_length])
            · show (setO τ.T o.dst e.v).getD t .any = _
              rw [setO_ne hd, ← hτ]
              refine stL_T _ fun j x hj hne hx hdx => ?_
              by_cases hji : j = i
              · subst hji; rw [ho] at hx; cases hx; exact hd hdx
              · exact hne (hset j hji).symm
          · show hget (hputs τ.H e.wr) r = some cs
            rw [← hr]
            by_cases hrw : r ∈ e.wn
            · have h1 : ∀ k, i + 1 ≤ k → k ≤ l.length → hget (stL l es (fun j => (listed.setIfInBounds i true).getD j false) k σ0).H r = hget (stL l es (fun j => (listed.setIfInBounds i true).getD j false) (i + 1) σ0).H r := by
                intro k
                induction k with
                | zero => intro h; omega
                | succ k ihk =>
                  intro h1 h2
                  by_cases hk : k = i
                  · subst hk; rfl
                  · rw [← ihk (by omega) (by omega)]
                    conv => lhs; unfold stL
                    simp only
                    split
                    · rename_i hLk
                      split
                      · rename_i x ex hx hex
                        show hget (hputs _ ex.wr) r = _
                        rw [hget_puts, hget_wn (hlaterH k x ex (by omega) hx hex hLk r hrw)]
                      · rfl
                    · rfl
              rw [h1 l.length (by omega) (Nat.le_refl _), hstep]
              show hget (hputs τ.H e.wr) r = hget (hputs _ e.wr) r
              rw [hget_puts, hget_puts]
              obtain ⟨ds, hds⟩ := hget_of_key hrw
              rw [hds]
            · rw [hget_puts, hget_wn hrw, ← hτ]
              refine stL_H _ fun j ex hj hne hex hrx => ?_
              by_cases hji : j = i
              · subst hji; rw [he] at hex; cases hex; exact hrw hrx
              · exact hne (hset j hji).symm
        have hnext : ∀ ι' a' w', Conc E ι' (τ.eff o.dst e.v e.wr) a' w' → drawAny P l.toArray (fun ex a' w' => ∃ ι' σ', Conc E ι' σ' a' w' ∧ Φ ex σ') fuel (listed.setIfInBounds i true) a' w' := fun ι' a' w' hc' =>
          ih _ a' w' ι' (by simpa using hsz) hcl' hcnt' (hc'.le hle)
        unfold drawOp
        simp only [List.getElem?_toArray, ho]
        have run : OpN P o (stL l es (fun _ => true) i σ0).ev (hget (stL l es (fun _ => true) i σ0).H) e → o.wp P a w (drawAny P l.toArray (fun ex a' w' => ∃ ι' σ', Conc E ι' σ' a' w' ∧ Φ ex σ') fuel (listed.setIfInBounds i true)) (fun ex a' w' => ∃ ι' σ', Conc E ι' σ' a' w' ∧ Φ ex σ') := fun hF =>
          hF τ hag hH hN E ι a w hc _ _ fun ι' σ' a' w' hk hc' => hnext ι' a' w' (by rw [← hk]; exact hc')
        rcases steps i o e ho he with ⟨hg, hF⟩ | ⟨j, want, d, b, hg, hd, ⟨hb, hcase⟩ | ⟨hb, rfl⟩⟩
        · have hw : Region.wanted o (yielded l.toArray a.tmps) = true := by simp [Region.wanted, hg]
          rw [if_pos hw]
          exact run hF
        · have hdl : d ∈ o.looksAt l.toArray := List.mem_append_right _ (by rw [hg]; simp [List.getElem?_toArray, hd])
          have hb' : τ.T.getD d .any = .c (.v (.bool b)) := by rw [hT d hdl]; exact hb
          have hv := hc.tmp d
          rw [hb'] at hv
          obtain ⟨ev, _⟩ := hv.v_inv
          have hlt : d < a.tmps.size := by
            rw [hc.size]
            rcases Nat.lt_or_ge d τ.T.length with h | h
            · exact h
            · rw [List.getD_eq_getElem?_getD, List.getElem?_eq_none h] at hb'; cases hb'
          have hy : yielded l.toArray a.tmps j = some b := by
            unfold yielded
            rw [List.getElem?_toArray, hd]
            simp only [Option.bind_some]
            have : a.tmps[d]? = some (.bool b) := by
              rw [Array.getElem?_eq_getElem hlt]
              simp only [Array.getD, hlt, dif_pos] at ev
              simpa using ev
            rw [this]
          have hw : Region.wanted o (yielded l.toArray a.tmps) = (some b == some want) := by
            unfold Region.wanted
            rw [hg]
            simp only [hy]
          rw [hw]
          rcases hcase with ⟨rfl, hF⟩ | ⟨rfl, rfl⟩
          · simp only [beq_self_eq_true, if_true]
            exact run hF
          · have : (some (!want) == some want) = false := by cases want <;> rfl
            simp only [this, Bool.false_eq_true, if_false]
            refine hnext ι _ w ?_
            have := hc.put o.dst (v := undef) (x := .tup []) .undef
            cases hdst : o.dst with
            | none => rw [hdst] at this; exact this
            | some d' => rw [hdst] at this; exact this
        · have hdl : d ∈ o.looksAt l.toArray := List.mem_append_right _ (by rw [hg]; simp [List.getElem?_toArray, hd])
          have hb' : τ.T.getD d .any = .tup [] := by rw [hT d hdl]; exact hb
          have hv := hc.tmp d
          rw [hb'] at hv
          have ev := hv.undef_inv
          have hy : yielded l.toArray a.tmps j = none := by
            unfold yielded
            rw [List.getElem?_toArray, hd]
            simp only [Option.bind_some]
            simp only [Array.getD_eq_getD_getElem?] at ev
            cases hh : a.tmps[d]? with
            | none => rfl
            | some u => rw [hh] at ev; simp only [Option.getD_some] at ev; rw [ev]; rfl
          have hw : Region.wanted o (yielded l.toArray a.tmps) = false := by
            unfold Region.wanted
            rw [hg]
            simp only [hy]
            rfl
          rw [hw]
          simp only [Bool.false_eq_true, if_false]
          refine hnext ι _ w ?_
          have := hc.put o.dst (v := undef) (x := .tup []) .undef
          cases hdst : o.dst with
          | none => rw [hdst] at this; exact this
          | some d' => rw [hdst] at this; exact this
  have hempty : ∀ k, stL l es (fun j => (Array.replicate l.length false).getD j false) k σ0 = σ0 := by
    intro k
    induction k with
    | zero => rfl
    | succ k ih =>
      unfold stL
      have : (Array.replicate l.length false).getD k false = false := by
        simp [Array.getD_eq_getD_getElem?, Array.getElem?_replicate]
        split <;> rfl
      simp only [this, Bool.false_eq_true, if_false, ih]
  have hsz : l.toArray.size = l.length := by simp
  rw [hsz]
  refine key l.length _ a w0 ι (by simp) (fun j o ho hL => ?_) ?_ (by rw [hempty]; exact hd0)
  · exfalso
    have : (Array.replicate l.length false).getD j false = false := by
      simp [Array.getD_eq_getD_getElem?, Array.getElem?_replicate]
      split <;> rfl
    simp only [this] at hL; cases hL
  · have : ∀ k, cntL (fun j => (Array.replicate l.length false).getD j false) k ≤ k := by
      intro k
      induction k with
      | zero => exact Nat.le_refl _
      | succ k ih => unfold cntL; split <;> omega
    exact this _

theorem region_draw {P : Program} {id : Nat} {l : List Oper} {es : List Ef} {σ0 : St} {Φ : Exit → St → Prop} (hm : P.follows .mixedOrders = true) (hlen : es.length = l.length) (hok : drawOK l es = true) (hback : edgesBack l = true) (hnew : ∀ d ∈ newNames l, σ0.free d = true)
    (steps : ∀ i o e, l[i]? = some o → es[i]? = some e → StepD P l (stL l es (fun _ => true) i σ0) o e) (hΦ : Φ .normal (stL l es (fun _ => true) l.length σ0)) : AW P (.region id l.toArray true) σ0 Φ :=
  fun E ι a w hc => wp_region_any hm (drawAny_wp _ _ _ _ (region_draw_any hm hlen hok hback hnew steps hΦ E ι a w hc))
def evD (P : Program) (l0 : List Oper) : List Oper → St → List Ef → (St → Prop) → Prop
  | [], σ, acc, K => drawOK l0 acc.reverse = true ∧ K σ
  | o :: rest, σ, acc, K => ∃ e, StepD P l0 σ o e ∧ evD P l0 rest (σ.eff o.dst e.v e.wr) (e :: acc) K
theorem evD_spec {P : Program} {l0 : List Oper} {σ0 : St} {K : St → Prop} : ∀ (rest : List Oper) (σ : St) (acc : List Ef) (k : Nat), rest = l0.drop k → acc.length = k → k ≤ l0.length →
    (∀ es : List Ef, (∀ i, i < k → es[i]? = acc.reverse[i]?) → stL l0 es (fun _ => true) k σ0 = σ) → evD P l0 rest σ acc K →
    ∃ es : List Ef, es.length = l0.length ∧ (∀ i, i < k → es[i]? = acc.reverse[i]?) ∧ drawOK l0 es = true ∧ (∀ i o e, k ≤ i → l0[i]? = some o → es[i]? = some e → StepD P l0 (stL l0 es (fun _ => true) i σ0) o e) ∧ K (stL l0 es (fun _ => true) l0.length σ0)
  | [], σ, acc, k, hr, ha, hk, hσ, h => by
    have hkl : k = l0.length := by
      have := congrArg List.length hr
      simp at this; omega
    subst hkl
    refine ⟨acc.reverse, by simp [ha], fun _ _ => rfl, h.1, fun i o e hi ho => ?_, ?_⟩
    · have := (List.getElem?_eq_some_iff.1 ho).1; omega
    · rw [hσ acc.reverse fun _ _ => rfl]; exact h.2
  | o :: rest, σ, acc, k, hr, ha, hk, hσ, h => by
    obtain ⟨e, hstep, hrest⟩ := h
    have ho : l0[k]? = some o := by
      have := congrArg (·[0]?) hr
      simpa using this.symm
    have hklt := (List.getElem?_eq_some_iff.1 ho).1
    have hrest' : rest = l0.drop (k + 1) := by
      have := congrArg List.tail hr
      simpa using this
    obtain ⟨es, h1, h2, h3, h4, h5⟩ := evD_spec (σ0 := σ0) rest (σ.eff o.dst e.v e.wr) (e :: acc) (k + 1) hrest' (by simp [ha]) (by omega) (fun es hes => by
      have hpre : stL l0 es (fun _ => true) k σ0 = σ := hσ es fun i hi => by
        rw [hes i (by omega), List.reverse_cons, List.getElem?_append_left (by simp; omega)]
      have hek : es[k]? = some e := by
        rw [hes k (by omega), List.reverse_cons, List.getElem?_append_right (by simp; omega)]
        simp [ha]
      conv => lhs; unfold stL
      simp only [if_true, ho, hek, hpre]) hrest
    have hpre : ∀ i, i < k → es[i]? = acc.reverse[i]? := fun i hi => by
      rw [h2 i (by omega), List.reverse_cons, List.getElem?_append_left (by simp; omega)]
    refine ⟨es, h1, hpre, h3, fun i o' e' hi ho' he' => ?_, h5⟩
    by_cases hik : i = k
    · subst hik
      rw [ho] at ho'; cases ho'
      have hek : es[i]? = some e := by
        rw [h2 i (by omega), List.reverse_cons, List.getElem?_append_right (by simp; omega)]
        simp [ha]
      rw [hek] at he'; cases he'
      rw [hσ es hpre]; exact hstep
    · exact h4 i o' e' (by omega) ho' he'
section
variable {P : Program} {l0 rest : List Oper} {o : Oper} {σ : St} {acc : List Ef} {K : St → Prop} {Φ : Exit → St → Prop}
theorem evC_draw {id : Nat} (hm : P.follows .mixedOrders = true) (hback : edgesBack l0 = true) (hnew : (newNames l0).all (fun d => σ.free d) = true) (h : ∀ R : St → Prop, (∀ σ', Φ .normal σ' → R σ') → evD P l0 l0 σ [] R) : evC P (.region id l0.toArray true) σ Φ := by
  obtain ⟨es, h1, _, h3, h4, h5⟩ := evD_spec (P := P) (l0 := l0) (σ0 := σ) l0 σ [] 0 rfl rfl (Nat.zero_le _) (fun _ _ => rfl) (h _ fun _ h => h)
  exact region_draw hm h1 h3 hback (fun d hd => List.all_eq_true.1 hnew d hd) (fun i o e ho he => h4 i o e (Nat.zero_le _) ho he) h5
theorem evD_nil (hok : drawOK l0 acc.reverse = true) (h : K σ) : evD P l0 [] σ acc K := ⟨hok, h⟩
def rdE (op : Op) (ev : Operand → AV) : List Nat :=
  match op with
  | .load _ x => rdOf (ev x)
  | .store _ p _ => rdOf (ev p)
  | .call c => c.args.toList.flatMap fun x => rdOf (ev x)
  | _ => []
theorem eff_rd (τ : St) (d : Nat) (v : AV) : St.mk (τ.T.set d v) τ.H = τ.eff (some d) v [] := rfl
theorem eff_st (τ : St) (r : Nat) (cs : List AV) : St.mk τ.T (hput τ.H r cs) = τ.eff none .any [(r, cs)] := rfl
theorem evD_one {v : AV} {rd : List Nat} {wr : List (Nat × List AV)} (hg : o.guard = none) (hF : OpF P o σ.ev (hget σ.H) v rd wr) (h : evD P l0 rest (σ.eff o.dst v wr) (⟨v, rd, wr, []⟩ :: acc) K) : evD P l0 (o :: rest) σ acc K :=
  ⟨⟨v, rd, wr, []⟩, .inl ⟨hg, hF.toN⟩, h⟩
theorem evD_grd {j d : Nat} {want b : Bool} {v : AV} {rd : List Nat} {wr : List (Nat × List AV)} (hg : o.guard = some (j, want)) (hd : (l0[j]?).bind (·.dst) = some d) (hb : σ.T.getD d .any = .c (.v (.bool b))) (hbw : b = want) (hF : OpF P o σ.ev (hget σ.H) v rd wr)
    (h : evD P l0 rest (σ.eff o.dst v wr) (⟨v, rd, wr, []⟩ :: acc) K) : evD P l0 (o :: rest) σ acc K :=
  ⟨⟨v, rd, wr, []⟩, .inr ⟨j, want, d, b, hg, hd, .inl ⟨hb, .inl ⟨hbw, hF.toN⟩⟩⟩, h⟩
theorem evD_skip {j d : Nat} {want b : Bool} (hg : o.guard = some (j, want)) (hd : (l0[j]?).bind (·.dst) = some d) (hb : σ.T.getD d .any = .c (.v (.bool b))) (hbw : b = !want)
    (h : evD P l0 rest (σ.eff o.dst (.tup []) []) (⟨.tup [], [], [], []⟩ :: acc) K) : evD P l0 (o :: rest) σ acc K :=
  ⟨⟨.tup [], [], [], []⟩, .inr ⟨j, want, d, b, hg, hd, .inl ⟨hb, .inr ⟨hbw, rfl⟩⟩⟩, h⟩
theorem evD_unmet {j d : Nat} {want : Bool} (hg : o.guard = some (j, want)) (hd : (l0[j]?).bind (·.dst) = some d) (hb : σ.T.getD d .any = .tup [])
    (h : evD P l0 rest (σ.eff o.dst (.tup []) []) (⟨.tup [], [], [], []⟩ :: acc) K) : evD P l0 (o :: rest) σ acc K :=
  ⟨⟨.tup [], [], [], []⟩, .inr ⟨j, want, d, false, hg, hd, .inr ⟨hb, rfl⟩⟩, h⟩
theorem eff_nw (τ : St) (d : Nat) (v : AV) (cs : List AV) : (St.mk τ.T (hput τ.H d cs)).put (some d) v = τ.eff (some d) v [(d, cs)] := rfl
theorem evD_new {v : AV} {rd : List Nat} {d : Nat} {cs : List AV} (hg : o.guard = none) (hds : o.dst = some d) (hrd : [] = rd) (hF : ∀ τ : St, agree o σ.ev τ.ev → (∀ r ∈ rd, hget τ.H r = hget σ.H r) → τ.free d = true → evO P o τ fun ρ => ρ = τ.eff o.dst v [(d, cs)]) (h : evD P l0 rest (σ.eff o.dst v [(d, cs)]) (⟨v, rd, [(d, cs)], [d]⟩ :: acc) K) : evD P l0 (o :: rest) σ acc K :=
  ⟨⟨v, rd, [(d, cs)], [d]⟩, .inl ⟨hg, fun τ h1 h2 h3 => evO_sound (hF τ h1 h2 (h3 d (by simp)))⟩, h⟩
theorem evD_grd_new {j d' : Nat} {want b : Bool} {v : AV} {rd : List Nat} {d : Nat} {cs : List AV} (hg : o.guard = some (j, want)) (hd : (l0[j]?).bind (·.dst) = some d') (hb : σ.T.getD d' .any = .c (.v (.bool b))) (hbw : b = want) (hds : o.dst = some d) (hrd : [] = rd) (hF : ∀ τ : St, agree o σ.ev τ.ev → (∀ r ∈ rd, hget τ.H r = hget σ.H r) → τ.free d = true → evO P o τ fun ρ => ρ = τ.eff o.dst v [(d, cs)]) (h : evD P l0 rest (σ.eff o.dst v [(d, cs)]) (⟨v, rd, [(d, cs)], [d]⟩ :: acc) K) : evD P l0 (o :: rest) σ acc K :=
  ⟨⟨v, rd, [(d, cs)], [d]⟩, .inr ⟨j, want, d', b, hg, hd, .inl ⟨hb, .inl ⟨hbw, fun τ h1 h2 h3 => evO_sound (hF τ h1 h2 (h3 d (by simp)))⟩⟩⟩, h⟩
theorem evD_bool {d : Nat} {b : Bool} (l1 : List Oper) (hb : σ.T.getD d .any = .c (.v (.bool b))) (h1 : b = true → evD P l0 l1 (σ.put (some d) (.c (.v (.bool true)))) acc K) (h2 : b = false → evD P l0 l1 (σ.put (some d) (.c (.v (.bool false)))) acc K) : evD P l0 l1 σ acc K := by
  cases b with
  | true => have := h1 rfl; rwa [put_same hb (by simp)] at this
  | false => have := h2 rfl; rwa [put_same hb (by simp)] at this
theorem evD_split {j d : Nat} {want b : Bool} (hg : o.guard = some (j, want)) (hd : (l0[j]?).bind (·.dst) = some d) (hb : σ.T.getD d .any = .c (.v (.bool b))) (h1 : b = true → evD P l0 (o :: rest) (σ.eff (some d) (.c (.v (.bool true))) []) acc K) (h2 : b = false → evD P l0 (o :: rest) (σ.eff (some d) (.c (.v (.bool false))) []) acc K) : evD P l0 (o :: rest) σ acc K :=
  evD_bool _ hb h1 h2
theorem opF_call0 {f : FuncId} {fn : Func} {cargs : List AV} {res : AV} {fo : Operand} {cas : Array Operand} {ts : Array TypeId} {caps : List AV} (hF : Fn P f cargs [] res []) (ho : o.op = .call { callee := .value fo, args := cas, argTypes := ts }) (hfo : okConst fo = true) (has : cas.toList.all okConst = true) (hf : σ.ev fo = .fn f caps)
    (hfn : P.funcs[f]? = some fn) (hname : (fn.name == "runtime.NumGoroutine") = false) (hbody : fn.body.isNone = false)
    (hargs : cas.toList.map σ.ev ++ caps = cargs) (hno : AV.inNL [] cargs = true) (hin : AV.inN [] res = true) : OpF P o σ.ev (hget σ.H) res [] [] :=
  fun τ hA _ => by
    have hA' : ∀ x ∈ fo :: cas.toList, τ.ev x = σ.ev x := fun x hx => hA x (by rw [ho]; simpa [Op.operands, Call.operands] using hx)
    refine opA_call0 hF ho hfo has (by rw [hA' fo (by simp)]; exact hf) hfn hname hbody (by rw [← hargs]; congr 1; exact List.map_congr_left fun x hx => hA' x (by simp [hx])) hno hin ?_
    cases o.dst <;> rfl
/-! forms that one text serves -/
def isCallF (op : Op) : Bool := match op with
  | .call c => (match c.callee with | .value _ => true | _ => false)
  | _ => false
theorem evL_call {ops : Array Oper} (hg : o.guard = none) (hc : isCallF o.op = true) (h : ∀ K', (∀ σ', evL P ops rest σ' K → K' σ') → OpA P o σ K') : evL P ops (o :: rest) σ K := evL_op hg h
theorem opA_callB {f : FuncId} {fn : Func} {cargs : List AV} {res : AV} {fo : Operand} {cas : Array Operand} {ts : Array TypeId} {caps : List AV} (hF : Fn P f cargs [] res []) (ho : o.op = .call { callee := .value fo, args := cas, argTypes := ts }) (hfo : okConst fo = true) (has : cas.toList.all okConst = true) (hf : σ.ev fo = .fn f caps)
    (hfn : P.funcs[f]? = some fn) (hname : (fn.name == "runtime.NumGoroutine") = false) (hbody : fn.body.isNone = false)
    (hargs : cas.toList.map σ.ev ++ caps = cargs) (hio : AV.inNL [] (res :: cargs) = true) (hK : K (σ.put o.dst res)) : OpA P o σ K := by
  unfold AV.inNL at hio
  rw [Bool.and_eq_true] at hio
  exact opA_call0 hF ho hfo has hf hfn hname hbody hargs hio.2 hio.1 hK
theorem opF_callB {f : FuncId} {fn : Func} {cargs : List AV} {res : AV} {fo : Operand} {cas : Array Operand} {ts : Array TypeId} {caps : List AV} (hF : Fn P f cargs [] res []) (ho : o.op = .call { callee := .value fo, args := cas, argTypes := ts }) (hfo : okConst fo = true) (has : cas.toList.all okConst = true) (hf : σ.ev fo = .fn f caps)
    (hfn : P.funcs[f]? = some fn) (hname : (fn.name == "runtime.NumGoroutine") = false) (hbody : fn.body.isNone = false)
    (hargs : cas.toList.map σ.ev ++ caps = cargs) (hio : AV.inNL [] (res :: cargs) = true) : OpF P o σ.ev (hget σ.H) res [] [] := by
  unfold AV.inNL at hio
  rw [Bool.and_eq_true] at hio
  exact opF_call0 hF ho hfo has hf hfn hname hbody hargs hio.2 hio.1
theorem opA_callR {f : FuncId} {fn : Func} {cargs : List AV} {H0 H1 : List (Nat × List AV)} {res : AV} (hF : Fn P f cargs H0 res H1) (ρ : Nat → Nat)
    {fo : Operand} {cas : Array Operand} {ts : Array TypeId} {caps : List AV} (ho : o.op = .call { callee := .value fo, args := cas, argTypes := ts }) (hfo : okConst fo = true) (has : cas.toList.all okConst = true) (hf : σ.ev fo = .fn f caps)
    (hfn : P.funcs[f]? = some fn) (hname : (fn.name == "runtime.NumGoroutine") = false) (hbody : fn.body.isNone = false)
    (hD0 : H0.all (fun x => decide (1000 ≤ x.1)) = true) (hinj : ∀ r ∈ H0.map (·.1) ++ H1.map (·.1), ∀ q ∈ H0.map (·.1) ++ H1.map (·.1), ρ r = ρ q → r = q)
    (hall : argsOk ρ cargs (cas.toList.map σ.ev ++ caps) ∧ (∀ r ∈ H0.map (·.1), hget σ.H (ρ r) = (hget H0 r).map (AV.renL ρ)) ∧ newOk σ ρ H0 H1 ∧ AV.inN (H1.map (·.1)) res = true ∧ inH (H1.map (·.1)) H1 = true)
    (hK : K ((St.mk σ.T (hputs (hdels σ.H (renH ρ H0)) (renH ρ H1))).put o.dst (AV.ren ρ res))) : OpA P o σ K :=
  opA_call hF ρ ho hfo has hf hfn hname hbody hD0 hall.1 hall.2.1 hinj hall.2.2.1 hall.2.2.2.1 hall.2.2.2.2 hK
def nwO (o : Oper) : List Nat := match o.op with
  | .buildSlice _ _ _ => o.dst.toList
  | .alloc _ => o.dst.toList
  | .box _ _ => o.dst.toList
  | .call c => (match c.callee with | .builtin .append => o.dst.toList | _ => [])
  | _ => []
theorem evD_any {v : AV} {rd nw : List Nat} {wr : List (Nat × List AV)} (hg : o.guard = none) (hnw : nwO o = nw) (hrd : rdE o.op σ.ev = rd) (hF : ∀ τ : St, agree o σ.ev τ.ev → (∀ r ∈ rd, hget τ.H r = hget σ.H r) → (∀ d ∈ nw, τ.free d = true) → evO P o τ fun ρ => ρ = τ.eff o.dst v wr)
    (h : evD P l0 rest (σ.eff o.dst v wr) (⟨v, rd, wr, nw⟩ :: acc) K) : evD P l0 (o :: rest) σ acc K :=
  ⟨⟨v, rd, wr, nw⟩, .inl ⟨hg, fun τ h1 h2 h3 => evO_sound (hF τ h1 h2 h3)⟩, h⟩
theorem evD_gany {j d' : Nat} {want b : Bool} {v : AV} {rd nw : List Nat} {wr : List (Nat × List AV)} (hg : o.guard = some (j, want)) (hd : (l0[j]?).bind (·.dst) = some d') (hb : σ.T.getD d' .any = .c (.v (.bool b))) (hbw : b = want) (hnw : nwO o = nw) (hrd : rdE o.op σ.ev = rd) (hF : ∀ τ : St, agree o σ.ev τ.ev → (∀ r ∈ rd, hget τ.H r = hget σ.H r) → (∀ d ∈ nw, τ.free d = true) → evO P o τ fun ρ => ρ = τ.eff o.dst v wr)
    (h : evD P l0 rest (σ.eff o.dst v wr) (⟨v, rd, wr, nw⟩ :: acc) K) : evD P l0 (o :: rest) σ acc K :=
  ⟨⟨v, rd, wr, nw⟩, .inr ⟨j, want, d', b, hg, hd, .inl ⟨hb, .inl ⟨hbw, fun τ h1 h2 h3 => evO_sound (hF τ h1 h2 h3)⟩⟩⟩, h⟩
theorem evD_fcall {v : AV} {rd : List Nat} {wr : List (Nat × List AV)} (hc : isCallF o.op = true) (hg : o.guard = none) (hF : OpF P o σ.ev (hget σ.H) v rd wr) (h : evD P l0 rest (σ.eff o.dst v wr) (⟨v, rd, wr, []⟩ :: acc) K) : evD P l0 (o :: rest) σ acc K := evD_one hg hF h
theorem evD_gcall {j d : Nat} {want b : Bool} {v : AV} {rd : List Nat} {wr : List (Nat × List AV)} (hc : isCallF o.op = true) (hg : o.guard = some (j, want)) (hd : (l0[j]?).bind (·.dst) = some d) (hb : σ.T.getD d .any = .c (.v (.bool b))) (hbw : b = want) (hF : OpF P o σ.ev (hget σ.H) v rd wr)
    (h : evD P l0 rest (σ.eff o.dst v wr) (⟨v, rd, wr, []⟩ :: acc) K) : evD P l0 (o :: rest) σ acc K := evD_grd hg hd hb hbw hF h
end

def evR (P : Program) (c : Code) (Φ : Exit → St → Prop) : Nat → St → Prop
  | 0, _ => False
  | n + 1, σ => AW P c σ fun ex σ' => match ex with | .normal => evR P c Φ n σ' | ex => Φ ex σ'
theorem evR_rounds {P : Program} {c : Code} {Φ : Exit → St → Prop} {E : Env} : ∀ (n : Nat) (σ : St) (ι : Nat → Nat × Nat × Nat) (a : Act) (w : World), evR P c Φ n σ → Conc E ι σ a w →
    Code.rounds P c (fun ex a' w' => ∃ ι' σ', Conc E ι' σ' a' w' ∧ Φ ex σ') n a w
  | 0, σ, ι, a, w, h, _ => h.elim
  | n + 1, σ, ι, a, w, h, hc => by
    rw [rounds_succ]
    refine wp_mono (h E ι a w hc) fun ex a' w' => ?_
    rintro ⟨ι', σ', hc', hq⟩
    cases ex with
    | normal => exact evR_rounds n σ' ι' a' w' hq hc'
    | _ => exact ⟨ι', σ', hc', hq⟩
theorem evC_rounds {P : Program} {c : Code} {σ : St} {Φ : Exit → St → Prop} (n : Nat) (h : evR P c Φ n σ) : evC P (.loop c) σ Φ :=
  fun E ι a w hc => wp_loop_rounds n (evR_rounds n σ ι a w h hc)
theorem evR_succ {P : Program} {c : Code} {σ : St} {Φ : Exit → St → Prop} {n : Nat} (h : ∀ Ψ : Exit → St → Prop, (∀ σ', evR P c Φ n σ' → Ψ .normal σ') → (∀ ex σ', ex ≠ .normal → Φ ex σ' → Ψ ex σ') → evC P c σ Ψ) : evR P c Φ (n + 1) σ :=
  evC_sound c σ _ (h _ (fun _ h => h) fun ex σ' hne h => by cases ex <;> first | exact absurd rfl hne | exact h)
def unC : List AV → Option (List PV)
  | [] => some []
  | .c x :: l => (unC l).map (x :: ·)
  | _ => none
@[simp] theorem unC_map (l : List PV) : unC (l.map .c) = some l := by
  induction l with
  | nil => rfl
  | cons x l ih => simp [unC, ih]
theorem unC_eq : ∀ {cs : List AV} {l : List PV}, unC cs = some l → cs = l.map .c
  | [], l, h => by cases h; rfl
  | .c x :: cs, l, h => by
    simp only [unC, Option.map_eq_some_iff] at h
    obtain ⟨l', h', rfl⟩ := h
    rw [unC_eq h']; rfl
  | .any :: _, _, h => by cases h
  | .agg _ :: _, _, h => by cases h
  | .tup _ :: _, _, h => by cases h
  | .ptr _ _ :: _, _, h => by cases h
  | .row _ _ _ _ :: _, _, h => by cases h
  | .cut _ _ _ _ _ _ _ :: _, _, h => by cases h
  | .ep _ :: _, _, h => by cases h
  | .fn _ _ :: _, _, h => by cases h
def viewRow (H : List (Nat × List AV)) (r e sz n : Nat) : AV :=
  match hget H r with
  | some cs => match unC cs with
    | some l => if l.length = n * sz then .c (.sl false sz n l) else .row r e sz n
    | none => .row r e sz n
  | none => .row r e sz n
def viewCut (H : List (Nat × List AV)) (r e sz lo n c : Nat) (ex : Bool) : AV :=
  match hget H r with
  | some cs => match unC ((cs.drop (lo * sz)).take (n * sz)) with
    | some l => if l.length = n * sz then .c (.sl false sz n l) else .cut r e sz lo n c ex
    | none => .cut r e sz lo n c ex
  | none => .cut r e sz lo n c ex
mutual
def AV.view (H : List (Nat × List AV)) : AV → AV
  | .any => .any
  | .c x => .c x
  | .agg cs => .agg (AV.viewL H cs)
  | .tup cs => .tup (AV.viewL H cs)
  | .ptr r off => .ptr r off
  | .row r e sz n => viewRow H r e sz n
  | .cut r e sz lo n m ex => viewCut H r e sz lo n m ex
  | .ep cs => .ep cs
  | .fn f cs => .fn f (AV.viewL H cs)
def AV.viewL (H : List (Nat × List AV)) : List AV → List AV
  | [] => []
  | x :: l => AV.view H x :: AV.viewL H l
end
theorem viewL_get (H : List (Nat × List AV)) : ∀ (l : List AV) (j : Nat), (AV.viewL H l)[j]? = (l[j]?).map (AV.view H)
  | [], j => by simp [AV.viewL]
  | x :: l, 0 => by simp [AV.viewL]
  | x :: l, j + 1 => by simpa [AV.viewL] using viewL_get H l j
theorem viewL_length (H : List (Nat × List AV)) (l : List AV) : (AV.viewL H l).length = l.length := by
  induction l with
  | nil => rfl
  | cons x l ih => simp [AV.viewL, ih]
@[simp] theorem viewL_map (H : List (Nat × List AV)) (l : List PV) : AV.viewL H (l.map .c) = l.map .c := by
  induction l with
  | nil => rfl
  | cons x l ih => simp [AV.viewL, AV.view, ih]
theorem RV.view {S : Nat → Prop} {ι : Nat → Nat × Nat × Nat} {w : World} {H : List (Nat × List AV)} (hH : ∀ r cs, hget H r = some cs → Blk S ι w r cs) {v : Value} {x : AV} (h : RV S ι w v x) : RV (fun _ => True) ι w v (AV.view H x) := by
  have hS2 : ∀ b, S b → b < w.heap.size → (fun _ : Nat => True) b ∧ w.heap[b]? = w.heap[b]? := fun b h1 h2 => ⟨trivial, rfl⟩
  induction h with
  | any v => exact .any _
  | c v p hp => exact .c _ _ (hp.mono hS2)
  | agg us cs hl h1 _ ih =>
    refine .agg us _ (by rw [viewL_length]; exact hl) h1 fun j u y hu hy => ?_
    rw [viewL_get, Option.map_eq_some_iff] at hy
    obtain ⟨x, hx', rfl⟩ := hy
    exact ih j u x hu hx'
  | tup us cs hl _ ih =>
    refine .tup us _ (by rw [viewL_length]; exact hl) fun j u y hu hy => ?_
    rw [viewL_get, Option.map_eq_some_iff] at hy
    obtain ⟨x, hx', rfl⟩ := hy
    exact ih j u x hu hx'
  | ptr q off => exact .ptr q off
  | row q e sz n c h1 h2 h3 h4 h0 =>
    show RV _ ι w _ (viewRow H q e sz n)
    have plain : RV (fun _ => True) ι w (.slice (some ⟨(ι q).1, 0, none⟩) n c) (.row q e sz n) := .row q e sz n c h1 h2 h3 h4 h0
    unfold viewRow
    split
    · rename_i cs hcs
      split
      · rename_i l hl
        split
        · rename_i hn
          rw [unC_eq hl] at hcs
          rcases hH q _ hcs with ⟨hz, _⟩ | ⟨cur, hh, hs, hlc, hc, hone1⟩
          · exact absurd hz h0
          · simp only [List.length_map] at hlc
            refine .c _ _ (.sl false sz _ n c (cur.toList.take l.length) l h1 h2 (fun e => by cases e) (fun e => by cases e) (by simp; omega) hn (fun _ => ⟨_, _, rfl, trivial, fun j u hu => ?_⟩) fun j u x hu hx => ?_)
            · rw [List.getElem?_take] at hu
              split at hu
              · simp only [World.cell?, hh, Nat.zero_add]; simpa using hu
              · cases hu
            · rw [List.getElem?_take] at hu
              split at hu
              · have := (hc j u (.c x) (by simpa using hu) (by simp [hx])).1
                cases this with
                | c _ _ hp => exact hp.mono hS2
              · cases hu
        · exact plain
      · exact plain
    · exact plain
  | rnil A q e sz hz =>
    show RV _ ι w _ (viewRow H q e sz 0)
    have plain : RV (fun _ => True) ι w (.slice A 0 0) (.row q e sz 0) := .rnil A q e sz hz
    unfold viewRow
    split
    · split
      · rename_i l hl
        split
        · rename_i hn
          have : l = [] := List.eq_nil_of_length_eq_zero (by omega)
          subst this
          exact .c _ _ (.sl false sz A 0 0 [] [] (Nat.le_refl _) (Nat.zero_le _) (fun _ => rfl) (fun e => by cases e) rfl (by simp) (fun h => absurd rfl h) fun j u x hu => by cases hu)
        · exact plain
      · exact plain
    · exact plain
  | cut q e sz lo n c ex h1 h2 h3 hx4 h4 h0 =>
    show RV _ ι w _ (viewCut H q e sz lo n c ex)
    have plain : RV (fun _ => True) ι w (.slice (some ⟨(ι q).1, lo * sz, none⟩) n c) (.cut q e sz lo n c ex) := .cut q e sz lo n c ex h1 h2 h3 hx4 h4 h0
    unfold viewCut
    split
    · rename_i cs hcs
      split
      · rename_i l hl
        split
        · rename_i hn
          have hl' := unC_eq hl
          rcases hH q _ hcs with ⟨hz, _⟩ | ⟨cur, hh, hs, hlc, hc, hone1⟩
          · exact absurd hz h0
          · have e1 : (lo + c) * sz = lo * sz + c * sz := Nat.add_mul _ _ _
            have e2 : n * sz ≤ c * sz := Nat.mul_le_mul_right _ h1
            refine .c _ _ (.sl false sz _ n c ((cur.toList.drop (lo * sz)).take (n * sz)) l h1 h2 (fun e => by cases e) (fun e => by cases e) (by simp; omega) hn (fun _ => ⟨_, _, rfl, trivial, fun j u hu => ?_⟩) fun j u x hu hx => ?_)
            · rw [List.getElem?_take] at hu
              split at hu
              · simp only [World.cell?, hh]; rw [List.getElem?_drop] at hu; simpa using hu
              · cases hu
            · have hx' : (l.map AV.c)[j]? = some (.c x) := by simp [hx]
              rw [← hl', List.getElem?_take] at hx'
              rw [List.getElem?_take] at hu
              split at hu
              · rename_i hj
                rw [if_pos hj] at hx'
                rw [List.getElem?_drop] at hu hx'
                have := (hc (lo * sz + j) u (.c x) (by simpa using hu) hx').1
                cases this with
                | c _ _ hp => exact hp.mono hS2
              · cases hu
        · exact plain
      · exact plain
    · exact plain
  | cnil A q e sz lo ex hz =>
    show RV _ ι w _ (viewCut H q e sz lo 0 0 ex)
    have plain : RV (fun _ => True) ι w (.slice A 0 0) (.cut q e sz lo 0 0 ex) := .cnil A q e sz lo ex hz
    unfold viewCut
    split
    · split
      · rename_i l hl
        split
        · rename_i hn
          have : l = [] := List.eq_nil_of_length_eq_zero (by omega)
          subst this
          exact .c _ _ (.sl false sz A 0 0 [] [] (Nat.le_refl _) (Nat.zero_le _) (fun _ => rfl) (fun e => by cases e) rfl (by simp) (fun h => absurd rfl h) fun j u x hu => by cases hu)
        · exact plain
      · exact plain
    · exact plain
  | ep b o us cs hl hne hb' h4 h5 => exact .ep b o us cs hl hne trivial h4 fun j u x hu hx => (h5 j u x hu hx).mono hS2
  | fn f us cs hl _ ih =>
    refine .fn f us _ (by rw [viewL_length]; exact hl) fun j u y hu hy => ?_
    rw [viewL_get, Option.map_eq_some_iff] at hy
    obtain ⟨x, hx', rfl⟩ := hy
    exact ih j u x hu hx'
section
variable {P : Program} {o : Oper} {σ : St} {K : St → Prop} {f : FuncId} {fn : Func} {cargs : List AV} {res : AV} {fo : Operand} {cas : Array Operand} {ts : Array TypeId} {caps : List AV}
mutual
def AV.rows : AV → List Nat
  | .agg cs => AV.rowsL cs
  | .tup cs => AV.rowsL cs
  | .row r _ _ _ => [r]
  | .cut r _ _ _ _ _ _ => [r]
  | .fn _ cs => AV.rowsL cs
  | _ => []
def AV.rowsL : List AV → List Nat
  | [] => []
  | x :: l => AV.rows x ++ AV.rowsL l
end
end
def leT : List AV → List AV → Prop
  | [], [] => True
  | x :: a, y :: b => (y = .any ∨ x = y) ∧ leT a b
  | _, _ => False
def leH (H : List (Nat × List AV)) : List (Nat × List AV) → Prop
  | [] => True
  | (k, cs) :: l => hget H k = some cs ∧ leH H l
theorem leT_length : ∀ {a b : List AV}, leT a b → a.length = b.length
  | [], [], _ => rfl
  | x :: a, y :: b, h => by simp [leT_length h.2]
  | [], _ :: _, h => h.elim
  | _ :: _, [], h => h.elim
theorem leT_get : ∀ {a b : List AV}, leT a b → ∀ i, (a.getD i .any).le (b.getD i .any)
  | [], [], _, i => AV.le_of rfl
  | x :: a, y :: b, h, 0 => h.1.elim (fun e => by show x.le y; rw [e]; exact AV.le_any x) AV.le_of
  | x :: a, y :: b, h, i + 1 => by
    have := leT_get h.2 i
    simpa [List.getD_eq_getElem?_getD] using this
  | [], _ :: _, h, _ => h.elim
  | _ :: _, [], h, _ => h.elim
theorem leH_get {H : List (Nat × List AV)} : ∀ {l : List (Nat × List AV)}, leH H l → ∀ r cs, hget l r = some cs → hget H r = some cs
  | (k, ds) :: l, h, r, cs, hr => by
    unfold hget at hr
    split at hr
    · rename_i hk; cases hr; subst hk; exact h.1
    · exact leH_get h.2 r cs hr
theorem St.le_of {σ τ : St} (h : leT σ.T τ.T) (hH : leH σ.H τ.H) : σ.le τ := ⟨leT_length h, leT_get h, leH_get hH⟩
theorem evC_upto {P : Program} {c : Code} {σ : St} {Φ : Exit → St → Prop} (n : Nat) (I : Nat → St) (h0 : σ.le (I 0))
    (round : ∀ i, i ≤ n → ∀ Ψ : Exit → St → Prop, (∀ σ', i + 1 ≤ n → σ'.le (I (i + 1)) → Ψ .normal σ') → (∀ ex σ', ex ≠ .normal → Φ ex σ' → Ψ ex σ') → evC P c (I i) Ψ) : evC P (.loop c) σ Φ :=
  evC_loop (α := { i : Nat // i ≤ n }) (fun x => I x.1) (fun x => n - x.1) ⟨0, Nat.zero_le _⟩ h0 fun x Ψ h1 h2 =>
    round x.1 x.2 Ψ (fun σ' hlt hle => h1 σ' ⟨x.1 + 1, hlt⟩ (by have := x.2; simp only; omega) hle) h2
section
variable {α : Type} {f : α → List PV} {sz : Nat} (hf : ∀ x, (f x).length = sz)
include hf
theorem flat_length : ∀ (l : List α), (l.flatMap f).length = l.length * sz
  | [] => by simp
  | x :: l => by simp [flat_length l, hf, Nat.add_mul, Nat.add_comm]
theorem flat_drop : ∀ (l : List α) (i : Nat), (l.flatMap f).drop (i * sz) = (l.drop i).flatMap f
  | l, 0 => by simp
  | [], i + 1 => by simp
  | x :: l, i + 1 => by
    rw [List.flatMap_cons, List.drop_append, hf, show (i + 1) * sz - sz = i * sz by rw [Nat.add_mul]; omega, List.drop_eq_nil_of_le (by rw [hf, Nat.add_mul]; omega), List.nil_append, flat_drop l i]; rfl
theorem flat_at {l : List α} {i : Nat} {y : α} (h : l[i]? = some y) : ((l.flatMap f).drop (i * sz)).take sz = f y := by
  rw [flat_drop hf]
  obtain ⟨h1, h2⟩ := List.getElem?_eq_some_iff.1 h
  rw [List.drop_eq_getElem_cons h1, h2, List.flatMap_cons, List.take_append, List.take_of_length_le (by rw [hf]; exact Nat.le_refl _), hf, Nat.sub_self, List.take_zero, List.append_nil]
end
theorem opA_isnil {P : Program} {o : Oper} {σ : St} {K : St → Prop} {op : BinOp} {t t' sz n : Nat} {ex : Bool} {cs : List PV} {x : Operand} (hop : op = .eql ∨ op = .neq) (ho : o.op = .binOp op t x (.const (.slice none 0 0)) t') (ht : (slcT P t).isSome = true) (hx : okConst x = true) (h1 : σ.ev x = .c (.sl ex sz n cs))
    (hK : ∀ b : Bool, (b = true → n = 0) → K (σ.put o.dst (.c (.v (.bool (if op = .eql then b else !b)))))) : OpA P o σ K := by
  intro E ι a w hc K' Q hK'
  have hxv := hc.ev x hx
  rw [h1] at hxv
  generalize he : a.eval x = v at hxv
  cases hxv with
  | c _ _ hp =>
    cases hp with
    | sl _ _ A _ c us _ g1 g2 g3 =>
      obtain ⟨e, hu⟩ : ∃ e, P.underlying t = some (.slice e) := by
        unfold slcT at ht
        cases hu : P.underlying t with
        | none => simp [hu] at ht
        | some d => cases d <;> simp [hu] at ht; exact ⟨_, rfl⟩
      have heq : (Op.equal t (.slice A n c) (.slice none 0 0)).run P w = .ok A.isNone w := by
        unfold Op.equal
        rw [show Op.maxDepth = 9999 + 1 from rfl]
        unfold Op.equalIn
        rw [Sem.run_bind, run_underlying hu, Result.andThen_ok]
        cases A <;> rfl
      have g1' : binOp .eql t (.slice A n c) (.slice none 0 0) = (do pure (.bool (← Op.equal t (.slice A n c) (.slice none 0 0)))) := rfl
      have g2' : binOp .neq t (.slice A n c) (.slice none 0 0) = (do pure (.bool (!(← Op.equal t (.slice A n c) (.slice none 0 0))))) := rfl
      have hn : A.isNone = true → n = 0 := fun h => by
        have := g3 (by simpa using h)
        omega
      have key : (execOp a.eval o).run P w = .ok (.value (.bool (if op = .eql then A.isNone else !A.isNone))) w := by
        have hg : (eqGuard op t x (.const (.slice none 0 0)) (.slice A n c) (.slice none 0 0)).run P w = .ok () w := run_eqGuard rfl (by simp) t _ _ w
        have e2 : a.eval (.const (.slice none 0 0)) = .slice none 0 0 := rfl
        rcases hop with rfl | rfl
        · simp only [execOp, ho, he, e2, Sem.run_bind, hg, Result.andThen_ok, g1', heq, Sem.run_pure, if_true]
        · simp only [execOp, ho, he, e2, Sem.run_bind, hg, Result.andThen_ok, g2', heq, Sem.run_pure, reduceCtorEq, if_false]
      unfold Oper.wp
      rw [key]
      exact hK' _ _ _ _ (hK _ hn) (hc.put o.dst (.c _ _ (.v _ rfl)))
theorem evO_isnil {P : Program} {o : Oper} {σ : St} {K : St → Prop} {op : BinOp} {t t' sz n : Nat} {ex : Bool} {cs : List PV} {x : Operand} (ho : o.op = .binOp op t x (.const (.slice none 0 0)) t') (h1 : σ.ev x = .c (.sl ex sz n cs)) (hop : op = .eql ∨ op = .neq) (ht : (slcT P t).isSome = true) (hx : okConst x = true)
    (hK : ∀ b : Bool, (b = true → n = 0) → K (σ.put o.dst (.c (.v (.bool (if op = .eql then b else !b)))))) : evO P o σ K := by
  unfold evO
  rw [ho]
  simp only [h1]
  exact ⟨hx, rfl, opA_isnil hop ho ht hx h1 hK⟩
theorem evO_nilnil {P : Program} {o : Oper} {σ : St} {K : St → Prop} {op : BinOp} {t t' : Nat} {x : Operand} (ho : o.op = .binOp op t x (.const (.slice none 0 0)) t') (h1 : σ.ev x = .c (.v (.slice none 0 0))) (hop : op = .eql ∨ op = .neq) (ht : (slcT P t).isSome = true) (hx : okConst x = true)
    (hK : K (σ.put o.dst (.c (.v (.bool (if op = .eql then true else false)))))) : OpA P o σ K := by
  intro E ι a w hc K' Q hK'
  have hxv := hc.ev x hx
  rw [h1] at hxv
  obtain ⟨he, _⟩ := hxv.v_inv
  obtain ⟨e, hu⟩ : ∃ e, P.underlying t = some (.slice e) := by
    unfold slcT at ht
    cases hu : P.underlying t with
    | none => simp [hu] at ht
    | some d => cases d <;> simp [hu] at ht; exact ⟨_, rfl⟩
  have heq : (Op.equal t (.slice none 0 0) (.slice none 0 0)).run P w = .ok true w := by
    unfold Op.equal
    rw [show Op.maxDepth = 9999 + 1 from rfl]
    unfold Op.equalIn
    rw [Sem.run_bind, run_underlying hu, Result.andThen_ok]
    rfl
  have g1' : binOp .eql t (.slice none 0 0) (.slice none 0 0) = (do pure (.bool (← Op.equal t (.slice none 0 0) (.slice none 0 0)))) := rfl
  have g2' : binOp .neq t (.slice none 0 0) (.slice none 0 0) = (do pure (.bool (!(← Op.equal t (.slice none 0 0) (.slice none 0 0))))) := rfl
  have key : (execOp a.eval o).run P w = .ok (.value (.bool (if op = .eql then true else false))) w := by
    have hg : (eqGuard op t x (.const (.slice none 0 0)) (.slice none 0 0) (.slice none 0 0)).run P w = .ok () w := run_eqGuard rfl (by simp) t _ _ w
    have e2 : a.eval (.const (.slice none 0 0)) = .slice none 0 0 := rfl
    rcases hop with rfl | rfl
    · simp only [execOp, ho, he, e2, Sem.run_bind, hg, Result.andThen_ok, g1', heq, Sem.run_pure, if_true]
    · simp only [execOp, ho, he, e2, Sem.run_bind, hg, Result.andThen_ok, g2', heq, Sem.run_pure, reduceCtorEq, if_false]
      rfl
  unfold Oper.wp
  rw [key]
  exact hK' _ _ _ _ hK (hc.put o.dst (.c _ _ (.v _ rfl)))
theorem opA_cut_nil {P : Program} {o : Oper} {σ : St} {K : St → Prop} {t sz : Nat} {x lo : Operand} (ho : o.op = .slice t x (some lo) none none) (hx : okConst x = true) (hlo : okConst lo = true) (h1 : σ.ev x = .c (.v (.slice none 0 0))) (hs : (slcT P t).map (fun p => p.2.1) = some sz) (hl : σ.ev lo = .c (.v (.int .i64 0)))
    (hK : K (σ.put o.dst .any)) : OpA P o σ K := by
  obtain ⟨e, by_, hs⟩ := slcT_of hs
  have hput : ∀ y, (σ.put o.dst y).le (σ.put o.dst .any) := fun y => by
    cases hd : o.dst with
    | none => exact ⟨rfl, fun i => AV.le_refl _, fun r cs h => h⟩
    | some d =>
      refine ⟨by simp [St.put], fun i => ?_, fun r cs h => h⟩
      show AV.le ((σ.T.set d y).getD i .any) ((σ.T.set d .any).getD i .any)
      rw [List.getD_eq_getElem?_getD, List.getD_eq_getElem?_getD]
      by_cases hi : d = i
      · subst hi
        by_cases hlt : d < σ.T.length
        · rw [List.getElem?_set_self hlt, List.getElem?_set_self hlt]; exact AV.le_any _
        · rw [List.getElem?_eq_none (by rw [List.length_set]; exact Nat.le_of_not_lt hlt), List.getElem?_eq_none (by rw [List.length_set]; exact Nat.le_of_not_lt hlt)]; exact AV.le_refl _
      · rw [List.getElem?_set_ne hi, List.getElem?_set_ne hi]; exact AV.le_refl _
  intro E ι a w hc K' Q hK'
  exact opA_slice (K := fun σ' => σ'.le (σ.put o.dst .any)) ho hx (by simpa using hlo) rfl rfl hs (n := 0) (ex := true) (cs := []) (by rw [h1]; exact AV.le_nil true sz) (l := 0) (h := 0) (m := 0) (by simp [bnd, hl]) rfl rfl (by simp) (by simp) (hput _) E ι a w hc K' Q fun ι' σ' a' w' hk hc' => hK' ι' _ a' w' hK (hc'.le hk)
def leL : List AV → List AV → Prop
  | [], [] => True
  | x :: a, y :: b => x.le y ∧ leL a b
  | _, _ => False
theorem leL_get : ∀ {a b : List AV}, leL a b → a.length = b.length ∧ ∀ (j : Nat) (x y : AV), a[j]? = some x → b[j]? = some y → x.le y
  | [], [], _ => ⟨rfl, fun j x y hx => by cases hx⟩
  | x :: a, y :: b, h => by
    obtain ⟨h1, h2⟩ := leL_get h.2
    refine ⟨by simp [h1], fun j u v hu hv => ?_⟩
    cases j with
    | zero => simp at hu hv; subst hu hv; exact h.1
    | succ j => exact h2 j u v (by simpa using hu) (by simpa using hv)
  | [], _ :: _, h => h.elim
  | _ :: _, [], h => h.elim
theorem Fn.args {P : Program} {f : FuncId} {args args' : List AV} {H0 H1 : List (Nat × List AV)} {res : AV} (h : Fn P f args H0 res H1) (hle : leL args' args) : Fn P f args' H0 res H1 := by
  obtain ⟨h1, h2⟩ := leL_get hle
  intro E vs hD hS hH hl hv
  refine h E vs hD hS hH (hl.trans h1) fun j v x hj hx => ?_
  have : j < args'.length := by rw [h1]; exact (List.getElem?_eq_some_iff.1 hx).1
  exact h2 j _ x (List.getElem?_eq_getElem this) hx _ _ _ _ (hv j v _ hj (List.getElem?_eq_getElem this))
theorem ndI {a b : Prop} (x : a) (y : b) : a ∧ b := ⟨x, y⟩
theorem evz : type_of% (And.intro @ofV.eq_1 <| And.intro @ofV.eq_2 <| And.intro @ofV.eq_3 <| And.intro @AV.cells.eq_1 <| And.intro @AV.cells.eq_2 <| And.intro @AV.cells.eq_3 <| And.intro @AV.cells.eq_4 <| And.intro @pickAV.eq_1 <| And.intro @pickAV.eq_2 <| And.intro @bop.eq_1 <| And.intro @bop.eq_2 <| And.intro @bop.eq_3 <| And.intro @bop.eq_4 <| And.intro @bop.eq_5 <| And.intro @bop.eq_6 <| And.intro @bop.eq_7 <| And.intro @bop.eq_8 <| And.intro @bop.eq_9 <| And.intro @bop.eq_10 <| And.intro @bop.eq_11 <| And.intro @bop.eq_12 <| And.intro @bop.eq_13 <| And.intro @bop.eq_14 <| And.intro @bop.eq_15 <| And.intro @bop.eq_16 <| And.intro @bop.eq_17 <| And.intro @bop.eq_18 <| And.intro @bop.eq_19 <| And.intro @bnd.eq_1 <| And.intro @bnd.eq_2 <| And.intro @tightB.eq_1 <| And.intro @lenA.eq_1 <| And.intro @lenA.eq_2 <| And.intro @lenA.eq_3 <| And.intro @lenA.eq_4 <| And.intro @lenA.eq_5 <| And.intro @St.src.eq_1 <| And.intro @St.src.eq_2 <| And.intro @St.src.eq_3 <| And.intro @St.src.eq_4 <| And.intro @St.dst.eq_1 <| And.intro @St.dst.eq_2 <| And.intro @St.dst.eq_3 <| And.intro @ne_eq.{1} <| And.intro @cond_true.{1} <| And.intro @cond_false.{1} <| And.intro @beq_self_eq_true.{0} <| And.intro @St.ev.eq_1 <| And.intro @St.ev.eq_2 <| And.intro @St.ev.eq_3 <| And.intro @St.ev.eq_4 <| And.intro @St.put.eq_1 <| And.intro @St.put.eq_2 <| And.intro @okConst.eq_1 <| And.intro @okConst.eq_2 <| And.intro @hget.eq_1 <| And.intro @hget.eq_2 <| And.intro @hput.eq_1 <| And.intro @hput.eq_2 <| And.intro @hdel.eq_1 <| And.intro @hdel.eq_2 <| And.intro @hdelO.eq_1 <| And.intro @hdelO.eq_2 <| And.intro @spl.eq_1 <| And.intro @AV.refs.eq_1 <| And.intro @AV.refs.eq_2 <| And.intro @AV.refs.eq_3 <| And.intro @AV.refs.eq_4 <| And.intro @AV.refs.eq_5 <| And.intro @AV.refs.eq_6 <| And.intro @AV.refs.eq_7 <| And.intro @AV.refs.eq_8 <| And.intro @AV.refsL.eq_1 <| And.intro @AV.refsL.eq_2 <| And.intro @refsL_map <| And.intro @refsL_app <| And.intro @Value.oneCell'.eq_1 <| And.intro @Value.oneCell'.eq_2 <| And.intro @Value.oneCell'.eq_3 <| And.intro @eqAV.eq_1 <| And.intro @eqAV.eq_2 <| And.intro @eqAV.eq_3 <| And.intro @fillA.eq_1 <| And.intro @fillA.eq_2 <| And.intro @plsFrom.eq_1 <| And.intro @plsFrom.eq_2 <| And.intro @rowOk.eq_1 <| And.intro @rowOk.eq_2 <| And.intro @List.getD_cons_zero.{0} <| And.intro @List.getD_cons_succ.{0} <| And.intro @List.set.eq_1.{0} <| And.intro @List.set.eq_2.{0} <| And.intro @List.set.eq_3.{0} <| And.intro @List.map_cons.{0,0} <| And.intro @List.map_nil.{0,0} <| And.intro @List.all_cons.{0} <| And.intro @List.all_nil.{0} <| And.intro @List.length_cons.{0} <| And.intro @List.length_nil.{0} <| And.intro @List.take.eq_1.{0} <| And.intro @List.take.eq_2.{0} <| And.intro @List.take.eq_3.{0} <| And.intro @List.drop.eq_1.{0} <| And.intro @List.drop.eq_2.{0} <| And.intro @List.drop.eq_3.{0} <| And.intro @List.getElem?_cons_zero.{0} <| And.intro @List.getElem?_cons_succ.{0} <| And.intro @List.cons_append.{0} <| And.intro @List.nil_append.{0} <| And.intro @List.replicate.eq_1.{0} <| And.intro @List.replicate.eq_2.{0} <| And.intro @List.flatMap_cons.{0,0} <| And.intro @List.flatMap_nil.{0,0} <| And.intro @List.append_nil.{0} <| And.intro @Option.toList.eq_1.{0} <| And.intro @Option.toList.eq_2.{0} <| And.intro @Bool.or_false <| And.intro @Bool.false_or <| And.intro @Bool.and_true <| And.intro @Bool.true_and <| And.intro @Bool.not_false <| And.intro @Bool.not_true <| And.intro @Bool.or_true <| And.intro @Bool.true_or <| And.intro @true_and <| And.intro @and_true <| And.intro @Option.some.injEq.{0} <| And.intro @or_true <| And.intro @true_or <| And.intro @or_false <| And.intro @false_or <| And.intro @not_false_eq_true <| And.intro @not_true_eq_false <| And.intro @Option.map_some.{0,0} <| And.intro @Option.map_none.{0,0} <| And.intro @Option.isSome_some.{0} <| And.intro @Option.isSome_none.{0} <| And.intro @Int.ofNat_eq_natCast <| And.intro @Int.toNat_natCast <| And.intro @Nat.zero_add <| And.intro @Nat.add_zero <| And.intro @Nat.sub_zero <| And.intro @Nat.zero_mul <| And.intro @Nat.mul_zero <| And.intro @implies_true.{0} <| And.intro @false_implies <| And.intro @Bool.false_eq_true <| True.intro) := And.intro @ofV.eq_1 <| And.intro @ofV.eq_2 <| And.intro @ofV.eq_3 <| And.intro @AV.cells.eq_1 <| And.intro @AV.cells.eq_2 <| And.intro @AV.cells.eq_3 <| And.intro @AV.cells.eq_4 <| And.intro @pickAV.eq_1 <| And.intro @pickAV.eq_2 <| And.intro @bop.eq_1 <| And.intro @bop.eq_2 <| And.intro @bop.eq_3 <| And.intro @bop.eq_4 <| And.intro @bop.eq_5 <| And.intro @bop.eq_6 <| And.intro @bop.eq_7 <| And.intro @bop.eq_8 <| And.intro @bop.eq_9 <| And.intro @bop.eq_10 <| And.intro @bop.eq_11 <| And.intro @bop.eq_12 <| And.intro @bop.eq_13 <| And.intro @bop.eq_14 <| And.intro @bop.eq_15 <| And.intro @bop.eq_16 <| And.intro @bop.eq_17 <| And.intro @bop.eq_18 <| And.intro @bop.eq_19 <| And.intro @bnd.eq_1 <| And.intro @bnd.eq_2 <| And.intro @tightB.eq_1 <| And.intro @lenA.eq_1 <| And.intro @lenA.eq_2 <| And.intro @lenA.eq_3 <| And.intro @lenA.eq_4 <| And.intro @lenA.eq_5 <| And.intro @St.src.eq_1 <| And.intro @St.src.eq_2 <| And.intro @St.src.eq_3 <| And.intro @St.src.eq_4 <| And.intro @St.dst.eq_1 <| And.intro @St.dst.eq_2 <| And.intro @St.dst.eq_3 <| And.intro @ne_eq.{1} <| And.intro @cond_true.{1} <| And.intro @cond_false.{1} <| And.intro @beq_self_eq_true.{0} <| And.intro @St.ev.eq_1 <| And.intro @St.ev.eq_2 <| And.intro @St.ev.eq_3 <| And.intro @St.ev.eq_4 <| And.intro @St.put.eq_1 <| And.intro @St.put.eq_2 <| And.intro @okConst.eq_1 <| And.intro @okConst.eq_2 <| And.intro @hget.eq_1 <| And.intro @hget.eq_2 <| And.intro @hput.eq_1 <| And.intro @hput.eq_2 <| And.intro @hdel.eq_1 <| And.intro @hdel.eq_2 <| And.intro @hdelO.eq_1 <| And.intro @hdelO.eq_2 <| And.intro @spl.eq_1 <| And.intro @AV.refs.eq_1 <| And.intro @AV.refs.eq_2 <| And.intro @AV.refs.eq_3 <| And.intro @AV.refs.eq_4 <| And.intro @AV.refs.eq_5 <| And.intro @AV.refs.eq_6 <| And.intro @AV.refs.eq_7 <| And.intro @AV.refs.eq_8 <| And.intro @AV.refsL.eq_1 <| And.intro @AV.refsL.eq_2 <| And.intro @refsL_map <| And.intro @refsL_app <| And.intro @Value.oneCell'.eq_1 <| And.intro @Value.oneCell'.eq_2 <| And.intro @Value.oneCell'.eq_3 <| And.intro @eqAV.eq_1 <| And.intro @eqAV.eq_2 <| And.intro @eqAV.eq_3 <| And.intro @fillA.eq_1 <| And.intro @fillA.eq_2 <| And.intro @plsFrom.eq_1 <| And.intro @plsFrom.eq_2 <| And.intro @rowOk.eq_1 <| And.intro @rowOk.eq_2 <| And.intro @List.getD_cons_zero.{0} <| And.intro @List.getD_cons_succ.{0} <| And.intro @List.set.eq_1.{0} <| And.intro @List.set.eq_2.{0} <| And.intro @List.set.eq_3.{0} <| And.intro @List.map_cons.{0,0} <| And.intro @List.map_nil.{0,0} <| And.intro @List.all_cons.{0} <| And.intro @List.all_nil.{0} <| And.intro @List.length_cons.{0} <| And.intro @List.length_nil.{0} <| And.intro @List.take.eq_1.{0} <| And.intro @List.take.eq_2.{0} <| And.intro @List.take.eq_3.{0} <| And.intro @List.drop.eq_1.{0} <| And.intro @List.drop.eq_2.{0} <| And.intro @List.drop.eq_3.{0} <| And.intro @List.getElem?_cons_zero.{0} <| And.intro @List.getElem?_cons_succ.{0} <| And.intro @List.cons_append.{0} <| And.intro @List.nil_append.{0} <| And.intro @List.replicate.eq_1.{0} <| And.intro @List.replicate.eq_2.{0} <| And.intro @List.flatMap_cons.{0,0} <| And.intro @List.flatMap_nil.{0,0} <| And.intro @List.append_nil.{0} <| And.intro @Option.toList.eq_1.{0} <| And.intro @Option.toList.eq_2.{0} <| And.intro @Bool.or_false <| And.intro @Bool.false_or <| And.intro @Bool.and_true <| And.intro @Bool.true_and <| And.intro @Bool.not_false <| And.intro @Bool.not_true <| And.intro @Bool.or_true <| And.intro @Bool.true_or <| And.intro @true_and <| And.intro @and_true <| And.intro @Option.some.injEq.{0} <| And.intro @or_true <| And.intro @true_or <| And.intro @or_false <| And.intro @false_or <| And.intro @not_false_eq_true <| And.intro @not_true_eq_false <| And.intro @Option.map_some.{0,0} <| And.intro @Option.map_none.{0,0} <| And.intro @Option.isSome_some.{0} <| And.intro @Option.isSome_none.{0} <| And.intro @Int.ofNat_eq_natCast <| And.intro @Int.toNat_natCast <| And.intro @Nat.zero_add <| And.intro @Nat.add_zero <| And.intro @Nat.sub_zero <| And.intro @Nat.zero_mul <| And.intro @Nat.mul_zero <| And.intro @implies_true.{0} <| And.intro @false_implies <| And.intro @Bool.false_eq_true <| True.intro
end Go.Proofs.YtgdjkkapgghdbaaDoor

