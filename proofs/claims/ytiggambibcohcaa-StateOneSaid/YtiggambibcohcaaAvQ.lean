/-
  Regions that draw their order: the operations reckoned in the text's order, each with what it reads and writes; a check that no two of them that may change places meet. No program in sight.
-/
import Derived.Test.YtiggambibcohcaaAvP
import Derived.Orders
namespace Go.Proofs.Ytiggambibcohcaa
open Go.RowKit
set_option linter.unusedSimpArgs false
set_option linter.unusedVariables false

def setO (T : List AV) (dst : Option Tmp) (v : AV) : List AV := match dst with | some d => T.set d v | none => T
/-- the state behind an operation that yields v, and writes wr -/
def St.eff (σ : St) (dst : Option Tmp) (v : AV) (wr : List (Nat × List AV)) : St := ⟨setO σ.T dst v, hputs σ.H wr⟩
def agree (o : Oper) (ev ev' : Operand → AV) : Prop := ∀ x ∈ o.op.operands.toList, ev' x = ev x
/-- what else is known to come to v, reading rd, writing wr -/
def OpF (P : Program) (o : Oper) (ev : Operand → AV) (hg : Nat → Option (List AV)) (v : AV) (rd : List Nat) (wr : List (Nat × List AV)) : Prop :=
  ∀ τ : St, agree o ev τ.ev → (∀ r ∈ rd, hget τ.H r = hg r) → OpA P o τ fun ρ => ρ = τ.eff o.dst v wr
theorem OpF.local {P : Program} {o : Oper} {ev ev' : Operand → AV} {hg hg' : Nat → Option (List AV)} {v : AV} {rd : List Nat} {wr : List (Nat × List AV)} (h : OpF P o ev hg v rd wr) (he : agree o ev ev') (hr : ∀ r ∈ rd, hg' r = hg r) : OpF P o ev' hg' v rd wr :=
  fun τ h1 h2 => h τ (fun x hx => (h1 x hx).trans (he x hx)) fun r hr' => (h2 r hr').trans (hr r hr')
/-- the names that an operand's value gives to look at -/
def rdOf : AV → List Nat
  | .ptr r _ => [r]
  | .row r _ _ _ => [r]
  | .cut r _ _ _ _ _ _ => [r]
  | _ => []
/-- an operation that evO reckons, at a state that is told by its operands and what they point at -/
theorem opF_of {P : Program} {o : Oper} {σ : St} {v : AV} {wr : List (Nat × List AV)} (rd : List Nat)
    (h : ∀ τ : St, agree o σ.ev τ.ev → (∀ r ∈ rd, hget τ.H r = hget σ.H r) → evO P o τ fun ρ => ρ = τ.eff o.dst v wr) : OpF P o σ.ev (hget σ.H) v rd wr :=
  fun τ h1 h2 => evO_sound (h τ h1 h2)

/-- what an operation of a region that draws comes to -/
structure Ef where
  v : AV
  rd : List Nat
  wr : List (Nat × List AV)
  nw : List Nat
/-- known to come to v, reading rd, writing wr, the names nw of which are new -/
def OpN (P : Program) (o : Oper) (ev : Operand → AV) (hg : Nat → Option (List AV)) (e : Ef) : Prop :=
  ∀ τ : St, agree o ev τ.ev → (∀ r ∈ e.rd, hget τ.H r = hg r) → (∀ d ∈ e.nw, τ.free d = true) → OpA P o τ fun ρ => ρ = τ.eff o.dst e.v e.wr
theorem OpF.toN {P : Program} {o : Oper} {ev : Operand → AV} {hg : Nat → Option (List AV)} {v : AV} {rd : List Nat} {wr : List (Nat × List AV)} (h : OpF P o ev hg v rd wr) : OpN P o ev hg ⟨v, rd, wr, []⟩ :=
  fun τ h1 h2 _ => h τ h1 h2
/-- does the name come up in it? -/
def Ef.names (d : Nat) (e : Ef) : Bool := AV.refs d e.v || e.wr.any fun p => p.1 == d || AV.refsL d p.2
def isNew (o : Oper) : Bool := match o.op with
  | .buildSlice _ _ _ => true
  | .alloc _ => true
  | .box _ _ => true
  | .call _ => true
  | _ => false
def newNames (l : List Oper) : List Nat := (l.filter isNew).filterMap (·.dst)
theorem refsL_set {d : Nat} {v : AV} (hv : AV.refs d v = false) : ∀ (T : List AV) (i : Nat), AV.refsL d T = false → AV.refsL d (T.set i v) = false
  | [], _, h => h
  | x :: T, 0, h => by
    simp only [List.set, AV.refsL, Bool.or_eq_false_iff] at h ⊢
    exact ⟨hv, h.2⟩
  | x :: T, i + 1, h => by
    simp only [List.set, AV.refsL, Bool.or_eq_false_iff] at h ⊢
    exact ⟨h.1, refsL_set hv T i h.2⟩
theorem freeH_put {d r : Nat} {cs : List AV} (hr : (r == d) = false) (hc : AV.refsL d cs = false) : ∀ (H : List (Nat × List AV)), freeH d H = true → freeH d (hput H r cs) = true
  | [], _ => by simp [hput, freeH, hc, bne, hr]
  | (k, ds) :: H, h => by
    simp only [freeH, Bool.and_eq_true, Bool.not_eq_true'] at h
    unfold hput
    split
    · simp [freeH, bne, hr, hc, h.2]
    · simp only [freeH, Bool.and_eq_true, Bool.not_eq_true']
      exact ⟨h.1, freeH_put hr hc H h.2⟩
theorem freeH_puts {d : Nat} (H : List (Nat × List AV)) (hH : freeH d H = true) : ∀ (wr : List (Nat × List AV)), (wr.any fun p => p.1 == d || AV.refsL d p.2) = false → freeH d (hputs H wr) = true
  | [], _ => hH
  | (k, cs) :: wr, h => by
    simp only [List.any_cons, Bool.or_eq_false_iff] at h
    exact freeH_put h.1.1 h.1.2 _ (freeH_puts H hH wr h.2)
theorem eff_free {σ : St} {d : Nat} {dst : Option Tmp} {e : Ef} (h : σ.free d = true) (hn : e.names d = false) : (σ.eff dst e.v e.wr).free d = true := by
  unfold St.free at h ⊢
  unfold Ef.names at hn
  simp only [Bool.and_eq_true, Bool.not_eq_true', Bool.or_eq_false_iff] at h hn ⊢
  refine ⟨?_, freeH_puts _ h.2 _ hn.2⟩
  show AV.refsL d (setO σ.T dst e.v) = false
  cases dst with
  | none => exact h.1
  | some t => exact refsL_set hn.1 _ _ h.1
def Ef.wn (e : Ef) : List Nat := e.wr.map (·.1)
/-- the state in which those that are listed have come up -/
def stL (ops : List Oper) (es : List Ef) (listed : Nat → Bool) : Nat → St → St
  | 0, σ => σ
  | k + 1, σ =>
    let τ := stL ops es listed k σ
    if listed k then match ops[k]?, es[k]? with
      | some o, some e => τ.eff o.dst e.v e.wr
      | _, _ => τ
    else τ
/-- what comes ahead of an operation, whatever the order: the places as bits of a number -/
def maskOf (acc : List Nat) (es : List Edge) (s : Nat) : Nat := es.foldl (fun s e => if Region.binds .any e then s ||| 2 ^ e.on ||| acc.getD e.on 0 else s) s
def masks : List Oper → List Nat → List Nat
  | [], acc => acc
  | o :: l, acc => masks l (acc ++ [maskOf acc o.after.toList 0])
def pre (l : List Oper) (i j : Nat) : Bool := ((masks l []).getD i 0).testBit j
/-- two operations that may change places do not meet -/
def apartE (ops : Array Oper) (x y : Oper) (ex ey : Ef) : Bool :=
  x.apart ops y && ey.wn.all (fun r => !ex.rd.contains r && !ex.wn.contains r) && ex.wn.all (fun r => !ey.rd.contains r)
def freshOK (l : List Oper) (es : List Ef) : Bool :=
  (List.range l.length).all fun i => match es[i]? with
    | some e => e.nw.all fun d => (newNames l).contains d && (List.range l.length).all fun j => j == i || pre l j i || match es[j]? with
      | some ej => !ej.names d
      | none => false
    | none => true
def drawOK (l : List Oper) (es : List Ef) : Bool :=
  freshOK l es && (List.range l.length).all fun i => (List.range i).all fun j => pre l i j || match l[i]?, l[j]?, es[i]?, es[j]? with
    | some x, some y, some ex, some ey => apartE l.toArray x y ex ey
    | _, _, _, _ => false

/-! whatever the order -/
theorem setO_length (T : List AV) (dst : Option Tmp) (v : AV) : (setO T dst v).length = T.length := by cases dst <;> simp [setO]
theorem setO_ne {T : List AV} {dst : Option Tmp} {v : AV} {t : Nat} (h : dst ≠ some t) : (setO T dst v).getD t .any = T.getD t .any := by
  cases dst with
  | none => rfl
  | some d =>
    have hne : d ≠ t := fun e => h (by rw [e])
    show (T.set d v).getD t .any = _
    rw [List.getD_eq_getElem?_getD, List.getD_eq_getElem?_getD, List.getElem?_set_ne hne]
theorem setO_same {T T' : List AV} {t : Nat} {v : AV} (hl : T.length = T'.length) : (setO T (some t) v).getD t .any = (setO T' (some t) v).getD t .any := by
  show (T.set t v).getD t .any = (T'.set t v).getD t .any
  rw [List.getD_eq_getElem?_getD, List.getD_eq_getElem?_getD]
  by_cases h : t < T.length
  · rw [List.getElem?_set_self (by omega), List.getElem?_set_self (by omega)]
  · rw [List.getElem?_eq_none (by simp; omega), List.getElem?_eq_none (by simp; omega)]
section
variable {l : List Oper} {es : List Ef} {σ : St}
theorem stL_length (L : Nat → Bool) : ∀ k, (stL l es L k σ).T.length = σ.T.length
  | 0 => rfl
  | k + 1 => by
    unfold stL
    simp only
    split
    · split
      · show (setO _ _ _).length = _
        rw [setO_length, stL_length L k]
      · exact stL_length L k
    · exact stL_length L k
theorem stL_T {L1 L2 : Nat → Bool} {t : Nat} : ∀ k, (∀ j o, j < k → L1 j ≠ L2 j → l[j]? = some o → o.dst ≠ some t) → (stL l es L1 k σ).T.getD t .any = (stL l es L2 k σ).T.getD t .any
  | 0, _ => rfl
  | k + 1, h => by
    have ih := stL_T k fun j o hj hne ho => h j o (by omega) hne ho
    unfold stL
    simp only
    cases h1 : L1 k <;> cases h2 : L2 k
    · simpa using ih
    · simp only [Bool.false_eq_true, if_false, if_true]
      split
      · rename_i o e ho he
        rw [ih]
        exact (setO_ne (h k o (by omega) (by rw [h1, h2]; simp) ho)).symm
      · exact ih
    · simp only [Bool.false_eq_true, if_false, if_true]
      split
      · rename_i o e ho he
        rw [← ih]
        exact setO_ne (h k o (by omega) (by rw [h1, h2]; simp) ho)
      · exact ih
    · simp only [if_true]
      split
      · rename_i o e ho he
        by_cases hd : o.dst = some t
        · show (setO _ o.dst _).getD t .any = (setO _ o.dst _).getD t .any
          rw [hd]
          exact setO_same (by rw [stL_length, stL_length])
        · show (setO _ o.dst _).getD t .any = (setO _ o.dst _).getD t .any
          rw [setO_ne hd, setO_ne hd]; exact ih
      · exact ih
theorem hget_wn {wr : List (Nat × List AV)} {r : Nat} (h : r ∉ wr.map (·.1)) : hget wr r = none := by
  cases hg : hget wr r with
  | none => rfl
  | some cs => exact absurd (hget_keys hg) h
theorem stL_H {L1 L2 : Nat → Bool} {r : Nat} : ∀ k, (∀ j e, j < k → L1 j ≠ L2 j → es[j]? = some e → r ∉ e.wn) → hget (stL l es L1 k σ).H r = hget (stL l es L2 k σ).H r
  | 0, _ => rfl
  | k + 1, h => by
    have ih := stL_H k fun j o hj hne ho => h j o (by omega) hne ho
    unfold stL
    simp only
    cases h1 : L1 k <;> cases h2 : L2 k
    · simpa using ih
    · simp only [Bool.false_eq_true, if_false, if_true]
      split
      · rename_i o e ho he
        show _ = hget (hputs _ e.wr) r
        rw [hget_puts, hget_wn (h k e (by omega) (by rw [h1, h2]; simp) he)]
        exact ih
      · exact ih
    · simp only [Bool.false_eq_true, if_false, if_true]
      split
      · rename_i o e ho he
        show hget (hputs _ e.wr) r = _
        rw [hget_puts, hget_wn (h k e (by omega) (by rw [h1, h2]; simp) he)]
        exact ih
      · exact ih
    · simp only [if_true]
      split
      · rename_i o e ho he
        show hget (hputs _ e.wr) r = hget (hputs _ e.wr) r
        rw [hget_puts, hget_puts, ih]
      · exact ih
theorem stL_free {d : Nat} {L : Nat → Bool} (h0 : σ.free d = true) : ∀ k, (∀ j e, j < k → L j = true → es[j]? = some e → e.names d = false) → (stL l es L k σ).free d = true
  | 0, _ => h0
  | k + 1, h => by
    have ih := stL_free h0 k fun j e hj => h j e (by omega)
    unfold stL
    simp only
    split
    · rename_i hL
      split
      · rename_i o e ho he
        exact eff_free ih (h k e (by omega) hL he)
      · exact ih
    · exact ih
theorem stL_all (i : Nat) : ∀ k, i ≤ k → stL l es (fun j => decide (j < i)) k σ = stL l es (fun _ => true) i σ := by
  have low : ∀ k, k ≤ i → stL l es (fun j => decide (j < i)) k σ = stL l es (fun _ => true) k σ := by
    intro k
    induction k with
    | zero => exact fun _ => rfl
    | succ k ih =>
      intro hk
      unfold stL
      simp only [ih (by omega), show k < i by omega, decide_true, if_true]
  intro k
  induction k with
  | zero =>
    intro hi
    obtain rfl : i = 0 := by omega
    rfl
  | succ k ih =>
    intro hi
    by_cases hk : i ≤ k
    · rw [← ih hk]
      conv => lhs; unfold stL
      simp only [show ¬ k < i by omega, decide_false, Bool.false_eq_true, if_false]
    · obtain rfl : i = k + 1 := by omega
      exact low _ (Nat.le_refl _)
end
theorem Conc.drawn {E : Env} {ι : Nat → Nat × Nat × Nat} {σ : St} {a : Act} {w : World} (h : Conc E ι σ a w) (n : Nat) : Conc E ι σ a { w with drawn := n } := by
  have hR : ∀ {v : Value} {x : AV}, RV (Sx E ι σ.H) ι w v x → RV (Sx E ι σ.H) ι { w with drawn := n } v x := fun hv => RV.mono (S' := Sx E ι σ.H) (w := w) (w' := { w with drawn := n }) (fun b hb _ => ⟨hb, rfl⟩) hv fun _ _ => rfl
  refine ⟨h.defers.mono fun b hb _ => ⟨hb, rfl⟩, h.size, fun i => hR (h.tmp i), ⟨fun r cs hr => ?_, h.heap.inj⟩, ⟨h.keep.os, h.keep.tape, h.keep.output, h.keep.size, h.keep.block, h.keep.mine⟩⟩
  rcases h.heap.blk r cs hr with h0 | ⟨cur, hh, hs, hl, hc, hone1⟩
  · exact .inl h0
  · exact .inr ⟨cur, hh, hs, hl, fun j u x hu hx => ⟨hR (hc j u x hu hx).1, (hc j u x hu hx).2⟩, hone1⟩
/-- what is shown of an operation, at the state behind all ahead of it in the text -/
def StepD (P : Program) (l : List Oper) (σ : St) (o : Oper) (e : Ef) : Prop :=
  (o.guard = none ∧ OpN P o σ.ev (hget σ.H) e) ∨
  ∃ j want d b, o.guard = some (j, want) ∧ (l[j]?).bind (·.dst) = some d ∧ (σ.T.getD d .any = .c (.v (.bool b)) ∧ ((b = want ∧ OpN P o σ.ev (hget σ.H) e) ∨ (b = !want ∧ e = ⟨.tup [], [], [], []⟩)) ∨ σ.T.getD d .any = .tup [] ∧ e = ⟨.tup [], [], [], []⟩)
def edgesBack (l : List Oper) : Bool := (List.range l.length).all fun i => match l[i]? with | some o => o.after.all fun e => !Region.binds .any e || decide (e.on < i) | none => true
def closedL (l : List Oper) (L : Nat → Bool) : Prop := ∀ j o, l[j]? = some o → L j = true → ∀ e ∈ o.after, Region.binds .any e = true → L e.on = true
theorem maskOf_bit (acc : List Nat) (m : Nat) : ∀ (es : List Edge) (s : Nat), (maskOf acc es s).testBit m = true → s.testBit m = true ∨ ∃ e ∈ es, Region.binds .any e = true ∧ (m = e.on ∨ (acc.getD e.on 0).testBit m = true)
  | [], s, h => .inl h
  | e :: es, s, h => by
    unfold maskOf at h
    rw [List.foldl_cons] at h
    rcases maskOf_bit acc m es _ h with h | ⟨e', h1, h2, h3⟩
    · split at h
      · rename_i hb
        rw [Nat.testBit_or, Nat.testBit_or, Nat.testBit_two_pow] at h
        simp only [Bool.or_eq_true, decide_eq_true_eq] at h
        rcases h with (h | h) | h
        · exact .inl h
        · exact .inr ⟨e, by simp, hb, .inl h.symm⟩
        · exact .inr ⟨e, by simp, hb, .inr h⟩
      · exact .inl h
    · exact .inr ⟨e', by simp [h1], h2, h3⟩
theorem masks_listed {L : Nat → Bool} : ∀ (l2 l1 : List Oper) (acc : List Nat), acc.length = l1.length → closedL (l1 ++ l2) L → (∀ i, i < acc.length → (∀ o, (l1 ++ l2)[i]? = some o → ∀ e ∈ o.after, Region.binds .any e = true → L e.on = true) → ∀ m, (acc.getD i 0).testBit m = true → L m = true) →
    ∀ i, (∀ o, (l1 ++ l2)[i]? = some o → ∀ e ∈ o.after, Region.binds .any e = true → L e.on = true) → ∀ m, ((masks l2 acc).getD i 0).testBit m = true → L m = true
  | [], l1, acc, hl, hc, h, i, hi, m, hm => by
    unfold masks at hm
    rcases Nat.lt_or_ge i acc.length with hlt | hge
    · exact h i hlt hi m hm
    · rw [List.getD_eq_getElem?_getD, List.getElem?_eq_none hge] at hm
      simp at hm
  | o :: l2, l1, acc, hl, hc, h, i, hi, m, hm => by
    unfold masks at hm
    have e : l1 ++ o :: l2 = (l1 ++ [o]) ++ l2 := by simp
    rw [e] at hc h hi
    refine masks_listed l2 (l1 ++ [o]) _ (by simp [hl]) hc (fun k hk hke q hq => ?_) i hi m hm
    rcases Nat.lt_or_ge k acc.length with hlt | hge
    · refine h k hlt hke q ?_
      rwa [List.getD_eq_getElem?_getD, List.getElem?_append_left hlt, ← List.getD_eq_getElem?_getD] at hq
    · obtain rfl : k = acc.length := by simp at hk; omega
      rw [List.getD_eq_getElem?_getD, List.getElem?_append_right (Nat.le_refl _), Nat.sub_self] at hq
      simp only [List.getElem?_cons_zero, Option.getD_some] at hq
      have ho : ((l1 ++ [o]) ++ l2)[acc.length]? = some o := by rw [hl]; simp
      rcases maskOf_bit acc q _ 0 hq with hq | ⟨ed, h1, h2, h3⟩
      · simp at hq
      · have hL := hke o ho ed (by simpa using h1) h2
        rcases h3 with rfl | h3
        · exact hL
        · rcases Nat.lt_or_ge ed.on acc.length with hlt | hge
          · exact h ed.on hlt (fun o' ho' e' he' hb' => hc ed.on o' ho' hL e' he' hb') q h3
          · rw [List.getD_eq_getElem?_getD, List.getElem?_eq_none hge] at h3
            simp at h3
theorem pre_listed {l : List Oper} {L : Nat → Bool} (hc : closedL l L) (i : Nat) (hi : ∀ o, l[i]? = some o → ∀ e ∈ o.after, Region.binds .any e = true → L e.on = true) (m : Nat) (hm : pre l i m = true) : L m = true :=
  masks_listed l [] [] rfl hc (fun i h => by simp at h) i hi m hm
def cntL (L : Nat → Bool) : Nat → Nat
  | 0 => 0
  | k + 1 => cntL L k + if L k then 0 else 1
theorem cntL_set {L L' : Nat → Bool} {i : Nat} (hi : L i = false) (hi' : L' i = true) (hne : ∀ j, j ≠ i → L' j = L j) : ∀ k, (i < k → cntL L' k + 1 = cntL L k) ∧ (k ≤ i → cntL L' k = cntL L k)
  | 0 => ⟨fun h => by omega, fun _ => rfl⟩
  | k + 1 => by
    obtain ⟨h1, h2⟩ := cntL_set hi hi' hne k
    unfold cntL
    by_cases hk : k = i
    · subst hk
      rw [hi, hi']
      exact ⟨fun _ => by rw [h2 (Nat.le_refl _)]; simp, fun h => by omega⟩
    · rw [hne k hk]
      exact ⟨fun h => by have := h1 (by omega); omega, fun h => by rw [h2 (by omega)]⟩
theorem cntL_zero {L : Nat → Bool} : ∀ k, cntL L k = 0 → ∀ j, j < k → L j = true
  | k + 1, h, j, hj => by
    unfold cntL at h
    by_cases hk : j = k
    · subst hk
      cases hL : L j with
      | true => rfl
      | false => rw [hL] at h; simp at h
    · exact cntL_zero k (by omega) j (by omega)
theorem region_draw {P : Program} {id : Nat} {l : List Oper} {es : List Ef} {σ0 : St} {Φ : Exit → St → Prop} (hm : P.follows .mixedOrders = true) (hlen : es.length = l.length) (hok : drawOK l es = true) (hback : edgesBack l = true) (hnew : ∀ d ∈ newNames l, σ0.free d = true)
    (steps : ∀ i o e, l[i]? = some o → es[i]? = some e → StepD P l (stL l es (fun _ => true) i σ0) o e) (hΦ : Φ .normal (stL l es (fun _ => true) l.length σ0)) : AW P (.region id l.toArray true) σ0 Φ := by
  intro E ι a w hc
  refine wp_region_any hm ?_
  have hd0 := hc.drawn (w.drawn + 1)
  generalize ({ w with drawn := w.drawn + 1 } : World) = w0 at hd0
  -- pairs
  have pair : ∀ i j x y ex ey, j < i → l[i]? = some x → l[j]? = some y → es[i]? = some ex → es[j]? = some ey → pre l i j = true ∨ apartE l.toArray x y ex ey = true := fun i j x y ex ey hji hx hy hex hey => by
    have hi := (List.getElem?_eq_some_iff.1 hx).1
    have hok2 := hok
    unfold drawOK at hok2
    rw [Bool.and_eq_true] at hok2
    have h1 := List.all_eq_true.1 hok2.2 i (by simpa using hi)
    have h2 := List.all_eq_true.1 h1 j (by simpa using hji)
    simp only [hx, hy, hex, hey, Bool.or_eq_true] at h2
    exact h2
  have ef : ∀ i x, l[i]? = some x → ∃ e, es[i]? = some e := fun i x hx => ⟨es[i]'(by rw [hlen]; exact (List.getElem?_eq_some_iff.1 hx).1), List.getElem?_eq_getElem _⟩
  have key : ∀ (fuel : Nat) (listed : Array Bool) (a : Act) (w : World) (ι : Nat → Nat × Nat × Nat), listed.size = l.length → closedL l (fun j => listed.getD j false) → cntL (fun j => listed.getD j false) l.length ≤ fuel →
      Conc E ι (stL l es (fun j => listed.getD j false) l.length σ0) a w → wpAny P .any l.toArray (fun ex a' w' => ∃ ι' σ', Conc E ι' σ' a' w' ∧ Φ ex σ') fuel listed a w := by
    intro fuel
    have done : ∀ (listed : Array Bool) (a : Act) (w : World) (ι : Nat → Nat × Nat × Nat), (∀ j, j < l.length → listed.getD j false = true) → Conc E ι (stL l es (fun j => listed.getD j false) l.length σ0) a w → ∃ ι' σ', Conc E ι' σ' a w ∧ Φ .normal σ' := fun listed a w ι hall hc => by
      refine ⟨ι, _, hc.le (τ := stL l es (fun _ => true) l.length σ0) ⟨by rw [stL_length, stL_length], fun t => AV.le_of ?_, fun r cs hr => ?_⟩, hΦ⟩
      · exact stL_T _ fun j o hj hne _ => absurd (hall j hj) (by simpa using hne)
      · rw [← hr]; exact stL_H _ fun j e hj hne _ => absurd (hall j hj) (by simpa using hne)
    have hready : ∀ (listed : Array Bool) (i : Nat), listed.size = l.length → i ∈ Region.ready .any l.toArray listed → ∃ o, l[i]? = some o ∧ listed.getD i false = false ∧ ∀ e ∈ o.after, Region.binds .any e = true → listed.getD e.on false = true := fun listed i hsz hi => by
      unfold Region.ready at hi
      rw [List.mem_filter] at hi
      obtain ⟨h1, h2⟩ := hi
      have hin : i < l.length := by simpa using h1
      have ho : l[i]? = some l[i] := List.getElem?_eq_getElem hin
      simp only [Bool.and_eq_true, Bool.not_eq_true', List.getElem?_toArray, ho, Option.map_some, Option.getD_some, Array.all_eq_true_iff_forall_mem] at h2
      refine ⟨_, ho, ?_, fun e he hb => ?_⟩
      · have := h2.1
        simp only [Array.getD, hsz, hin, dif_pos] at this ⊢
        exact this
      · have := h2.2 e he
        simpa [hb] using this
    induction fuel with
    | zero =>
      intro listed a w ι hsz hcl hcnt hc
      have hall := cntL_zero (L := fun j => listed.getD j false) l.length (by omega)
      refine ⟨?_, done listed a w ι hall hc⟩
      refine List.eq_nil_iff_forall_not_mem.2 fun i hi => ?_
      obtain ⟨o, ho, hu, _⟩ := hready listed i hsz hi
      have := hall i (List.getElem?_eq_some_iff.1 ho).1
      rw [hu] at this; cases this
    | succ fuel ih =>
      intro listed a w ι hsz hcl hcnt hc
      refine ⟨fun hnil => done listed a w ι (fun j hj => ?_) hc, fun i hi => ?_⟩
      · -- the first that is not listed would be ready
        refine Classical.byContradiction fun hn => ?_
        have hex : ∃ j, j < l.length ∧ listed.getD j false = false := ⟨j, hj, by simpa using hn⟩
        have key2 : ∀ m, (∃ j, j < m ∧ j < l.length ∧ listed.getD j false = false) → ∃ j, j < l.length ∧ listed.getD j false = false ∧ ∀ k, k < j → listed.getD k false = true := by
          intro m
          induction m with
          | zero => rintro ⟨j, hj, _⟩; omega
          | succ m ihm =>
            rintro ⟨j, hj, hjl, hju⟩
            by_cases hlow : ∃ k, k < m ∧ k < l.length ∧ listed.getD k false = false
            · exact ihm hlow
            · refine ⟨j, hjl, hju, fun k hk => Classical.byContradiction fun hku => hlow ⟨k, by omega, by omega, by simpa using hku⟩⟩
        obtain ⟨j, hjl, hju, hlow⟩ := key2 l.length (by obtain ⟨j, h1, h2⟩ := hex; exact ⟨j, h1, h1, h2⟩)
        have ho : l[j]? = some l[j] := List.getElem?_eq_getElem hjl
        have hb := List.all_eq_true.1 hback j (by simpa using hjl)
        simp only [ho, Array.all_eq_true_iff_forall_mem, Bool.or_eq_true, Bool.not_eq_true', decide_eq_true_eq] at hb
        have hmem : j ∈ Region.ready .any l.toArray listed := by
          unfold Region.ready
          rw [List.mem_filter]
          refine ⟨by simpa using hjl, ?_⟩
          simp only [Bool.and_eq_true, Bool.not_eq_true', List.getElem?_toArray, ho, Option.map_some, Option.getD_some, Array.all_eq_true_iff_forall_mem]
          refine ⟨?_, fun e he => ?_⟩
          · simp only [Array.getD, hsz, hjl, dif_pos] at hju ⊢
            exact hju
          · rcases hb e he with h | h
            · simp [h]
            · simp [hlow e.on h]
        rw [hnil] at hmem; cases hmem
      · obtain ⟨o, ho, hu, hpre⟩ := hready listed i hsz hi
        obtain ⟨e, he⟩ := ef i o ho
        have hil := (List.getElem?_eq_some_iff.1 ho).1
        -- those that differ from the text's order do not meet it
        have hdiff : ∀ j x ex, j < l.length → l[j]? = some x → es[j]? = some ex → (listed.getD j false) ≠ decide (j < i) → x.dst.toList.all (fun d => !(o.looksAt l.toArray).contains d) = true ∧ (∀ r ∈ e.rd, r ∉ ex.wn) := fun j x ex hj hx hex hne => by
          rcases Nat.lt_trichotomy j i with hji | hji | hji
          · have hun : listed.getD j false = false := by
              cases h : listed.getD j false with
              | false => rfl
              | true => rw [h] at hne; simp [hji] at hne
            rcases pair i j o x e ex hji ho hx he hex with hr | hr
            · have := pre_listed hcl i (fun o' ho' => by rw [ho] at ho'; cases ho'; exact hpre) j hr
              rw [hun] at this; cases this
            · unfold apartE at hr
              simp only [Bool.and_eq_true] at hr
              obtain ⟨_, _, h3⟩ := Oper.apart_spec hr.1.1
              refine ⟨?_, fun r hr' hrw => ?_⟩
              · cases hd : x.dst with
                | none => rfl
                | some d => simpa using h3 d hd
              · have := List.all_eq_true.1 hr.1.2 r hrw
                simp at this
                exact this.1 hr'
          · subst hji
            rw [hu] at hne; simp at hne
          · have hli : listed.getD j false = true := by
              cases h : listed.getD j false with
              | true => rfl
              | false => rw [h] at hne; simp at hne; omega
            rcases pair j i x o ex e hji hx ho hex he with hr | hr
            · have := pre_listed hcl j (fun o' ho' => hcl j o' ho' hli) i hr
              rw [hu] at this; cases this
            · unfold apartE at hr
              simp only [Bool.and_eq_true] at hr
              obtain ⟨h1, _, _⟩ := Oper.apart_spec hr.1.1
              refine ⟨?_, fun r hr' hrw => ?_⟩
              · cases hd : x.dst with
                | none => rfl
                | some d => simpa using h1 d hd
              · have := List.all_eq_true.1 hr.2 r hrw
                simp at this
                exact this hr'
        have htext := stL_all (l := l) (es := es) (σ := σ0) i l.length (by omega)
        have hT : ∀ t ∈ o.looksAt l.toArray, (stL l es (fun j => listed.getD j false) l.length σ0).T.getD t .any = (stL l es (fun _ => true) i σ0).T.getD t .any := fun t ht => by
          rw [← htext]
          refine stL_T _ fun j x hj hne hx hd => ?_
          obtain ⟨ex, hex⟩ := ef j x hx
          have := (hdiff j x ex hj hx hex hne).1
          rw [hd] at this
          simp at this
          exact this ht
        have hH : ∀ r ∈ e.rd, hget (stL l es (fun j => listed.getD j false) l.length σ0).H r = hget (stL l es (fun _ => true) i σ0).H r := fun r hr => by
          rw [← htext]
          refine stL_H _ fun j ex hj hne hex hrw => ?_
          have hx : l[j]? = some l[j] := List.getElem?_eq_getElem hj
          exact (hdiff j _ ex hj hx hex hne).2 r hr hrw
        have hN : ∀ d ∈ e.nw, (stL l es (fun j => listed.getD j false) l.length σ0).free d = true := fun d hd => by
          have hf := hok
          unfold drawOK at hf
          rw [Bool.and_eq_true] at hf
          have h1 := List.all_eq_true.1 hf.1 i (by simpa using hil)
          simp only [he] at h1
          have h2 := List.all_eq_true.1 h1 d hd
          rw [Bool.and_eq_true] at h2
          refine stL_free (hnew d (by simpa using h2.1)) _ fun j ej hj hLj hej => ?_
          have h3 := List.all_eq_true.1 h2.2 j (by simpa using hj)
          simp only [hej, Bool.or_eq_true, Bool.not_eq_true'] at h3
          rcases h3 with (h3 | h3) | h3
          · have : j = i := by simpa using h3
            subst this
            rw [hu] at hLj; cases hLj
          · have hjo : l[j]? = some l[j] := List.getElem?_eq_getElem hj
            have := pre_listed hcl j (fun o' ho' => hcl j o' ho' hLj) i h3
            rw [hu] at this; cases this
          · exact h3
        generalize hτ : stL l es (fun j => listed.getD j false) l.length σ0 = τ at *
        have hag : agree o (stL l es (fun _ => true) i σ0).ev τ.ev := fun x hx => by
          cases x with
          | tmp t => exact hT t (List.mem_append_left _ (List.mem_filterMap.2 ⟨.tmp t, hx, rfl⟩))
          | _ => rfl
        -- behind it
        have hset : ∀ j, j ≠ i → (listed.setIfInBounds i true).getD j false = listed.getD j false := fun j hj => by
          simp [Array.getD_eq_getD_getElem?, Array.getElem?_setIfInBounds_ne (Ne.symm hj)]
        have hset' : (listed.setIfInBounds i true).getD i false = true := by
          simp [Array.getD, hsz, hil]
        have hcl' : closedL l (fun j => (listed.setIfInBounds i true).getD j false) := fun j x hx hLj ed hed hb => by
          by_cases hj : j = i
          · subst hj
            rw [ho] at hx; cases hx
            have := hpre ed hed hb
            show (listed.setIfInBounds j true).getD ed.on false = true
            by_cases h : ed.on = j
            · rw [h]; exact hset'
            · rw [hset _ h]; exact this
          · have hLj' : listed.getD j false = true := by rw [← hset j hj]; exact hLj
            have := hcl j x hx hLj' ed hed hb
            show (listed.setIfInBounds i true).getD ed.on false = true
            by_cases h : ed.on = i
            · rw [h]; exact hset'
            · rw [hset _ h]; exact this
        have hcnt' : cntL (fun j => (listed.setIfInBounds i true).getD j false) l.length ≤ fuel := by
          have := (cntL_set (L := fun j => listed.getD j false) (L' := fun j => (listed.setIfInBounds i true).getD j false) hu hset' hset l.length).1 hil
          omega
        have hlater : ∀ j x ex, i < j → l[j]? = some x → es[j]? = some ex → (listed.setIfInBounds i true).getD j false = true → x.dst ≠ o.dst ∨ x.dst = none := fun j x ex hij hx hex hLj => by
          rw [hset j (by omega)] at hLj
          rcases pair j i x o ex e hij hx ho hex he with hr | hr
          · have := pre_listed hcl j (fun o' ho' => hcl j o' ho' hLj) i hr
            rw [hu] at this; cases this
          · unfold apartE at hr
            simp only [Bool.and_eq_true] at hr
            obtain ⟨_, h2, _⟩ := Oper.apart_spec hr.1.1
            cases hd : x.dst with
            | none => exact .inr rfl
            | some d => exact .inl fun e => h2 d hd e.symm
        have hlaterH : ∀ j x ex, i < j → l[j]? = some x → es[j]? = some ex → (listed.setIfInBounds i true).getD j false = true → ∀ r ∈ e.wn, r ∉ ex.wn := fun j x ex hij hx hex hLj r hr hrw => by
          rw [hset j (by omega)] at hLj
          rcases pair j i x o ex e hij hx ho hex he with hr' | hr'
          · have := pre_listed hcl j (fun o' ho' => hcl j o' ho' hLj) i hr'
            rw [hu] at this; cases this
          · unfold apartE at hr'
            simp only [Bool.and_eq_true] at hr'
            have := List.all_eq_true.1 hr'.1.2 r hr
            simp at this
            exact this.2 hrw
        have hle : (τ.eff o.dst e.v e.wr).le (stL l es (fun j => (listed.setIfInBounds i true).getD j false) l.length σ0) := by
          have hstep : stL l es (fun j => (listed.setIfInBounds i true).getD j false) (i + 1) σ0 = (stL l es (fun j => (listed.setIfInBounds i true).getD j false) i σ0).eff o.dst e.v e.wr := by
            conv => lhs; unfold stL
            simp only [hset', if_true, ho, he]
          refine ⟨by show (setO τ.T o.dst e.v).length = _; rw [setO_length, ← hτ, stL_length, stL_length], fun t => AV.le_of ?_, fun r cs hr => ?_⟩
          · by_cases hd : o.dst = some t
            · have h1 : ∀ k, i + 1 ≤ k → k ≤ l.length → (stL l es (fun j => (listed.setIfInBounds i true).getD j false) k σ0).T.getD t .any = (stL l es (fun j => (listed.setIfInBounds i true).getD j false) (i + 1) σ0).T.getD t .any := by
                intro k
                induction k with
                | zero => intro h; omega
                | succ k ihk =>
                  intro h1 h2
                  by_cases hk : k = i
                  · subst hk; rfl
                  · rw [← ihk (by omega) (by omega)]
                    conv => lhs; unfold stL
                    simp only
                    split
                    · rename_i hLk
                      split
                      · rename_i x ex hx hex
                        refine setO_ne ?_
                        rcases hlater k x ex (by omega) hx hex hLk with h | h
                        · rwa [hd] at h
                        · rw [h]; simp
                      · rfl
                    · rfl
              rw [h1 l.length (by omega) (Nat.le_refl _), hstep]
              show (setO τ.T o.dst e.v).getD t .any = (setO _ o.dst e.v).getD t .any
              rw [hd]
              exact setO_same (by rw [← hτ, stL_length, stL_length])
            · show (setO τ.T o.dst e.v).getD t .any = _
              rw [setO_ne hd, ← hτ]
              refine stL_T _ fun j x hj hne hx hdx => ?_
              by_cases hji : j = i
              · subst hji; rw [ho] at hx; cases hx; exact hd hdx
              · exact hne (hset j hji).symm
          · show hget (hputs τ.H e.wr) r = some cs
            rw [← hr]
            by_cases hrw : r ∈ e.wn
            · have h1 : ∀ k, i + 1 ≤ k → k ≤ l.length → hget (stL l es (fun j => (listed.setIfInBounds i true).getD j false) k σ0).H r = hget (stL l es (fun j => (listed.setIfInBounds i true).getD j false) (i + 1) σ0).H r := by
                intro k
                induction k with
                | zero => intro h; omega
                | succ k ihk =>
                  intro h1 h2
                  by_cases hk : k = i
                  · subst hk; rfl
                  · rw [← ihk (by omega) (by omega)]
                    conv => lhs; unfold stL
                    simp only
                    split
                    · rename_i hLk
                      split
                      · rename_i x ex hx hex
                        show hget (hputs _ ex.wr) r = _
                        rw [hget_puts, hget_wn (hlaterH k x ex (by omega) hx hex hLk r hrw)]
                      · rfl
                    · rfl
              rw [h1 l.length (by omega) (Nat.le_refl _), hstep]
              show hget (hputs τ.H e.wr) r = hget (hputs _ e.wr) r
              rw [hget_puts, hget_puts]
              obtain ⟨ds, hds⟩ := hget_of_key hrw
              rw [hds]
            · rw [hget_puts, hget_wn hrw, ← hτ]
              refine stL_H _ fun j ex hj hne hex hrx => ?_
              by_cases hji : j = i
              · subst hji; rw [he] at hex; cases hex; exact hrw hrx
              · exact hne (hset j hji).symm
        have hnext : ∀ ι' a' w', Conc E ι' (τ.eff o.dst e.v e.wr) a' w' → wpAny P .any l.toArray (fun ex a' w' => ∃ ι' σ', Conc E ι' σ' a' w' ∧ Φ ex σ') fuel (listed.setIfInBounds i true) a' w' := fun ι' a' w' hc' =>
          ih _ a' w' ι' (by simpa using hsz) hcl' hcnt' (hc'.le hle)
        unfold wpOp
        simp only [List.getElem?_toArray, ho]
        have run : OpN P o (stL l es (fun _ => true) i σ0).ev (hget (stL l es (fun _ => true) i σ0).H) e → o.wp P a w (wpAny P .any l.toArray (fun ex a' w' => ∃ ι' σ', Conc E ι' σ' a' w' ∧ Φ ex σ') fuel (listed.setIfInBounds i true)) (fun ex a' w' => ∃ ι' σ', Conc E ι' σ' a' w' ∧ Φ ex σ') := fun hF =>
          hF τ hag hH hN E ι a w hc _ _ fun ι' σ' a' w' hk hc' => hnext ι' a' w' (by rw [← hk]; exact hc')
        rcases steps i o e ho he with ⟨hg, hF⟩ | ⟨j, want, d, b, hg, hd, ⟨hb, hcase⟩ | ⟨hb, rfl⟩⟩
        · have hw : Region.wanted o (yielded l.toArray a.tmps) = true := by simp [Region.wanted, hg]
          rw [if_pos hw]
          exact .inl (run hF)
        · have hdl : d ∈ o.looksAt l.toArray := List.mem_append_right _ (by rw [hg]; simp [List.getElem?_toArray, hd])
          have hb' : τ.T.getD d .any = .c (.v (.bool b)) := by rw [hT d hdl]; exact hb
          have hv := hc.tmp d
          rw [hb'] at hv
          obtain ⟨ev, _⟩ := hv.v_inv
          have hlt : d < a.tmps.size := by
            rw [hc.size]
            rcases Nat.lt_or_ge d τ.T.length with h | h
            · exact h
            · rw [List.getD_eq_getElem?_getD, List.getElem?_eq_none h] at hb'; cases hb'
          have hy : yielded l.toArray a.tmps j = some b := by
            unfold yielded
            rw [List.getElem?_toArray, hd]
            simp only [Option.bind_some]
            have : a.tmps[d]? = some (.bool b) := by
              rw [Array.getElem?_eq_getElem hlt]
              simp only [Array.getD, hlt, dif_pos] at ev
              simpa using ev
            rw [this]
          have hw : Region.wanted o (yielded l.toArray a.tmps) = (some b == some want) := by
            unfold Region.wanted
            rw [hg]
            simp only [hy]
          rw [hw]
          rcases hcase with ⟨rfl, hF⟩ | ⟨rfl, rfl⟩
          · simp only [beq_self_eq_true, if_true]
            exact .inl (run hF)
          · have : (some (!want) == some want) = false := by cases want <;> rfl
            simp only [this, Bool.false_eq_true, if_false]
            refine hnext ι _ w ?_
            have := hc.put o.dst (v := undef) (x := .tup []) .undef
            cases hdst : o.dst with
            | none => rw [hdst] at this; exact this
            | some d' => rw [hdst] at this; exact this
        · have hdl : d ∈ o.looksAt l.toArray := List.mem_append_right _ (by rw [hg]; simp [List.getElem?_toArray, hd])
          have hb' : τ.T.getD d .any = .tup [] := by rw [hT d hdl]; exact hb
          have hv := hc.tmp d
          rw [hb'] at hv
          have ev := hv.undef_inv
          have hy : yielded l.toArray a.tmps j = none := by
            unfold yielded
            rw [List.getElem?_toArray, hd]
            simp only [Option.bind_some]
            simp only [Array.getD_eq_getD_getElem?] at ev
            cases hh : a.tmps[d]? with
            | none => rfl
            | some u => rw [hh] at ev; simp only [Option.getD_some] at ev; rw [ev]; rfl
          have hw : Region.wanted o (yielded l.toArray a.tmps) = false := by
            unfold Region.wanted
            rw [hg]
            simp only [hy]
            rfl
          rw [hw]
          simp only [Bool.false_eq_true, if_false]
          refine hnext ι _ w ?_
          have := hc.put o.dst (v := undef) (x := .tup []) .undef
          cases hdst : o.dst with
          | none => rw [hdst] at this; exact this
          | some d' => rw [hdst] at this; exact this
  have hempty : ∀ k, stL l es (fun j => (Array.replicate l.length false).getD j false) k σ0 = σ0 := by
    intro k
    induction k with
    | zero => rfl
    | succ k ih =>
      unfold stL
      have : (Array.replicate l.length false).getD k false = false := by
        simp [Array.getD_eq_getD_getElem?, Array.getElem?_replicate]
        split <;> rfl
      simp only [this, Bool.false_eq_true, if_false, ih]
  have hsz : l.toArray.size = l.length := by simp
  rw [hsz]
  refine key l.length _ a w0 ι (by simp) (fun j o ho hL => ?_) ?_ (by rw [hempty]; exact hd0)
  · exfalso
    have : (Array.replicate l.length false).getD j false = false := by
      simp [Array.getD_eq_getD_getElem?, Array.getElem?_replicate]
      split <;> rfl
    simp only [this] at hL; cases hL
  · have : ∀ k, cntL (fun j => (Array.replicate l.length false).getD j false) k ≤ k := by
      intro k
      induction k with
      | zero => exact Nat.le_refl _
      | succ k ih => unfold cntL; split <;> omega
    exact this _
end Go.Proofs.Ytiggambibcohcaa
