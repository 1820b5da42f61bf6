/-
  Operations over abstract states: what each does, and that it does so. No program in sight.
-/
import Derived.Test.YtiggambibcohcaaAvA
namespace Go.Proofs.Ytiggambibcohcaa
open Go.RowKit
set_option linter.unusedSimpArgs false
set_option linter.unusedVariables false

/-! what a program says of its types -/
def szT (P : Program) (t : TypeId) : Option Nat := (P.info? t).map (·.size)
def wideD (d : TypeDesc) : Bool := match d with | .struct _ | .array _ _ => true | _ => false
def aggT (P : Program) (t : TypeId) : Option Bool := (P.underlying t).map wideD
def zeroT (P : Program) (t : TypeId) : Option (List Value) := ((P.info? t).bind (·.zero)).map (·.cells.toList)
def intT (P : Program) (t : TypeId) : Option IntKind := match P.underlying t with | some (.int k) => some k | _ => none
def boolT (P : Program) (t : TypeId) : Bool := match P.underlying t with | some .bool => true | _ => false
/-- a struct's field: its offset, its size, whether it has many cells -/
def fldT (P : Program) (t k : Nat) : Option (Nat × Nat × Bool) :=
  match P.underlying t with
  | some (.struct fs) => match fs[k]? with
    | some f => match szT P f.type, aggT P f.type with
      | some s, some g => some (f.offset, s, g)
      | _, _ => none
    | none => none
  | _ => none
/-- an array's length and its elements' size; a slice's element, its size, its bytes -/
def arrT (P : Program) (t : Nat) : Option (Nat × Nat × Bool) :=
  match P.underlying t with
  | some (.array n e) => match szT P e, aggT P e with
    | some s, some g => some (n, s, g)
    | _, _ => none
  | _ => none
def slcT (P : Program) (t : Nat) : Option (Nat × Nat × Nat) :=
  match P.underlying t with
  | some (.slice e) => match P.info? e with
    | some i => some (e, i.size, i.bytes)
    | none => none
  | _ => none

section
variable {P : Program} {t : TypeId}
theorem run_szT {s : Nat} (h : szT P t = some s) (w : World) : (sizeOf t).run P w = .ok s w := by
  unfold szT at h
  cases hi : P.info? t with
  | none => simp [hi] at h
  | some i => simp [sizeOf, typeInfo, hi] at h ⊢; exact h
theorem run_aggT {g : Bool} (h : aggT P t = some g) (w : World) : (isAgg t).run P w = .ok g w := by
  unfold aggT at h
  cases hu : P.underlying t with
  | none => simp [hu] at h
  | some d =>
    simp [hu] at h
    subst h
    unfold isAgg
    rw [Sem.run_bind, run_underlying hu w]
    cases d <;> simp [wideD]
theorem run_zeroT {z : List Value} (h : zeroT P t = some z) (w : World) : ∃ v, (zeroValue t).run P w = .ok v w ∧ v.cells.toList = z := by
  unfold zeroT at h
  cases hi : P.info? t with
  | none => simp [hi] at h
  | some i =>
    cases hz : i.zero with
    | none => simp [hi, hz] at h
    | some v => simp [hi, hz] at h; exact ⟨v, by simp [zeroValue, typeInfo, hi, hz], h⟩
end

def St.put (σ : St) (dst : Option Tmp) (x : AV) : St :=
  match dst with
  | some d => ⟨σ.T.set d x, σ.H⟩
  | none => σ

section
variable {E : Env} {ι : Nat → Nat × Nat × Nat} {σ : St} {a : Act} {w : World}
theorem RV.v_inv {S : Nat → Prop} {v x : Value} (h : RV S ι w v (.c (.v x))) : v = x ∧ x.oneCell' = true := by
  cases h with
  | c _ _ h => cases h with | v _ h => exact ⟨rfl, h⟩
theorem rv_const {S : Nat → Prop} (v : Value) (h : v.oneCell' = true) : RV S ι w v (.c (.v v)) := .c _ _ (.v _ h)
theorem rv_ofV {S : Nat → Prop} (v : Value) (h : (match v with | .agg cs => cs.toList.all (·.oneCell') | _ => true) = true) : RV S ι w v (ofV v) := by
  cases v with
  | agg cs =>
    simp only [List.all_eq_true] at h
    have : (Value.agg cs) = .agg cs.toList.toArray := by simp
    rw [this]
    refine .agg _ _ (by simp) (fun u hu => h u hu) fun j u x hu hx => ?_
    simp only [List.getElem?_map, hu, Option.map_some, Option.some.injEq] at hx
    subst hx
    exact rv_const u (h u (List.mem_of_getElem? hu))
  | tuple vs => exact .any _
  | _ => exact rv_const _ rfl
/-- constants of a program that may stand as operands -/
def okConst : Operand → Bool
  | .const (.agg cs) => cs.toList.all (·.oneCell')
  | _ => true
theorem Conc.ev (h : Conc E ι σ a w) (x : Operand) (hx : okConst x = true) : RV (Sx E ι σ.H) ι w (a.eval x) (σ.ev x) := by
  cases x with
  | tmp t => exact h.tmp t
  | const v => exact rv_ofV v (by cases v <;> first | rfl | exact hx)
  | global g => exact .any _
  | func f => exact .fn f [] [] rfl (fun j u x hu => by simp at hu)
theorem Conc.put (h : Conc E ι σ a w) (dst : Option Tmp) {v : Value} {x : AV} (hv : RV (Sx E ι σ.H) ι w v x) : Conc E ι (σ.put dst x) (a.put dst v) w := by
  cases dst with
  | none => exact h
  | some d =>
    refine ⟨h.defers, by simp [Act.put, St.put, h.size], fun i => ?_, h.heap, h.keep⟩
    show RV (Sx E ι σ.H) ι w ((a.tmps.setIfInBounds d v).getD i undef) ((σ.T.set d x).getD i .any)
    have hs := h.size
    by_cases hi : i = d
    · subst hi
      by_cases hlt : i < a.tmps.size
      · have : (a.tmps.setIfInBounds i v).getD i undef = v := by simp [Array.getD, hlt]
        rw [this]
        have : (σ.T.set i x).getD i .any = x := by simp [List.getD, List.getElem?_set, show i < σ.T.length by omega]
        rw [this]; exact hv
      · have : (σ.T.set i x).getD i .any = .any := by rw [List.getD_eq_getElem?_getD, List.getElem?_eq_none (by simp; omega)]; rfl
        rw [this]; exact .any _
    · have e1 : (a.tmps.setIfInBounds d v).getD i undef = a.tmps.getD i undef := by
        simp [Array.getD_eq_getD_getElem?, Array.getElem?_setIfInBounds_ne (Ne.symm hi)]
      have e2 : (σ.T.set d x).getD i .any = σ.T.getD i .any := by simp [List.getD, List.getElem?_set, Ne.symm hi]
      rw [e1, e2]; exact h.tmp i
end

/-! one operation -/
def OpA (P : Program) (o : Oper) (σ : St) (K : St → Prop) : Prop :=
  ∀ (E : Env) (ι : Nat → Nat × Nat × Nat) (a : Act) (w : World), Conc E ι σ a w → ∀ (K' : Act → World → Prop) (Q : Exit → Act → World → Prop), (∀ ι' σ' a' w', K σ' → Conc E ι' σ' a' w' → K' a' w') → o.wp P a w K' Q
theorem OpA.mono {P : Program} {o : Oper} {σ : St} {K K1 : St → Prop} (h : OpA P o σ K) (hk : ∀ σ, K σ → K1 σ) : OpA P o σ K1 :=
  fun E ι a w hc K' Q hK' => h E ι a w hc K' Q fun ι' σ' a' w' hk' => hK' ι' σ' a' w' (hk _ hk')
/-- a value, and nothing else -/
theorem opA_val {P : Program} {o : Oper} {σ : St} {K : St → Prop} (x : AV) (hK : K (σ.put o.dst x))
    (h : ∀ E ι a w, Conc E ι σ a w → ∃ v, (execOp a.eval o).run P w = .ok (.value v) w ∧ RV (Sx E ι σ.H) ι w v x) : OpA P o σ K := by
  intro E ι a w hc K' Q hK'
  obtain ⟨v, hr, hv⟩ := h E ι a w hc
  unfold Oper.wp
  rw [hr]
  exact hK' _ _ _ _ hK (hc.put o.dst hv)

/-! numbers -/
def bop (op : BinOp) (x y : Value) : Option Value :=
  match x, y with
  | .int k a, .int k' b =>
    match op with
    | .shl => if 0 ≤ b then some (.int k (k.wrap (a * 2 ^ (min b.toNat k.bits)))) else none
    | .shr => if 0 ≤ b then some (.int k (a.fdiv (2 ^ (min b.toNat k.bits)))) else none
    | op =>
      if k = k' then
        match op with
        | .add => some (.int k (k.wrap (a + b)))
        | .sub => some (.int k (k.wrap (a - b)))
        | .mul => some (.int k (k.wrap (a * b)))
        | .eql => some (.bool (a == b))
        | .neq => some (.bool (a != b))
        | .lss => some (.bool (decide (a < b)))
        | .leq => some (.bool (decide (a ≤ b)))
        | .gtr => some (.bool (decide (a > b)))
        | .geq => some (.bool (decide (a ≥ b)))
        | .quo => if b = 0 then none else some (.int k (k.wrap (a.tdiv b)))
        | .rem => if b = 0 then none else some (.int k (a.tmod b))
        | .and => some (.int k (k.wrap (BitVec.ofInt k.bits a &&& BitVec.ofInt k.bits b).toNat))
        | .or => some (.int k (k.wrap (BitVec.ofInt k.bits a ||| BitVec.ofInt k.bits b).toNat))
        | .xor => some (.int k (k.wrap (BitVec.ofInt k.bits a ^^^ BitVec.ofInt k.bits b).toNat))
        | .andNot => some (.int k (k.wrap (BitVec.ofInt k.bits a &&& ~~~ BitVec.ofInt k.bits b).toNat))
        | _ => none
      else none
  | _, _ => none
theorem bop_one {op : BinOp} {x y v : Value} (h : bop op x y = some v) : v.oneCell' = true := by
  unfold bop at h
  split at h
  · split at h
    · split at h <;> simp at h; subst h; rfl
    · split at h <;> simp at h; subst h; rfl
    · split at h
      · split at h <;> (try split at h) <;> simp at h <;> (subst h; rfl)
      · cases h
  · cases h
theorem run_bop {P : Program} {op : BinOp} {x y v : Value} (h : bop op x y = some v) (t : TypeId) (w : World) : (binOp op t x y).run P w = .ok v w := by
  unfold bop at h
  split at h
  · rename_i k a k' b
    split at h
    · split at h
      · rename_i hb
        simp at h; subst h
        simp [binOp, Op.shift, show ¬ b < 0 by omega]
      · cases h
    · split at h
      · rename_i hb
        simp at h; subst h
        simp [binOp, Op.shift, show ¬ b < 0 by omega]
      · cases h
    · rename_i h1 h2
      split at h
      · rename_i hk
        subst hk
        cases op <;> simp at h h1 h2 <;> (try (obtain ⟨hz, h⟩ := h)) <;> (try subst h) <;> simp [binOp, Op.intArith, Op.intCmp, Op.intDiv, Op.intBits, *]
      · cases h
  · cases h
theorem run_eqGuard {P : Program} {op : BinOp} {x y : Value} (hx : x.oneCell' = true) (hn : x ≠ .nilIface) (t : TypeId) (o1 o2 : Operand) (w : World) : (eqGuard op t o1 o2 x y).run P w = .ok () w := by
  unfold eqGuard
  cases op <;> simp <;> (cases x <;> simp_all [Value.oneCell'])
end Go.Proofs.Ytiggambibcohcaa
