/-
  Equality of values of many cells (integers and bools, in structs and arrays). No program in sight.
-/
import Derived.Test.YtiggambibcohcaaAvF
import Derived.ChangeKeysEq
namespace Go.Proofs.Ytiggambibcohcaa
open Go.RowKit
set_option linter.unusedSimpArgs false
set_option linter.unusedVariables false

def eqVs : List Value → List Value → Option Bool
  | [], [] => some true
  | .int k a :: r, .int k' b :: s => if k = k' then (eqVs r s).map ((a == b) && ·) else none
  | _, _ => none
theorem eqVs_app : ∀ (a c b d : List Value) (r : Bool), a.length = c.length → eqVs (a ++ b) (c ++ d) = some r → ∃ r1 r2, eqVs a c = some r1 ∧ eqVs b d = some r2 ∧ r = (r1 && r2)
  | [], [], b, d, r, _, h => ⟨true, r, rfl, h, by simp⟩
  | x :: a, y :: c, b, d, r, hl, h => by
    have hl' : a.length = c.length := by simpa using hl
    cases x <;> cases y <;> simp only [List.cons_append, eqVs] at h <;> (try cases h)
    · split at h
      · rename_i k p k' q hk
        simp only [Option.map_eq_some_iff] at h
        obtain ⟨t, ht, rfl⟩ := h
        obtain ⟨r1, r2, h1, h2, rfl⟩ := eqVs_app a c b d t hl' ht
        exact ⟨(p == q) && r1, r2, by simp [eqVs, h1, hk], h2, by simp [Bool.and_assoc]⟩
      · cases h
def vOf (g : Bool) (l : List Value) : Value := if g then .agg l.toArray else l.headD undef

def eqFs (P : Program) (eq : TypeId → Bool) : Nat → List Field → Option Nat
  | off, [] => some off
  | off, f :: fs => if f.offset = off ∧ f.name ≠ "_" ∧ eq f.type = true then match szT P f.type with | some s => eqFs P eq (off + s) fs | none => none else none
def eqTy (P : Program) : Nat → TypeId → Bool
  | 0, _ => false
  | d + 1, t => match P.underlying t with
    | some (.int _) => szT P t == some 1
    | some (.array n e) => eqTy P d e && szT P t == (szT P e).map (n * ·)
    | some (.struct fs) => !P.stoodInHeld t && eqFs P (eqTy P d) 0 fs.toList == szT P t && (szT P t).isSome
    | _ => false
section
variable {P : Program}
theorem run_part {t off s : Nat} {g : Bool} {cs : Array Value} {l : List Value} (hs : szT P t = some s) (hg : aggT P t = some g) (h1 : g = false → s = 1) (hl : (cs.toList.drop off).take s = l) (hn : l.length = s) (w : World) :
    (part t cs off).run P w = .ok (vOf g l) w := by
  cases g with
  | true =>
    have : cs.extract off (off + s) = l.toArray := by rw [← hl]; apply Array.ext'; simp [List.extract_eq_take_drop]
    simp [part, run_aggT hg, run_szT hs, vOf, this]
  | false =>
    obtain rfl := h1 rfl
    match l, hn with
    | [u], _ =>
      have h0 : cs[off]? = some u := by
        have := congrArg (·[0]?) hl
        simpa using this
      simp [part, run_aggT hg, vOf, h0]
theorem aggT_of {t : TypeId} {d : TypeDesc} (h : P.underlying t = some d) : aggT P t = some (wideD d) := by
  unfold aggT; rw [h]; rfl
def EqAt' (P : Program) (d : Nat) (t : TypeId) : Prop := ∀ (c s : Nat) (g : Bool) (w : World) (xs ys : List Value) (r : Bool), szT P t = some s → aggT P t = some g → xs.length = s → ys.length = s → eqVs xs ys = some r →
  (Op.equalIn (d + c) t (vOf g xs) (vOf g ys)).run P w = .ok r w ∧ (g = false → s = 1)
theorem drop_take_app (l : List Value) (off s : Nat) : l.drop off = (l.drop off).take s ++ l.drop (off + s) := by
  rw [← List.drop_drop]; exact (List.take_append_drop _ _).symm
theorem eqFields_run {d c : Nat} (xs ys : Array Value) : ∀ (fs : List Field) (off tot : Nat) (r : Bool) (w : World), (∀ f ∈ fs, eqTy P d f.type = true → EqAt' P d f.type) → eqFs P (eqTy P d) off fs = some tot → xs.size = tot → ys.size = tot →
    eqVs (xs.toList.drop off) (ys.toList.drop off) = some r → (Op.eqFields (d + c) xs ys fs).run P w = .ok r w ∧ off ≤ tot
  | [], off, tot, r, w, _, he, h1, h2, hr => by
    simp only [eqFs, Option.some.injEq] at he
    subst he
    rw [List.drop_eq_nil_of_le (by simp; omega), List.drop_eq_nil_of_le (by simp; omega)] at hr
    cases hr
    exact ⟨rfl, Nat.le_refl _⟩
  | f :: fs, off, tot, r, w, ih, he, h1, h2, hr => by
    unfold eqFs at he
    split at he
    · rename_i hcond
      obtain ⟨rfl, hname, hty⟩ := hcond
      split at he
      · rename_i s hs
        have hF := ih f (by simp) hty
        have hle : f.offset + s ≤ tot := by
          have : ∀ (fs : List Field) (o tot : Nat), eqFs P (eqTy P d) o fs = some tot → o ≤ tot := by
            intro fs
            induction fs with
            | nil => intro o tot h; simp [eqFs] at h; omega
            | cons f fs ih =>
              intro o tot h
              unfold eqFs at h
              split at h
              · split at h
                · have := ih _ _ h; omega
                · cases h
              · cases h
          exact this _ _ _ he
        have hg : ∃ g, aggT P f.type = some g := by
          cases d with
          | zero => simp [eqTy] at hty
          | succ d =>
            unfold eqTy at hty
            cases hu : P.underlying f.type with
            | none => simp [hu] at hty
            | some dd => exact ⟨_, aggT_of hu⟩
        obtain ⟨g, hg⟩ := hg
        have hlx : ((xs.toList.drop f.offset).take s).length = s := by simp; omega
        have hly : ((ys.toList.drop f.offset).take s).length = s := by simp; omega
        rw [drop_take_app xs.toList f.offset s, drop_take_app ys.toList f.offset s] at hr
        obtain ⟨r1, r2, e1, e2, rfl⟩ := eqVs_app _ _ _ _ _ (by rw [hlx, hly]) hr
        obtain ⟨run1, hone⟩ := hF c s g w _ _ r1 hs hg hlx hly e1
        have p1 := run_part (P := P) hs hg hone rfl hlx w
        have p2 := run_part (P := P) hs hg hone rfl hly w
        obtain ⟨run2, _⟩ := eqFields_run xs ys fs (f.offset + s) tot r2 w (fun f hf => ih f (by simp [hf])) he h1 h2 e2
        refine ⟨?_, by omega⟩
        simp only [Op.eqFields, if_pos hname, Sem.run_bind, p1, p2, run1, Result.andThen_ok]
        cases r1
        · simp
        · simpa using run2
      · cases he
    · cases he
theorem eqItems_run {d c e s n : Nat} (hE : EqAt' P d e) {g : Bool} (hs : szT P e = some s) (hg : aggT P e = some g) (hc : P.cellsOf e = s) (xs ys : Array Value) (hx : xs.size = n * s) (hy : ys.size = n * s) : ∀ (m k : Nat) (r : Bool) (w : World), k + m = n →
    eqVs (xs.toList.drop (k * s)) (ys.toList.drop (k * s)) = some r → (Op.eqItems (d + c) e (P.cellsOf e) xs ys (List.range' k m)).run P w = .ok r w
  | 0, k, r, w, hk, hr => by
    have e1 : xs.toList.drop (k * s) = [] := List.drop_eq_nil_of_le (by simp [hx]; rw [show k = n by omega]; exact Nat.le_refl _)
    have e2 : ys.toList.drop (k * s) = [] := List.drop_eq_nil_of_le (by simp [hy]; rw [show k = n by omega]; exact Nat.le_refl _)
    rw [e1, e2] at hr
    cases hr
    rfl
  | m + 1, k, r, w, hk, hr => by
    have hle : k * s + s ≤ n * s := by
      have : (k + 1) * s ≤ n * s := Nat.mul_le_mul_right _ (by omega)
      rwa [Nat.add_mul, Nat.one_mul] at this
    have hlx : ((xs.toList.drop (k * s)).take s).length = s := by simp; omega
    have hly : ((ys.toList.drop (k * s)).take s).length = s := by simp; omega
    rw [drop_take_app xs.toList (k * s) s, drop_take_app ys.toList (k * s) s] at hr
    obtain ⟨r1, r2, e1, e2, rfl⟩ := eqVs_app _ _ _ _ _ (by rw [hlx, hly]) hr
    obtain ⟨run1, hone⟩ := hE c s g w _ _ r1 hs hg hlx hly e1
    have p1 := run_part (P := P) hs hg hone rfl hlx w
    have p2 := run_part (P := P) hs hg hone rfl hly w
    have e3 : k * s + s = (k + 1) * s := by rw [Nat.add_mul, Nat.one_mul]
    rw [e3] at e2
    have run2 := eqItems_run (c := c) hE hs hg hc xs ys hx hy m (k + 1) r2 w (by omega) e2
    rw [List.range'_succ]
    simp only [Op.eqItems, Sem.run_bind, hc, p1, p2, run1, Result.andThen_ok]
    rw [hc] at run2
    cases r1
    · simp
    · simpa using run2
theorem eqAt_of : ∀ (d : Nat) (t : TypeId), eqTy P d t = true → EqAt' P d t
  | 0, t, h => by simp [eqTy] at h
  | d + 1, t, h => by
    intro c s g w xs ys r hs hg hx hy hr
    have h' := h
    unfold eqTy at h'
    cases hu : P.underlying t with
    | none => simp [hu] at h'
    | some dd =>
      have hg' := aggT_of hu
      rw [hg] at hg'
      simp only [hu] at h'
      have ed : d + 1 + c = (d + c) + 1 := by omega
      rw [ed]
      cases dd with
      | int k =>
        simp [wideD] at hg' h'
        rw [hs] at h'
        cases h'
        subst hg'
        match xs, ys, hx, hy, hr with
        | [x], [y], _, _, hr =>
          cases x <;> cases y <;> simp [eqVs] at hr
          · obtain ⟨rfl, hr⟩ := hr
            subst hr
            exact ⟨run_equalIn_int w _ _ _ _ _ _ hu, fun _ => rfl⟩
      | array n e =>
        simp [wideD] at hg' h'
        subst hg'
        obtain ⟨he, hsz⟩ := h'
        cases hse : szT P e with
        | none => rw [hse, hs] at hsz; simp at hsz
        | some se =>
          rw [hse, hs] at hsz
          simp at hsz
          subst hsz
          have hge : ∃ g, aggT P e = some g := by
            cases d with
            | zero => simp [eqTy] at he
            | succ d =>
              unfold eqTy at he
              cases hue : P.underlying e with
              | none => simp [hue] at he
              | some dd => exact ⟨_, aggT_of hue⟩
          obtain ⟨ge, hge⟩ := hge
          have hinfo : ∃ i, P.info? e = some i ∧ i.size = se := by
            unfold szT at hse
            cases hi : P.info? e with
            | none => simp [hi] at hse
            | some i => simp [hi] at hse; exact ⟨i, rfl, hse⟩
          obtain ⟨i, hi, his⟩ := hinfo
          refine ⟨?_, fun h => by cases h⟩
          simp only [vOf, if_true]
          rw [run_equalIn_array w (d + c) _ _ hu hi, List.range_eq_range']
          exact eqItems_run (n := n) (eqAt_of d e he) hse hge (by simp [Program.cellsOf, hi, his]) _ _ (by simpa using hx) (by simpa using hy) n 0 r w (by omega) (by simpa using hr)
      | struct fs =>
        simp [wideD] at hg' h'
        subst hg'
        obtain ⟨⟨hst, hfs⟩, _⟩ := h'
        rw [hs] at hfs
        refine ⟨?_, fun h => by cases h⟩
        simp only [vOf, if_true]
        have hfo : P.fieldsOf t = fs := by simp [Program.fieldsOf, hu]
        rw [run_equalIn_struct w (d + c) t _ _ (by rw [hfo]; exact hu) hst, hfo]
        exact (eqFields_run (c := c) xs.toArray ys.toArray fs.toList 0 s r w (fun f _ hf => eqAt_of d f.type hf) hfs (by simpa using hx) (by simpa using hy) (by simpa using hr)).1
      | _ => simp at h'
/-- equal, over abstract cells -/
def eqAV : List AV → List AV → Option Bool
  | [], [] => some true
  | .c (.v (.int k a)) :: r, .c (.v (.int k' b)) :: s => if k = k' then (eqAV r s).map ((a == b) && ·) else none
  | _, _ => none
theorem eqAV_vals {S : Nat → Prop} {ι : Nat → Nat × Nat × Nat} {w : World} : ∀ (cs ds : List AV) (us vs : List Value) (r : Bool), us.length = cs.length → vs.length = ds.length → (∀ (j : Nat) (u : Value) (x : AV), us[j]? = some u → cs[j]? = some x → RV S ι w u x) →
    (∀ (j : Nat) (u : Value) (x : AV), vs[j]? = some u → ds[j]? = some x → RV S ι w u x) → eqAV cs ds = some r → eqVs us vs = some r
  | [], [], us, vs, r, h1, h2, _, _, h => by
    obtain rfl := List.eq_nil_of_length_eq_zero h1
    obtain rfl := List.eq_nil_of_length_eq_zero h2
    exact h
  | _ :: _, [], _, _, r, _, _, _, _, h => by simp [eqAV] at h
  | [], _ :: _, _, _, r, _, _, _, _, h => by simp [eqAV] at h
  | x :: cs, y :: ds, u :: us, v :: vs, r, h1, h2, g1, g2, h => by
    unfold eqAV at h
    split at h
    · cases ‹_ :: _ = []›
    · rename_i k a cs' k' b ds' e1 e2
      cases e1; cases e2
      split at h
      · rename_i hk
        simp only [Option.map_eq_some_iff] at h
        obtain ⟨t, ht, rfl⟩ := h
        have ih := eqAV_vals cs ds us vs t (by simpa using h1) (by simpa using h2) (fun j u x hu hx => g1 (j + 1) u x (by simpa using hu) (by simpa using hx)) (fun j u x hu hx => g2 (j + 1) u x (by simpa using hu) (by simpa using hx)) ht
        obtain ⟨rfl, _⟩ := (g1 0 _ _ rfl rfl).v_inv
        obtain ⟨rfl, _⟩ := (g2 0 _ _ rfl rfl).v_inv
        simp [eqVs, hk, ih]
      · cases h
    · cases h
theorem opA_eqs {σ : St} {K : St → Prop} {o : Oper} {op : BinOp} {t t' : TypeId} {x y : Operand} {cs ds : List AV} {r : Bool} (d : Nat) (hop : op = .eql ∨ op = .neq) (ho : o.op = .binOp op t x y t') (ht : eqTy P d t = true) (hg : aggT P t = some true) (hs : szT P t = some cs.length) (hs' : cs.length = ds.length) (hd : d ≤ 10000) (hgu : P.eqGuardType P.depth t = false)
    (hx : okConst x = true) (hy : okConst y = true) (h1 : σ.ev x = .agg cs) (h2 : σ.ev y = .agg ds) (hr : eqAV cs ds = some r) (hK : K (σ.put o.dst (.c (.v (.bool (if op = .eql then r else !r)))))) : OpA P o σ K :=
  opA_val _ hK fun E ι a w h => by
    have hxv := h.ev x hx
    have hyv := h.ev y hy
    rw [h1] at hxv
    rw [h2] at hyv
    generalize e1 : a.eval x = u at hxv
    generalize e2 : a.eval y = v at hyv
    cases hxv with
    | agg us _ hl ho1 hu =>
      cases hyv with
      | agg vs _ hl' ho2 hv =>
        have hre := eqAV_vals cs ds us vs r hl hl' hu hv hr
        obtain ⟨c, hc⟩ : ∃ c, Op.maxDepth = d + c := ⟨10000 - d, by show (10000 : Nat) = _; omega⟩
        have heq : (Op.equal t (.agg us.toArray) (.agg vs.toArray)).run P w = .ok r w := by
          unfold Op.equal
          rw [hc]
          exact (eqAt_of d t ht c cs.length true w us vs r hs hg hl (by omega) hre).1
        have hguard : ∀ op, (eqGuard op t x y (.agg us.toArray) (.agg vs.toArray)).run P w = .ok () w := by
          intro op
          unfold eqGuard
          cases op <;> simp [hgu]
        have g1 : binOp .eql t (.agg us.toArray) (.agg vs.toArray) = (do pure (.bool (← Op.equal t (.agg us.toArray) (.agg vs.toArray)))) := rfl
        have g2 : binOp .neq t (.agg us.toArray) (.agg vs.toArray) = (do pure (.bool (!(← Op.equal t (.agg us.toArray) (.agg vs.toArray))))) := rfl
        refine ⟨_, ?_, rv_const _ rfl⟩
        rcases hop with rfl | rfl
        · simp only [execOp, ho, e1, e2, Sem.run_bind, hguard, Result.andThen_ok, g1, heq, Sem.run_pure, if_true]
        · simp only [execOp, ho, e1, e2, Sem.run_bind, hguard, Result.andThen_ok, g2, heq, Sem.run_pure, reduceCtorEq, if_false]
end
end Go.Proofs.Ytiggambibcohcaa
