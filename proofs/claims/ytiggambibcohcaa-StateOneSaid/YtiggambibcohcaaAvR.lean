/-
  Regions that draw their order, a step at a time. No program in sight.
-/
import Derived.Test.YtiggambibcohcaaAvQ
namespace Go.Proofs.Ytiggambibcohcaa
open Go.RowKit
set_option linter.unusedSimpArgs false
set_option linter.unusedVariables false

def evD (P : Program) (l0 : List Oper) : List Oper → St → List Ef → (St → Prop) → Prop
  | [], σ, acc, K => drawOK l0 acc.reverse = true ∧ K σ
  | o :: rest, σ, acc, K => ∃ e, StepD P l0 σ o e ∧ evD P l0 rest (σ.eff o.dst e.v e.wr) (e :: acc) K
theorem evD_spec {P : Program} {l0 : List Oper} {σ0 : St} {K : St → Prop} : ∀ (rest : List Oper) (σ : St) (acc : List Ef) (k : Nat), rest = l0.drop k → acc.length = k → k ≤ l0.length →
    (∀ es : List Ef, (∀ i, i < k → es[i]? = acc.reverse[i]?) → stL l0 es (fun _ => true) k σ0 = σ) → evD P l0 rest σ acc K →
    ∃ es : List Ef, es.length = l0.length ∧ (∀ i, i < k → es[i]? = acc.reverse[i]?) ∧ drawOK l0 es = true ∧ (∀ i o e, k ≤ i → l0[i]? = some o → es[i]? = some e → StepD P l0 (stL l0 es (fun _ => true) i σ0) o e) ∧ K (stL l0 es (fun _ => true) l0.length σ0)
  | [], σ, acc, k, hr, ha, hk, hσ, h => by
    have hkl : k = l0.length := by
      have := congrArg List.length hr
      simp at this; omega
    subst hkl
    refine ⟨acc.reverse, by simp [ha], fun _ _ => rfl, h.1, fun i o e hi ho => ?_, ?_⟩
    · have := (List.getElem?_eq_some_iff.1 ho).1; omega
    · rw [hσ acc.reverse fun _ _ => rfl]; exact h.2
  | o :: rest, σ, acc, k, hr, ha, hk, hσ, h => by
    obtain ⟨e, hstep, hrest⟩ := h
    have ho : l0[k]? = some o := by
      have := congrArg (·[0]?) hr
      simpa using this.symm
    have hklt := (List.getElem?_eq_some_iff.1 ho).1
    have hrest' : rest = l0.drop (k + 1) := by
      have := congrArg List.tail hr
      simpa using this
    obtain ⟨es, h1, h2, h3, h4, h5⟩ := evD_spec (σ0 := σ0) rest (σ.eff o.dst e.v e.wr) (e :: acc) (k + 1) hrest' (by simp [ha]) (by omega) (fun es hes => by
      have hpre : stL l0 es (fun _ => true) k σ0 = σ := hσ es fun i hi => by
        rw [hes i (by omega), List.reverse_cons, List.getElem?_append_left (by simp; omega)]
      have hek : es[k]? = some e := by
        rw [hes k (by omega), List.reverse_cons, List.getElem?_append_right (by simp; omega)]
        simp [ha]
      conv => lhs; unfold stL
      simp only [if_true, ho, hek, hpre]) hrest
    have hpre : ∀ i, i < k → es[i]? = acc.reverse[i]? := fun i hi => by
      rw [h2 i (by omega), List.reverse_cons, List.getElem?_append_left (by simp; omega)]
    refine ⟨es, h1, hpre, h3, fun i o' e' hi ho' he' => ?_, h5⟩
    by_cases hik : i = k
    · subst hik
      rw [ho] at ho'; cases ho'
      have hek : es[i]? = some e := by
        rw [h2 i (by omega), List.reverse_cons, List.getElem?_append_right (by simp; omega)]
        simp [ha]
      rw [hek] at he'; cases he'
      rw [hσ es hpre]; exact hstep
    · exact h4 i o' e' (by omega) ho' he'
section
variable {P : Program} {l0 rest : List Oper} {o : Oper} {σ : St} {acc : List Ef} {K : St → Prop} {Φ : Exit → St → Prop}
theorem evC_draw {id : Nat} (hm : P.follows .mixedOrders = true) (hback : edgesBack l0 = true) (hnew : (newNames l0).all (fun d => σ.free d) = true) (h : ∀ R : St → Prop, (∀ σ', Φ .normal σ' → R σ') → evD P l0 l0 σ [] R) : evC P (.region id l0.toArray true) σ Φ := by
  obtain ⟨es, h1, _, h3, h4, h5⟩ := evD_spec (P := P) (l0 := l0) (σ0 := σ) l0 σ [] 0 rfl rfl (Nat.zero_le _) (fun _ _ => rfl) (h _ fun _ h => h)
  exact region_draw hm h1 h3 hback (fun d hd => List.all_eq_true.1 hnew d hd) (fun i o e ho he => h4 i o e (Nat.zero_le _) ho he) h5
theorem evD_nil (hok : drawOK l0 acc.reverse = true) (h : K σ) : evD P l0 [] σ acc K := ⟨hok, h⟩
/-- what an operation reads, by its operands' values -/
def rdE (op : Op) (ev : Operand → AV) : List Nat :=
  match op with
  | .load _ x => rdOf (ev x)
  | .store _ p _ => rdOf (ev p)
  | .call c => c.args.toList.flatMap fun x => rdOf (ev x)
  | _ => []
theorem eff_rd (τ : St) (d : Nat) (v : AV) : St.mk (τ.T.set d v) τ.H = τ.eff (some d) v [] := rfl
theorem eff_st (τ : St) (r : Nat) (cs : List AV) : St.mk τ.T (hput τ.H r cs) = τ.eff none .any [(r, cs)] := rfl
theorem evD_one {v : AV} {rd : List Nat} {wr : List (Nat × List AV)} (hg : o.guard = none) (hF : OpF P o σ.ev (hget σ.H) v rd wr) (h : evD P l0 rest (σ.eff o.dst v wr) (⟨v, rd, wr, []⟩ :: acc) K) : evD P l0 (o :: rest) σ acc K :=
  ⟨⟨v, rd, wr, []⟩, .inl ⟨hg, hF.toN⟩, h⟩
theorem evD_grd {j d : Nat} {want b : Bool} {v : AV} {rd : List Nat} {wr : List (Nat × List AV)} (hg : o.guard = some (j, want)) (hd : (l0[j]?).bind (·.dst) = some d) (hb : σ.T.getD d .any = .c (.v (.bool b))) (hbw : b = want) (hF : OpF P o σ.ev (hget σ.H) v rd wr)
    (h : evD P l0 rest (σ.eff o.dst v wr) (⟨v, rd, wr, []⟩ :: acc) K) : evD P l0 (o :: rest) σ acc K :=
  ⟨⟨v, rd, wr, []⟩, .inr ⟨j, want, d, b, hg, hd, .inl ⟨hb, .inl ⟨hbw, hF.toN⟩⟩⟩, h⟩
theorem evD_skip {j d : Nat} {want b : Bool} (hg : o.guard = some (j, want)) (hd : (l0[j]?).bind (·.dst) = some d) (hb : σ.T.getD d .any = .c (.v (.bool b))) (hbw : b = !want)
    (h : evD P l0 rest (σ.eff o.dst (.tup []) []) (⟨.tup [], [], [], []⟩ :: acc) K) : evD P l0 (o :: rest) σ acc K :=
  ⟨⟨.tup [], [], [], []⟩, .inr ⟨j, want, d, b, hg, hd, .inl ⟨hb, .inr ⟨hbw, rfl⟩⟩⟩, h⟩
theorem evD_unmet {j d : Nat} {want : Bool} (hg : o.guard = some (j, want)) (hd : (l0[j]?).bind (·.dst) = some d) (hb : σ.T.getD d .any = .tup [])
    (h : evD P l0 rest (σ.eff o.dst (.tup []) []) (⟨.tup [], [], [], []⟩ :: acc) K) : evD P l0 (o :: rest) σ acc K :=
  ⟨⟨.tup [], [], [], []⟩, .inr ⟨j, want, d, false, hg, hd, .inr ⟨hb, rfl⟩⟩, h⟩
/-- a new name -/
theorem eff_nw (τ : St) (d : Nat) (v : AV) (cs : List AV) : (St.mk τ.T (hput τ.H d cs)).put (some d) v = τ.eff (some d) v [(d, cs)] := rfl
theorem evD_new {v : AV} {rd : List Nat} {d : Nat} {cs : List AV} (hg : o.guard = none) (hds : o.dst = some d) (hrd : [] = rd) (hF : ∀ τ : St, agree o σ.ev τ.ev → (∀ r ∈ rd, hget τ.H r = hget σ.H r) → τ.free d = true → evO P o τ fun ρ => ρ = τ.eff o.dst v [(d, cs)]) (h : evD P l0 rest (σ.eff o.dst v [(d, cs)]) (⟨v, rd, [(d, cs)], [d]⟩ :: acc) K) : evD P l0 (o :: rest) σ acc K :=
  ⟨⟨v, rd, [(d, cs)], [d]⟩, .inl ⟨hg, fun τ h1 h2 h3 => evO_sound (hF τ h1 h2 (h3 d (by simp)))⟩, h⟩
theorem evD_grd_new {j d' : Nat} {want b : Bool} {v : AV} {rd : List Nat} {d : Nat} {cs : List AV} (hg : o.guard = some (j, want)) (hd : (l0[j]?).bind (·.dst) = some d') (hb : σ.T.getD d' .any = .c (.v (.bool b))) (hbw : b = want) (hds : o.dst = some d) (hrd : [] = rd) (hF : ∀ τ : St, agree o σ.ev τ.ev → (∀ r ∈ rd, hget τ.H r = hget σ.H r) → τ.free d = true → evO P o τ fun ρ => ρ = τ.eff o.dst v [(d, cs)]) (h : evD P l0 rest (σ.eff o.dst v [(d, cs)]) (⟨v, rd, [(d, cs)], [d]⟩ :: acc) K) : evD P l0 (o :: rest) σ acc K :=
  ⟨⟨v, rd, [(d, cs)], [d]⟩, .inr ⟨j, want, d', b, hg, hd, .inl ⟨hb, .inl ⟨hbw, fun τ h1 h2 h3 => evO_sound (hF τ h1 h2 (h3 d (by simp)))⟩⟩⟩, h⟩
/-- the value of a guard is decided -/
theorem evD_bool {d : Nat} {b : Bool} (l1 : List Oper) (hb : σ.T.getD d .any = .c (.v (.bool b))) (h1 : b = true → evD P l0 l1 (σ.put (some d) (.c (.v (.bool true)))) acc K) (h2 : b = false → evD P l0 l1 (σ.put (some d) (.c (.v (.bool false)))) acc K) : evD P l0 l1 σ acc K := by
  cases b with
  | true => have := h1 rfl; rwa [put_same hb (by simp)] at this
  | false => have := h2 rfl; rwa [put_same hb (by simp)] at this
theorem opF_rd {v : AV} (rd : List Nat) (h : ∀ τ : St, agree o σ.ev τ.ev → (∀ r ∈ rd, hget τ.H r = hget σ.H r) → evO P o τ fun ρ => ρ = τ.eff o.dst v []) : OpF P o σ.ev (hget σ.H) v rd [] := opF_of rd h
theorem opF_st {r : Nat} {cs : List AV} (rd : List Nat) (h : ∀ τ : St, agree o σ.ev τ.ev → (∀ r ∈ rd, hget τ.H r = hget σ.H r) → evO P o τ fun ρ => ρ = τ.eff o.dst .any [(r, cs)]) : OpF P o σ.ev (hget σ.H) .any rd [(r, cs)] := opF_of rd h
theorem evD_rd {v : AV} {rd : List Nat} (hg : o.guard = none) (hrd : rdE o.op σ.ev = rd) (hF : ∀ τ : St, agree o σ.ev τ.ev → (∀ r ∈ rd, hget τ.H r = hget σ.H r) → evO P o τ fun ρ => ρ = τ.eff o.dst v []) (h : evD P l0 rest (σ.eff o.dst v []) (⟨v, rd, [], []⟩ :: acc) K) : evD P l0 (o :: rest) σ acc K :=
  evD_one hg (opF_rd rd hF) h
theorem evD_st {r : Nat} {cs : List AV} {rd : List Nat} (hg : o.guard = none) (hrd : rdE o.op σ.ev = rd) (hF : ∀ τ : St, agree o σ.ev τ.ev → (∀ r ∈ rd, hget τ.H r = hget σ.H r) → evO P o τ fun ρ => ρ = τ.eff o.dst .any [(r, cs)]) (h : evD P l0 rest (σ.eff o.dst .any [(r, cs)]) (⟨.any, rd, [(r, cs)], []⟩ :: acc) K) : evD P l0 (o :: rest) σ acc K :=
  evD_one hg (opF_st rd hF) h
theorem evD_grd_rd {j d : Nat} {want b : Bool} {v : AV} {rd : List Nat} (hg : o.guard = some (j, want)) (hd : (l0[j]?).bind (·.dst) = some d) (hb : σ.T.getD d .any = .c (.v (.bool b))) (hbw : b = want) (hrd : rdE o.op σ.ev = rd) (hF : ∀ τ : St, agree o σ.ev τ.ev → (∀ r ∈ rd, hget τ.H r = hget σ.H r) → evO P o τ fun ρ => ρ = τ.eff o.dst v []) (h : evD P l0 rest (σ.eff o.dst v []) (⟨v, rd, [], []⟩ :: acc) K) : evD P l0 (o :: rest) σ acc K :=
  evD_grd hg hd hb hbw (opF_rd rd hF) h
theorem evD_grd_st {j d : Nat} {want b : Bool} {r : Nat} {cs : List AV} {rd : List Nat} (hg : o.guard = some (j, want)) (hd : (l0[j]?).bind (·.dst) = some d) (hb : σ.T.getD d .any = .c (.v (.bool b))) (hbw : b = want) (hrd : rdE o.op σ.ev = rd) (hF : ∀ τ : St, agree o σ.ev τ.ev → (∀ r ∈ rd, hget τ.H r = hget σ.H r) → evO P o τ fun ρ => ρ = τ.eff o.dst .any [(r, cs)]) (h : evD P l0 rest (σ.eff o.dst .any [(r, cs)]) (⟨.any, rd, [(r, cs)], []⟩ :: acc) K) : evD P l0 (o :: rest) σ acc K :=
  evD_grd hg hd hb hbw (opF_st rd hF) h
/-- a guard whose value is not known: both ways -/
theorem evD_split {j d : Nat} {want b : Bool} (hg : o.guard = some (j, want)) (hd : (l0[j]?).bind (·.dst) = some d) (hb : σ.T.getD d .any = .c (.v (.bool b))) (h1 : b = true → evD P l0 (o :: rest) (σ.eff (some d) (.c (.v (.bool true))) []) acc K) (h2 : b = false → evD P l0 (o :: rest) (σ.eff (some d) (.c (.v (.bool false))) []) acc K) : evD P l0 (o :: rest) σ acc K :=
  evD_bool _ hb h1 h2
theorem opF_call0 {f : FuncId} {fn : Func} {cargs : List AV} {res : AV} {fo : Operand} {as : Array Operand} {ts : Array TypeId} {caps : List AV} (hF : Fn P f cargs [] res []) (ho : o.op = .call { callee := .value fo, args := as, argTypes := ts }) (hfo : okConst fo = true) (has : as.toList.all okConst = true) (hf : σ.ev fo = .fn f caps)
    (hfn : P.funcs[f]? = some fn) (hname : (fn.name == "runtime.NumGoroutine") = false) (hbody : fn.body.isNone = false)
    (hargs : as.toList.map σ.ev ++ caps = cargs) (hno : AV.inNL [] cargs = true) (hin : AV.inN [] res = true) : OpF P o σ.ev (hget σ.H) res [] [] :=
  fun τ hA _ => by
    have hA' : ∀ x ∈ fo :: as.toList, τ.ev x = σ.ev x := fun x hx => hA x (by rw [ho]; simpa [Op.operands, Call.operands] using hx)
    refine opA_call0 hF ho hfo has (by rw [hA' fo (by simp)]; exact hf) hfn hname hbody (by rw [← hargs]; congr 1; exact List.map_congr_left fun x hx => hA' x (by simp [hx])) hno hin ?_
    cases o.dst <;> rfl
/-! forms that one text serves -/
def isCallF (op : Op) : Bool := match op with
  | .call c => (match c.callee with | .value _ => true | _ => false)
  | _ => false
theorem evL_call {ops : Array Oper} (hg : o.guard = none) (hc : isCallF o.op = true) (h : ∀ K', (∀ σ', evL P ops rest σ' K → K' σ') → OpA P o σ K') : evL P ops (o :: rest) σ K := evL_op hg h
theorem opA_callB {f : FuncId} {fn : Func} {cargs : List AV} {res : AV} {fo : Operand} {as : Array Operand} {ts : Array TypeId} {caps : List AV} (hF : Fn P f cargs [] res []) (ho : o.op = .call { callee := .value fo, args := as, argTypes := ts }) (hfo : okConst fo = true) (has : as.toList.all okConst = true) (hf : σ.ev fo = .fn f caps)
    (hfn : P.funcs[f]? = some fn) (hname : (fn.name == "runtime.NumGoroutine") = false) (hbody : fn.body.isNone = false)
    (hargs : as.toList.map σ.ev ++ caps = cargs) (hio : AV.inNL [] (res :: cargs) = true) (hK : K (σ.put o.dst res)) : OpA P o σ K := by
  unfold AV.inNL at hio
  rw [Bool.and_eq_true] at hio
  exact opA_call0 hF ho hfo has hf hfn hname hbody hargs hio.2 hio.1 hK
theorem opF_callB {f : FuncId} {fn : Func} {cargs : List AV} {res : AV} {fo : Operand} {as : Array Operand} {ts : Array TypeId} {caps : List AV} (hF : Fn P f cargs [] res []) (ho : o.op = .call { callee := .value fo, args := as, argTypes := ts }) (hfo : okConst fo = true) (has : as.toList.all okConst = true) (hf : σ.ev fo = .fn f caps)
    (hfn : P.funcs[f]? = some fn) (hname : (fn.name == "runtime.NumGoroutine") = false) (hbody : fn.body.isNone = false)
    (hargs : as.toList.map σ.ev ++ caps = cargs) (hio : AV.inNL [] (res :: cargs) = true) : OpF P o σ.ev (hget σ.H) res [] [] := by
  unfold AV.inNL at hio
  rw [Bool.and_eq_true] at hio
  exact opF_call0 hF ho hfo has hf hfn hname hbody hargs hio.2 hio.1
theorem opA_callR {f : FuncId} {fn : Func} {cargs : List AV} {H0 H1 : List (Nat × List AV)} {res : AV} (hF : Fn P f cargs H0 res H1) (ρ : Nat → Nat)
    {fo : Operand} {as : Array Operand} {ts : Array TypeId} {caps : List AV} (ho : o.op = .call { callee := .value fo, args := as, argTypes := ts }) (hfo : okConst fo = true) (has : as.toList.all okConst = true) (hf : σ.ev fo = .fn f caps)
    (hfn : P.funcs[f]? = some fn) (hname : (fn.name == "runtime.NumGoroutine") = false) (hbody : fn.body.isNone = false)
    (hD0 : H0.all (fun x => decide (1000 ≤ x.1)) = true) (hinj : ∀ r ∈ H0.map (·.1) ++ H1.map (·.1), ∀ q ∈ H0.map (·.1) ++ H1.map (·.1), ρ r = ρ q → r = q)
    (hall : argsOk ρ cargs (as.toList.map σ.ev ++ caps) ∧ (∀ r ∈ H0.map (·.1), hget σ.H (ρ r) = (hget H0 r).map (AV.renL ρ)) ∧ newOk σ ρ H0 H1 ∧ AV.inN (H1.map (·.1)) res = true ∧ inH (H1.map (·.1)) H1 = true)
    (hK : K ((St.mk σ.T (hputs (hdels σ.H (renH ρ H0)) (renH ρ H1))).put o.dst (AV.ren ρ res))) : OpA P o σ K :=
  opA_call hF ρ ho hfo has hf hfn hname hbody hD0 hall.1 hall.2.1 hinj hall.2.2.1 hall.2.2.2.1 hall.2.2.2.2 hK
def nwO (o : Oper) : List Nat := match o.op with
  | .buildSlice _ _ _ => o.dst.toList
  | .alloc _ => o.dst.toList
  | .box _ _ => o.dst.toList
  | .call c => (match c.callee with | .builtin .append => o.dst.toList | _ => [])
  | _ => []
theorem evD_any {v : AV} {rd nw : List Nat} {wr : List (Nat × List AV)} (hg : o.guard = none) (hnw : nwO o = nw) (hrd : rdE o.op σ.ev = rd) (hF : ∀ τ : St, agree o σ.ev τ.ev → (∀ r ∈ rd, hget τ.H r = hget σ.H r) → (∀ d ∈ nw, τ.free d = true) → evO P o τ fun ρ => ρ = τ.eff o.dst v wr)
    (h : evD P l0 rest (σ.eff o.dst v wr) (⟨v, rd, wr, nw⟩ :: acc) K) : evD P l0 (o :: rest) σ acc K :=
  ⟨⟨v, rd, wr, nw⟩, .inl ⟨hg, fun τ h1 h2 h3 => evO_sound (hF τ h1 h2 h3)⟩, h⟩
theorem evD_gany {j d' : Nat} {want b : Bool} {v : AV} {rd nw : List Nat} {wr : List (Nat × List AV)} (hg : o.guard = some (j, want)) (hd : (l0[j]?).bind (·.dst) = some d') (hb : σ.T.getD d' .any = .c (.v (.bool b))) (hbw : b = want) (hnw : nwO o = nw) (hrd : rdE o.op σ.ev = rd) (hF : ∀ τ : St, agree o σ.ev τ.ev → (∀ r ∈ rd, hget τ.H r = hget σ.H r) → (∀ d ∈ nw, τ.free d = true) → evO P o τ fun ρ => ρ = τ.eff o.dst v wr)
    (h : evD P l0 rest (σ.eff o.dst v wr) (⟨v, rd, wr, nw⟩ :: acc) K) : evD P l0 (o :: rest) σ acc K :=
  ⟨⟨v, rd, wr, nw⟩, .inr ⟨j, want, d', b, hg, hd, .inl ⟨hb, .inl ⟨hbw, fun τ h1 h2 h3 => evO_sound (hF τ h1 h2 h3)⟩⟩⟩, h⟩
theorem evD_fcall {v : AV} {rd : List Nat} {wr : List (Nat × List AV)} (hc : isCallF o.op = true) (hg : o.guard = none) (hF : OpF P o σ.ev (hget σ.H) v rd wr) (h : evD P l0 rest (σ.eff o.dst v wr) (⟨v, rd, wr, []⟩ :: acc) K) : evD P l0 (o :: rest) σ acc K := evD_one hg hF h
theorem evD_gcall {j d : Nat} {want b : Bool} {v : AV} {rd : List Nat} {wr : List (Nat × List AV)} (hc : isCallF o.op = true) (hg : o.guard = some (j, want)) (hd : (l0[j]?).bind (·.dst) = some d) (hb : σ.T.getD d .any = .c (.v (.bool b))) (hbw : b = want) (hF : OpF P o σ.ev (hget σ.H) v rd wr)
    (h : evD P l0 rest (σ.eff o.dst v wr) (⟨v, rd, wr, []⟩ :: acc) K) : evD P l0 (o :: rest) σ acc K := evD_grd hg hd hb hbw hF h
end
end Go.Proofs.Ytiggambibcohcaa
