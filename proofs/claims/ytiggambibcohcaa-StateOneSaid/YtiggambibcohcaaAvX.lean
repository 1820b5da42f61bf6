/-
  Calls of functions for which the model stands in. No program in sight.
-/
import Derived.Test.YtiggambibcohcaaAvT
import Derived.Laws.Externs
namespace Go.Proofs.Ytiggambibcohcaa
open Go.RowKit
set_option linter.unusedSimpArgs false
set_option linter.unusedVariables false
/-- what a call of a function without a body comes to, by value -/
def Ext (P : Program) (f : FuncId) (args : List Value) (res : AV) : Prop :=
  ∀ w : World, ∃ r, (callFunc f args.toArray).run P w = .ok (.value r) w ∧ ∀ (S : Nat → Prop) (ι : Nat → Nat × Nat × Nat) (w' : World), RV S ι w' r res
def AV.ones : List AV → Option (List Value)
  | [] => some []
  | .c (.v x) :: l => (AV.ones l).map (x :: ·)
  | _ => none
theorem ones_eq : ∀ {l : List AV} {vs : List Value}, AV.ones l = some vs → l = vs.map fun v => .c (.v v)
  | [], vs, h => by cases h; rfl
  | .c (.v x) :: l, vs, h => by
    simp only [AV.ones, Option.map_eq_some_iff] at h
    obtain ⟨ws, h', rfl⟩ := h
    rw [ones_eq h']; rfl
  | .c (.sl _ _ _ _) :: _, _, h => by cases h
  | .any :: _, _, h => by cases h
  | .agg _ :: _, _, h => by cases h
  | .tup _ :: _, _, h => by cases h
  | .ptr _ _ :: _, _, h => by cases h
  | .row _ _ _ _ :: _, _, h => by cases h
  | .cut _ _ _ _ _ _ _ :: _, _, h => by cases h
  | .ep _ :: _, _, h => by cases h
  | .fn _ _ :: _, _, h => by cases h
section
variable {P : Program} {o : Oper} {σ : St} {K : St → Prop} {f : FuncId} {vs : List Value} {res : AV} {fo : Operand} {as : Array Operand} {ts : Array TypeId}
theorem opA_ext (hF : Ext P f vs res) (ho : o.op = .call { callee := .value fo, args := as, argTypes := ts }) (hfo : okConst fo = true) (has : as.toList.all okConst = true) (hf : σ.ev fo = .fn f [])
    (hargs : AV.ones (as.toList.map σ.ev) = some vs) (hK : K (σ.put o.dst res)) : OpA P o σ K :=
  opA_val _ hK fun E ι a w h => by
    have hfv := h.ev fo hfo
    rw [hf] at hfv
    generalize hfe : a.eval fo = fv at hfv
    cases hfv with
    | fn _ us _ hul hus =>
      obtain rfl := List.eq_nil_of_length_eq_zero hul
      obtain ⟨r, hr, hv⟩ := hF w
      refine ⟨r, ?_, hv _ _ _⟩
      have hev : as.toList.map a.eval = vs := by
        have h1 := ones_eq hargs
        refine List.ext_getElem? fun j => ?_
        have h2 : (as.toList.map σ.ev)[j]? = (vs.map fun v => AV.c (.v v))[j]? := by rw [h1]
        rw [List.getElem?_map, List.getElem?_map] at h2
        rw [List.getElem?_map]
        cases hx : as.toList[j]? with
        | none =>
          rw [hx] at h2
          cases hv' : vs[j]? with
          | none => rfl
          | some v => rw [hv'] at h2; cases h2
        | some x =>
          rw [hx] at h2
          cases hv' : vs[j]? with
          | none => rw [hv'] at h2; cases h2
          | some v =>
            rw [hv'] at h2
            simp only [Option.map_some, Option.some.injEq] at h2
            have h3 := h.ev x (List.all_eq_true.1 has x (List.mem_of_getElem? hx))
            rw [h2] at h3
            simp only [Option.map_some, Option.some.injEq]
            exact h3.v_inv.1
      have h1 : as.map a.eval = vs.toArray := by rw [← hev, ← Array.toList_map]
      simp only [execOp, ho, resolve, hfe, Deferred.ofValue, h1, Sem.run_bind, Sem.run_pure, Result.andThen_ok, invoke, Array.empty_append, List.append_toArray, List.nil_append, List.append_nil, hr]
theorem opF_ext (hF : Ext P f vs res) (ho : o.op = .call { callee := .value fo, args := as, argTypes := ts }) (hfo : okConst fo = true) (has : as.toList.all okConst = true) (hf : σ.ev fo = .fn f [])
    (hargs : AV.ones (as.toList.map σ.ev) = some vs) : OpF P o σ.ev (hget σ.H) res [] [] :=
  fun τ hA hQ => by
    have hA' : ∀ x ∈ fo :: as.toList, τ.ev x = σ.ev x := fun x hx => hA x (by rw [ho]; simpa [Op.operands, Call.operands] using hx)
    have hmap : as.toList.map τ.ev = as.toList.map σ.ev := List.map_congr_left fun x hx => hA' x (by simp [hx])
    refine opA_ext hF ho hfo has (by rw [hA' fo (by simp)]; exact hf) (by rw [hmap]; exact hargs) ?_
    cases o.dst <;> rfl
end
theorem ext_of {P : Program} {f : FuncId} {fn : Func} {e : Array Value → Sem Value} {vs : List Value} {r : Value} {res : AV} (hf : P.funcs[f]? = some fn) (hname : (fn.name == "runtime.NumGoroutine") = false)
    (hb : fn.body.isNone = true) (hn : Extern.findNext fn = none) (he : Extern.find fn = some e) (hr : ∀ w, (e vs.toArray).run P w = .ok r w) (hv : ∀ (S : Nat → Prop) (ι : Nat → Nat × Nat × Nat) (w' : World), RV S ι w' r res) : Ext P f vs res :=
  fun w => ⟨r, by rw [run_callFunc_extern hf hname hb hn he, hr w]; rfl, hv⟩
def smI (x y c : Int) : Int := (x + y + c) % 18446744073709551616
def cyI (x y c : Int) : Int := (x + y + c) / 18446744073709551616
theorem add64_ext {P : Program} {f : FuncId} {fn : Func} (hf : P.funcs[f]? = some fn) (hname : (fn.name == "runtime.NumGoroutine") = false)
    (hb : fn.body.isNone = true) (hn : Extern.findNext fn = none) (he : Extern.find fn = some add64Entry) (x y c : Int) (hx : 0 ≤ x) (hy : 0 ≤ y) (hc0 : 0 ≤ c) (hc : c ≤ 1) :
    Ext P f [.int .u64 x, .int .u64 y, .int .u64 c] (.tup [.c (.v (.int .u64 (smI x y c))), .c (.v (.int .u64 (cyI x y c)))]) :=
  ext_of hf hname hb hn he (fun w => run_add64 x y c hx hy hc0 hc w) fun S ι w' => .tup [_, _] [_, _] rfl fun j u x hu hx => by
    rcases j with _ | _ | j
    · cases hu; cases hx; exact .c _ _ (.v _ rfl)
    · cases hu; cases hx; exact .c _ _ (.v _ rfl)
    · cases hu
end Go.Proofs.Ytiggambibcohcaa
