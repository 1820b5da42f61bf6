/-
  What the listed package variables hold (out of what is laid); the law AddrMakes at what was read.
-/
import Derived.Test.YtgdjkkapgghdbaaDoorYs
import Derived.Test.YtgdjkkapgghdbaaDoorDv
import Derived.Test.YtgdjkkapgghdbaaDoorRows
import Derived.OpenShut
import Derived.MakeChecks
namespace Go.Proofs.YtgdjkkapgghdbaaDoor
open Go.RowKit
set_option linter.unusedVariables false
set_option linter.unusedSimpArgs false
theorem laid_ints {P : Program} {w : World} {t e : TypeId} {N fuel : Nat} {k : IntKind} {cs : List Value} {L : List Int} {p : List MemPlace} (ht : P.underlying t = some (.array N e)) (he : P.underlying e = some (.int k)) (hc : P.cellsOf e = 1) (hN : L.length = N)
    (hd : DataW.trod (fun _ => ()) P w 0 (fun _ => true) false fuel t cs = some (.agg (L.map fun n => .lit (.int k n)), p)) : ∀ (j : Nat) (n : Int), L[j]? = some n → cs[j]? = some (Value.int k n) := by
  obtain ⟨xs, m, _, ex, _, hl, hel⟩ := DataW.trod_array ht hd
  intro j n hj
  have hjN : j < N := by rw [← hN]; exact (List.getElem?_eq_some_iff.1 hj).1
  have hE := hel j hjN
  rw [hc, Nat.mul_one, List.getElem?_eq_getElem (by omega)] at hE
  obtain ⟨z, e1, e2, _⟩ := DataW.trod_int he hE
  have e3 : xs.map (·.1) = L.map fun n => .lit (.int k n) := (DataW.agg.inj (Prod.mk.inj ex).1).symm
  have e4 : (xs.map (·.1))[j]? = (L.map fun n => (DataW.lit (.int k n) : DataW Unit))[j]? := by rw [e3]
  rw [List.getElem?_map, List.getElem?_map, List.getElem?_eq_getElem (by omega : j < xs.length), hj, e2] at e4
  have hz : z = n := by
    simp only [Option.map_some, Option.some.injEq, DataW.lit.injEq, Lit.int.injEq, true_and] at e4
    exact e4
  have h0 : ((cs.drop j).take 1)[0]? = some (.int k z) := by rw [e1]; rfl
  rw [← hz]
  simpa using h0
theorem globs_ok {W : World} (h : laidMetH Tryd.prog Rows.addrMakesRow.laid W) : GlobOK W (fun _ => True) (fun _ => (0, 0, 0)) [] := by
  rw [MakeChecks.laidMetH_plain _ _ _ (by kernel_rfl)] at h
  obtain ⟨ps, ⟨g, t, cs, fuel, p, q, hg, ht, hv, hd, ⟨g', t', cs', fuel', p', q', hg', ht', hv', hd', _, _⟩, _⟩, _, _⟩ := h
  obtain rfl := Option.some.inj ((show Tryd.prog.globalNamed "sheafer/sponge.turns" = some 1 by kernel_rfl).symm.trans hg)
  obtain rfl := Option.some.inj ((show (Tryd.prog.globals[1]?).map (·.type) = some 100 by kernel_rfl).symm.trans ht)
  obtain rfl := Option.some.inj ((show Tryd.prog.globalNamed "sheafer/sponge.numbers" = some 0 by kernel_rfl).symm.trans hg')
  obtain rfl := Option.some.inj ((show (Tryd.prog.globals[0]?).map (·.type) = some 71 by kernel_rfl).symm.trans ht')
  have k1 := laid_ints (L := turnsL) Tryd.underlying100 Tryd.underlying3 (by kernel_rfl) rfl hd
  have k2 := laid_ints (L := numsL) Tryd.underlying71 Tryd.underlying22 (by kernel_rfl) rfl hd'
  intro g cs0 hgl
  unfold globV globs at hgl
  simp only [List.find?_cons, List.find?_nil] at hgl
  split at hgl
  · rename_i e
    have e : 0 = g := by simpa using e
    subst e
    cases hgl
    refine ⟨trivial, fun r hr => (by cases hr), by decide, by decide, fun j u hu => ?_⟩
    rw [World.var?_cell hg' hv' j]
    rw [List.getElem?_map] at hu
    cases hj : numsL[j]? with
    | none => rw [hj] at hu; cases hu
    | some n =>
      rw [hj] at hu
      cases hu
      have := k2 j n hj
      simpa using this
  · split at hgl
    · rename_i e
      have e : 1 = g := by simpa using e
      subst e
      cases hgl
      refine ⟨trivial, fun r hr => (by cases hr), by decide, by decide, fun j u hu => ?_⟩
      rw [World.var?_cell hg hv j]
      rw [List.getElem?_map] at hu
      cases hj : turnsL[j]? with
      | none => rw [hj] at hu; cases hu
      | some n =>
        rw [hj] at hu
        cases hu
        have := k1 j n hj
        simpa using this
    · cases hgl
theorem word_lanes {t : Nat} (ht : t < WW) : ∃ W : List UInt64, W.length = 4 ∧ wN t = lnA W := by
  have key : ∀ x : Int, 0 ≤ x → x ≤ 18446744073709551615 → ((UInt64.ofNat x.toNat).toNat : Int) = x := fun x h0 h1 => by
    rw [UInt64.toNat_ofNat_of_lt' (show x.toNat < 18446744073709551616 by omega)]; omega
  have hb : ∀ n : Nat, (0 : Int) ≤ ((n % 18446744073709551616 : Nat) : Int) ∧ ((n % 18446744073709551616 : Nat) : Int) ≤ 18446744073709551615 := fun n => by omega
  refine ⟨[UInt64.ofNat (l0 t).toNat, UInt64.ofNat (l1 t).toNat, UInt64.ofNat (l2 t).toNat, UInt64.ofNat (l3 t).toNat], rfl, ?_⟩
  show _ = AV.agg [lvA _, lvA _, lvA _, lvA _]
  unfold lvA
  rw [key (l0 t) (by unfold l0; omega) (by unfold l0; omega), key (l1 t) (by unfold l1; omega) (by unfold l1; omega), key (l2 t) (by unfold l2; omega) (by unfold l2; omega), key (l3 t) (by unfold l3; omega) (by unfold l3; omega)]
theorem law_makes {a t : Nat} {l : List Nat} {v1 v2 : Value} {W : World} (hL : laidMetH Tryd.prog Rows.addrMakesRow.laid W) (ha : a < 18446744073709551616) (h1 : RV (fun _ => True) (fun _ => (0, 0, 0)) W v1 (wN t)) (g1 : t < WW) (h2 : RV (fun _ => True) (fun _ => (0, 0, 0)) W v2 (bsl false l)) (g2 : l.length ≤ maxLen ∧ ∀ b ∈ l, b < 256) : Calls Tryd.prog 3 #[.int .u64 (a : Int), v1, v2] W (RetT W true) := by
  obtain ⟨X, hX, eX⟩ := word_lanes g1
  rw [eX] at h1
  have h := makes_fn false (UInt64.ofNat a) X l hX g2.2
  have e : (lvA (UInt64.ofNat a)) = vi .u64 (a : Int) := by unfold lvA; rw [UInt64.toNat_ofNat_of_lt' ha]
  rw [e] at h
  refine Fn.law h (vs := [_, _, _]) rfl (fun j v x hj hx => ?_) (globs_ok hL)
  rcases j with _ | _ | _ | j
  · cases hj; cases hx; exact .c _ _ (.v _ rfl)
  · cases hj; cases hx; exact h1
  · cases hj; cases hx; exact h2
  · simp at hj
end Go.Proofs.YtgdjkkapgghdbaaDoor

