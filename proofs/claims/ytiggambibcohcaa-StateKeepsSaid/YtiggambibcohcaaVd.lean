/-
  The law StateTells, walked.
-/
import Derived.Test.YtiggambibcohcaaVb
import Derived.Test.YtiggambibcohcaaTe
import Derived.Test.YtiggambibcohcaaUb
namespace Go.Proofs.Ytiggambibcohcaa
open Go.RowKit
set_option linter.unusedVariables false
set_option linter.unusedSimpArgs false
set_option maxRecDepth 20000
set_option maxHeartbeats 2000000
def pkey (p : Pr) : Int := (p.k : Int)
theorem okTo_every {l : List Pr} : ∀ {i : Nat}, okTo l i = true → ∀ j, j < i → okP l j = true
  | 0, _, j, hj => by omega
  | i + 1, h, j, hj => by
    have h : (okTo l i && okP l i) = true := h
    rw [Bool.and_eq_true] at h
    by_cases e : j = i
    · rw [e]; exact h.2
    · exact okTo_every h.1 j (by omega)
theorem store_rises {l : List Pr} (h : okTo l l.length = true) : Rises pkey l := by
  have step : ∀ j (hj : j + 1 < l.length), pkey l[j] < pkey l[j + 1] := fun j hj => by
    have := okTo_every h (j + 1) hj
    rw [okP_succ (List.getElem?_eq_getElem (by omega)) (List.getElem?_eq_getElem hj)] at this
    simp only [Bool.and_eq_true, decide_eq_true_eq] at this
    have := this.2
    unfold pkey
    omega
  have key : ∀ d i (hi : i + d + 1 < l.length), pkey l[i] < pkey l[i + d + 1] := fun d => by
    induction d with
    | zero => exact fun i hi => step i hi
    | succ d ih => exact fun i hi => Int.lt_trans (ih i (by omega)) (step (i + d + 1) hi)
  unfold Rises
  rw [List.pairwise_iff_getElem]
  intro i j hi hj hij
  have := key (j - i - 1) i (by omega)
  simpa [show i + (j - i - 1) + 1 = j by omega] using this
theorem ltP_eq {l : List Pr} {k : Nat} {i : Nat} (hi : i < l.length) : ltP l k i = decide (pkey l[i] < (k : Int)) := by
  unfold ltP pkey
  rw [List.getElem?_eq_getElem hi]
  refine decide_eq_decide.2 ?_
  unfold cmpK
  by_cases h : l[i].k < k
  · rw [if_pos h]; exact ⟨fun _ => by omega, fun _ => by decide⟩
  · rw [if_neg h]
    constructor
    · intro h2; split at h2 <;> omega
    · exact fun h2 => absurd h2 (by omega)
theorem findP_fnd (l : List Pr) (k : Nat) : findP l k = ((fnd pkey k l).map Pr.v).getD 0 := by
  unfold findP
  induction l with
  | nil => rfl
  | cons p l ih =>
    rw [List.find?_cons]
    unfold fnd
    by_cases e : p.k = k
    · rw [decide_eq_true e, if_pos (by unfold pkey; omega)]
    · rw [decide_eq_false e, if_neg (by unfold pkey; omega)]; exact ih
theorem loadX_find {x : Ac} (h : okTo x.store x.store.length = true) (k : Nat) : loadX x k = findP x.store k := by
  have hr := store_rises h
  have hp := bsr_parts (key := pkey) (k := (k : Int)) (lt := ltP x.store k) hr fun i hi => ltP_eq hi
  rw [findP_fnd, parts_fnd hr hp]
  unfold loadX eqP
  cases hz : x.store[bsr (ltP x.store k) x.store.length 0 x.store.length]? with
  | none => simp
  | some z =>
    simp only [Option.filter_some, decide_eq_true_eq]
    unfold cmpK pkey
    by_cases h1 : z.k = k
    · rw [if_pos (show (z.k : Int) = (k : Int) by omega)]; simp [h1]
    · rw [if_neg (show ¬ (z.k : Int) = (k : Int) by omega)]
      by_cases h2 : z.k < k
      · simp [h2]
      · have h3 : k < z.k := by omega
        simp [h2, h3]
theorem ofS_okTo {L : List Ac} (h : okSt L = true) (a : Int) : okTo (ofS L a).store (ofS L a).store.length = true := by
  obtain ⟨h1, h2, _⟩ := okSt_iff.1 h
  rw [ofS_fnd h1]
  cases hf : fnd Ac.a a L with
  | none => rfl
  | some z =>
    have := (h2 z (fnd_key hf).2).1
    unfold okAc at this
    rw [Bool.and_eq_true] at this
    exact this.2
end Go.Proofs.Ytiggambibcohcaa

