/-
  The law StateTells, walked.
-/
import Derived.Test.YtcbaaibkkfnfmaaVb
import Derived.Test.YtcbaaibkkfnfmaaVc
import Derived.Test.YtcbaaibkkfnfmaaUb
namespace Go.Proofs.Ytcbaaibkkfnfmaa
open Go.RowKit
set_option linter.unusedVariables false
set_option linter.unusedSimpArgs false
set_option maxRecDepth 20000
set_option maxHeartbeats 2000000
def pkey (p : Pr) : Int := (p.k : Int)
theorem okTo_every {l : List Pr} : ∀ {i : Nat}, okTo l i = true → ∀ j, j < i → okP l j = true
  | 0, _, j, hj => by omega
  | i + 1, h, j, hj => by
    have h : (okTo l i && okP l i) = true := h
    rw [Bool.and_eq_true] at h
    by_cases e : j = i
    · rw [e]; exact h.2
    · exact okTo_every h.1 j (by omega)
theorem store_rises {l : List Pr} (h : okTo l l.length = true) : Rises pkey l := by
  have step : ∀ j (hj : j + 1 < l.length), pkey l[j] < pkey l[j + 1] := fun j hj => by
    have := okTo_every h (j + 1) hj
    rw [okP_succ (List.getElem?_eq_getElem (by omega)) (List.getElem?_eq_getElem hj)] at this
    simp only [Bool.and_eq_true, decide_eq_true_eq] at this
    have := this.2
    unfold pkey
    omega
  have key : ∀ d i (hi : i + d + 1 < l.length), pkey l[i] < pkey l[i + d + 1] := fun d => by
    induction d with
    | zero => exact fun i hi => step i hi
    | succ d ih => exact fun i hi => Int.lt_trans (ih i (by omega)) (step (i + d + 1) hi)
  unfold Rises
  rw [List.pairwise_iff_getElem]
  intro i j hi hj hij
  have := key (j - i - 1) i (by omega)
  simpa [show i + (j - i - 1) + 1 = j by omega] using this
theorem ltP_eq {l : List Pr} {k : Nat} {i : Nat} (hi : i < l.length) : ltP l k i = decide (pkey l[i] < (k : Int)) := by
  unfold ltP pkey
  rw [List.getElem?_eq_getElem hi]
  refine decide_eq_decide.2 ?_
  unfold cmpK
  by_cases h : l[i].k < k
  · rw [if_pos h]; exact ⟨fun _ => by omega, fun _ => by decide⟩
  · rw [if_neg h]
    constructor
    · intro h2; split at h2 <;> omega
    · exact fun h2 => absurd h2 (by omega)
theorem findP_fnd (l : List Pr) (k : Nat) : findP l k = ((fnd pkey k l).map Pr.v).getD 0 := by
  unfold findP
  induction l with
  | nil => rfl
  | cons p l ih =>
    rw [List.find?_cons]
    unfold fnd
    by_cases e : p.k = k
    · rw [decide_eq_true e, if_pos (by unfold pkey; omega)]
    · rw [decide_eq_false e, if_neg (by unfold pkey; omega)]; exact ih
theorem loadX_find {x : Ac} (h : okTo x.store x.store.length = true) (k : Nat) : loadX x k = findP x.store k := by
  have hr := store_rises h
  have hp := bsr_parts (key := pkey) (k := (k : Int)) (lt := ltP x.store k) hr fun i hi => ltP_eq hi
  rw [findP_fnd, parts_fnd hr hp]
  unfold loadX eqP
  cases hz : x.store[bsr (ltP x.store k) x.store.length 0 x.store.length]? with
  | none => simp
  | some z =>
    simp only [Option.filter_some, decide_eq_true_eq]
    unfold cmpK pkey
    by_cases h1 : z.k = k
    · rw [if_pos (show (z.k : Int) = (k : Int) by omega)]; simp [h1]
    · rw [if_neg (show ¬ (z.k : Int) = (k : Int) by omega)]
      by_cases h2 : z.k < k
      · simp [h2]
      · have h3 : k < z.k := by omega
        simp [h2, h3]
theorem ofS_okTo {L : List Ac} (h : okSt L = true) (a : Int) : okTo (ofS L a).store (ofS L a).store.length = true := by
  obtain ⟨h1, h2, _⟩ := okSt_iff.1 h
  rw [ofS_fnd h1]
  cases hf : fnd Ac.a a L with
  | none => rfl
  | some z =>
    have := (h2 z (fnd_key hf).2).1
    unfold okAc at this
    rw [Bool.and_eq_true] at this
    exact this.2
theorem findS_of {L : List Ac} (h : okSt L = true) (a : Int) : findS L a = ofS L a := (ofS_fnd (okSt_iff.1 h).1 a).symm
abbrev stV (L : List Ac) : PV := .sl false 8 L.length (L.flatMap Ac.pv)
def sspv (L : List Ac) : List PV := [stV L]
theorem sspv_len (L : List Ac) : (sspv L).length = 1 := rfl
abbrev ssl (ex : Bool) (X : List (List Ac)) : AV := .c (.sl ex 1 X.length (X.flatMap sspv))
theorem ss_at {l : List (List Ac)} {i : Nat} {y : List Ac} (h : l[i]? = some y) : ((l.flatMap sspv).drop i).take 1 = [stV y] := by
  have := flat_at (f := sspv) sspv_len h
  rwa [Nat.mul_one] at this
def apv (a : Int) : List PV := [.v (.int .u64 a)]
theorem apv_len (a : Int) : (apv a).length = 1 := rfl
abbrev asl (ex : Bool) (l : List Int) : AV := .c (.sl ex 1 l.length (l.flatMap apv))
theorem as_at {l : List Int} {i : Nat} {y : Int} (h : l[i]? = some y) : ((l.flatMap apv).drop i).take 1 = [.v (.int .u64 y)] := by
  have := flat_at (f := apv) apv_len h
  rwa [Nat.mul_one] at this
abbrev nil8 (a : Int) : List AV := [vi .u64 a, vi .u64 0, vi .u64 0, vi .u64 0, vi .u64 0, vi .u64 0, .c (.v (.slice none 0 0)), .c (.v (.slice none 0 0))]
theorem nil8_le (a : Int) : (AV.agg (nil8 a)).le (acA ⟨a, 0, 0, [], []⟩) := AV.le_agg ⟨AV.le_refl _, AV.le_of (by rw [l0_zero]), AV.le_of (by rw [l1_zero]), AV.le_of (by rw [l2_zero]), AV.le_of (by rw [l3_zero]), AV.le_refl _, AV.le_nil _ _, AV.le_nil _ _, trivial⟩
/-- what the law wants of an address -/
def want8 (A : List Ac) (a : Int) : List AV := if okSt A then ac8 (ofS A a).a (ofS A a).b (ofS A a).n (bsV (ofS A a).code) (psV (ofS A a).store) else nil8 a
theorem okl_maxlen {A : List Ac} (h : Okl A) : A.length ≤ maxLen := by have := h.1; unfold maxLen; omega
theorem want_same (A : List Ac) (kA : Okl A) (a : Int) (ua : U a) : Fn Try.prog 13 [acA (OfS A a), .agg (want8 A a)] [] (vb true) [] := by
  have sa := rsameacc_fn (OfS A a) (OfS A a) (OfS_ok kA ua).1 (OfS_ok kA ua).1
  rw [decide_eq_true rfl] at sa
  unfold want8
  unfold OfS at sa ⊢
  cases h : okSt A with
  | true => rw [h] at sa; exact sa
  | false =>
    rw [h] at sa
    exact Fn.args sa ⟨AV.le_refl _, nil8_le a, trivial⟩
theorem want_load (A : List Ac) (kA : Okl A) (a : Int) (ua : U a) (k : Nat) (hk : k < WW) : Fn Try.prog 18 [.agg (want8 A a), wN k] [] (wN (loadX (OfS A a) k)) [] := by
  have ok := (OfS_ok kA ua).1
  have sa := rload_fn (OfS A a) ok.2.2.2.2.1 ok.2.2.2.2.2 k hk
  have he : loadX (OfS A a) k = findP (OfS A a).store k := by
    refine loadX_find ?_ k
    unfold OfS
    cases h : okSt A with
    | true => exact ofS_okTo h a
    | false => rfl
  rw [he]
  unfold want8
  unfold OfS at sa ⊢
  cases h : okSt A with
  | true => rw [h] at sa; exact sa
  | false =>
    rw [h] at sa
    exact Fn.args sa ⟨nil8_le a, AV.le_refl _, trivial⟩
theorem want_room (A : List Ac) (kA : Okl A) (a : Int) (ua : U a) (h : okSt A = true) : Fn Try.prog 16 [stA false A, vi .u64 a] [] (vb (RoomS A a)) [] := by
  have rr := rroom_fn false A kA a ua
  rw [findS_of h] at rr
  obtain ⟨h1, h2, _⟩ := okSt_iff.1 h
  have e : RoomS A a = (decide (a ≠ 0) && (!emptyA (ofS A a) || (decide (a < 16) || decide (manyL A < 24)))) := by
    unfold RoomS roomS
    rw [h, isS_full h1 h2, Bool.true_and]
  rw [e]; exact rr
theorem oneof_fn (A : List Ac) (kA : Okl A) (a : Int) (h : okSt A = true) : Fn Try.prog 12 [stA false A, vi .u64 a] [] (.agg (want8 A a)) [] := by
  have := rof_fn false A kA a
  rw [findS_of h] at this
  unfold want8
  rw [h]
  exact this
end Go.Proofs.Ytcbaaibkkfnfmaa

