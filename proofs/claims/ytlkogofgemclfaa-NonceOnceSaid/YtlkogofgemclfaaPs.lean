/-
  Where a key stands among nonces that may be, and what is next of it; few of them, the same, what is asked of them: plain laws.
-/
import Derived.Test.YtlkogofgemclfaaNy
namespace Go.Proofs.Ytlkogofgemclfaa
open Go.RowKit
set_option linter.unusedVariables false
set_option linter.unusedSimpArgs false
set_option maxRecDepth 20000
set_option maxHeartbeats 1000000
/-- where a key stands, or would -/
abbrev posK (l : List N6) (a b c d : Int) : Nat := bsr (ltK l a b c d 0) l.length 0 l.length
theorem posK_le (l : List N6) (a b c d : Int) : posK l a b c d ≤ l.length := bsr_le _ _ _ _ (Nat.zero_le _)
theorem bsr_spec (lt : Nat → Bool) (n : Nat) (mono : ∀ p q, p ≤ q → q < n → lt q = true → lt p = true) : ∀ (f i j : Nat), i ≤ j → j ≤ n → j - i ≤ f → (∀ p, p < i → lt p = true) → (∀ p, j ≤ p → p < n → lt p = false) →
    (∀ p, p < bsr lt f i j → lt p = true) ∧ (∀ p, bsr lt f i j ≤ p → p < n → lt p = false)
  | 0, i, j, h1, h2, h3, h4, h5 => by
    obtain rfl : i = j := by omega
    exact ⟨h4, h5⟩
  | f + 1, i, j, h1, h2, h3, h4, h5 => by
    unfold bsr
    by_cases hij : i < j
    · rw [if_pos hij]
      have hm : (i + j) / 2 < n := by omega
      by_cases hl : lt ((i + j) / 2) = true
      · rw [if_pos hl]
        exact bsr_spec lt n mono f _ j (by omega) h2 (by omega) (fun p hp => mono p ((i + j) / 2) (by omega) hm hl) h5
      · rw [if_neg hl]
        refine bsr_spec lt n mono f i _ (by omega) (by omega) (by omega) h4 fun p hp hpn => ?_
        cases hh : lt p with
        | false => rfl
        | true => exact absurd (mono ((i + j) / 2) p hp hpn hh) hl
    · rw [if_neg hij]
      obtain rfl : i = j := by omega
      exact ⟨h4, h5⟩
/-- nonces that rise -/
def Rises (l : List N6) : Prop := ∀ (j k : Nat) (y z : N6), j < k → l[j]? = some y → l[k]? = some z → y.rk < z.rk
theorem rises_of {l : List N6} (ok : ∀ n ∈ l, n.ok) (h : okTo l l.length = true) : Rises l := by
  have hs := ((okTo_iff l _).1 h).2
  have step : ∀ j y z, l[j]? = some y → l[j + 1]? = some z → y.rk < z.rk := fun j y z hy hz => by
    have h1 := hs (j + 1) (List.getElem?_eq_some_iff.1 hz).1
    simp only [okS, hz, Nat.add_sub_cancel, hy, cN_rk (ok y (List.mem_of_getElem? hy)) (ok z (List.mem_of_getElem? hz)), cmpN_neg] at h1
    simp at h1
    exact h1.2
  intro j k
  induction k with
  | zero => intro y z h; omega
  | succ k ih =>
    intro y z hjk hy hz
    rcases Nat.lt_or_ge j k with h | h
    · have hk : k < l.length := by have := (List.getElem?_eq_some_iff.1 hz).1; omega
      have hw : l[k]? = some l[k] := List.getElem?_eq_getElem hk
      exact Nat.lt_trans (ih y _ h hy hw) (step k _ z hw hz)
    · obtain rfl : j = k := by omega
      exact step j y z hy hz
theorem rk_inj {a b c d e a' b' c' d' e' : Int} (u0 : U a) (u1 : U b) (u2 : U c) (u3 : U d) (u4 : U e) (v0 : U a') (v1 : U b') (v2 : U c') (v3 : U d') (v4 : U e') (h : rk a b c d e = rk a' b' c' d' e') : a = a' ∧ b = b' ∧ c = c' ∧ d = d' ∧ e = e' := by
  obtain ⟨p0, q0⟩ := u0; obtain ⟨p1, q1⟩ := u1; obtain ⟨p2, q2⟩ := u2; obtain ⟨p3, q3⟩ := u3; obtain ⟨p4, q4⟩ := u4
  obtain ⟨r0, s0⟩ := v0; obtain ⟨r1, s1⟩ := v1; obtain ⟨r2, s2⟩ := v2; obtain ⟨r3, s3⟩ := v3; obtain ⟨r4, s4⟩ := v4
  unfold rk VW at h
  simp only [show (2 : Nat) ^ 256 = 115792089237316195423570985008687907853269984665640564039457584007913129639936 by decide] at h
  omega
theorem mtK_rk {a b c d e : Int} {n : N6} (hn : n.ok) (u0 : U a) (u1 : U b) (u2 : U c) (u3 : U d) (u4 : U e) : mtK a b c d e n ↔ n.rk = rk a b c d e := by
  obtain ⟨n0, n1, n2, n3, n4, n5⟩ := hn
  constructor
  · rintro ⟨h0, h1, h2, h3, h4⟩
    unfold N6.rk
    rw [h0, h1, h2, h3, h4]
  · intro h
    exact rk_inj n0 n1 n2 n3 n4 u0 u1 u2 u3 u4 h
/-- where a key stands -/
structure At (l : List N6) (K r : Nat) : Prop where
  le : r ≤ l.length
  lt : ∀ (j : Nat) (y : N6), j < r → l[j]? = some y → y.rk < K
  ge : ∀ (j : Nat) (y : N6), r ≤ j → l[j]? = some y → K ≤ y.rk
theorem posK_at {l : List N6} (ok : ∀ n ∈ l, n.ok) (hr : Rises l) {a b c d : Int} (u0 : U a) (u1 : U b) (u2 : U c) (u3 : U d) : At l (rk a b c d 0) (posK l a b c d) := by
  have hlt : ∀ j y, l[j]? = some y → ltK l a b c d 0 j = decide (y.rk < rk a b c d 0) := fun j y hy => by
    simp only [ltK, hy, cK_rk (ok y (List.mem_of_getElem? hy)) u0 u1 u2 u3 (⟨by decide, by decide⟩ : U 0), cmpN_neg]
  have h := bsr_spec (ltK l a b c d 0) l.length (fun p q hpq hq h => by
    have hy := List.getElem?_eq_getElem hq
    have hp : p < l.length := by omega
    have hz := List.getElem?_eq_getElem hp
    rw [hlt q _ hy] at h
    rw [hlt p _ hz]
    simp only [decide_eq_true_eq] at h ⊢
    rcases Nat.lt_or_ge p q with h' | h'
    · exact Nat.lt_trans (hr p q _ _ h' hz hy) h
    · obtain rfl : p = q := by omega
      exact h) l.length 0 l.length (Nat.zero_le _) (Nat.le_refl _) (by omega) (fun p hp => by omega) (fun p hp hpn => by omega)
  refine ⟨posK_le l a b c d, fun j y hj hy => ?_, fun j y hj hy => ?_⟩
  · have := h.1 j hj
    rw [hlt j y hy] at this
    simpa using this
  · have := h.2 j hj (List.getElem?_eq_some_iff.1 hy).1
    rw [hlt j y hy] at this
    simpa using this
theorem eqK_at {l : List N6} (ok : ∀ n ∈ l, n.ok) {a b c d : Int} (u0 : U a) (u1 : U b) (u2 : U c) (u3 : U d) (r : Nat) : eqK l a b c d 0 r = match l[r]? with | some y => decide (y.rk = rk a b c d 0) | none => false := by
  unfold eqK
  cases hy : l[r]? with
  | none => rfl
  | some y =>
    simp only [cK_rk (ok y (List.mem_of_getElem? hy)) u0 u1 u2 u3 (⟨by decide, by decide⟩ : U 0)]
    rw [Bool.eq_iff_iff]
    simp [cmpN_zero]
set_option linter.unusedSectionVars false
theorem rk_mk (a b c d e x : Int) : N6.rk ⟨a, b, c, d, e, x⟩ = rk a b c d e := by simp only [N6.rk]
section
variable {l : List N6} (ok : ∀ n ∈ l, n.ok) (hr : Rises l) {a b c d : Int} (u0 : U a) (u1 : U b) (u2 : U c) (u3 : U d)
include ok hr u0 u1 u2 u3
theorem mt_iff (n : N6) (hn : n ∈ l) : mtK a b c d 0 n ↔ n.rk = rk a b c d 0 := mtK_rk (ok n hn) u0 u1 u2 u3 ⟨by decide, by decide⟩
theorem next_yes {y : N6} (hy : l[posK l a b c d]? = some y) (h : eqK l a b c d 0 (posK l a b c d) = true) : nextL l a b c d 0 = y.x ∧ mtK a b c d 0 y := by
  have hp := posK_at ok hr u0 u1 u2 u3
  rw [eqK_at ok u0 u1 u2 u3, hy] at h
  simp only [decide_eq_true_eq] at h
  have hm := (mt_iff ok hr u0 u1 u2 u3 y (List.mem_of_getElem? hy)).2 h
  refine ⟨nextL_at (fun j hj n hn hmn => ?_) hy hm, hm⟩
  have h2 := (mt_iff ok hr u0 u1 u2 u3 n (List.mem_of_getElem? hn)).1 hmn
  exact Nat.lt_irrefl _ (h2 ▸ hp.lt j n hj hn)
theorem next_no (h : eqK l a b c d 0 (posK l a b c d) = false) : nextL l a b c d 0 = 0 ∧ ∀ (j : Nat) (y : N6), posK l a b c d ≤ j → l[j]? = some y → rk a b c d 0 < y.rk := by
  have hp := posK_at ok hr u0 u1 u2 u3
  have hgt : ∀ (j : Nat) (y : N6), posK l a b c d ≤ j → l[j]? = some y → rk a b c d 0 < y.rk := fun j y hj hy => by
    have h1 := hp.ge j y hj hy
    rcases Nat.lt_or_ge (posK l a b c d) j with hlt | hge
    · obtain ⟨w, hz⟩ : ∃ w, l[posK l a b c d]? = some w := ⟨_, List.getElem?_eq_getElem (Nat.lt_trans hlt (List.getElem?_eq_some_iff.1 hy).1)⟩
      exact Nat.lt_of_le_of_lt (hp.ge _ _ (Nat.le_refl _) hz) (hr _ _ _ _ hlt hz hy)
    · obtain rfl : j = posK l a b c d := Nat.le_antisymm hge hj
      rw [eqK_at ok u0 u1 u2 u3, hy] at h
      simp only [decide_eq_false_iff_not] at h
      exact Nat.lt_of_le_of_ne h1 fun e => h e.symm
  refine ⟨nextL_none fun j hj n hn hm => ?_, hgt⟩
  have h2 := (mt_iff ok hr u0 u1 u2 u3 n (List.mem_of_getElem? hn)).1 hm
  rcases Nat.lt_or_ge j (posK l a b c d) with hlt | hge
  · exact Nat.lt_irrefl _ (h2 ▸ hp.lt j n hlt hn)
  · exact Nat.lt_irrefl _ (h2 ▸ hgt j n hge hn)
theorem nextIs_of : NextIs l a b c d (nextL l a b c d 0) := by
  cases h : eqK l a b c d 0 (posK l a b c d) with
  | false => exact .inl ⟨h, (next_no ok hr u0 u1 u2 u3 h).1⟩
  | true =>
    have h' := h
    rw [eqK_at ok u0 u1 u2 u3] at h'
    cases hy : l[posK l a b c d]? with
    | none => rw [hy] at h'; cases h'
    | some y => exact .inr ⟨y, h, hy, (next_yes ok hr u0 u1 u2 u3 hy h).1.symm⟩
end
theorem few_fn (ex : Bool) (l : List N6) (hl : l.length ≤ maxLen) : Fn Try.prog 11 [nsl ex l] [] (nsl false (l.take 49)) [] := by
  have h1 := (fewrow_fn ex l hl).frzG
  have e : (l.take 49).length * 6 = ((l.take 49).flatMap N6.pv).length := (flat_length pv_len _).symm
  simp only [AV.frz, if_true, if_pos e] at h1
  exact h1
theorem few_own (ex : Bool) (l : List N6) (hl : l.length ≤ 49) : Fn Try.prog 11 [nsl ex l] [] (nsl false l) [] := by
  have h := few_fn ex l (Nat.le_trans hl (by decide))
  rwa [List.take_of_length_le hl] at h
theorem same_eq (ex ex' : Bool) (l : List N6) (hl : l.length ≤ 1000) : Fn Try.prog 15 [nsl ex l, nsl ex' l] [] (vb true) [] := by
  have h := same_fn ex ex' l l (Nat.le_trans hl (by decide))
  simpa using h
theorem same_nil : Fn Try.prog 15 [nilS, nilS] [] (vb true) [] :=
  Fn.args (same_eq true true [] (by simp)) ⟨AV.le_nil true 6, AV.le_nil true 6, trivial⟩
structure A5 where
  a : Int
  s : Int
  b : Int
  c : Int
  d : Int
def A5.pv (n : A5) : List PV := [.v (.int .u64 n.a), .v (.int .u64 n.s), .v (.int .u64 n.b), .v (.int .u64 n.c), .v (.int .u64 n.d)]
def A5.ok (n : A5) : Prop := U n.a ∧ U n.s ∧ U n.b ∧ U n.c ∧ U n.d
abbrev asl (ex : Bool) (l : List A5) : AV := .c (.sl ex 5 l.length (l.flatMap A5.pv))
theorem asl_at {l : List A5} {i : Nat} {y : A5} (h : l[i]? = some y) : ((l.flatMap A5.pv).drop (i * 5)).take 5 = [.v (.int .u64 y.a), .v (.int .u64 y.s), .v (.int .u64 y.b), .v (.int .u64 y.c), .v (.int .u64 y.d)] := flat_at (f := A5.pv) (fun _ => rfl) h
end Go.Proofs.Ytlkogofgemclfaa
