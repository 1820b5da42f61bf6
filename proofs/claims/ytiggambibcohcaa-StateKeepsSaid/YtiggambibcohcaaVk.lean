/-
  A move as the document has it; reckoned. What the deeds come to is the same by the code and by the document; plain.
-/
import Derived.Test.YtiggambibcohcaaVj
namespace Go.Proofs.Ytiggambibcohcaa
open Go.RowKit
open Nat (reduceBEq)
set_option linter.unusedVariables false
set_option linter.unusedSimpArgs false
set_option maxRecDepth 20000
set_option maxHeartbeats 2000000
def rmoveS (L : List Ac) (fr to : Int) (n : Nat) : List Ac × Int := if (decide (fr = 0) || decide (to = 0)) = true then ([], 2) else if (ofS L fr).b < n then ([], 162) else if (decide (n = 0) || decide (fr = to)) = true then (laysL L (ofS L fr), 0) else if roomS L to = false then ([], 6) else (laysL (laysL L ((ofS L fr).bal ((ofS L fr).b - n))) ((ofS L to).bal (((ofS L to).b + n) % WW)), 0)
theorem move_same {L : List Ac} (h : okSt L = true) (fr to : Int) (n : Nat) : moveS L fr to n = rmoveS L fr to n := by
  unfold moveS withS rmoveS
  simp only [h, Bool.not_true, Bool.false_eq_true, if_false]
  by_cases h0 : fr = 0
  · rw [if_pos h0, if_pos (by simp [h0])]
  rw [if_neg h0]
  by_cases h1 : to = 0
  · unfold moveR; rw [if_pos h1, if_pos (by simp [h1])]
  rw [if_neg (by simp [h0, h1])]
  by_cases h2 : (ofS L fr).b < n
  · unfold moveR; rw [if_neg h1, if_pos h2, if_pos h2]
  rw [if_neg h2]
  by_cases h3 : n = 0
  · unfold moveR; rw [if_neg h1, if_neg h2, if_pos (by simp [h3]), if_pos (by simp [h3])]
  by_cases h4 : fr = to
  · unfold moveR; rw [if_neg h1, if_neg h2, if_pos (by simp [h4]), if_pos (by simp [h4])]
  rw [if_neg (by simp [h3, h4]), moveR_ok h1 (by omega) h3 h4]
theorem mint_same {L : List Ac} (h : okSt L = true) (a : Int) (n : Nat) : mintS L a n = rmintS L a n := by
  obtain ⟨g1, g2, g3, g4⟩ := okSt_iff.1 h
  have ea := ofS_a g1 a
  unfold mintS withS rmintS
  simp only [h, Bool.not_true, Bool.false_eq_true, if_false]
  by_cases h0 : a = 0
  · rw [if_pos h0, if_pos (by simp [h0])]
  rw [if_neg h0]
  by_cases h1 : WW ≤ n + (L.map Ac.b).sum
  · rw [if_pos h1, if_pos (by rw [Nat.add_comm] at h1; simp [h1])]
  rw [if_neg h1, if_neg (by rw [Nat.add_comm] at h1; simp [h1, h0])]
  have hb := ofS_le g1 a
  have hlt : (ofS L a).b + n < WW := by omega
  show putS L ((ofS L a).bal (((ofS L a).b + n) % WW)) = _
  rw [Nat.mod_eq_of_lt hlt]
  have xa : ((ofS L a).bal ((ofS L a).b + n)).a = a := ea
  have xb : ((ofS L a).bal ((ofS L a).b + n)).b = (ofS L a).b + n := rfl
  have hs := bal_lays g1 ((ofS L a).bal ((ofS L a).b + n))
  rw [xa, xb] at hs
  unfold putS
  rw [okAc_bal ((ofS L a).b + n) (okAc_of h h0), xa, if_neg (show ¬ WW ≤ ((laysL L ((ofS L a).bal ((ofS L a).b + n))).map Ac.b).sum by omega)]
  simp only [Bool.not_true, Bool.false_eq_true, if_false]
  by_cases h2 : n = 0
  · rw [if_pos h2]
    subst h2
    have e : (ofS L a).bal ((ofS L a).b + 0) = ofS L a := rfl
    rw [e]
    cases he : emptyA (ofS L a) with
    | true => simp
    | false =>
      have : roomS L a = true := by rw [roomS_eq h0, isS_full g1 g2, he]; rfl
      rw [this]; simp
  · rw [if_neg h2]
    have he : emptyA ((ofS L a).bal ((ofS L a).b + n)) = false := by unfold emptyA Ac.bal; simp; omega
    rw [he]
    cases roomS L a <;> simp
theorem save_same {L : List Ac} (h : okSt L = true) (a : Int) (k v : Nat) : saveS L a k v = rsaveS L a ⟨k, v⟩ := by
  unfold saveS withS rsaveS
  simp only [h, Bool.not_true, Bool.false_eq_true, if_false]
  by_cases h0 : a = 0
  · rw [if_pos h0, if_pos h0]
  rw [if_neg h0, if_neg h0]
  have hs : (ofS L a).store.length ≤ 24 := ofS_store h a
  have hr := store_rises (ofS_okTo h a)
  generalize ofS L a = x at hs hr ⊢
  have hp := bsr_parts (key := pkey) (k := (k : Int)) (lt := ltP x.store k) hr fun i hi => ltP_eq hi
  have hst : (savedA x ⟨k, v⟩).store = lay pkey (k : Int) (if decide (v = 0) then none else some ⟨k, v⟩) x.store := pass_lay (key := pkey) (p := ⟨k, v⟩) (decide (v = 0)) hr
  have ht : eqP x.store k (bsr (ltP x.store k) x.store.length 0 x.store.length) = (fnd pkey (k : Int) x.store).isSome := by
    rw [parts_fnd hr hp]
    unfold eqP
    cases hz : x.store[bsr (ltP x.store k) x.store.length 0 x.store.length]? with
    | none => rfl
    | some z =>
      simp only [Option.filter_some, decide_eq_true_eq]
      unfold cmpK pkey
      by_cases h1 : z.k = k
      · rw [if_pos (show (z.k : Int) = (k : Int) by omega), if_neg (by omega), if_neg (by omega)]; rfl
      · rw [if_neg (show ¬ (z.k : Int) = (k : Int) by omega)]
        by_cases h2 : z.k < k
        · rw [if_pos h2]; rfl
        · rw [if_neg h2, if_pos (by omega)]; rfl
  rw [parts_lay hr hp] at hst
  have hple := hp.le
  have hplt : (fnd pkey (k : Int) x.store).isSome = true → bsr (ltP x.store k) x.store.length 0 x.store.length < x.store.length := fun h => by
    rw [parts_fnd hr hp] at h
    cases hz : x.store[bsr (ltP x.store k) x.store.length 0 x.store.length]? with
    | none => rw [hz] at h; cases h
    | some z => exact (List.getElem?_eq_some_iff.1 hz).1
  unfold saveR
  simp only
  rw [ht]
  generalize bsr (ltP x.store k) x.store.length 0 x.store.length = p at hst hple hplt ⊢
  have ext : ∀ s, (savedA x ⟨k, v⟩).store = s → savedA x ⟨k, v⟩ = { x with store := s } := fun s e => ac_ext ⟨rfl, rfl, rfl, rfl, e⟩
  cases hf : (fnd pkey (k : Int) x.store).isSome with
  | true =>
    have hlt := hplt hf
    rw [hf] at hst
    by_cases hv : v = 0
    · rw [decide_eq_true hv] at hst ⊢
      simp only [if_true, Option.toList, List.append_nil] at hst
      rw [ext _ hst]
      simp only [Bool.and_self, if_true]
      rw [if_neg (by rw [List.length_append, List.length_take, List.length_drop]; omega)]
    · rw [decide_eq_false hv] at hst ⊢
      simp only [Bool.false_eq_true, if_false, if_true, Option.toList, List.append_assoc, List.cons_append, List.nil_append] at hst
      rw [ext _ hst]
      simp only [Bool.and_false, Bool.false_eq_true, if_false, if_true]
      rw [if_neg (by rw [List.length_append, List.length_take, List.length_cons, List.length_drop]; omega)]
  | false =>
    rw [hf] at hst
    by_cases hv : v = 0
    · rw [decide_eq_true hv] at hst ⊢
      simp only [if_true, Bool.false_eq_true, if_false, Option.toList, List.append_nil, List.take_append_drop] at hst
      rw [ext _ hst]
      simp only [Bool.false_and, Bool.not_true, Bool.false_eq_true, if_false]
      rw [if_neg (by omega)]
    · rw [decide_eq_false hv] at hst ⊢
      simp only [Bool.false_eq_true, if_false, Option.toList, List.append_assoc, List.cons_append, List.nil_append] at hst
      rw [ext _ hst]
      have hl : (x.store.take p ++ (⟨k, v⟩ : Pr) :: x.store.drop p).length = x.store.length + 1 := by rw [List.length_append, List.length_take, List.length_cons, List.length_drop]; omega
      simp only [Bool.false_and, Bool.not_false, Bool.true_and, Bool.false_eq_true, if_false, if_true, decide_eq_true_eq, hl]
      by_cases h24 : x.store.length = 24
      · rw [if_pos h24, if_pos (by omega)]
      · rw [if_neg h24, if_neg (by omega)]
end Go.Proofs.Ytiggambibcohcaa

