/-
  The search that halves, as a function. No program in sight.
-/
import Derived.Test.YtiggambibcohcaaBase
namespace Go.Proofs.Ytiggambibcohcaa
open Go.RowKit
set_option linter.unusedVariables false
set_option linter.unusedSimpArgs false
def bsr (lt : Nat → Bool) : Nat → Nat → Nat → Nat
  | 0, i, _ => i
  | f + 1, i, j => if i < j then (if lt ((i + j) / 2) then bsr lt f ((i + j) / 2 + 1) j else bsr lt f i ((i + j) / 2)) else i
theorem bsr_fuel (lt : Nat → Bool) : ∀ (f g i j : Nat), j - i ≤ f → j - i ≤ g → bsr lt f i j = bsr lt g i j
  | 0, 0, _, _, _, _ => rfl
  | 0, g + 1, i, j, h, _ => by unfold bsr; rw [if_neg (by omega)]
  | f + 1, 0, i, j, _, h => by
    conv => lhs; unfold bsr
    rw [if_neg (by omega)]; rfl
  | f + 1, g + 1, i, j, h1, h2 => by
    unfold bsr
    by_cases h : i < j
    · rw [if_pos h, if_pos h, bsr_fuel lt f g _ j (by omega) (by omega), bsr_fuel lt f g i _ (by omega) (by omega)]
    · rw [if_neg h, if_neg h]
theorem bsr_up {lt : Nat → Bool} {i j r : Nat} (h : i < j) (hl : lt ((i + j) / 2) = true) (hr : bsr lt (j - i) i j = r) : bsr lt (j - ((i + j) / 2 + 1)) ((i + j) / 2 + 1) j = r := by
  rw [bsr_fuel lt (j - i) (j - i - 1 + 1) i j (by omega) (by omega)] at hr
  unfold bsr at hr
  rw [if_pos h, if_pos hl] at hr
  rw [← hr]; exact bsr_fuel lt _ _ _ _ (by omega) (by omega)
theorem bsr_dn {lt : Nat → Bool} {i j r : Nat} (h : i < j) (hl : lt ((i + j) / 2) = false) (hr : bsr lt (j - i) i j = r) : bsr lt ((i + j) / 2 - i) i ((i + j) / 2) = r := by
  rw [bsr_fuel lt (j - i) (j - i - 1 + 1) i j (by omega) (by omega)] at hr
  unfold bsr at hr
  rw [if_pos h, hl] at hr
  rw [← hr]; exact bsr_fuel lt _ _ _ _ (by omega) (by omega)
theorem bsr_le (lt : Nat → Bool) : ∀ (f i j : Nat), i ≤ j → bsr lt f i j ≤ j
  | 0, i, j, h => h
  | f + 1, i, j, h => by
    unfold bsr
    split
    · split
      · exact bsr_le lt f _ j (by omega)
      · exact Nat.le_trans (bsr_le lt f i _ (by omega)) (by omega)
    · exact h
theorem bits_u64 : IntKind.u64.bits = 64 := rfl
theorem half {i j : Nat} : ((i : Int) + (j : Int)).fdiv (2 ^ (min 1 64)) = (((i + j) / 2 : Nat) : Int) := by
  show ((i : Int) + (j : Int)).fdiv 2 = _
  rw [Int.fdiv_eq_ediv_of_nonneg _ (by omega)]; omega
theorem bsr_spec {lt : Nat → Bool} {n : Nat} (mono : ∀ i j, i ≤ j → j < n → lt j = true → lt i = true) : ∀ (f i j : Nat), j - i ≤ f → i ≤ j → j ≤ n → (∀ k, k < i → lt k = true) → (∀ k, j ≤ k → k < n → lt k = false) → (∀ k, k < bsr lt f i j → lt k = true) ∧ ∀ k, bsr lt f i j ≤ k → k < n → lt k = false
  | 0, i, j, h0, hij, hjn, h1, h2 => by
    obtain rfl : i = j := by omega
    exact ⟨h1, h2⟩
  | f + 1, i, j, h0, hij, hjn, h1, h2 => by
    unfold bsr
    by_cases h : i < j
    · rw [if_pos h]
      cases hm : lt ((i + j) / 2) with
      | true =>
        simp only [if_true]
        exact bsr_spec mono f _ j (by omega) (by omega) hjn (fun k hk => mono k ((i + j) / 2) (by omega) (by omega) hm) h2
      | false =>
        simp only [Bool.false_eq_true, if_false]
        refine bsr_spec mono f i _ (by omega) (by omega) (by omega) h1 fun k hk hkn => ?_
        cases hk2 : lt k with
        | false => rfl
        | true => rw [mono _ k hk hkn hk2] at hm; cases hm
    · rw [if_neg h]
      obtain rfl : i = j := by omega
      exact ⟨h1, h2⟩
section
variable {α : Type} (key : α → Int)
def Rises (L : List α) : Prop := L.Pairwise fun x y => key x < key y
def fnd (k : Int) : List α → Option α
  | [] => none
  | y :: L => if key y = k then some y else fnd k L
def lay (k : Int) (o : Option α) : List α → List α
  | [] => o.toList
  | y :: L => if key y < k then y :: lay k o L else if key y = k then o.toList ++ L else o.toList ++ y :: L
variable {key}
theorem fnd_key {k : Int} : ∀ {L : List α} {x : α}, fnd key k L = some x → key x = k ∧ x ∈ L
  | y :: L, x, h => by
    unfold fnd at h
    split at h
    · rename_i e; cases h; exact ⟨e, by simp⟩
    · have := fnd_key h; exact ⟨this.1, by simp [this.2]⟩
theorem fnd_none {k : Int} : ∀ {L : List α}, (∀ x ∈ L, key x ≠ k) → fnd key k L = none
  | [], _ => rfl
  | y :: L, h => by
    unfold fnd
    rw [if_neg (h y (by simp))]
    exact fnd_none fun x hx => h x (by simp [hx])
theorem fnd_mem {L : List α} (hr : Rises key L) {x : α} (hx : x ∈ L) : fnd key (key x) L = some x := by
  induction L with
  | nil => cases hx
  | cons y L ih =>
    obtain ⟨l1, l2⟩ := List.pairwise_cons.1 hr
    unfold fnd
    rcases List.mem_cons.1 hx with rfl | hx
    · rw [if_pos rfl]
    · rw [if_neg (by have := l1 x hx; omega)]; exact ih l2 hx
theorem mem_iff {L : List α} (hr : Rises key L) {x : α} : x ∈ L ↔ fnd key (key x) L = some x := ⟨fnd_mem hr, fun h => (fnd_key h).2⟩
theorem rises_eq : ∀ {L M : List α}, Rises key L → Rises key M → (∀ x, x ∈ L ↔ x ∈ M) → L = M
  | [], [], _, _, _ => rfl
  | [], y :: M, _, _, h => by have := (h y).2 (by simp); cases this
  | x :: L, [], _, _, h => by have := (h x).1 (by simp); cases this
  | x :: L, y :: M, hL, hM, h => by
    obtain ⟨l1, l2⟩ := List.pairwise_cons.1 hL
    obtain ⟨m1, m2⟩ := List.pairwise_cons.1 hM
    have hxy : x = y := by
      rcases List.mem_cons.1 ((h x).1 (by simp)) with e | e
      · exact e
      · rcases List.mem_cons.1 ((h y).2 (by simp)) with e' | e'
        · exact e'.symm
        · have := m1 x e; have := l1 y e'; omega
    subst hxy
    rw [rises_eq l2 m2 fun z => ?_]
    constructor
    · intro hz
      rcases List.mem_cons.1 ((h z).1 (by simp [hz])) with e | e
      · have := l1 z hz; rw [e] at this; omega
      · exact e
    · intro hz
      rcases List.mem_cons.1 ((h z).2 (by simp [hz])) with e | e
      · have := m1 z hz; rw [e] at this; omega
      · exact e
theorem fnd_ext {L M : List α} (hL : Rises key L) (hM : Rises key M) (h : ∀ k, fnd key k L = fnd key k M) : L = M :=
  rises_eq hL hM fun x => by rw [mem_iff hL, mem_iff hM, h]
theorem lay_mem {k : Int} {o : Option α} : ∀ {L : List α} {x : α}, x ∈ lay key k o L → x ∈ o ∨ x ∈ L
  | [], x, h => by
    left
    unfold lay at h
    simpa using h
  | y :: L, x, h => by
    unfold lay at h
    split at h
    · rcases List.mem_cons.1 h with rfl | h
      · right; simp
      · rcases lay_mem h with h | h
        · exact .inl h
        · right; simp [h]
    · split at h <;> rw [List.mem_append] at h <;> rcases h with h | h
      · left; simpa using h
      · right; simp [h]
      · left; simpa using h
      · exact .inr h
theorem rises_lay {k : Int} {o : Option α} (ho : ∀ x ∈ o, key x = k) : ∀ {L : List α}, Rises key L → Rises key (lay key k o L)
  | [], _ => by
    unfold lay Rises
    cases o <;> simp
  | y :: L, h => by
    obtain ⟨l1, l2⟩ := List.pairwise_cons.1 h
    unfold lay
    split
    · rename_i hy
      refine List.pairwise_cons.2 ⟨fun z hz => ?_, rises_lay ho l2⟩
      rcases lay_mem hz with hz | hz
      · rw [ho z hz]; exact hy
      · exact l1 z hz
    · rename_i h1
      split
      · rename_i h2
        cases o with
        | none => exact l2
        | some x =>
          refine List.pairwise_cons.2 ⟨fun z hz => ?_, l2⟩
          have := l1 z hz; rw [ho x rfl]; omega
      · rename_i h2
        cases o with
        | none => exact h
        | some x =>
          refine List.pairwise_cons.2 ⟨fun z hz => ?_, h⟩
          rw [ho x rfl]
          rcases List.mem_cons.1 hz with rfl | hz
          · omega
          · have := l1 z hz; omega
theorem fnd_lay {k : Int} {o : Option α} (ho : ∀ x ∈ o, key x = k) (j : Int) : ∀ {L : List α}, Rises key L → fnd key j (lay key k o L) = if j = k then o else fnd key j L
  | [], _ => by
    unfold lay
    cases o with
    | none => split <;> rfl
    | some x =>
      have := ho x rfl
      simp only [Option.toList, fnd, this]
      by_cases h : j = k
      · subst h; simp
      · rw [if_neg h, if_neg (by omega)]
  | y :: L, h => by
    obtain ⟨l1, l2⟩ := List.pairwise_cons.1 h
    unfold lay
    split
    · rename_i hy
      have ih := fnd_lay ho j l2
      simp only [fnd]
      rw [ih]
      by_cases hj : j = k
      · rw [if_pos hj, if_neg (by omega), if_pos hj]
      · rw [if_neg hj, if_neg hj]
    · rename_i h1
      split
      · rename_i h2
        cases o with
        | none =>
          simp only [Option.toList, List.nil_append]
          by_cases hj : j = k
          · rw [if_pos hj]; exact fnd_none fun x hx => by have := l1 x hx; omega
          · rw [if_neg hj, fnd, if_neg (by omega)]
        | some x =>
          have := ho x rfl
          simp only [Option.toList, List.cons_append, List.nil_append, fnd, this]
          by_cases hj : j = k
          · rw [if_pos hj, if_pos hj.symm]
          · rw [if_neg (by omega), if_neg hj, if_neg (by omega)]
      · rename_i h2
        cases o with
        | none =>
          simp only [Option.toList, List.nil_append]
          by_cases hj : j = k
          · rw [if_pos hj, fnd, if_neg (by omega)]; exact fnd_none fun x hx => by have := l1 x hx; omega
          · rw [if_neg hj]
        | some x =>
          have := ho x rfl
          simp only [Option.toList, List.cons_append, List.nil_append]
          rw [fnd, this]
          by_cases hj : j = k
          · rw [if_pos hj, if_pos hj.symm]
          · rw [if_neg (by omega), if_neg hj]
theorem sum_lay {k : Int} {o : Option α} (f : α → Nat) : ∀ {L : List α}, Rises key L → ((lay key k o L).map f).sum + ((fnd key k L).map f).getD 0 = (L.map f).sum + (o.map f).getD 0
  | [], _ => by
    unfold lay fnd
    cases o <;> simp
  | y :: L, h => by
    obtain ⟨l1, l2⟩ := List.pairwise_cons.1 h
    unfold lay fnd
    by_cases h1 : key y < k
    · rw [if_pos h1, if_neg (by omega)]
      have := sum_lay f l2 (k := k) (o := o)
      simp only [List.map_cons, List.sum_cons]
      omega
    · rw [if_neg h1]
      by_cases h2 : key y = k
      · rw [if_pos h2, if_pos h2]
        cases o <;> simp <;> omega
      · rw [if_neg h2, if_neg h2, fnd_none fun x hx => by have := l1 x hx; omega]
        cases o <;> simp <;> omega
theorem count_sum (p : α → Bool) : ∀ L : List α, (L.filter p).length = (L.map fun x => if p x then 1 else 0).sum
  | [] => rfl
  | y :: L => by
    have := count_sum p L
    by_cases h : p y = true
    · simp [List.filter_cons, h, this]; omega
    · simp [List.filter_cons, h, this]
structure Parts (key : α → Int) (L : List α) (k : Int) (p : Nat) : Prop where
  le : p ≤ L.length
  lo : ∀ (i : Nat) (h : i < L.length), i < p → key L[i] < k
  hi : ∀ (i : Nat) (h : i < L.length), p ≤ i → k ≤ key L[i]
theorem Parts.tail {y : α} {L : List α} {k : Int} {p : Nat} (h : Parts key (y :: L) k (p + 1)) : Parts key L k p :=
  ⟨by have := h.le; simpa using this, fun i hi hp => by have := h.lo (i + 1) (by simpa using hi) (by omega); simpa using this, fun i hi hp => by have := h.hi (i + 1) (by simpa using hi) (by omega); simpa using this⟩
theorem parts_fnd {k : Int} : ∀ {L : List α} {p : Nat}, Rises key L → Parts key L k p → fnd key k L = (L[p]?).filter fun x => decide (key x = k)
  | [], p, _, _ => by simp [fnd, Option.filter]
  | y :: L, 0, hr, h => by
    obtain ⟨l1, l2⟩ := List.pairwise_cons.1 hr
    have := h.hi 0 (by simp) (Nat.le_refl _)
    simp only [List.getElem_cons_zero] at this
    unfold fnd
    simp only [List.getElem?_cons_zero, Option.filter_some, decide_eq_true_eq]
    by_cases e : key y = k
    · rw [if_pos e, if_pos e]
    · rw [if_neg e, if_neg e]; exact fnd_none fun x hx => by have := l1 x hx; omega
  | y :: L, p + 1, hr, h => by
    obtain ⟨l1, l2⟩ := List.pairwise_cons.1 hr
    have := h.lo 0 (by simp) (by omega)
    simp only [List.getElem_cons_zero] at this
    unfold fnd
    rw [if_neg (by omega), parts_fnd l2 h.tail, List.getElem?_cons_succ]
theorem parts_lay {k : Int} {o : Option α} : ∀ {L : List α} {p : Nat}, Rises key L → Parts key L k p → lay key k o L = L.take p ++ o.toList ++ L.drop (if (fnd key k L).isSome then p + 1 else p)
  | [], p, _, h => by
    have := h.le
    simp at this
    subst this
    simp [lay, fnd]
  | y :: L, 0, hr, h => by
    obtain ⟨l1, l2⟩ := List.pairwise_cons.1 hr
    have := h.hi 0 (by simp) (Nat.le_refl _)
    simp only [List.getElem_cons_zero] at this
    unfold lay fnd
    rw [if_neg (by omega)]
    by_cases e : key y = k
    · rw [if_pos e, if_pos e]; simp
    · rw [if_neg e, if_neg e, fnd_none fun x hx => by have := l1 x hx; omega]; simp
  | y :: L, p + 1, hr, h => by
    obtain ⟨l1, l2⟩ := List.pairwise_cons.1 hr
    have := h.lo 0 (by simp) (by omega)
    simp only [List.getElem_cons_zero] at this
    unfold lay fnd
    rw [if_pos this, if_neg (show ¬ key y = k by omega), parts_lay l2 h.tail]
    cases (fnd key k L).isSome <;> rfl
theorem bsr_parts {L : List α} {k : Int} {lt : Nat → Bool} (hr : Rises key L) (hlt : ∀ (i : Nat) (h : i < L.length), lt i = decide (key L[i] < k)) : Parts key L k (bsr lt L.length 0 L.length) := by
  have hp := List.pairwise_iff_getElem.1 hr
  have sp := bsr_spec (lt := lt) (n := L.length) (fun j i hjk hk h => by
    rw [hlt i hk, decide_eq_true_eq] at h
    rw [hlt j (by omega), decide_eq_true_eq]
    rcases Nat.lt_or_ge j i with h' | h'
    · have := hp j i (by omega) hk h'; omega
    · obtain rfl : j = i := by omega
      exact h) L.length 0 L.length (by omega) (Nat.zero_le _) (Nat.le_refl _) (fun k hk => by omega) (fun k h1 h2 => by omega)
  refine ⟨bsr_le _ _ _ _ (Nat.zero_le _), fun i h hi => ?_, fun i h hi => ?_⟩
  · have := sp.1 i hi; rwa [hlt i h, decide_eq_true_eq] at this
  · have := sp.2 i hi h; rw [hlt i h, decide_eq_false_iff_not] at this; omega
end
end Go.Proofs.Ytiggambibcohcaa

