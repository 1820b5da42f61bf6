/-
  Plain law of ledgers: rows put, found, summed. No program in sight.
-/
import Derived.Test.YtmibmodibicibaaLn
namespace Go.Proofs.Ytmibmodibicibaa
open Go.RowKit
set_option linter.unusedVariables false
set_option linter.unusedSimpArgs false
set_option maxRecDepth 20000
set_option maxHeartbeats 2000000
def srt (l : List Hd) : Prop := l.Pairwise fun x y => x.a < y.a
theorem lastA_succ {l : List Hd} {i : Nat} {y : Hd} (h : l[i]? = some y) : lastA l (i + 1) = y.a := by
  show (match l[i]? with | some y => y.a | none => 0) = y.a
  rw [h]
theorem okU_of {l : List Hd} : ∀ {n : Nat}, (∀ i, i < n → okR l i = true) → okU l n = true
  | 0, _ => rfl
  | n + 1, h => by
    unfold okU
    rw [okU_of fun i hi => h i (by omega), h n (by omega)]; rfl
theorem okL_srt {l : List Hd} (h : okL l = true) : srt l := by
  unfold okL at h
  rw [Bool.and_eq_true, Bool.and_eq_true] at h
  have hR := okU_all h.2.1
  have key : ∀ j, ∀ i, i < j → ∀ (hj : j < l.length) (hi : i < l.length), l[i].a < l[j].a := by
    intro j
    induction j with
    | zero => intro i hi; omega
    | succ j ih =>
      intro i hi hj hi'
      have h1 := hR (j + 1) hj
      unfold okR at h1
      rw [List.getElem?_eq_getElem hj] at h1
      dsimp only at h1
      rw [Bool.and_eq_true, decide_eq_true_eq, lastA_succ (List.getElem?_eq_getElem (by omega : j < l.length))] at h1
      rcases Nat.lt_or_ge i j with h2 | h2
      · exact Int.lt_trans (ih i h2 (by omega) hi') h1.2
      · obtain rfl : i = j := by omega
        exact h1.2
  unfold srt
  rw [List.pairwise_iff_getElem]
  intro i j hi hj hij
  exact key j i hij hj hi
theorem okL_of {l : List Hd} (h24 : l.length ≤ 24) (hr : ∀ h ∈ l, rightH h = true) (hp : ∀ h ∈ l, 0 ≤ h.a) (hs : srt l) (ht : tot l < WW) : okL l = true := by
  unfold okL
  rw [decide_eq_true h24, decide_eq_true ht, Bool.and_true, Bool.true_and]
  refine okU_of fun i hi => ?_
  unfold okR
  rw [List.getElem?_eq_getElem hi]
  dsimp only
  rw [hr _ (List.getElem_mem hi), Bool.true_and, decide_eq_true_eq]
  cases i with
  | zero =>
    have h1 := hr _ (List.getElem_mem hi)
    have h2 := hp _ (List.getElem_mem hi)
    unfold rightH at h1
    simp only [Bool.and_eq_true, bne_iff_ne, ne_eq] at h1
    show (0 : Int) < _
    omega
  | succ i =>
    rw [lastA_succ (List.getElem?_eq_getElem (by omega : i < l.length))]
    exact (List.pairwise_iff_getElem.1 hs) i (i + 1) (by omega) hi (by omega)
def emptyH (h : Hd) : Bool := decide (h.p = 0) && decide (h.s = 0)
def zH (a : Int) : Hd := ⟨a, 0, 0, 0, 0⟩
/-- a ledger, cut at an address -/
theorem cutA {l : List Hd} (hs : srt l) (a : Int) : ∃ (A : List Hd) (o : Option Hd) (B : List Hd), l = A ++ (o.toList ++ B) ∧ (∀ x ∈ A, x.a < a) ∧ (∀ x ∈ o, x.a = a) ∧ (∀ x ∈ B, a < x.a) ∧ isA l a = o.isSome ∧ findH l a = o.getD (zH a) ∧ ∀ h : Hd, h.a = a → putL l h = A ++ ((if emptyH h = true then [] else [h]) ++ B) := by
  have hle := posA_le l a
  have hA : ∀ x ∈ l.take (posA l a), x.a < a := by
    intro x hx
    obtain ⟨i, hi, rfl⟩ := List.getElem_of_mem hx
    rw [List.length_take] at hi
    rw [List.getElem_take]
    have hlt : i < l.findIdx fun h => decide (a ≤ h.a) := by
      have : posA l a = l.findIdx fun h => decide (a ≤ h.a) := rfl
      omega
    have := List.not_of_lt_findIdx hlt
    simpa using this
  rcases Nat.lt_or_ge (posA l a) l.length with hlt | hge
  · have hat : a ≤ (l[posA l a]).a := by
      have h2 : l.findIdx (fun h => decide (a ≤ h.a)) < l.length := hlt
      have := List.findIdx_getElem (w := h2)
      exact of_decide_eq_true this
    have hl : l = l.take (posA l a) ++ l[posA l a] :: l.drop (posA l a + 1) := by
      conv => lhs; rw [← List.take_append_drop (posA l a) l, List.drop_eq_getElem_cons hlt]
    have hB : ∀ x ∈ l.drop (posA l a + 1), (l[posA l a]).a < x.a := by
      intro x hx
      unfold srt at hs
      rw [hl, List.pairwise_append] at hs
      exact (List.pairwise_cons.1 hs.2.1).1 x hx
    have hg := List.getElem?_eq_getElem hlt
    by_cases he : (l[posA l a]).a = a
    · have hi : isA l a = true := by unfold isA; rw [hg]; simp [he]
      refine ⟨l.take (posA l a), some l[posA l a], l.drop (posA l a + 1), hl, hA, fun x hx => by cases hx; exact he, fun x hx => by have := hB x hx; omega, hi, by unfold findH; rw [hg]; simp [he], ?_⟩
      intro h hh
      have hrem : remL l a = l.take (posA l a) ++ l.drop (posA l a + 1) := by unfold remL; rw [if_pos hi]
      unfold putL
      rw [hh, hrem, List.take_append_of_le_length (by simp; omega), List.take_take, Nat.min_self, List.drop_append_of_le_length (by simp; omega)]
      have : (l.take (posA l a)).drop (posA l a) = [] := List.drop_eq_nil_of_le (by simp; omega)
      rw [this, List.nil_append]
      unfold emptyH
      split <;> rfl
    · have hi : isA l a = false := by unfold isA; rw [hg]; simp [he]
      refine ⟨l.take (posA l a), none, l.drop (posA l a), (List.take_append_drop _ _).symm, hA, fun x hx => (by cases hx), fun x hx => ?_, hi, by unfold findH; rw [hg]; simp [he, zH], ?_⟩
      · rw [List.drop_eq_getElem_cons hlt] at hx
        rcases List.mem_cons.1 hx with rfl | hx
        · omega
        · have := hB x hx; omega
      · intro h hh
        have hrem : remL l a = l := by unfold remL; rw [if_neg (by rw [hi]; decide)]
        unfold putL
        rw [hh, hrem]
        unfold emptyH
        split
        · exact (List.take_append_drop _ _).symm
        · rfl
  · have hp : posA l a = l.length := by omega
    have hg : l[posA l a]? = none := List.getElem?_eq_none (by omega)
    have hi : isA l a = false := by unfold isA; rw [hg]
    refine ⟨l, none, [], by simp, by rwa [hp, List.take_length] at hA, fun x hx => (by cases hx), fun x hx => (by cases hx), hi, by unfold findH; rw [hg]; rfl, ?_⟩
    intro h hh
    have hrem : remL l a = l := by unfold remL; rw [if_neg (by rw [hi]; decide)]
    unfold putL
    rw [hh, hrem, hp, List.take_length, List.drop_length]
    unfold emptyH
    split <;> simp
theorem tot_append (l m : List Hd) : tot (l ++ m) = tot l + tot m := by simp [tot]
theorem tot_cons (h : Hd) (l : List Hd) : tot (h :: l) = h.p + h.s + tot l := by simp [tot]
theorem mem_put {l : List Hd} (hs : srt l) (h x : Hd) : x ∈ putL l h ↔ (x ∈ l ∧ x.a ≠ h.a) ∨ (x = h ∧ emptyH h = false) := by
  obtain ⟨A, o, B, rfl, hA, ho, hB, _, _, hp⟩ := cutA hs h.a
  rw [hp h rfl]
  constructor
  · intro hx
    rcases List.mem_append.1 hx with hx | hx
    · exact .inl ⟨List.mem_append.2 (.inl hx), by have := hA x hx; omega⟩
    rcases List.mem_append.1 hx with hx | hx
    · split at hx
      · cases hx
      · rename_i he
        exact .inr ⟨by simpa using hx, by simpa using he⟩
    · exact .inl ⟨by simp [hx], by have := hB x hx; omega⟩
  · rintro (⟨hx, hne⟩ | ⟨rfl, he⟩)
    · rcases List.mem_append.1 hx with hx | hx
      · exact List.mem_append.2 (.inl hx)
      rcases List.mem_append.1 hx with hx | hx
      · exact absurd (ho x (by simpa using hx)) hne
      · simp [hx]
    · simp [he]
theorem srt_put {l : List Hd} (hs : srt l) (h : Hd) : srt (putL l h) := by
  obtain ⟨A, o, B, rfl, hA, ho, hB, _, _, hp⟩ := cutA hs h.a
  rw [hp h rfl]
  unfold srt at hs ⊢
  rw [List.pairwise_append, List.pairwise_append] at hs
  obtain ⟨h1, ⟨h2, h3, h4⟩, h5⟩ := hs
  rw [List.pairwise_append, List.pairwise_append]
  refine ⟨h1, ⟨by split <;> simp, h3, ?_⟩, ?_⟩
  · intro x hx y hy
    split at hx
    · cases hx
    · obtain rfl : x = h := by simpa using hx
      exact hB y hy
  · intro x hx y hy
    rcases List.mem_append.1 hy with hy | hy
    · split at hy
      · cases hy
      · obtain rfl : y = h := by simpa using hy
        exact hA x hx
    · exact h5 x hx y (by simp [hy])
theorem tot_put {l : List Hd} (hs : srt l) (h : Hd) : tot (putL l h) + ((findH l h.a).p + (findH l h.a).s) = tot l + (h.p + h.s) := by
  obtain ⟨A, o, B, rfl, hA, ho, hB, _, hf, hp⟩ := cutA hs h.a
  rw [hp h rfl, hf]
  simp only [tot_append]
  have h1 : tot (if emptyH h = true then [] else [h]) = h.p + h.s := by
    split
    · rename_i he
      unfold emptyH at he
      simp only [Bool.and_eq_true, decide_eq_true_eq] at he
      simp [tot, he]
    · simp [tot]
  have h2 : tot o.toList = (o.getD (zH h.a)).p + (o.getD (zH h.a)).s := by
    cases o <;> simp [tot, zH]
  omega
theorem len_put {l : List Hd} (hs : srt l) (h : Hd) : (putL l h).length + (if isA l h.a = true then 1 else 0) = l.length + (if emptyH h = true then 0 else 1) := by
  obtain ⟨A, o, B, rfl, hA, ho, hB, hi, hf, hp⟩ := cutA hs h.a
  rw [hp h rfl, hi]
  cases o <;> cases emptyH h <;> simp <;> omega
theorem findH_mem {l : List Hd} (hs : srt l) {y : Hd} (hy : y ∈ l) : findH l y.a = y := by
  obtain ⟨A, o, B, rfl, hA, ho, hB, _, hf, _⟩ := cutA hs y.a
  rw [hf]
  rcases List.mem_append.1 hy with hy | hy
  · have := hA y hy; omega
  rcases List.mem_append.1 hy with hy | hy
  · cases o with
    | none => cases hy
    | some z => obtain rfl : y = z := by simpa using hy
                rfl
  · have := hB y hy; omega
theorem findH_no {l : List Hd} (hs : srt l) {a : Int} (h : ∀ y ∈ l, y.a ≠ a) : findH l a = zH a ∧ isA l a = false := by
  obtain ⟨A, o, B, rfl, hA, ho, hB, hi, hf, _⟩ := cutA hs a
  cases o with
  | none => exact ⟨hf, hi⟩
  | some z => exact absurd (ho z rfl) (h z (by simp))
theorem isA_mem {l : List Hd} (hs : srt l) {a : Int} (h : isA l a = true) : findH l a ∈ l := by
  obtain ⟨A, o, B, rfl, hA, ho, hB, hi, hf, _⟩ := cutA hs a
  rw [hi] at h
  cases o with
  | none => cases h
  | some z => rw [hf]; simp
theorem isA_no {l : List Hd} (hs : srt l) {a : Int} (h : isA l a = false) : findH l a = zH a := by
  obtain ⟨A, o, B, rfl, hA, ho, hB, hi, hf, _⟩ := cutA hs a
  rw [hi] at h
  cases o with
  | none => rw [hf]; rfl
  | some z => cases h
theorem isA_of {l : List Hd} (hs : srt l) {y : Hd} (hy : y ∈ l) : isA l y.a = true := by
  obtain ⟨A, o, B, rfl, hA, ho, hB, hi, hf, _⟩ := cutA hs y.a
  rw [hi]
  rcases List.mem_append.1 hy with hy | hy
  · have := hA y hy; omega
  rcases List.mem_append.1 hy with hy | hy
  · cases o with
    | none => cases hy
    | some z => rfl
  · have := hB y hy; omega
theorem findH_other {l : List Hd} (hs : srt l) (h : Hd) {b : Int} (hb : b ≠ h.a) : findH (putL l h) b = findH l b ∧ isA (putL l h) b = isA l b := by
  have hs' := srt_put hs h
  cases hi : isA l b with
  | true =>
    have hm := isA_mem hs hi
    have ha := findH_a l b
    have hm' : findH l b ∈ putL l h := (mem_put hs h _).2 (.inl ⟨hm, by rw [ha]; exact hb⟩)
    have h1 := findH_mem hs' hm'
    have h2 := isA_of hs' hm'
    rw [ha] at h1 h2
    exact ⟨h1, h2⟩
  | false =>
    have hz := isA_no hs hi
    have : ∀ y ∈ putL l h, y.a ≠ b := by
      intro y hy e
      rcases (mem_put hs h y).1 hy with ⟨hy, _⟩ | ⟨rfl, _⟩
      · have := isA_of hs hy
        rw [e, hi] at this
        cases this
      · exact hb e.symm
    obtain ⟨h1, h2⟩ := findH_no hs' this
    rw [hz]
    exact ⟨h1, h2⟩
theorem findH_put {l : List Hd} (hs : srt l) (h : Hd) : findH (putL l h) h.a = if emptyH h = true then zH h.a else h := by
  have hs' := srt_put hs h
  split
  · rename_i he
    refine (findH_no hs' fun y hy e => ?_).1
    rcases (mem_put hs h y).1 hy with ⟨_, hne⟩ | ⟨_, hn⟩
    · exact hne e
    · rw [he] at hn; cases hn
  · rename_i he
    exact findH_mem hs' ((mem_put hs h h).2 (.inr ⟨rfl, by simpa using he⟩))
theorem srt_ext : ∀ {l m : List Hd}, srt l → srt m → (∀ x, x ∈ l ↔ x ∈ m) → l = m
  | [], [], _, _, _ => rfl
  | [], y :: m, _, _, h => by have := (h y).2 (by simp); cases this
  | x :: l, [], _, _, h => by have := (h x).1 (by simp); cases this
  | x :: l, y :: m, hl, hm, h => by
    unfold srt at hl hm
    rw [List.pairwise_cons] at hl hm
    have hxy : x = y := by
      rcases List.mem_cons.1 ((h x).1 (by simp)) with e | hx
      · exact e
      rcases List.mem_cons.1 ((h y).2 (by simp)) with e | hy
      · exact e.symm
      have h1 := hl.1 y hy
      have h2 := hm.1 x hx
      omega
    subst hxy
    rw [srt_ext (l := l) (m := m) hl.2 hm.2 fun z => ?_]
    constructor
    · intro hz
      rcases List.mem_cons.1 ((h z).1 (by simp [hz])) with rfl | hz'
      · have := hl.1 z hz; omega
      · exact hz'
    · intro hz
      rcases List.mem_cons.1 ((h z).2 (by simp [hz])) with rfl | hz'
      · have := hm.1 z hz; omega
      · exact hz'
theorem put_comm {l : List Hd} (hs : srt l) (g h : Hd) (hne : g.a ≠ h.a) : putL (putL l g) h = putL (putL l h) g := by
  refine srt_ext (srt_put (srt_put hs g) h) (srt_put (srt_put hs h) g) fun x => ?_
  rw [mem_put (srt_put hs g), mem_put hs, mem_put (srt_put hs h), mem_put hs]
  constructor
  · rintro (⟨⟨hx, h1⟩ | ⟨rfl, h1⟩, h2⟩ | ⟨rfl, h1⟩)
    · exact .inl ⟨.inl ⟨hx, h2⟩, h1⟩
    · exact .inr ⟨rfl, h1⟩
    · exact .inl ⟨.inr ⟨rfl, h1⟩, fun e => hne e.symm⟩
  · rintro (⟨⟨hx, h1⟩ | ⟨rfl, h1⟩, h2⟩ | ⟨rfl, h1⟩)
    · exact .inl ⟨.inl ⟨hx, h2⟩, h1⟩
    · exact .inr ⟨rfl, h1⟩
    · exact .inl ⟨.inr ⟨rfl, h1⟩, hne⟩
end Go.Proofs.Ytmibmodibicibaa
