/-
  What is used, and what the document says of it: the same.
-/
import Derived.Test.YtlkogofgemclfaaNz
import Derived.Test.YtlkogofgemclfaaNu
namespace Go.Proofs.Ytlkogofgemclfaa
open Go.RowKit
set_option linter.unusedVariables false
set_option linter.unusedSimpArgs false
set_option maxRecDepth 20000
set_option maxHeartbeats 1000000
section
variable {o : N6}
theorem insR_app {A B : List N6} {K : Nat} (hK : o.rk = K) (hm : ∀ n, n ∈ A → (mtK o.a o.b o.c o.d o.e n ↔ n.rk = K)) (hA : ∀ n ∈ A, n.rk < K) : insR o (A ++ B) false = A ++ insR o B false := by
  induction A with
  | nil => rfl
  | cons n A ih =>
    have h1 := hA n (by simp)
    rw [List.cons_append, insR_k (by rw [hm n (by simp)]; omega) (.inr (by rw [hK]; simp; omega)), ih (fun n hn => hm n (by simp [hn])) (fun n hn => hA n (by simp [hn]))]
    rfl
theorem insR_tt {B : List N6} {K : Nat} (hK : o.rk = K) (hm : ∀ n, n ∈ B → (mtK o.a o.b o.c o.d o.e n ↔ n.rk = K)) (hB : ∀ n ∈ B, K < n.rk) : insR o B true = B := by
  induction B with
  | nil => rfl
  | cons n B ih =>
    have h1 := hB n (by simp)
    rw [insR_k (by rw [hm n (by simp)]; omega) (.inl rfl), ih (fun n hn => hm n (by simp [hn])) (fun n hn => hB n (by simp [hn]))]
theorem insR_gt {B : List N6} {K : Nat} (hK : o.rk = K) (hm : ∀ n, n ∈ B → (mtK o.a o.b o.c o.d o.e n ↔ n.rk = K)) (hB : ∀ n ∈ B, K < n.rk) : insR o B false = o :: B := by
  cases B with
  | nil => rfl
  | cons n B =>
    have h1 := hB n (by simp)
    rw [insR_i (by rw [hm n (by simp)]; omega) (by rw [hK]; simp; omega), insR_tt hK (fun n hn => hm n (by simp [hn])) (fun n hn => hB n (by simp [hn]))]
end
set_option linter.unusedSectionVars false
section
variable {l : List N6} (ok : ∀ n ∈ l, n.ok) (hr : Rises l) {a b c d : Int} (u0 : U a) (u1 : U b) (u2 : U c) (u3 : U d)
include ok hr u0 u1 u2 u3
theorem use_ins (x : Int) (h : eqK l a b c d 0 (posK l a b c d) = false) : insR ⟨a, b, c, d, 0, x⟩ l false = l.take (posK l a b c d) ++ ⟨a, b, c, d, 0, x⟩ :: l.drop (posK l a b c d) := by
  have hp := posK_at ok hr u0 u1 u2 u3
  have hg := (next_no ok hr u0 u1 u2 u3 h).2
  generalize posK l a b c d = p at hp hg
  conv => lhs; rw [← List.take_append_drop p l]
  rw [insR_app (K := rk a b c d 0) (rk_mk a b c d 0 x) (fun n hn => mt_iff ok hr u0 u1 u2 u3 n (List.mem_of_mem_take hn)) (fun n hn => by
    obtain ⟨j, hj⟩ := List.mem_iff_getElem?.1 hn
    have hjl := (List.getElem?_eq_some_iff.1 hj).1
    simp at hjl
    rw [List.getElem?_take, if_pos (by omega)] at hj
    exact hp.lt j n (by omega) hj)]
  rw [insR_gt (K := rk a b c d 0) (rk_mk a b c d 0 x) (fun n hn => mt_iff ok hr u0 u1 u2 u3 n (List.mem_of_mem_drop hn)) (fun n hn => by
    obtain ⟨j, hj⟩ := List.mem_iff_getElem?.1 hn
    rw [List.getElem?_drop] at hj
    exact hg _ n (by omega) hj)]
theorem use_upd (x : Int) {y : N6} (hy : l[posK l a b c d]? = some y) (h : eqK l a b c d 0 (posK l a b c d) = true) : insR ⟨a, b, c, d, 0, x⟩ l false = l.take (posK l a b c d) ++ { y with x := x } :: l.drop (posK l a b c d + 1) := by
  have hp := posK_at ok hr u0 u1 u2 u3
  obtain ⟨_, hm⟩ := next_yes ok hr u0 u1 u2 u3 hy h
  generalize posK l a b c d = p at hp hy
  have e := rcN_at hy
  conv => lhs; rw [e]
  have hmy := (mt_iff ok hr u0 u1 u2 u3 y (List.mem_of_getElem? hy)).1 hm
  rw [insR_app (K := rk a b c d 0) (rk_mk a b c d 0 x) (fun n hn => mt_iff ok hr u0 u1 u2 u3 n (List.mem_of_mem_take hn)) (fun n hn => by
    obtain ⟨j, hj⟩ := List.mem_iff_getElem?.1 hn
    have hjl := (List.getElem?_eq_some_iff.1 hj).1
    simp at hjl
    rw [List.getElem?_take, if_pos (by omega)] at hj
    exact hp.lt j n (by omega) hj)]
  rw [insR_m hm, insR_gt (K := rk a b c d 0) (rk_mk a b c d 0 x) (fun n hn => mt_iff ok hr u0 u1 u2 u3 n (List.mem_of_mem_drop hn)) (fun n hn => by
    obtain ⟨j, hj⟩ := List.mem_iff_getElem?.1 hn
    rw [List.getElem?_drop] at hj
    have := hr p (p + 1 + j) y n (by omega) hy hj
    omega)]
  obtain ⟨h0, h1, h2, h3, h4⟩ := hm
  rw [← h0, ← h1, ← h2, ← h3, ← h4]
end
end Go.Proofs.Ytlkogofgemclfaa
