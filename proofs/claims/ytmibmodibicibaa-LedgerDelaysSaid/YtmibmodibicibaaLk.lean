/-
  What is done to a ledger, by the code: each deed.
-/
import Derived.Test.YtmibmodibicibaaLj
namespace Go.Proofs.Ytmibmodibicibaa
open Go.RowKit
set_option linter.unusedVariables false
set_option linter.unusedSimpArgs false
set_option maxRecDepth 20000
set_option maxHeartbeats 2000000
/-- what is refused ahead of all -/
def gate (l : List Hd) (a e : Int) : Int := if okL l = false then 170 else if a = 0 then 2 else e
theorem okL_len {l : List Hd} (h : okL l = true) : l.length ≤ 24 := by
  unfold okL at h
  rw [Bool.and_eq_true] at h
  exact of_decide_eq_true h.1
theorem gate_zero {l : List Hd} {a e : Int} (h : gate l a e = 0) : okL l = true ∧ (a == 0) = false ∧ e = 0 := by
  unfold gate at h
  cases hk : okL l with
  | false => rw [hk, if_pos rfl] at h; cases h
  | true =>
    rw [hk, if_neg (by decide)] at h
    by_cases ha : a = 0
    · rw [if_pos ha] at h; cases h
    · rw [if_neg ha] at h; exact ⟨rfl, by simp [ha], h⟩
theorem with1_gate (ex : Bool) (l : List Hd) (hl : l.length ≤ maxLen) (ok : ∀ h ∈ l, h.ok) (a : Int) (g : Nat) (gf : Func) (hg1 : Try.prog.funcs[g]? = some gf) (hg2 : (gf.name == "runtime.NumGoroutine") = false) (hg3 : gf.body.isNone = false) (u : List PV) (x' : Int) (p' s' : Nat) (d' f' e : Int) (hE : (gate l a e == 0) = false)
    (D : l.length ≤ 400 → (e == 0) = false → Fn Try.prog g ([.ptr 1005 0] ++ [.ptr 1101 0]) ([(1005, tl (findH l a).a (findH l a).p (findH l a).s (findH l a).d (findH l a).f (hsl ex l))] ++ [(1101, List.map .c u)]) (vi .i64 e) ([(1005, tl x' p' s' d' f' (hsl ex l))] ++ [(1101, List.map .c u)])) : Fn Try.prog 39 [lg ex l, vi .u64 a, .fn g [.ptr 1101 0]] [(1101, List.map .c u)] (.tup [lgN, vi .i64 (gate l a e)]) [(1101, List.map .c u)] := by
  unfold gate at hE ⊢
  cases hk : okL l with
  | false => rw [if_pos rfl]; exact with1_bad ex l hl ok hk a g u
  | true =>
    rw [hk, if_neg (by decide)] at hE
    rw [if_neg (by decide)]
    have hl' := okL_len hk
    by_cases ha : a = 0
    · rw [if_pos ha]; exact with1_zero ex l hl ok hk a ha g u
    · rw [if_neg ha] at hE ⊢
      exact with1_err ex l (by omega) ok hk a (by simp [ha]) g gf hg1 hg2 hg3 u u x' p' s' d' f' e (by simp at hE ⊢; exact hE) (D (by omega) hE)
theorem with2_gate (ex : Bool) (l : List Hd) (hl : l.length ≤ maxLen) (ok : ∀ h ∈ l, h.ok) (a : Int) (g : Nat) (gf : Func) (hg1 : Try.prog.funcs[g]? = some gf) (hg2 : (gf.name == "runtime.NumGoroutine") = false) (hg3 : gf.body.isNone = false) (u v : List PV) (x' : Int) (p' s' : Nat) (d' f' e : Int) (hE : (gate l a e == 0) = false)
    (D : l.length ≤ 400 → (e == 0) = false → Fn Try.prog g ([.ptr 1005 0] ++ [.ptr 1101 0, .ptr 1102 0]) ([(1005, tl (findH l a).a (findH l a).p (findH l a).s (findH l a).d (findH l a).f (hsl ex l))] ++ [(1101, List.map .c u), (1102, List.map .c v)]) (vi .i64 e) ([(1005, tl x' p' s' d' f' (hsl ex l))] ++ [(1101, List.map .c u), (1102, List.map .c v)])) : Fn Try.prog 39 [lg ex l, vi .u64 a, .fn g [.ptr 1101 0, .ptr 1102 0]] [(1101, List.map .c u), (1102, List.map .c v)] (.tup [lgN, vi .i64 (gate l a e)]) [(1101, List.map .c u), (1102, List.map .c v)] := by
  unfold gate at hE ⊢
  cases hk : okL l with
  | false => rw [if_pos rfl]; exact with2_bad ex l hl ok hk a g u v
  | true =>
    rw [hk, if_neg (by decide)] at hE
    rw [if_neg (by decide)]
    have hl' := okL_len hk
    by_cases ha : a = 0
    · rw [if_pos ha]; exact with2_zero ex l hl ok hk a ha g u v
    · rw [if_neg ha] at hE ⊢
      exact with2_err ex l (by omega) ok hk a (by simp [ha]) g gf hg1 hg2 hg3 u v u v x' p' s' d' f' e (by simp at hE ⊢; exact hE) (D (by omega) hE)
theorem okZ {a : Int} (ha : U a) : Hd.ok ⟨a, 0, 0, 0, 0⟩ := ⟨ha, (by decide : 0 < WW), (by decide : 0 < WW), ⟨Int.le_refl 0, (by decide : (0 : Int) ≤ 18446744073709551615)⟩, ⟨Int.le_refl 0, (by decide : (0 : Int) ≤ 18446744073709551615)⟩⟩
theorem findH_ok {l : List Hd} (ok : ∀ h ∈ l, h.ok) {a : Int} (ha : U a) : (findH l a).ok := by
  unfold findH
  cases hy : l[posA l a]? with
  | none => exact okZ ha
  | some y =>
    dsimp only
    split
    · exact ok y (List.mem_of_getElem? hy)
    · exact okZ ha
theorem findH_a (l : List Hd) (a : Int) : (findH l a).a = a := by
  unfold findH
  cases hy : l[posA l a]? with
  | none => rfl
  | some y =>
    dsimp only
    split
    · assumption
    · rfl
def depH (h : Hd) (n : Nat) : Hd := ⟨h.a, (h.p + n) % WW, h.s, h.d, h.f⟩
def wdrE (h : Hd) (n : Nat) : Int := if h.p < n then 162 else 0
def wdrH (h : Hd) (n : Nat) : Hd := ⟨h.a, h.p - n, h.s, h.d, h.f⟩
def bondE (l : List Hd) (a : Int) (h : Hd) (n : Nat) (delay : Int) : Int := if dly h.d delay = true then 2 else if (decide (h.s = 0) && decide (n = 0)) = true then 172 else fitsE l a n
def bondH (h : Hd) (n : Nat) (delay : Int) : Hd := ⟨h.a, h.p, (h.s + n) % WW, delay, 0⟩
def unlE (h : Hd) (now : Int) : Int := if now > 1099511627776 then 2 else if (!decide (h.s = 0) && (h.f == 0)) = false then 172 else 0
def unlH (h : Hd) (now : Int) : Hd := ⟨h.a, h.p, h.s, h.d, now + h.d⟩
def relE (h : Hd) (now : Int) : Int := if now > 1099511627776 then 2 else if h.s = 0 then 172 else if h.f = 0 ∨ now < h.f then 173 else 0
def relH (h : Hd) : Hd := ⟨h.a, h.p, 0, 0, 0⟩
theorem okU_all {l : List Hd} : ∀ {n : Nat}, okU l n = true → ∀ i, i < n → okR l i = true
  | n + 1, h, i, hi => by
    unfold okU at h
    rw [Bool.and_eq_true] at h
    rcases Nat.lt_or_ge i n with h1 | h1
    · exact okU_all h.1 i h1
    · obtain rfl : i = n := by omega
      exact h.2
theorem okL_right {l : List Hd} (h : okL l = true) {y : Hd} (hy : y ∈ l) : rightH y = true := by
  unfold okL at h
  rw [Bool.and_eq_true, Bool.and_eq_true] at h
  obtain ⟨i, hi, rfl⟩ := List.getElem_of_mem hy
  have h2 := okU_all h.2.1 i hi
  unfold okR at h2
  rw [List.getElem?_eq_getElem hi] at h2
  dsimp only at h2
  rw [Bool.and_eq_true] at h2
  exact h2.1
theorem right_d {y : Hd} (h : rightH y = true) : y.d ≤ 1073741824 := by
  unfold rightH at h
  simp only [Bool.and_eq_true, decide_eq_true_eq] at h
  exact h.2.1
theorem findH_d {l : List Hd} (h : okL l = true) (a : Int) : (findH l a).d ≤ 1073741824 := by
  unfold findH
  cases hy : l[posA l a]? with
  | none => exact (by decide : (0 : Int) ≤ 1073741824)
  | some y =>
    dsimp only
    split
    · exact right_d (okL_right h (List.mem_of_getElem? hy))
    · exact (by decide : (0 : Int) ≤ 1073741824)
end Go.Proofs.Ytmibmodibicibaa
