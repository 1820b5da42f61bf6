/-
  The law NonceUses, reckoned.
-/
import Derived.Test.YtlkogofgemclfaaOb
import Derived.Test.YtlkogofgemclfaaNn
namespace Go.Proofs.Ytlkogofgemclfaa
open Go.RowKit
set_option linter.unusedVariables false
set_option linter.unusedSimpArgs false
set_option maxRecDepth 20000
set_option maxHeartbeats 2000000
theorem use_ok (ex : Bool) (l : List N6) (hl : l.length ≤ 1000) (ok : ∀ n ∈ l, n.ok) (hok : okTo l l.length = true) (a b c d s : Int) (u0 : U a) (u1 : U b) (u2 : U c) (u3 : U d) (us : U s) (ha : (a != 0) = true) (hs : nextL l a b c d 0 = s) (h : s < 18446744073709551615) (h' : ¬ (s = 0 ∧ (l.length : Int) = 48)) :
    Fn Try.prog 12 [nsl ex l, vi .u64 a, w4 s b c d] [] (.tup [.row 36 38 6 (insR ⟨a, b, c, d, 0, s + 1⟩ l false).length, vi .i64 0]) [(36, rcN (insR ⟨a, b, c, d, 0, s + 1⟩ l false))] := by
  have hr := rises_of ok hok
  have h48 := ((okTo_iff l _).1 hok).1
  cases he : eqK l a b c d 0 (posK l a b c d) with
  | false =>
    have hn := (next_no ok hr u0 u1 u2 u3 he).1
    rw [hn] at hs
    subst hs
    have hlt : (l.length : Int) < 48 := by
      have : (l.length : Int) ≠ 48 := fun e => h' ⟨rfl, e⟩
      omega
    have e := use_ins ok hr u0 u1 u2 u3 (0 + 1) he
    rw [e]
    have h1 := use_insw ex l hok a b c d u1 u2 u3 ha he hlt
    have hlen : (l.take (posK l a b c d) ++ (⟨a, b, c, d, 0, 0 + 1⟩ : N6) :: l.drop (posK l a b c d)).length = l.length + 1 := by
      have := posK_le l a b c d
      simp; omega
    rw [hlen]
    exact h1
  | true =>
    obtain ⟨y, hy⟩ : ∃ y, l[posK l a b c d]? = some y := by
      have he' := he
      rw [eqK_at ok u0 u1 u2 u3] at he'
      cases hy : l[posK l a b c d]? with
      | none => rw [hy] at he'; cases he'
      | some y => exact ⟨y, rfl⟩
    have hn := (next_yes ok hr u0 u1 u2 u3 hy he).1
    rw [hn] at hs
    subst hs
    have hp := (List.getElem?_eq_some_iff.1 hy).1
    have h0 : 0 < y.x := by
      have := ((okTo_iff l _).1 hok).2 _ hp
      simp only [okS, hy, Bool.and_eq_true, decide_eq_true_eq] at this
      exact this.1.2
    have e := use_upd ok hr u0 u1 u2 u3 (y.x + 1) hy he
    rw [e]
    have h1 := use_updw ex l (Nat.le_trans hl (by decide)) hok a b c d y u1 u2 u3 us ha he hy h0 h
    have hlen : (l.take (posK l a b c d) ++ ({ y with x := y.x + 1 } : N6) :: l.drop (posK l a b c d + 1)).length = l.length := by
      simp; omega
    rw [hlen]
    refine Fn.rename (fun r => if r = 36 then 27 else r) ?_ (by simp) (by simp)
    simpa [AV.ren, AV.renL, renH, rcN] using h1
def bump (y : N6) : N6 := { y with x := IntKind.u64.wrap (y.x + 7) }
theorem insR_len (o : N6) : ∀ (l : List N6) (b : Bool), (insR o l b).length ≤ l.length + 1
  | [], b => by cases b <;> simp [insR]
  | n :: l, b => by
    have h1 := insR_len o l b
    have h2 := insR_len o l true
    rw [insR]
    split
    · simp; omega
    · split
      · rename_i hb
        have hb' : b = false := by simp at hb; exact hb.1
        have h3 : ∀ l : List N6, (insR o l true).length ≤ l.length := fun l => by
          induction l with
          | nil => simp [insR]
          | cons m l ih =>
            rw [insR]
            split
            · simp; omega
            · rw [if_neg (by simp)]; simpa using ih
        have := h3 l
        simp; omega
      · simp; omega
theorem insR_ok {o : N6} (ho : o.ok) : ∀ (l : List N6) (b : Bool), (∀ n ∈ l, n.ok) → ∀ n ∈ insR o l b, n.ok
  | [], b, h, n, hn => by cases b <;> simp [insR] at hn; subst hn; exact ho
  | m :: l, b, h, n, hn => by
    have hl : ∀ n ∈ l, n.ok := fun n hn => h n (by simp [hn])
    rw [insR] at hn
    split at hn
    · exact insR_ok ho l b hl n hn
    · split at hn
      · rcases List.mem_cons.1 hn with rfl | hn
        · exact ho
        · rcases List.mem_cons.1 hn with rfl | hn
          · exact h _ (by simp)
          · exact insR_ok ho l true hl n hn
      · rcases List.mem_cons.1 hn with rfl | hn
        · exact h _ (by simp)
        · exact insR_ok ho l b hl n hn
end Go.Proofs.Ytlkogofgemclfaa
