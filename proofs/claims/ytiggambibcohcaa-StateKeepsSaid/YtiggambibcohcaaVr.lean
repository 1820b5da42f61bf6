/-
  What comes of deeds can be read; the law StateDoes, walked.
-/
import Derived.Test.YtiggambibcohcaaVl
import Derived.Test.YtiggambibcohcaaTh
namespace Go.Proofs.Ytiggambibcohcaa
open Go.RowKit
open Nat (reduceBEq)
set_option linter.unusedVariables false
set_option linter.unusedSimpArgs false
set_option maxRecDepth 20000
set_option maxHeartbeats 4000000
def Gd (r : List Ac × Int) : Prop := r.1.length ≤ 802 ∧ ∀ y ∈ r.1, Okx y
theorem gd_nil (e : Int) : Gd ([], e) := ⟨Nat.zero_le _, fun y hy => by cases hy⟩
theorem gd_lays {L : List Ac} (hL : Okl L) {x : Ac} (hx : Okx x) (e : Int) : Gd (laysL L x, e) := ⟨by have := (okl_lays hL hx).1; dsimp only; omega, (okl_lays hL hx).2⟩
theorem gd_put {L : List Ac} (hL : Okl L) {x : Ac} (hx : Okx x) : Gd (putS L x) := by
  unfold putS
  split
  · exact gd_nil _
  · split
    · exact gd_nil _
    · split
      · exact gd_nil _
      · exact gd_lays hL hx _
theorem gd_do {L : List Ac} (hL : Okl L) {o : Do} (ho : o.ok) : Gd (doS L o) := by
  obtain ⟨_, ua, ub, hn, hp, hx⟩ := ho
  unfold doS
  cases h : okSt L with
  | false => exact gd_nil _
  | true =>
    rw [if_pos rfl]
    split
    · exact gd_put hL (okx_one hx)
    split
    · rw [save_same h]
      unfold rsaveS
      split
      · exact gd_nil _
      · rename_i ha
        split
        · exact gd_nil _
        · refine gd_put hL (okx_saved (okx_of hL ua) ?_ hp)
          have hk := okAc_of h ha
          unfold okAc at hk
          simp only [Bool.and_eq_true, decide_eq_true_eq] at hk
          omega
    split
    · rw [move_same h]
      unfold rmoveS
      split
      · exact gd_nil _
      split
      · exact gd_nil _
      split
      · exact gd_lays hL (okx_of hL ua) _
      split
      · exact gd_nil _
      · have b1 : Okx ((ofS L o.a).bal ((ofS L o.a).b - o.n)) := okx_bal (okx_of hL ua) (by have := (okx_of hL ua).1.2.1; omega)
        have b2 : Okx ((ofS L o.b).bal (((ofS L o.b).b + o.n) % WW)) := okx_bal (okx_of hL ub) (Nat.mod_lt _ (by decide))
        have h1 := okl_lays hL b1
        exact okl_lay h1.1 h1.2 b2
    split
    · rw [mint_same h]
      unfold rmintS
      split
      · exact gd_nil _
      split
      · exact gd_lays hL (okx_of hL ua) _
      split
      · exact gd_nil _
      · exact gd_lays hL (okx_bal (okx_of hL ua) (Nat.mod_lt _ (by decide))) _
    · unfold withS lessS
      split
      · exact gd_nil _
      split
      · exact gd_nil _
      split
      · exact gd_nil _
      · exact gd_lays hL (okx_bal (okx_of hL ua) (by have := (okx_of hL ua).1.2.1; omega)) _
end Go.Proofs.Ytiggambibcohcaa

