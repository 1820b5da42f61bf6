/-
  The law StateMoves, walked.
-/
import Derived.Test.YtiggambibcohcaaTh
import Derived.Test.YtiggambibcohcaaUa
namespace Go.Proofs.Ytiggambibcohcaa
open Go.RowKit
open Nat (reduceBEq)
set_option linter.unusedVariables false
set_option linter.unusedSimpArgs false
set_option maxRecDepth 20000
set_option maxHeartbeats 2000000
/-- what is done -/
structure Do where
  kind : Int
  a : Int
  b : Int
  n : Nat
  p : Pr
  x : Ac
def Do.ok (o : Do) : Prop := (-9223372036854775808 ≤ o.kind ∧ o.kind ≤ 9223372036854775807) ∧ U o.a ∧ U o.b ∧ o.n < WW ∧ o.p.ok ∧ o.x.ok
def Do.pv (o : Do) : List PV := .v (.int .i64 o.kind) :: .v (.int .u64 o.a) :: .v (.int .u64 o.b) :: (wpv o.n ++ (o.p.pv ++ o.x.pv))
theorem do_len (o : Do) : o.pv.length = 23 := rfl
abbrev doL (o : Do) : List AV := [vi .i64 o.kind, vi .u64 o.a, vi .u64 o.b, vi .u64 (l0 o.n), vi .u64 (l1 o.n), vi .u64 (l2 o.n), vi .u64 (l3 o.n), vi .u64 (l0 o.p.k), vi .u64 (l1 o.p.k), vi .u64 (l2 o.p.k), vi .u64 (l3 o.p.k), vi .u64 (l0 o.p.v), vi .u64 (l1 o.p.v), vi .u64 (l2 o.p.v), vi .u64 (l3 o.p.v), vi .u64 o.x.a, vi .u64 (l0 o.x.b), vi .u64 (l1 o.x.b), vi .u64 (l2 o.x.b), vi .u64 (l3 o.x.b), vi .u64 o.x.n, .c (bsV o.x.code), .c (psV o.x.store)]
abbrev doA (o : Do) : AV := .agg (doL o)
def RoomS (L : List Ac) (a : Int) : Bool := okSt L && roomS L a
theorem RoomS_fn (ex : Bool) (L : List Ac) (hL : Okl L) (a : Int) : Fn Try.prog 29 [stA ex L, vi .u64 a] [] (vb (RoomS L a)) [] := by
  have ck := checkS_fn ex L (by have := hL.1; omega) (okl_fine hL)
  have rm := room_fn ex L (by have := hL.1; omega) a
  unfold RoomS
  generalize roomS L a = r at rm ⊢
  cases h : okSt L <;> cases r
  all_goals rw [h] at ck
  all_goals simp only [Bool.false_eq_true, if_true, if_false] at ck
  all_goals (refine fn_of Try.func29 rfl (by rfl) ?_; simp only [Try.ntmps29, List.length_cons, List.length_nil, Nat.reduceAdd, Nat.reduceSub, List.replicate, List.cons_append, List.nil_append])
  all_goals (repeat (any_goals (first | ((with_reducible refine evL_call ?_ ?_ ?_); rfl; rfl; intro K hK; ((first | (apply opA_callB (ck); rfl; rfl; rfl; rfl; exact Try.func17) | (apply opA_callB (rm); rfl; rfl; rfl; rfl; exact Try.func60)); kernel_rfl; rfl; (simp only [go_sem]; rfl); (simp only [AV.inNL, AV.inN, inNL_map, Bool.and_true])); (simp only [go_sem]; (with_reducible refine hK _ ?_); clear hK K)) | ((with_reducible refine evL_one ?_ ?_); rfl; intro K hK; simp only [go_sem]; ((repeat (refine And.intro (by first | assumption | omega | rfl) ?_)); (with_reducible refine hK _ ?_); clear hK K)) | ((with_reducible refine evL_nil ?_); (with_reducible refine hR _ ?_); clear hR R) | ((with_reducible first | refine evC_seq ?_ | refine evC_block ?_); intro Ψ hΨ hΨ') | ((with_reducible refine evC_region ?_); intro R hR) | ((with_reducible refine hΨ _ ?_); clear hΨ hΨ' Ψ) | ((with_reducible refine hΨ' _ _ ?_ ?_); (focus (first | ((intro hx; cases hx); done) | ((intro j hj; cases hj); done) | (intro j hj; cases hj; (decide); done))); clear hΨ hΨ' Ψ) | (with_reducible first | refine evC_skip ?_ | refine evC_ret ?_ | refine evC_exit ?_) | ((with_reducible apply evL_unmet); rfl; rfl; rfl; (try simp only [go_sem])) | ((with_reducible apply evL_grd); rfl; rfl; rfl; all_goals (intro hb; first | (exact absurd hb (by decide)) | ((try simp only [Bool.not_true, Bool.not_false] at hb); (first | ((with_reducible intro K hK); (first | ((apply opA_callB (rm); rfl; rfl; rfl; rfl; exact Try.func60); kernel_rfl; rfl; (simp only [go_sem]; rfl); (simp only [AV.inNL, AV.inN, inNL_map, Bool.and_true])) | skip); simp only [go_sem]; ((repeat (refine And.intro (by first | assumption | omega | rfl) ?_)); (with_reducible refine hK _ ?_); clear hK K)) | ((fail_if_success (with_reducible intro _)); simp only [go_sem]))))) | ((with_reducible apply evC_cond); rfl; rfl; all_goals (intro hc; first | (exact absurd hc (by decide)) | (try simp only at hc))))))
  all_goals (refine ⟨by simp, ⟨_, ?_, AV.le_refl _⟩, leH_get (by simp [leH, hget])⟩; simp only [Try.results29, resL, ldA, oneOf, go_sem])
  all_goals rfl
theorem okl_lay {L : List Ac} {m : Nat} (hl : L.length ≤ m) (hm : ∀ y ∈ L, Okx y) {x : Ac} (hx : Okx x) : (laysL L x).length ≤ m + 1 ∧ ∀ y ∈ laysL L x, Okx y := ⟨by have := laysL_len L x; omega, fun y hy => by
  rcases laysL_mem hy with rfl | h
  · exact hx
  · exact hm y h⟩
theorem okx_bal {x : Ac} (h : Okx x) {b : Nat} (hb : b < WW) : Okx (x.bal b) := by
  obtain ⟨⟨h1, h2, h3⟩, h4⟩ := h
  exact ⟨⟨h1, hb, h3⟩, h4⟩
theorem move_cases {A : List Ac} (hA : A.length ≤ 700) (kA : ∀ y ∈ A, Okx y) {a b : Int} (ua : U a) (ub : U b) (n : Nat) :
    moveS A a b n = ([], 160) ∨ (a = 0 ∧ moveS A a b n = ([], 2)) ∨ (a ≠ 0 ∧ b = 0 ∧ moveS A a b n = ([], 2)) ∨ ((OfS A a).b < n ∧ moveS A a b n = ([], 162)) ∨ (RoomS A b = false ∧ moveS A a b n = ([], 6)) ∨ (a = b ∧ moveS A a b n = (A, 0)) ∨
    (a ≠ b ∧ n ≤ (OfS A a).b ∧ (OfS A b).b + n < WW ∧ ∃ M, moveS A a b n = (M, 0) ∧ Okl M ∧ OfS M a = (OfS A a).bal ((OfS A a).b - n) ∧ OfS M b = (OfS A b).bal ((OfS A b).b + n) ∧ (moveS M b a n = (A, 0) ∨ (moveS M b a n = ([], 6) ∧ RoomS M a = false))) := by
  have okA : Okl A := ⟨by omega, kA⟩
  by_cases h : okSt A = false
  · left; unfold moveS withS; simp [h]
  have h : okSt A = true := by simpa using h
  have hof : ∀ z, OfS A z = ofS A z := fun z => by unfold OfS; rw [if_pos h]
  obtain ⟨h1, h2, h3, h4⟩ := okSt_iff.1 h
  by_cases ha : a = 0
  · right; left; exact ⟨ha, by unfold moveS withS; simp [h, ha]⟩
  have e0 : moveS A a b n = moveR A (ofS A a) a b n := by unfold moveS withS; simp [h, ha]
  by_cases hb : b = 0
  · right; right; left; exact ⟨ha, hb, by rw [e0]; unfold moveR; rw [if_pos hb]⟩
  by_cases hn : (ofS A a).b < n
  · right; right; right; left
    exact ⟨by rw [hof]; exact hn, by rw [e0]; unfold moveR; rw [if_neg hb, if_pos hn]⟩
  by_cases hab : a = b
  · right; right; right; right; right; left
    refine ⟨hab, ?_⟩
    rw [e0]
    unfold moveR
    rw [if_neg hb, if_neg hn, if_pos (by simp [hab]), lays_same h ha]
  by_cases hn0 : n = 0
  · right; right; right; right; right; right
    subst hn0
    have bal0 : ∀ x : Ac, x.bal x.b = x := fun x => rfl
    have keep : ∀ c d : Int, c ≠ 0 → d ≠ 0 → moveS A c d 0 = (A, 0) := fun c d hc hd => by
      unfold moveS withS
      simp only [h, Bool.not_true, Bool.false_eq_true, if_false, if_neg hc]
      unfold moveR
      rw [if_neg hd, if_neg (by omega), if_pos (by simp), lays_same h hc]
    refine ⟨hab, by omega, ?_, A, keep a b ha hb, okA, by rw [Nat.sub_zero, bal0], by rw [Nat.add_zero, bal0], .inl (keep b a hb ha)⟩
    rw [hof, Nat.add_zero]
    have := ofS_le h1 b
    omega
  by_cases hr : roomS A b = false
  · right; right; right; right; left
    exact ⟨by unfold RoomS; rw [hr, Bool.and_false], by rw [e0, moveR_ok hb (by omega) hn0 hab, if_pos hr]⟩
  have hr : roomS A b = true := by simpa using hr
  right; right; right; right; right; right
  have hn : n ≤ (ofS A a).b := by omega
  obtain ⟨k1, k2, k3⟩ := moved h ha hb hab hn0 hn hr
  have kb := moved_back h ha hb hab hn0 hn hr
  rw [hof, hof]
  refine ⟨hab, hn, k1, _, by rw [e0, moveR_ok hb hn hn0 hab, hr, if_neg (by simp)], ?_, ?_, ?_, ?_⟩
  · have xa := okx_of okA ua
    have xb := okx_of okA ub
    have i1 := okl_lay hA kA (okx_bal xa (b := (ofS A a).b - n) (Nat.lt_of_le_of_lt (Nat.sub_le _ _) xa.1.2.1))
    have i2 := okl_lay i1.1 i1.2 (okx_bal xb (b := ((ofS A b).b + n) % WW) (Nat.mod_lt _ (by decide)))
    exact ⟨by have := i2.1; omega, i2.2⟩
  · unfold OfS; rw [if_pos k2, k3, if_neg hab, if_pos rfl]
  · unfold OfS; rw [if_pos k2, k3, if_pos rfl]
  · rcases kb with kb | ⟨kb, kr⟩
    · exact .inl kb
    · exact .inr ⟨kb, by unfold RoomS; rw [kr, Bool.and_false]⟩
theorem fewL_le (X : List Ac) : (fewL X).length ≤ 50 := by unfold fewL; rw [List.length_map, List.length_take]; omega
theorem decV_do : DecV Try.prog 44 23 Do.pv Do.ok :=
  (decV_struct (sz := 1 + (1 + (1 + (4 + (8 + 8))))) Try.underlying44 (by kernel_rfl) (decF_cons (decV_int Try.underlying3 (by kernel_rfl)) rfl (decF_cons decV_addr rfl (decF_cons decV_addr rfl (decF_cons decV_word rfl (decF_cons decV_pairP rfl (decF_one decV_account rfl))))))).map fun x hx =>
    ⟨⟨x.1, x.2.1, x.2.2.1, x.2.2.2.1, x.2.2.2.2.1, x.2.2.2.2.2⟩, rfl, ⟨wf_i64 hx.1, hx.2⟩⟩
end Go.Proofs.Ytiggambibcohcaa
