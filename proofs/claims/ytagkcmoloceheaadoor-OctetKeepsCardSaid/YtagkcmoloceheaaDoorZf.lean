/-
  The law OctetKeeps: the plain law, and the walk.
-/
import Derived.Test.YtagkcmoloceheaaDoorZd
namespace Go.Proofs.YtagkcmoloceheaaDoor
open Go.RowKit
open Nat (reduceBEq)
set_option linter.unusedVariables false
set_option linter.unusedSimpArgs false
set_option maxRecDepth 20000
set_option maxHeartbeats 4000000
theorem strip_split (l : List UInt8) : ∃ k, l = zerosL k ++ stripZ l := by
  induction l with
  | nil => exact ⟨0, rfl⟩
  | cons y l ih =>
    by_cases h : y = 0
    · obtain ⟨k, hk⟩ := ih
      refine ⟨k + 1, ?_⟩
      subst h
      rw [stripZ_cons0]
      conv => lhs; rw [hk]
      rfl
    · exact ⟨0, by rw [stripZ_cons y l h]; rfl⟩
theorem strip_len (l : List UInt8) : (stripZ l).length ≤ l.length := (List.dropWhile_sublist _).length_le
theorem strip_head (l : List UInt8) : ∀ y r, stripZ l = y :: r → y ≠ 0 := by
  induction l with
  | nil => intro y r h; cases h
  | cons x l ih =>
    intro y r h
    by_cases hx : x = 0
    · subst hx; rw [stripZ_cons0] at h; exact ih y r h
    · rw [stripZ_cons x l hx] at h
      cases h
      exact hx
theorem strip_zeros (k : Nat) (l : List UInt8) : stripZ (zerosL k ++ l) = stripZ l := by
  induction k with
  | zero => rfl
  | succ k ih =>
    show stripZ (0 :: (zerosL k ++ l)) = _
    rw [stripZ_cons0, ih]
theorem strip_bare (l : List UInt8) : stripZ (stripZ l) = stripZ l := by
  cases h : stripZ l with
  | nil => rfl
  | cons y r => exact stripZ_cons y r (strip_head l y r h)
theorem numS_zeros (k : Nat) (l : List UInt8) : numS (zerosL k ++ l) = numS l := by
  induction k with
  | zero => rfl
  | succ k ih =>
    show numS (0 :: (zerosL k ++ l)) = _
    rw [← ih]
    rfl
theorem numS_strip (l : List UInt8) : numS (stripZ l) = numS l := by
  obtain ⟨k, hk⟩ := strip_split l
  conv => rhs; rw [hk]
  rw [numS_zeros]
theorem zerosS_zeros (k : Nat) : zerosS (zerosL k) = k := by
  unfold zerosS zerosL
  rw [List.countP_replicate]
  rfl
theorem pad_ok (l : List UInt8) (d : Nat) (h : l.length + d ≤ 4096) : padR l ((l.length + d : Nat) : Int) true = (zerosL d ++ l, 0) ∧ padR l ((l.length + d : Nat) : Int) false = (l ++ zerosL d, 0) := by
  unfold padR
  rw [if_neg (by omega), if_neg (by omega), if_pos rfl, if_neg (by omega), if_neg (by omega), if_neg (by decide), Int.toNat_natCast, show l.length + d - l.length = d by omega]
  exact ⟨rfl, rfl⟩
theorem ahead_val (l : List UInt8) (d : Nat) (h : l.length + d ≤ 4096) : Fn Tryd.prog 13 [usl false l, vi .i64 ((l.length + d : Nat) : Int)] [] (.tup [usl false (zerosL d ++ l), vi .i64 0]) [] := by
  have k := ahead2_fn l ((l.length + d : Nat) : Int) (by omega)
  rw [(pad_ok l d h).1] at k
  have k2 := k.frzN (d := 500) (pcs := (zerosL d ++ l).flatMap upv) (by simp [hget, rcU])
  have e1 := upv_flen (zerosL d ++ l)
  generalize zerosL d ++ l = X at *
  simpa [-List.length_flatMap, e1, AV.frz, AV.frzL, frzH] using k2
theorem behind_val (l : List UInt8) (d : Nat) (h : l.length + d ≤ 4096) : Fn Tryd.prog 14 [usl false l, vi .i64 ((l.length + d : Nat) : Int)] [] (.tup [usl false (l ++ zerosL d), vi .i64 0]) [] := by
  have k := behind2_fn l ((l.length + d : Nat) : Int)
  rw [(pad_ok l d h).2] at k
  have k2 := k.frzN (d := 500) (pcs := (l ++ zerosL d).flatMap upv) (by simp [hget, rcU])
  have e1 := upv_flen (l ++ zerosL d)
  generalize l ++ zerosL d = X at *
  simpa [-List.length_flatMap, e1, AV.frz, AV.frzL, frzH] using k2
theorem u64_wrap_rem (n : Int) : ∃ d : Nat, d < 300 ∧ (IntKind.u64.wrap n).tmod 300 = (d : Int) := by
  have h : 0 ≤ IntKind.u64.wrap n := by unfold IntKind.wrap; simp [IntKind.bits, IntKind.signed]; omega
  refine ⟨((IntKind.u64.wrap n).tmod 300).toNat, ?_, ?_⟩
  · have h1 := Int.tmod_lt_of_pos (IntKind.u64.wrap n) (by decide : (0 : Int) < 300)
    omega
  · rw [Int.toNat_of_nonneg (Int.tmod_nonneg _ h)]
theorem keeps_walk (l : List UInt8) (x : Nat) (hx : x < 18446744073709551616) (n : Int) : Fn Tryd.prog 4 [usl false l, vi .u64 (x : Int), vi .i64 n] [] (vb true) [] := by
  have wk := wakes_fn
  have so := some_fn false l
  have hb3 : (l.take 300).length ≤ 300 := by rw [List.length_take]; omega
  generalize l.take 300 = b at *
  have ob := obare_fn b (by omega)
  have u1 := u64_fn false (stripZ b)
  rw [numS_strip] at u1
  have u2 := u64_fn false b
  obtain ⟨k, hk⟩ := strip_split b
  have sl := strip_len b
  have hs := hasSuffix_fn b (zerosL k) (stripZ b) hk (by omega)
  obtain ⟨d, hd, hd2⟩ := u64_wrap_rem n
  have ah := ahead_val (stripZ b) d (by omega)
  have bh := behind_val (stripZ b) d (by omega)
  have zl : (zerosL d).length = d := by unfold zerosL; rw [List.length_replicate]
  have al : (zerosL d ++ stripZ b).length = (stripZ b).length + d := by rw [List.length_append, zl]; omega
  have bl : (stripZ b ++ zerosL d).length = (stripZ b).length + d := by rw [List.length_append, zl]
  have oa := obare_fn (zerosL d ++ stripZ b) (by omega)
  rw [strip_zeros, strip_bare] at oa
  have be := bequal_fn false false (stripZ b) (stripZ b)
  rw [decide_eq_true rfl] at be
  have u3 := u64_fn false (zerosL d ++ stripZ b)
  rw [numS_zeros, numS_strip] at u3
  have hp := hasPrefix_fn (stripZ b ++ zerosL d) (stripZ b) (zerosL d) rfl (by omega)
  have n1 := noughts_fn false (stripZ b ++ zerosL d)
  have n2 := noughts_fn false (stripZ b)
  rw [zerosS_append, zerosS_zeros] at n1
  have pu := put64_fn false b x hx (by omega)
  have u4 := u64_fn false (b ++ beS 8 x)
  rw [numS_beS b x hx] at u4
  have pn : Fn Tryd.prog 21 [.c (.v (.slice none 0 0)), vi .u64 (x : Int)] [] (usl false (beS 8 x)) [] := (put64_fn false [] x hx (by simp)).args ⟨AV.le_nil _ _, AV.le_refl _, trivial⟩
  have h8 : (beS 8 x).length = 8 := beS_length 8 x
  have on := obare_fn (beS 8 x) (by omega)
  have u5 := u64_fn false (stripZ (beS 8 x))
  have e5 := numS_beS [] x hx
  rw [List.nil_append] at e5
  rw [numS_strip, e5] at u5
  have hz := strip_head b
  have z8 := zerosS_le (stripZ b)
  generalize zerosL d ++ stripZ b = A at *
  generalize stripZ b ++ zerosL d = B at *
  generalize b ++ beS 8 x = C at *
  generalize stripZ (beS 8 x) = D at *
  generalize numS b = m at *
  generalize zerosS (stripZ b) = z at *
  clear hk
  generalize stripZ b = sb at *
  have k1 : ((m : Int) != (m : Int)) = false := by simp
  have k2 : ((x : Int) == (x : Int)) = true := by simp
  have k3 : IntKind.i64.wrap (d : Int) = (d : Int) := by unfold IntKind.wrap; simp [IntKind.bits, IntKind.signed]; omega
  have k4 : (sb.length : Int) + (d : Int) = ((sb.length + d : Nat) : Int) := by omega
  have k5 : (((sb.length + d : Nat) : Int) != ((sb.length + d : Nat) : Int)) = false := by simp
  have k6 : (((z + d : Nat) : Int) == ((z : Nat) : Int) + ((sb.length + d : Nat) : Int) - (sb.length : Int)) = true := by simp; omega
  have k7 : ((z : Nat) : Int) + ((sb.length + d : Nat) : Int) = ((z + (sb.length + d) : Nat) : Int) := by omega
  cases sb with
  | nil =>
    simp only [List.length_nil] at ah bh k4 k5 k6 k7 al bl sl
    have k8 : decide (((0 : Nat) : Int) > 0) = false := rfl
    have k10 : ((z : Int) + (d : Int) == IntKind.i64.wrap (IntKind.i64.wrap ((z : Int) + (d : Int)) - ((0 : Nat) : Int))) = true := by
      rw [List.length_nil] at z8
      have w1 : IntKind.i64.wrap ((z : Int) + (d : Int)) = (z : Int) + (d : Int) := wrI (by omega) (by omega)
      rw [w1, wrI (by omega) (by omega)]; simp
    have k11 : (((0 + d : Nat) : Int) != (d : Int)) = false := by simp
    (refine fn_of Tryd.func4 rfl (by rfl) ?_; simp only [Tryd.ntmps4, List.length_cons, List.length_nil, Nat.reduceAdd, Nat.reduceSub, List.replicate, List.cons_append, List.nil_append])
    (have W := ndI k1 (ndI k2 (ndI k3 (ndI k4 (ndI k5 (ndI k6 (ndI k8 (ndI k10 (ndI k11 (ndI hd2 @wrI))))))))); (repeat (any_goals (first | ((with_reducible refine evL_call ?_ ?_ ?_); rfl; rfl; intro K hK; (first | ((first | (apply opA_callB (wk); rfl; rfl; rfl; rfl; exact Tryd.func5) | (apply opA_callB (so); rfl; rfl; rfl; rfl; exact Tryd.func16) | (apply opA_callB (ah); rfl; rfl; rfl; rfl; exact Tryd.func13) | (apply opA_callB (bh); rfl; rfl; rfl; rfl; exact Tryd.func14)); kernel_rfl; rfl; (simp (disch := omega) only [go_sem, W, al, bl]; rfl); (first | rfl | simp [AV.inNL, AV.inN])) | ((apply opA_callB (ob); rfl; rfl; rfl; rfl; exact Tryd.func9); kernel_rfl; rfl; (simp (disch := omega) only [go_sem, W, al, bl]; rfl); (first | rfl | simp [AV.inNL, AV.inN])) | ((apply opA_callB (u1); rfl; rfl; rfl; rfl; exact Tryd.func17); kernel_rfl; rfl; (simp (disch := omega) only [go_sem, W, al, bl]; rfl); (first | rfl | simp [AV.inNL, AV.inN])) | ((apply opA_callB (u2); rfl; rfl; rfl; rfl; exact Tryd.func17); kernel_rfl; rfl; (simp (disch := omega) only [go_sem, W, al, bl]; rfl); (first | rfl | simp [AV.inNL, AV.inN])) | ((apply opA_callB (oa); rfl; rfl; rfl; rfl; exact Tryd.func9); kernel_rfl; rfl; (simp (disch := omega) only [go_sem, W, al, bl]; rfl); (first | rfl | simp [AV.inNL, AV.inN])) | ((apply opA_callB (u3); rfl; rfl; rfl; rfl; exact Tryd.func17); kernel_rfl; rfl; (simp (disch := omega) only [go_sem, W, al, bl]; rfl); (first | rfl | simp [AV.inNL, AV.inN])) | ((apply opA_callB (n1); rfl; rfl; rfl; rfl; exact Tryd.func7); kernel_rfl; rfl; (simp (disch := omega) only [go_sem, W, al, bl]; rfl); (first | rfl | simp [AV.inNL, AV.inN])) | ((apply opA_callB (n2); rfl; rfl; rfl; rfl; exact Tryd.func7); kernel_rfl; rfl; (simp (disch := omega) only [go_sem, W, al, bl]; rfl); (first | rfl | simp [AV.inNL, AV.inN])) | ((apply opA_callB (u4); rfl; rfl; rfl; rfl; exact Tryd.func17); kernel_rfl; rfl; (simp (disch := omega) only [go_sem, W, al, bl]; rfl); (first | rfl | simp [AV.inNL, AV.inN])) | ((apply opA_callB (on); rfl; rfl; rfl; rfl; exact Tryd.func9); kernel_rfl; rfl; (simp (disch := omega) only [go_sem, W, al, bl]; rfl); (first | rfl | simp [AV.inNL, AV.inN])) | ((apply opA_callB (u5); rfl; rfl; rfl; rfl; exact Tryd.func17); kernel_rfl; rfl; (simp (disch := omega) only [go_sem, W, al, bl]; rfl); (first | rfl | simp [AV.inNL, AV.inN]))); (simp (disch := omega) only [go_sem, W, al, bl]; refine hK _ ?_; clear hK K)) | ((with_reducible refine evL_one ?_ ?_); rfl; intro K hK; simp (disch := omega) only [go_sem, W, al, bl]; ((repeat (refine ndI (by first | assumption | omega | rfl) ?_)); refine hK _ ?_; clear hK K)) | (with_reducible first | (refine evL_nil ?_; refine hR _ ?_; clear hR R) | ((first | refine evC_seq ?_ | refine evC_block ?_); intro Ψ hΨ hΨ') | (refine evC_region ?_; intro R hR) | (refine hΨ _ ?_; clear hΨ hΨ' Ψ) | refine evC_skip ?_ | refine evC_ret ?_ | refine evC_exit ?_) | ((with_reducible refine hΨ' _ _ ?_ ?_); (focus (simp; done)); clear hΨ hΨ' Ψ) | ((with_reducible apply evL_unmet); rfl; rfl; rfl; (try simp (disch := omega) only [go_sem, W, al, bl])) | ((with_reducible apply evL_grd); rfl; rfl; rfl; all_goals (intro hb; first | (cases hb; done) | ((try simp only [Bool.not_true, Bool.not_false] at hb); (first | ((with_reducible intro K hK); (first | ((first | (apply opA_callB (hs); rfl; rfl; rfl; rfl; exact Tryd.func18) | (apply opA_callB (be); rfl; rfl; rfl; rfl; exact Tryd.func19) | (apply opA_callB (hp); rfl; rfl; rfl; rfl; exact Tryd.func20)); kernel_rfl; rfl; (simp (disch := omega) only [go_sem, W, al, bl]; rfl); (first | rfl | simp [AV.inNL, AV.inN])) | ((apply opA_callB (u1); rfl; rfl; rfl; rfl; exact Tryd.func17); kernel_rfl; rfl; (simp (disch := omega) only [go_sem, W, al, bl]; rfl); (first | rfl | simp [AV.inNL, AV.inN])) | ((apply opA_callB (u2); rfl; rfl; rfl; rfl; exact Tryd.func17); kernel_rfl; rfl; (simp (disch := omega) only [go_sem, W, al, bl]; rfl); (first | rfl | simp [AV.inNL, AV.inN])) | ((apply opA_callB (oa); rfl; rfl; rfl; rfl; exact Tryd.func9); kernel_rfl; rfl; (simp (disch := omega) only [go_sem, W, al, bl]; rfl); (first | rfl | simp [AV.inNL, AV.inN])) | ((apply opA_callB (u3); rfl; rfl; rfl; rfl; exact Tryd.func17); kernel_rfl; rfl; (simp (disch := omega) only [go_sem, W, al, bl]; rfl); (first | rfl | simp [AV.inNL, AV.inN])) | ((apply opA_callB (pu); rfl; rfl; rfl; rfl; exact Tryd.func21); kernel_rfl; rfl; (simp (disch := omega) only [go_sem, W, al, bl]; rfl); (first | rfl | simp [AV.inNL, AV.inN])) | ((apply opA_callB (u4); rfl; rfl; rfl; rfl; exact Tryd.func17); kernel_rfl; rfl; (simp (disch := omega) only [go_sem, W, al, bl]; rfl); (first | rfl | simp [AV.inNL, AV.inN])) | ((apply opA_callB (pn); rfl; rfl; rfl; rfl; exact Tryd.func21); kernel_rfl; rfl; (simp (disch := omega) only [go_sem, W, al, bl]; rfl); (first | rfl | simp [AV.inNL, AV.inN])) | ((apply opA_callB (on); rfl; rfl; rfl; rfl; exact Tryd.func9); kernel_rfl; rfl; (simp (disch := omega) only [go_sem, W, al, bl]; rfl); (first | rfl | simp [AV.inNL, AV.inN])) | ((apply opA_callB (u5); rfl; rfl; rfl; rfl; exact Tryd.func17); kernel_rfl; rfl; (simp (disch := omega) only [go_sem, W, al, bl]; rfl); (first | rfl | simp [AV.inNL, AV.inN])) | skip); simp (disch := omega) only [go_sem, W, al, bl]; ((repeat (refine ndI (by first | assumption | omega | rfl) ?_)); refine hK _ ?_; clear hK K)) | ((fail_if_success (with_reducible intro _)); simp (disch := omega) only [go_sem, W, al, bl]))))) | ((with_reducible apply evC_cond); rfl; rfl; all_goals (intro hc; first | (cases hc; done) | (try simp only at hc)))))))
    all_goals (refine ⟨by simp, ⟨_, ?_, AV.le_refl _⟩, leH_get (by simp [leH, hget])⟩; simp only [Tryd.results4, resL, ldA, oneOf, go_sem])
  | cons y r =>
    simp only [List.length_cons] at ah bh k4 k5 k6 k7 al bl sl
    have k8 : decide (((r.length + 1 : Nat) : Int) > 0) = true := decide_eq_true (by omega)
    have k10 : ((z : Int) + (d : Int) == IntKind.i64.wrap (IntKind.i64.wrap ((z : Int) + ((r.length : Int) + 1 + (d : Int))) - ((r.length + 1 : Nat) : Int))) = true := by
      rw [List.length_cons] at z8
      have w1 : IntKind.i64.wrap ((z : Int) + ((r.length : Int) + 1 + (d : Int))) = (z : Int) + ((r.length : Int) + 1 + (d : Int)) := wrI (by omega) (by omega)
      rw [w1, wrI (by omega) (by omega), beq_iff_eq]; omega
    have k11 : (((r.length + 1 + d : Nat) : Int) != (r.length : Int) + 1 + (d : Int)) = false := by simp
    have k9 : ((y.toNat : Int) == 0) = false := by rw [u8_eq0]; exact decide_eq_false (hz y r rfl)
    (refine fn_of Tryd.func4 rfl (by rfl) ?_; simp only [Tryd.ntmps4, List.length_cons, List.length_nil, Nat.reduceAdd, Nat.reduceSub, List.replicate, List.cons_append, List.nil_append])
    (have W := ndI k1 (ndI k2 (ndI k3 (ndI k4 (ndI k5 (ndI k6 (ndI k8 (ndI k9 (ndI k10 (ndI k11 (ndI hd2 @wrI)))))))))); (repeat (any_goals (first | ((with_reducible refine evL_call ?_ ?_ ?_); rfl; rfl; intro K hK; (first | ((first | (apply opA_callB (wk); rfl; rfl; rfl; rfl; exact Tryd.func5) | (apply opA_callB (so); rfl; rfl; rfl; rfl; exact Tryd.func16) | (apply opA_callB (ah); rfl; rfl; rfl; rfl; exact Tryd.func13) | (apply opA_callB (bh); rfl; rfl; rfl; rfl; exact Tryd.func14)); kernel_rfl; rfl; (simp (disch := omega) only [go_sem, W, upv, al, bl]; rfl); (first | rfl | simp [AV.inNL, AV.inN])) | ((apply opA_callB (ob); rfl; rfl; rfl; rfl; exact Tryd.func9); kernel_rfl; rfl; (simp (disch := omega) only [go_sem, W, upv, al, bl]; rfl); (first | rfl | simp [AV.inNL, AV.inN])) | ((apply opA_callB (u1); rfl; rfl; rfl; rfl; exact Tryd.func17); kernel_rfl; rfl; (simp (disch := omega) only [go_sem, W, upv, al, bl]; rfl); (first | rfl | simp [AV.inNL, AV.inN])) | ((apply opA_callB (u2); rfl; rfl; rfl; rfl; exact Tryd.func17); kernel_rfl; rfl; (simp (disch := omega) only [go_sem, W, upv, al, bl]; rfl); (first | rfl | simp [AV.inNL, AV.inN])) | ((apply opA_callB (oa); rfl; rfl; rfl; rfl; exact Tryd.func9); kernel_rfl; rfl; (simp (disch := omega) only [go_sem, W, upv, al, bl]; rfl); (first | rfl | simp [AV.inNL, AV.inN])) | ((apply opA_callB (u3); rfl; rfl; rfl; rfl; exact Tryd.func17); kernel_rfl; rfl; (simp (disch := omega) only [go_sem, W, upv, al, bl]; rfl); (first | rfl | simp [AV.inNL, AV.inN])) | ((apply opA_callB (n1); rfl; rfl; rfl; rfl; exact Tryd.func7); kernel_rfl; rfl; (simp (disch := omega) only [go_sem, W, upv, al, bl]; rfl); (first | rfl | simp [AV.inNL, AV.inN])) | ((apply opA_callB (n2); rfl; rfl; rfl; rfl; exact Tryd.func7); kernel_rfl; rfl; (simp (disch := omega) only [go_sem, W, upv, al, bl]; rfl); (first | rfl | simp [AV.inNL, AV.inN])) | ((apply opA_callB (u4); rfl; rfl; rfl; rfl; exact Tryd.func17); kernel_rfl; rfl; (simp (disch := omega) only [go_sem, W, upv, al, bl]; rfl); (first | rfl | simp [AV.inNL, AV.inN])) | ((apply opA_callB (on); rfl; rfl; rfl; rfl; exact Tryd.func9); kernel_rfl; rfl; (simp (disch := omega) only [go_sem, W, upv, al, bl]; rfl); (first | rfl | simp [AV.inNL, AV.inN])) | ((apply opA_callB (u5); rfl; rfl; rfl; rfl; exact Tryd.func17); kernel_rfl; rfl; (simp (disch := omega) only [go_sem, W, upv, al, bl]; rfl); (first | rfl | simp [AV.inNL, AV.inN]))); (simp (disch := omega) only [go_sem, W, upv, al, bl]; refine hK _ ?_; clear hK K)) | ((with_reducible refine evL_one ?_ ?_); rfl; intro K hK; simp (disch := omega) only [go_sem, W, upv, al, bl]; ((repeat (refine ndI (by first | assumption | omega | rfl) ?_)); refine hK _ ?_; clear hK K)) | (with_reducible first | (refine evL_nil ?_; refine hR _ ?_; clear hR R) | ((first | refine evC_seq ?_ | refine evC_block ?_); intro Ψ hΨ hΨ') | (refine evC_region ?_; intro R hR) | (refine hΨ _ ?_; clear hΨ hΨ' Ψ) | refine evC_skip ?_ | refine evC_ret ?_ | refine evC_exit ?_) | ((with_reducible refine hΨ' _ _ ?_ ?_); (focus (simp; done)); clear hΨ hΨ' Ψ) | ((with_reducible apply evL_unmet); rfl; rfl; rfl; (try simp (disch := omega) only [go_sem, W, upv, al, bl])) | ((with_reducible apply evL_grd); rfl; rfl; rfl; all_goals (intro hb; first | (cases hb; done) | ((try simp only [Bool.not_true, Bool.not_false] at hb); (first | ((with_reducible intro K hK); (first | ((first | (apply opA_callB (hs); rfl; rfl; rfl; rfl; exact Tryd.func18) | (apply opA_callB (be); rfl; rfl; rfl; rfl; exact Tryd.func19) | (apply opA_callB (hp); rfl; rfl; rfl; rfl; exact Tryd.func20)); kernel_rfl; rfl; (simp (disch := omega) only [go_sem, W, upv, al, bl]; rfl); (first | rfl | simp [AV.inNL, AV.inN])) | ((apply opA_callB (u1); rfl; rfl; rfl; rfl; exact Tryd.func17); kernel_rfl; rfl; (simp (disch := omega) only [go_sem, W, upv, al, bl]; rfl); (first | rfl | simp [AV.inNL, AV.inN])) | ((apply opA_callB (u2); rfl; rfl; rfl; rfl; exact Tryd.func17); kernel_rfl; rfl; (simp (disch := omega) only [go_sem, W, upv, al, bl]; rfl); (first | rfl | simp [AV.inNL, AV.inN])) | ((apply opA_callB (oa); rfl; rfl; rfl; rfl; exact Tryd.func9); kernel_rfl; rfl; (simp (disch := omega) only [go_sem, W, upv, al, bl]; rfl); (first | rfl | simp [AV.inNL, AV.inN])) | ((apply opA_callB (u3); rfl; rfl; rfl; rfl; exact Tryd.func17); kernel_rfl; rfl; (simp (disch := omega) only [go_sem, W, upv, al, bl]; rfl); (first | rfl | simp [AV.inNL, AV.inN])) | ((apply opA_callB (pu); rfl; rfl; rfl; rfl; exact Tryd.func21); kernel_rfl; rfl; (simp (disch := omega) only [go_sem, W, upv, al, bl]; rfl); (first | rfl | simp [AV.inNL, AV.inN])) | ((apply opA_callB (u4); rfl; rfl; rfl; rfl; exact Tryd.func17); kernel_rfl; rfl; (simp (disch := omega) only [go_sem, W, upv, al, bl]; rfl); (first | rfl | simp [AV.inNL, AV.inN])) | ((apply opA_callB (pn); rfl; rfl; rfl; rfl; exact Tryd.func21); kernel_rfl; rfl; (simp (disch := omega) only [go_sem, W, upv, al, bl]; rfl); (first | rfl | simp [AV.inNL, AV.inN])) | ((apply opA_callB (on); rfl; rfl; rfl; rfl; exact Tryd.func9); kernel_rfl; rfl; (simp (disch := omega) only [go_sem, W, upv, al, bl]; rfl); (first | rfl | simp [AV.inNL, AV.inN])) | ((apply opA_callB (u5); rfl; rfl; rfl; rfl; exact Tryd.func17); kernel_rfl; rfl; (simp (disch := omega) only [go_sem, W, upv, al, bl]; rfl); (first | rfl | simp [AV.inNL, AV.inN])) | skip); simp (disch := omega) only [go_sem, W, upv, al, bl]; ((repeat (refine ndI (by first | assumption | omega | rfl) ?_)); refine hK _ ?_; clear hK K)) | ((fail_if_success (with_reducible intro _)); simp (disch := omega) only [go_sem, W, upv, al, bl]))))) | ((with_reducible apply evC_cond); rfl; rfl; all_goals (intro hc; first | (cases hc; done) | (try simp only at hc)))))))
    all_goals (refine ⟨by simp, ⟨_, ?_, AV.le_refl _⟩, leH_get (by simp [leH, hget])⟩; simp only [Tryd.results4, resL, ldA, oneOf, go_sem])
end Go.Proofs.YtagkcmoloceheaaDoor
