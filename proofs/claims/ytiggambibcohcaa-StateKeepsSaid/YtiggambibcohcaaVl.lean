/-
  What is done, by the code and by the document; reckoned.
-/
import Derived.Test.YtiggambibcohcaaVk
import Derived.Test.YtiggambibcohcaaVq
import Derived.Test.YtiggambibcohcaaTe
namespace Go.Proofs.Ytiggambibcohcaa
open Go.RowKit
open Nat (reduceBEq)
set_option linter.unusedVariables false
set_option linter.unusedSimpArgs false
set_option maxRecDepth 20000
set_option maxHeartbeats 2000000
def kindI (o : Do) : Int := (IntKind.u64.wrap o.kind).tmod 5
def doS (L : List Ac) (o : Do) : List Ac × Int := if okSt L then (if kindI o = 0 then putS L (oneA o.x) else if kindI o = 1 then saveS L o.a o.p.k o.p.v else if kindI o = 2 then moveS L o.a o.b o.n else if kindI o = 3 then mintS L o.a o.n else withS L o.a (lessS L (ofS L o.a) o.n)) else ([], 160)
theorem one_row (x : Ac) (hl : x.store.length ≤ maxLen) (hc : x.code.length ≤ maxLen) : Fn Try.prog 11 [acA x] [] (acR (oneA x) 11 21) [(11, ((oneA x).code.flatMap bpv).map .c), (21, ((oneA x).store.flatMap Pr.pv).map .c)] := by
  obtain ⟨a, b, n, code, store⟩ := x
  dsimp only at hl hc
  unfold oneA
  dsimp only
  obtain ⟨m1, h1⟩ : ∃ m, min code.length 201 = m := ⟨_, rfl⟩
  obtain ⟨m2, h2⟩ : ∃ m, min store.length 25 = m := ⟨_, rfl⟩
  have f1 : (if 201 < (code.length : Int) then 201 else (code.length : Int)) = (m1 : Int) := by split <;> omega
  have f2 : (if 25 < (store.length : Int) then 25 else (store.length : Int)) = (m2 : Int) := by split <;> omega
  have t1 : code.take 201 = code.take m1 := by
    rw [← h1, List.take_eq_take_iff]; omega
  have t2 : store.take 25 = store.take m2 := by
    rw [← h2, List.take_eq_take_iff]; omega
  rw [t1, t2]
  have g1 := bpv_take code m1
  have g2 := ps_take store m2
  have l1 : (code.take m1).length = m1 := by rw [List.length_take]; omega
  have l2 : (store.take m2).length = m2 := by rw [List.length_take]; omega
  have b1 : m1 ≤ 201 := by omega
  have b2 : m2 ≤ 25 := by omega
  have b3 : m1 ≤ code.length := by omega
  have b4 : m2 ≤ store.length := by omega
  generalize hC : code.take m1 = C at g1 l1 ⊢
  generalize hS : store.take m2 = S at g2 l2 ⊢
  dsimp only [acR]
  rw [l1, l2]
  have d1 : ((C.flatMap bpv).map AV.c).length = m1 := by rw [List.length_map, flat_length bpv_len, l1, Nat.mul_one]
  have d2 : ((S.flatMap Pr.pv).map AV.c).length = m2 * 8 := by rw [List.length_map, flat_length pr_len, l2]
  (refine fn_of Try.func11 rfl (by rfl) ?_; simp only [Try.ntmps11, List.length_cons, List.length_nil, Nat.reduceAdd, Nat.reduceSub, List.replicate, List.cons_append, List.nil_append])
  (have W := ndI f1 (ndI f2 (ndI g1 (ndI g2 (ndI d1 (ndI d2 @refsL_map))))); (repeat (any_goals (first | ((with_reducible refine evL_one ?_ ?_); rfl; intro K hK; simp (disch := omega) only [go_sem, W, Nat.mul_one]; ((repeat (refine ndI (by first | assumption | omega | rfl) ?_)); refine hK _ ?_; clear hK K)) | ((with_reducible refine evL_one ?_ ?_); rfl; intro K hK; simp (disch := omega) only [go_sem, W, Nat.mul_one]; apply opA_cut_nil; rfl; rfl; rfl; rfl; (focus (simp (disch := omega) only [go_sem]; try rfl)); rfl; (simp (disch := omega) only [go_sem, W, Nat.mul_one]; (with_reducible refine hK _ ?_); clear hK K)) | ((with_reducible refine evL_one ?_ ?_); rfl; intro K hK; (try simp (disch := omega) only [go_sem, W, Nat.mul_one]); (repeat (refine ndI (by first | assumption | omega | rfl) ?_)); refine opA_slice_row rfl rfl rfl rfl rfl ?_ rfl rfl rfl rfl ?_ ?_ ?_; (focus (simp only [go_sem]; try rfl)); (intro h; first | rfl | cases h); (first | omega | (dsimp only; omega) | (simp (disch := omega) only [Option.isSome_some, Option.isSome_none]; omega) | (simp; omega) | (focus (simp; done))); (intro q hq1 hq2; (simp (disch := omega) only [go_sem, W, Nat.mul_one]; refine hK _ ?_; clear hK K))) | ((with_reducible refine evL_one ?_ ?_); rfl; intro K hK; (try simp (disch := omega) only [go_sem, W, Nat.mul_one]); (repeat (refine ndI (by first | assumption | omega | rfl) ?_)); refine opA_slice_cut rfl rfl rfl rfl rfl ?_ rfl rfl rfl rfl ?_ ?_ ?_; (focus (simp only [go_sem]; try rfl)); (intro h; first | rfl | cases h); (first | omega | (dsimp only; omega) | (simp (disch := omega) only [Option.isSome_some, Option.isSome_none]; omega) | (simp; omega) | (focus (simp; done))); (simp (disch := omega) only [go_sem, W, Nat.mul_one]; refine hK _ ?_; clear hK K)) | ((with_reducible refine evL_one ?_ ?_); rfl; intro K hK; (try simp (disch := omega) only [go_sem, W, Nat.mul_one]); (repeat (refine ndI (by first | assumption | omega | rfl) ?_)); apply opA_append_zeros; rfl; rfl; rfl; (focus (simp only [go_sem]; try rfl)); (focus (simp (disch := omega) only [go_sem]; try rfl)); (first | omega | (dsimp only; omega) | (simp (disch := omega) only [Option.isSome_some, Option.isSome_none]; omega) | (simp; omega) | (focus (simp; done))); (first | omega | (dsimp only; omega) | (simp (disch := omega) only [Option.isSome_some, Option.isSome_none]; omega) | (simp; omega) | (focus (simp; done))); rfl; rfl; rfl; (first | omega | (dsimp only; omega) | (simp (disch := omega) only [Option.isSome_some, Option.isSome_none]; omega) | (simp; omega) | (focus (simp; done))); (first | omega | (dsimp only; omega) | (simp (disch := omega) only [Option.isSome_some, Option.isSome_none]; omega) | (simp; omega) | (focus (simp; done))); (first | omega | (simp (disch := omega) only [go_sem, W, Nat.mul_one, spl, List.length_append, List.length_map, List.length_take, List.length_drop, List.length_replicate]; omega) | (simp [spl]; omega) | (focus (simp [spl]; done))); (first | omega | (dsimp only; omega) | (simp (disch := omega) only [Option.isSome_some, Option.isSome_none]; omega) | (simp; omega) | (focus (simp; done))); rfl; (first | rfl | (simp [St.free, freeH, AV.refs, AV.refsL])); (first | omega | (dsimp only; omega) | (simp (disch := omega) only [Option.isSome_some, Option.isSome_none]; omega) | (simp; omega) | (focus (simp; done))); (first | rfl | (simp [St.free, freeH, AV.refs, AV.refsL])); (intro c' hc'; (simp (disch := omega) only [go_sem, W, Nat.mul_one]; refine hK _ ?_; clear hK K))) | (with_reducible first | (refine evL_nil ?_; refine hR _ ?_; clear hR R) | ((first | refine evC_seq ?_ | refine evC_block ?_); intro Ψ hΨ hΨ') | (refine evC_region ?_; intro R hR) | (refine hΨ _ ?_; clear hΨ hΨ' Ψ) | refine evC_skip ?_ | refine evC_ret ?_ | refine evC_exit ?_) | ((with_reducible refine hΨ' _ _ ?_ ?_); (focus (simp; done)); clear hΨ hΨ' Ψ) | ((with_reducible apply evC_cond); rfl; rfl; all_goals (intro hc; first | (cases hc; done) | (try simp only at hc)))))))
  all_goals (refine ⟨by simp, ⟨_, ?_, AV.le_refl _⟩, leH_get (by simp [leH, hget])⟩; simp only [Try.results11, resL, ldA, oneOf, go_sem])
def gB (n : Int) : AV := .c (.v (.int .u8 n))
def gW (n : Int) : AV := .c (.v (.int .u64 n))
theorem cells_b (C : List Nat) : (C.flatMap bpv).map AV.c = (C.map Int.ofNat).map gB := by
  induction C with
  | nil => rfl
  | cons c C ih => rw [List.flatMap_cons, List.map_append, ih]; rfl
theorem cells_w (S : List Pr) : ∃ cs : List Int, cs.length = S.length * 8 ∧ (S.flatMap Pr.pv).map AV.c = cs.map gW := by
  induction S with
  | nil => exact ⟨[], rfl, rfl⟩
  | cons p S ih =>
    obtain ⟨cs, h1, h2⟩ := ih
    refine ⟨[l0 p.k, l1 p.k, l2 p.k, l3 p.k, l0 p.v, l1 p.v, l2 p.v, l3 p.v] ++ cs, by simp [h1]; omega, ?_⟩
    rw [List.flatMap_cons, List.map_append, h2, List.map_append]; rfl
theorem at_cell {g : Int → AV} {cs : List Int} {j : Nat} {y : Int} (h : cs[j]? = some y) : (cs.map g)[j]? = some (g y) := by rw [List.getElem?_map, h]; rfl
theorem spl_cell {g : Int → AV} {cs : List Int} {j : Nat} (y : Int) (h : j < cs.length) : spl (cs.map g) j [g y] = (cs.set j y).map g := by
  unfold spl
  rw [List.map_set, List.set_eq_take_append_cons_drop, if_pos (by rw [List.length_map]; exact h)]
  simp
theorem refsL_g (g : Int → AV) (h : ∀ d y, AV.refs d (g y) = false) (d : Nat) (cs : List Int) : AV.refsL d (cs.map g) = false := by
  induction cs with
  | nil => rfl
  | cons x l ih => rw [List.map_cons]; unfold AV.refsL; rw [h, ih]; rfl
theorem renL_g (g : Int → AV) (h : ∀ f y, AV.ren f (g y) = g y) (f : Nat → Nat) (cs : List Int) : AV.renL f (cs.map g) = cs.map g := by
  induction cs with
  | nil => rfl
  | cons x l ih => rw [List.map_cons]; unfold AV.renL; rw [h, ih]
theorem inNL_g (g : Int → AV) (h : ∀ N y, AV.inN N (g y) = true) (N : List Nat) (cs : List Int) : AV.inNL N (cs.map g) = true := by
  induction cs with
  | nil => rfl
  | cons x l ih => rw [List.map_cons]; unfold AV.inNL; rw [h, ih]; rfl
theorem okx_one {x : Ac} (h : x.ok) : Okx (oneA x) := by
  obtain ⟨u1, u2, u3, ⟨u4, u5⟩, u6, u7⟩ := h
  exact ⟨⟨u1, u2, u3, ⟨by show (x.code.take 201).length ≤ maxLen; rw [List.length_take]; omega, fun c hc => u5 c (List.mem_of_mem_take hc)⟩, by show (x.store.take 25).length ≤ maxLen; rw [List.length_take]; omega, fun p hp => u7 p (List.mem_of_mem_take hp)⟩, by show (x.code.take 201).length ≤ 1000000; rw [List.length_take]; omega, by show (x.store.take 25).length ≤ 1000000; rw [List.length_take]; omega⟩
theorem beqI (a c : Int) : (a == c) = decide (a = c) := by
  by_cases h : a = c
  · subst h; simp
  · rw [decide_eq_false h]; simpa using h
theorem run_fn (ex : Bool) (L : List Ac) (hL : Okl L) (o : Do) (ho : o.ok) : Fn Try.prog 14 [doA o, stA ex L] [] (resS (doS L o)) [] := by
  obtain ⟨_, ua, ub, hn, hp, hx⟩ := ho
  have on := one_row o.x hx.2.2.2.2.1 hx.2.2.2.1.1
  have h1 := putX_lent ex L hL (oneA o.x) (okx_one hx) _ _ rfl rfl
  have h2 := save_fn ex L hL o.a ua o.p.k o.p.v hp.1 hp.2
  have h3 := move_fn ex L hL o.a o.b ua ub o.n hn
  have h4 := mint_fn ex L hL o.a ua o.n hn
  have h5 := burn_fn ex L hL o.a ua o.n hn
  have q0 := beqI (kindI o) 0
  have q1 := beqI (kindI o) 1
  have q2 := beqI (kindI o) 2
  have q3 := beqI (kindI o) 3
  have hk : (IntKind.u64.wrap o.kind).tmod 5 = kindI o := rfl
  have z5 : ((5 : Int) = 0) = False := eq_false (by decide)
  have e0 : doS L o = if kindI o = 0 then (if okSt L then putS L (oneA o.x) else ([], 160)) else if kindI o = 1 then saveS L o.a o.p.k o.p.v else if kindI o = 2 then moveS L o.a o.b o.n else if kindI o = 3 then mintS L o.a o.n else withS L o.a (lessS L (ofS L o.a) o.n) := by
    unfold doS
    cases h : okSt L with
    | true => simp only [if_true]
    | false => simp only [Bool.false_eq_true, if_false, saveS, moveS, mintS, withS, h, Bool.not_false, if_true, ite_self]
  rw [e0]
  have hc1 : (oneA o.x).code.length ≤ 201 := by show (o.x.code.take 201).length ≤ 201; rw [List.length_take]; omega
  have hs1 : (oneA o.x).store.length ≤ 25 := by show (o.x.store.take 25).length ≤ 25; rw [List.length_take]; omega
  generalize (if okSt L then putS L (oneA o.x) else ([], 160)) = r1 at h1 ⊢
  generalize saveS L o.a o.p.k o.p.v = r2 at h2 ⊢
  generalize moveS L o.a o.b o.n = r3 at h3 ⊢
  generalize mintS L o.a o.n = r4 at h4 ⊢
  generalize withS L o.a (lessS L (ofS L o.a) o.n) = r5 at h5 ⊢
  generalize oneA o.x = y at on h1 hc1 hs1
  obtain ⟨kind, a, b, n, p, x⟩ := o
  obtain ⟨R1, e1⟩ := r1
  obtain ⟨R2, e2⟩ := r2
  obtain ⟨R3, e3⟩ := r3
  obtain ⟨R4, e4⟩ := r4
  obtain ⟨R5, e5⟩ := r5
  dsimp only at *
  generalize kindI ⟨kind, a, b, n, p, x⟩ = K at *
  by_cases c0 : K = 0
  · rw [decide_eq_true c0] at q0
    rw [if_pos c0]
    obtain ⟨ya, yb, yn, C, S⟩ := y
    dsimp only at hc1 hs1 on h1
    obtain ⟨ws, hws, hS⟩ := cells_w S
    rw [cells_b, hS] at on h1
    have hCl : (C.map Int.ofNat).length = C.length := by simp
    generalize C.map Int.ofNat = bs at on h1 hCl
    have a1 : ∀ (l : List Int) d, AV.refsL d (l.map gB) = false := fun l d => refsL_g gB (fun _ _ => rfl) d l
    have a2 : ∀ (l : List Int) d, AV.refsL d (l.map gW) = false := fun l d => refsL_g gW (fun _ _ => rfl) d l
    have w1 : ∀ (l : List Int) f, AV.renL f (l.map gB) = l.map gB := fun l f => renL_g gB (fun _ _ => rfl) f l
    have w2 : ∀ (l : List Int) f, AV.renL f (l.map gW) = l.map gW := fun l f => renL_g gW (fun _ _ => rfl) f l
    have y1 : ∀ (l : List Int) N, AV.inNL N (l.map gB) = true := fun l N => inNL_g gB (fun _ _ => rfl) N l
    have y2 : ∀ (l : List Int) N, AV.inNL N (l.map gW) = true := fun l N => inNL_g gW (fun _ _ => rfl) N l
    clear hS
    (refine fn_of Try.func14 rfl (by rfl) ?_; simp only [Try.ntmps14, List.length_cons, List.length_nil, Nat.reduceAdd, Nat.reduceSub, List.replicate, List.cons_append, List.nil_append])
    (have W := ndI hk (ndI z5 (ndI q0 (ndI a1 (ndI a2 (ndI w1 (ndI w2 (ndI y1 y2))))))); (repeat (any_goals (first | ((with_reducible refine evL_call ?_ ?_ ?_); rfl; rfl; intro K hK; (first | (apply opA_callR (on) (fun r => r + 200); rfl; rfl; rfl; rfl; exact Try.func11; kernel_rfl; rfl; rfl; (intro r hr q hq h; simp only [List.map_cons, List.map_nil, List.cons_append, List.nil_append, List.mem_cons, List.not_mem_nil, or_false] at hr hq; (try dsimp only at h); first | omega | (rcases hr with rfl | rfl | rfl <;> rcases hq with rfl | rfl | rfl <;> simp at h ⊢) | (rcases hr with rfl | rfl <;> rcases hq with rfl | rfl <;> simp at h ⊢) | ((repeat' split at h) <;> omega)); (simp only [argsOk, argOk, AV.ren, AV.renL, renL_map, List.mem_cons, List.not_mem_nil, forall_eq_or_imp, forall_eq, newOk, List.contains_cons, List.contains_nil, AV.refsL, AV.refs, refsL_map, AV.inN, AV.inNL, inH, inNL_map, go_sem, W])) | (apply opA_callR (h1) (fun r => if r = 1000 then 211 else if r = 1001 then 221 else r); rfl; rfl; rfl; rfl; exact Try.func39; kernel_rfl; rfl; rfl; (intro r hr q hq h; simp only [List.map_cons, List.map_nil, List.cons_append, List.nil_append, List.mem_cons, List.not_mem_nil, or_false] at hr hq; (try dsimp only at h); first | omega | (rcases hr with rfl | rfl | rfl <;> rcases hq with rfl | rfl | rfl <;> simp at h ⊢) | (rcases hr with rfl | rfl <;> rcases hq with rfl | rfl <;> simp at h ⊢) | ((repeat' split at h) <;> omega)); (simp only [argsOk, argOk, AV.ren, AV.renL, renL_map, List.mem_cons, List.not_mem_nil, forall_eq_or_imp, forall_eq, newOk, List.contains_cons, List.contains_nil, AV.refsL, AV.refs, refsL_map, AV.inN, AV.inNL, inH, inNL_map, go_sem, W]))); (simp only [hputs, hdels, renH, AV.ren, AV.renL, renL_map, go_sem, W]; refine hK _ ?_; clear hK K)) | ((with_reducible refine evL_one ?_ ?_); rfl; intro K hK; simp only [go_sem, W]; ((repeat (refine ndI (by first | assumption | omega | rfl) ?_)); refine hK _ ?_; clear hK K)) | (with_reducible first | (refine evL_nil ?_; refine hR _ ?_; clear hR R) | ((first | refine evC_seq ?_ | refine evC_block ?_); intro Ψ hΨ hΨ') | (refine evC_region ?_; intro R hR) | (refine hΨ _ ?_; clear hΨ hΨ' Ψ) | refine evC_skip ?_ | refine evC_ret ?_ | refine evC_exit ?_) | ((with_reducible refine hΨ' _ _ ?_ ?_); (focus (simp; done)); clear hΨ hΨ' Ψ) | ((with_reducible apply evC_cond); rfl; rfl; all_goals (intro hc; first | (cases hc; done) | (try simp only at hc))) | ((with_reducible refine evD_nil ?_ ?_); kernel_rfl; (with_reducible refine hR _ ?_); clear hR R) | (((with_reducible apply evD_any); rfl; rfl; (simp only [rdE, rdOf, go_sem, W]; rfl); (intro τ hA hQ hN; ((try simp only [agree, Op.operands, Call.operands, go_sem, W, go_sem, List.mem_cons, List.not_mem_nil, forall_eq_or_imp, forall_eq, List.append_toArray, Option.toArray] at hA); (try simp only [go_sem, W, List.mem_cons, List.not_mem_nil, forall_eq_or_imp, forall_eq] at hQ hN); (first | (revert hA; intro hA) | have hA := trivial); (first | (revert hQ; intro hQ) | have hQ := trivial); (first | (revert hN; intro hN) | have hN := trivial); simp only [go_sem, W, go_sem, hA, hQ, hN]; (repeat (refine ndI (by first | assumption | omega | rfl) ?_)); (first | apply eff_rd | apply eff_st | apply eff_nw)))); (simp only [St.eff, setO, hputs, go_sem, W])) | ((with_reducible refine evC_draw ?_ ?_ ?_ ?_); kernel_rfl; kernel_rfl; (first | kernel_rfl | simp [newNames, isNew, St.free, freeH, AV.refsL, AV.refs]); intro R hR)))))
    refine evC_loop (α := { p : Nat × List Int // p.1 ≤ C.length ∧ p.2.length = C.length }) (fun p => ⟨[.any, .any, .any, .any, .ptr 4 0, vi .i64 0, .ptr 6 0, .ptr 7 0, vi .i64 e1, .any, .any, .any, .any, .any, .any, .any, .any, .any, .any, .any, .any, .any, .any, .any, .any, .any, .any, .any, vi .i64 C.length, vi .i64 (p.1.1 : Int), .any, .any, .any, .any, .any, .any, .any, .any, .any, .any, .any, .any, .any, .any, .any, .any, .any, .any, .any, .any, .any, .any, .any, .any, .any, .any, .any, .any, .any, .any, .any, .any, .any, .any, .any, .any, .any, .any, .any, .any, .any, .any, .any, .any, .any, .any, .any, .any, .any, .any, .any, .any, .any, .any, .any, .any, .any, .any, .any, .any, .any, .any, .any, .any, .any, .any, .any, .any, .any, .any], [(4, [.c (.v (.slice none 0 0))]), (6, [vi .u64 ya, vi .u64 (l0 yb), vi .u64 (l1 yb), vi .u64 (l2 yb), vi .u64 (l3 yb), vi .u64 yn, .row 211 5 1 C.length, .row 221 42 8 S.length]), (7, [acS false R1]), (211, p.1.2.map gB), (221, ws.map gW)]⟩) (fun p => C.length - p.1.1) ⟨(0, bs), Nat.zero_le _, hCl⟩ (St.le_of (by simp [leT]) (by simp [leH, hget])) ?_
    rintro ⟨⟨i, cs⟩, hi, hcs⟩ Ψ hΨ hΨ'
    (try dsimp only at hi hcs hΨ ⊢)
    by_cases hge : C.length ≤ i
    · have k1 : (decide ((i : Int) < (C.length : Int))) = false := decide_eq_false (by omega)
      (repeat (any_goals (first | ((with_reducible refine evL_one ?_ ?_); rfl; intro K hK; simp only [go_sem, k1]; ((repeat (refine ndI (by first | assumption | omega | rfl) ?_)); refine hK _ ?_; clear hK K)) | (with_reducible first | (refine evL_nil ?_; refine hR _ ?_; clear hR R) | ((first | refine evC_seq ?_ | refine evC_block ?_); intro Ψ hΨ hΨ') | (refine evC_region ?_; intro R hR) | (refine hΨ _ ?_; clear hΨ hΨ' Ψ) | refine evC_skip ?_ | refine evC_ret ?_ | refine evC_exit ?_) | ((with_reducible refine hΨ' _ _ ?_ ?_); (focus (simp; done)); clear hΨ hΨ' Ψ) | ((with_reducible apply evC_cond); rfl; rfl; all_goals (intro hc; first | (cases hc; done) | (try simp only at hc))) | ((with_reducible refine evD_nil ?_ ?_); kernel_rfl; (with_reducible refine hR _ ?_); clear hR R) | (((with_reducible apply evD_any); rfl; rfl; (simp only [rdE, rdOf, go_sem, k1]; rfl); (intro τ hA hQ hN; ((try simp only [agree, Op.operands, Call.operands, go_sem, k1, go_sem, List.mem_cons, List.not_mem_nil, forall_eq_or_imp, forall_eq, List.append_toArray, Option.toArray] at hA); (try simp only [go_sem, k1, List.mem_cons, List.not_mem_nil, forall_eq_or_imp, forall_eq] at hQ hN); (first | (revert hA; intro hA) | have hA := trivial); (first | (revert hQ; intro hQ) | have hQ := trivial); (first | (revert hN; intro hN) | have hN := trivial); simp only [go_sem, k1, go_sem, hA, hQ, hN]; (repeat (refine ndI (by first | assumption | omega | rfl) ?_)); (first | apply eff_rd | apply eff_st | apply eff_nw)))); (simp only [St.eff, setO, hputs, go_sem, k1])) | ((with_reducible refine evC_draw ?_ ?_ ?_ ?_); kernel_rfl; kernel_rfl; (first | kernel_rfl | simp [newNames, isNew, St.free, freeH, AV.refsL, AV.refs]); intro R hR))))
      refine evC_loop (α := { p : Nat × List Int // p.1 ≤ S.length ∧ p.2.length = S.length * 8 }) (fun p => ⟨[.any, .any, .any, .any, .ptr 4 0, vi .i64 0, .ptr 6 0, .ptr 7 0, vi .i64 e1, .any, .any, .any, .any, .any, .any, .any, .any, .any, .any, .any, .any, .any, .any, .any, .any, .any, .any, .any, .any, .any, .any, .any, .any, .any, .any, .any, .any, .any, .any, .any, .any, .any, vi .i64 S.length, vi .i64 (p.1.1 : Int), .any, .any, .any, .any, .any, .any, .any, .any, .any, .any, .any, .any, .any, .any, .any, .any, .any, .any, .any, .any, .any, .any, .any, .any, .any, .any, .any, .any, .any, .any, .any, .any, .any, .any, .any, .any, .any, .any, .any, .any, .any, .any, .any, .any, .any, .any, .any, .any, .any, .any, .any, .any, .any, .any, .any, .any], [(4, [.c (.v (.slice none 0 0))]), (6, [vi .u64 ya, vi .u64 (l0 yb), vi .u64 (l1 yb), vi .u64 (l2 yb), vi .u64 (l3 yb), vi .u64 yn, .row 211 5 1 C.length, .row 221 42 8 S.length]), (7, [acS false R1]), (211, cs.map gB), (221, p.1.2.map gW)]⟩) (fun p => S.length - p.1.1) ⟨(0, ws), Nat.zero_le _, hws⟩ (St.le_of (by simp [leT]) (by simp [leH, hget])) ?_
      rintro ⟨⟨m, ds⟩, hm, hds⟩ Ψ hΨ hΨ'
      (try dsimp only at hm hds hΨ ⊢)
      by_cases hge2 : S.length ≤ m
      · have k4 : (decide ((m : Int) < (S.length : Int))) = false := decide_eq_false (by omega)
        (repeat (any_goals (first | ((with_reducible refine evL_one ?_ ?_); rfl; intro K hK; simp only [go_sem, k4]; ((repeat (refine ndI (by first | assumption | omega | rfl) ?_)); refine hK _ ?_; clear hK K)) | (with_reducible first | (refine evL_nil ?_; refine hR _ ?_; clear hR R) | ((first | refine evC_seq ?_ | refine evC_block ?_); intro Ψ hΨ hΨ') | (refine evC_region ?_; intro R hR) | (refine hΨ _ ?_; clear hΨ hΨ' Ψ) | refine evC_skip ?_ | refine evC_ret ?_ | refine evC_exit ?_) | ((with_reducible refine hΨ' _ _ ?_ ?_); (focus (simp; done)); clear hΨ hΨ' Ψ) | ((with_reducible apply evC_cond); rfl; rfl; all_goals (intro hc; first | (cases hc; done) | (try simp only at hc))) | ((with_reducible refine evD_nil ?_ ?_); kernel_rfl; (with_reducible refine hR _ ?_); clear hR R) | (((with_reducible apply evD_any); rfl; rfl; (simp only [rdE, rdOf, go_sem, k4]; rfl); (intro τ hA hQ hN; ((try simp only [agree, Op.operands, Call.operands, go_sem, k4, go_sem, List.mem_cons, List.not_mem_nil, forall_eq_or_imp, forall_eq, List.append_toArray, Option.toArray] at hA); (try simp only [go_sem, k4, List.mem_cons, List.not_mem_nil, forall_eq_or_imp, forall_eq] at hQ hN); (first | (revert hA; intro hA) | have hA := trivial); (first | (revert hQ; intro hQ) | have hQ := trivial); (first | (revert hN; intro hN) | have hN := trivial); simp only [go_sem, k4, go_sem, hA, hQ, hN]; (repeat (refine ndI (by first | assumption | omega | rfl) ?_)); (first | apply eff_rd | apply eff_st | apply eff_nw)))); (simp only [St.eff, setO, hputs, go_sem, k4])) | ((with_reducible refine evC_draw ?_ ?_ ?_ ?_); kernel_rfl; kernel_rfl; (first | kernel_rfl | simp [newNames, isNew, St.free, freeH, AV.refsL, AV.refs]); intro R hR))))
        all_goals (refine ⟨by simp, ⟨_, ?_, AV.le_refl _⟩, leH_get (by simp [leH, hget])⟩; simp only [Try.results14, resL, ldA, oneOf, go_sem])
      · have k4 : (decide ((m : Int) < (S.length : Int))) = true := decide_eq_true (by omega)
        have k7 : (m : Int) + 1 = ((m + 1 : Nat) : Int) := by omega
        have hlt : m < S.length := by omega
        obtain ⟨y, hy⟩ : ∃ y, ds[m * 8 + 4]? = some y := ⟨_, List.getElem?_eq_getElem (by omega)⟩
        have n1 : (ds.map gW)[m * 8 + 4]? = some (.c (.v (.int .u64 y))) := at_cell hy
        have n2 : ∀ z, List.take (m * 8 + 4) (ds.map gW) ++ [AV.c (.v (.int .u64 z))] ++ List.drop (m * 8 + 4 + 1) (ds.map gW) = (ds.set (m * 8 + 4) z).map gW := fun z => spl_cell (g := gW) z (by omega)
        have n3 : (ds.map gW).length = S.length * 8 := by rw [List.length_map]; exact hds
        (have W := ndI k4 (ndI k7 (ndI n1 (ndI n2 (ndI n3 (ndI a1 (ndI a2 @wrI)))))); (repeat (any_goals (first | ((with_reducible refine evL_one ?_ ?_); rfl; intro K hK; simp (disch := omega) only [go_sem, W]; ((repeat (refine ndI (by first | assumption | omega | rfl) ?_)); refine hK _ ?_; clear hK K)) | (with_reducible first | (refine evL_nil ?_; refine hR _ ?_; clear hR R) | ((first | refine evC_seq ?_ | refine evC_block ?_); intro Ψ hΨ hΨ') | (refine evC_region ?_; intro R hR) | (refine hΨ _ ?_; clear hΨ hΨ' Ψ) | refine evC_skip ?_ | refine evC_ret ?_ | refine evC_exit ?_) | ((with_reducible refine hΨ' _ _ ?_ ?_); (focus (simp; done)); clear hΨ hΨ' Ψ) | ((with_reducible apply evC_cond); rfl; rfl; all_goals (intro hc; first | (cases hc; done) | (try simp only at hc))) | ((with_reducible refine evD_nil ?_ ?_); kernel_rfl; (with_reducible refine hR _ ?_); clear hR R) | (((with_reducible apply evD_any); rfl; rfl; (simp (disch := omega) only [rdE, rdOf, go_sem, W]; rfl); (intro τ hA hQ hN; ((try simp only [agree, Op.operands, Call.operands, go_sem, W, go_sem, List.mem_cons, List.not_mem_nil, forall_eq_or_imp, forall_eq, List.append_toArray, Option.toArray] at hA); (try simp only [go_sem, W, List.mem_cons, List.not_mem_nil, forall_eq_or_imp, forall_eq] at hQ hN); (first | (revert hA; intro hA) | have hA := trivial); (first | (revert hQ; intro hQ) | have hQ := trivial); (first | (revert hN; intro hN) | have hN := trivial); simp (disch := omega) only [go_sem, W, go_sem, hA, hQ, hN]; (repeat (refine ndI (by first | assumption | omega | rfl) ?_)); (first | apply eff_rd | apply eff_st | apply eff_nw)))); (simp (disch := omega) only [St.eff, setO, hputs, go_sem, W])) | ((with_reducible refine evC_draw ?_ ?_ ?_ ?_); kernel_rfl; kernel_rfl; (first | kernel_rfl | simp [newNames, isNew, St.free, freeH, AV.refsL, AV.refs]); intro R hR)))))
        all_goals exact hΨ _ ⟨(m + 1, ds.set (m * 8 + 4) (IntKind.u64.wrap (y + 1))), hlt, by dsimp only; rw [List.length_set]; exact hds⟩ (by dsimp only; omega) (St.le_of (by simp [leT]) (by simp only [leH, hget, Nat.reduceEqDiff, if_true, if_false]; simp))
    · have k1 : (decide ((i : Int) < (C.length : Int))) = true := decide_eq_true (by omega)
      have k7 : (i : Int) + 1 = ((i + 1 : Nat) : Int) := by omega
      have hlt : i < C.length := by omega
      obtain ⟨y, hy⟩ : ∃ y, cs[i]? = some y := ⟨_, List.getElem?_eq_getElem (by omega)⟩
      have n1 : (cs.map gB)[i]? = some (.c (.v (.int .u8 y))) := at_cell hy
      have n2 : ∀ z, List.take i (cs.map gB) ++ [AV.c (.v (.int .u8 z))] ++ List.drop (i + 1) (cs.map gB) = (cs.set i z).map gB := fun z => spl_cell (g := gB) z (by omega)
      have n3 : (cs.map gB).length = C.length := by rw [List.length_map]; exact hcs
      obtain ⟨z, n4⟩ : ∃ z, IntKind.u8.wrap ((BitVec.ofInt IntKind.u8.bits y ^^^ BitVec.ofInt IntKind.u8.bits 85).toNat : Nat) = z := ⟨_, rfl⟩
      (have W := ndI k1 (ndI k7 (ndI n1 (ndI n2 (ndI n3 (ndI n4 (ndI a1 (ndI a2 @wrI))))))); (repeat (any_goals (first | ((with_reducible refine evL_one ?_ ?_); rfl; intro K hK; simp (disch := omega) only [go_sem, W, Nat.mul_one]; ((repeat (refine ndI (by first | assumption | omega | rfl) ?_)); refine hK _ ?_; clear hK K)) | (with_reducible first | (refine evL_nil ?_; refine hR _ ?_; clear hR R) | ((first | refine evC_seq ?_ | refine evC_block ?_); intro Ψ hΨ hΨ') | (refine evC_region ?_; intro R hR) | (refine hΨ _ ?_; clear hΨ hΨ' Ψ) | refine evC_skip ?_ | refine evC_ret ?_ | refine evC_exit ?_) | ((with_reducible refine hΨ' _ _ ?_ ?_); (focus (simp; done)); clear hΨ hΨ' Ψ) | ((with_reducible apply evC_cond); rfl; rfl; all_goals (intro hc; first | (cases hc; done) | (try simp only at hc))) | ((with_reducible refine evD_nil ?_ ?_); kernel_rfl; (with_reducible refine hR _ ?_); clear hR R) | (((with_reducible apply evD_any); rfl; rfl; (simp (disch := omega) only [rdE, rdOf, go_sem, W, Nat.mul_one]; rfl); (intro τ hA hQ hN; ((try simp only [agree, Op.operands, Call.operands, go_sem, W, Nat.mul_one, go_sem, List.mem_cons, List.not_mem_nil, forall_eq_or_imp, forall_eq, List.append_toArray, Option.toArray] at hA); (try simp only [go_sem, W, Nat.mul_one, List.mem_cons, List.not_mem_nil, forall_eq_or_imp, forall_eq] at hQ hN); (first | (revert hA; intro hA) | have hA := trivial); (first | (revert hQ; intro hQ) | have hQ := trivial); (first | (revert hN; intro hN) | have hN := trivial); simp (disch := omega) only [go_sem, W, Nat.mul_one, go_sem, hA, hQ, hN]; (repeat (refine ndI (by first | assumption | omega | rfl) ?_)); (first | apply eff_rd | apply eff_st | apply eff_nw)))); (simp (disch := omega) only [St.eff, setO, hputs, go_sem, W, Nat.mul_one])) | ((with_reducible refine evC_draw ?_ ?_ ?_ ?_); kernel_rfl; kernel_rfl; (first | kernel_rfl | simp [newNames, isNew, St.free, freeH, AV.refsL, AV.refs]); intro R hR)))))
      all_goals exact hΨ _ ⟨(i + 1, cs.set i z), hlt, by dsimp only; rw [List.length_set]; exact hcs⟩ (by dsimp only; omega) (St.le_of (by simp [leT]) (by simp only [leH, hget, Nat.reduceEqDiff, if_true, if_false]; simp; rw [← n4]; rfl))
  rw [decide_eq_false c0] at q0
  rw [if_neg c0]
  by_cases c1 : K = 1
  · rw [decide_eq_true c1] at q1
    rw [if_pos c1]
    (refine fn_of Try.func14 rfl (by rfl) ?_; simp only [Try.ntmps14, List.length_cons, List.length_nil, Nat.reduceAdd, Nat.reduceSub, List.replicate, List.cons_append, List.nil_append])
    (have W := ndI hk (ndI z5 (ndI q0 q1)); (repeat (any_goals (first | ((with_reducible refine evL_call ?_ ?_ ?_); rfl; rfl; intro K hK; ((apply opA_callB (h2); rfl; rfl; rfl; rfl; exact Try.func37); kernel_rfl; rfl; (simp only [go_sem, W]; rfl); (first | rfl | simp [AV.inNL, AV.inN])); (simp only [go_sem, W]; refine hK _ ?_; clear hK K)) | ((with_reducible refine evL_one ?_ ?_); rfl; intro K hK; simp only [go_sem, W]; ((repeat (refine ndI (by first | assumption | omega | rfl) ?_)); refine hK _ ?_; clear hK K)) | (with_reducible first | (refine evL_nil ?_; refine hR _ ?_; clear hR R) | ((first | refine evC_seq ?_ | refine evC_block ?_); intro Ψ hΨ hΨ') | (refine evC_region ?_; intro R hR) | (refine hΨ _ ?_; clear hΨ hΨ' Ψ) | refine evC_skip ?_ | refine evC_ret ?_ | refine evC_exit ?_) | ((with_reducible refine hΨ' _ _ ?_ ?_); (focus (simp; done)); clear hΨ hΨ' Ψ) | ((with_reducible apply evC_cond); rfl; rfl; all_goals (intro hc; first | (cases hc; done) | (try simp only at hc))) | ((with_reducible refine evD_nil ?_ ?_); kernel_rfl; (with_reducible refine hR _ ?_); clear hR R) | (((with_reducible apply evD_any); rfl; rfl; (simp only [rdE, rdOf, go_sem, W]; rfl); (intro τ hA hQ hN; ((try simp only [agree, Op.operands, Call.operands, go_sem, W, go_sem, List.mem_cons, List.not_mem_nil, forall_eq_or_imp, forall_eq, List.append_toArray, Option.toArray] at hA); (try simp only [go_sem, W, List.mem_cons, List.not_mem_nil, forall_eq_or_imp, forall_eq] at hQ hN); (first | (revert hA; intro hA) | have hA := trivial); (first | (revert hQ; intro hQ) | have hQ := trivial); (first | (revert hN; intro hN) | have hN := trivial); simp only [go_sem, W, go_sem, hA, hQ, hN]; (repeat (refine ndI (by first | assumption | omega | rfl) ?_)); (first | apply eff_rd | apply eff_st | apply eff_nw)))); (simp only [St.eff, setO, hputs, go_sem, W])) | ((with_reducible refine evC_draw ?_ ?_ ?_ ?_); kernel_rfl; kernel_rfl; (first | kernel_rfl | simp [newNames, isNew, St.free, freeH, AV.refsL, AV.refs]); intro R hR)))))
    all_goals (refine ⟨by simp, ⟨_, ?_, AV.le_refl _⟩, leH_get (by simp [leH, hget])⟩; simp only [Try.results14, resL, ldA, oneOf, go_sem])
  rw [decide_eq_false c1] at q1
  rw [if_neg c1]
  by_cases c2 : K = 2
  · rw [decide_eq_true c2] at q2
    rw [if_pos c2]
    (refine fn_of Try.func14 rfl (by rfl) ?_; simp only [Try.ntmps14, List.length_cons, List.length_nil, Nat.reduceAdd, Nat.reduceSub, List.replicate, List.cons_append, List.nil_append])
    (have W := ndI hk (ndI z5 (ndI q0 (ndI q1 q2))); (repeat (any_goals (first | ((with_reducible refine evL_call ?_ ?_ ?_); rfl; rfl; intro K hK; ((apply opA_callB (h3); rfl; rfl; rfl; rfl; exact Try.func32); kernel_rfl; rfl; (simp only [go_sem, W]; rfl); (first | rfl | simp [AV.inNL, AV.inN])); (simp only [go_sem, W]; refine hK _ ?_; clear hK K)) | ((with_reducible refine evL_one ?_ ?_); rfl; intro K hK; simp only [go_sem, W]; ((repeat (refine ndI (by first | assumption | omega | rfl) ?_)); refine hK _ ?_; clear hK K)) | (with_reducible first | (refine evL_nil ?_; refine hR _ ?_; clear hR R) | ((first | refine evC_seq ?_ | refine evC_block ?_); intro Ψ hΨ hΨ') | (refine evC_region ?_; intro R hR) | (refine hΨ _ ?_; clear hΨ hΨ' Ψ) | refine evC_skip ?_ | refine evC_ret ?_ | refine evC_exit ?_) | ((with_reducible refine hΨ' _ _ ?_ ?_); (focus (simp; done)); clear hΨ hΨ' Ψ) | ((with_reducible apply evC_cond); rfl; rfl; all_goals (intro hc; first | (cases hc; done) | (try simp only at hc))) | ((with_reducible refine evD_nil ?_ ?_); kernel_rfl; (with_reducible refine hR _ ?_); clear hR R) | (((with_reducible apply evD_any); rfl; rfl; (simp only [rdE, rdOf, go_sem, W]; rfl); (intro τ hA hQ hN; ((try simp only [agree, Op.operands, Call.operands, go_sem, W, go_sem, List.mem_cons, List.not_mem_nil, forall_eq_or_imp, forall_eq, List.append_toArray, Option.toArray] at hA); (try simp only [go_sem, W, List.mem_cons, List.not_mem_nil, forall_eq_or_imp, forall_eq] at hQ hN); (first | (revert hA; intro hA) | have hA := trivial); (first | (revert hQ; intro hQ) | have hQ := trivial); (first | (revert hN; intro hN) | have hN := trivial); simp only [go_sem, W, go_sem, hA, hQ, hN]; (repeat (refine ndI (by first | assumption | omega | rfl) ?_)); (first | apply eff_rd | apply eff_st | apply eff_nw)))); (simp only [St.eff, setO, hputs, go_sem, W])) | ((with_reducible refine evC_draw ?_ ?_ ?_ ?_); kernel_rfl; kernel_rfl; (first | kernel_rfl | simp [newNames, isNew, St.free, freeH, AV.refsL, AV.refs]); intro R hR)))))
    all_goals (refine ⟨by simp, ⟨_, ?_, AV.le_refl _⟩, leH_get (by simp [leH, hget])⟩; simp only [Try.results14, resL, ldA, oneOf, go_sem])
  rw [decide_eq_false c2] at q2
  rw [if_neg c2]
  by_cases c3 : K = 3
  · rw [decide_eq_true c3] at q3
    rw [if_pos c3]
    (refine fn_of Try.func14 rfl (by rfl) ?_; simp only [Try.ntmps14, List.length_cons, List.length_nil, Nat.reduceAdd, Nat.reduceSub, List.replicate, List.cons_append, List.nil_append])
    (have W := ndI hk (ndI z5 (ndI q0 (ndI q1 (ndI q2 q3)))); (repeat (any_goals (first | ((with_reducible refine evL_call ?_ ?_ ?_); rfl; rfl; intro K hK; ((apply opA_callB (h4); rfl; rfl; rfl; rfl; exact Try.func36); kernel_rfl; rfl; (simp only [go_sem, W]; rfl); (first | rfl | simp [AV.inNL, AV.inN])); (simp only [go_sem, W]; refine hK _ ?_; clear hK K)) | ((with_reducible refine evL_one ?_ ?_); rfl; intro K hK; simp only [go_sem, W]; ((repeat (refine ndI (by first | assumption | omega | rfl) ?_)); refine hK _ ?_; clear hK K)) | (with_reducible first | (refine evL_nil ?_; refine hR _ ?_; clear hR R) | ((first | refine evC_seq ?_ | refine evC_block ?_); intro Ψ hΨ hΨ') | (refine evC_region ?_; intro R hR) | (refine hΨ _ ?_; clear hΨ hΨ' Ψ) | refine evC_skip ?_ | refine evC_ret ?_ | refine evC_exit ?_) | ((with_reducible refine hΨ' _ _ ?_ ?_); (focus (simp; done)); clear hΨ hΨ' Ψ) | ((with_reducible apply evC_cond); rfl; rfl; all_goals (intro hc; first | (cases hc; done) | (try simp only at hc))) | ((with_reducible refine evD_nil ?_ ?_); kernel_rfl; (with_reducible refine hR _ ?_); clear hR R) | (((with_reducible apply evD_any); rfl; rfl; (simp only [rdE, rdOf, go_sem, W]; rfl); (intro τ hA hQ hN; ((try simp only [agree, Op.operands, Call.operands, go_sem, W, go_sem, List.mem_cons, List.not_mem_nil, forall_eq_or_imp, forall_eq, List.append_toArray, Option.toArray] at hA); (try simp only [go_sem, W, List.mem_cons, List.not_mem_nil, forall_eq_or_imp, forall_eq] at hQ hN); (first | (revert hA; intro hA) | have hA := trivial); (first | (revert hQ; intro hQ) | have hQ := trivial); (first | (revert hN; intro hN) | have hN := trivial); simp only [go_sem, W, go_sem, hA, hQ, hN]; (repeat (refine ndI (by first | assumption | omega | rfl) ?_)); (first | apply eff_rd | apply eff_st | apply eff_nw)))); (simp only [St.eff, setO, hputs, go_sem, W])) | ((with_reducible refine evC_draw ?_ ?_ ?_ ?_); kernel_rfl; kernel_rfl; (first | kernel_rfl | simp [newNames, isNew, St.free, freeH, AV.refsL, AV.refs]); intro R hR)))))
    all_goals (refine ⟨by simp, ⟨_, ?_, AV.le_refl _⟩, leH_get (by simp [leH, hget])⟩; simp only [Try.results14, resL, ldA, oneOf, go_sem])
  rw [decide_eq_false c3] at q3
  rw [if_neg c3]
  (refine fn_of Try.func14 rfl (by rfl) ?_; simp only [Try.ntmps14, List.length_cons, List.length_nil, Nat.reduceAdd, Nat.reduceSub, List.replicate, List.cons_append, List.nil_append])
  (have W := ndI hk (ndI z5 (ndI q0 (ndI q1 (ndI q2 q3)))); (repeat (any_goals (first | ((with_reducible refine evL_call ?_ ?_ ?_); rfl; rfl; intro K hK; ((apply opA_callB (h5); rfl; rfl; rfl; rfl; exact Try.func40); kernel_rfl; rfl; (simp only [go_sem, W]; rfl); (first | rfl | simp [AV.inNL, AV.inN])); (simp only [go_sem, W]; refine hK _ ?_; clear hK K)) | ((with_reducible refine evL_one ?_ ?_); rfl; intro K hK; simp only [go_sem, W]; ((repeat (refine ndI (by first | assumption | omega | rfl) ?_)); refine hK _ ?_; clear hK K)) | (with_reducible first | (refine evL_nil ?_; refine hR _ ?_; clear hR R) | ((first | refine evC_seq ?_ | refine evC_block ?_); intro Ψ hΨ hΨ') | (refine evC_region ?_; intro R hR) | (refine hΨ _ ?_; clear hΨ hΨ' Ψ) | refine evC_skip ?_ | refine evC_ret ?_ | refine evC_exit ?_) | ((with_reducible refine hΨ' _ _ ?_ ?_); (focus (simp; done)); clear hΨ hΨ' Ψ) | ((with_reducible apply evC_cond); rfl; rfl; all_goals (intro hc; first | (cases hc; done) | (try simp only at hc))) | ((with_reducible refine evD_nil ?_ ?_); kernel_rfl; (with_reducible refine hR _ ?_); clear hR R) | (((with_reducible apply evD_any); rfl; rfl; (simp only [rdE, rdOf, go_sem, W]; rfl); (intro τ hA hQ hN; ((try simp only [agree, Op.operands, Call.operands, go_sem, W, go_sem, List.mem_cons, List.not_mem_nil, forall_eq_or_imp, forall_eq, List.append_toArray, Option.toArray] at hA); (try simp only [go_sem, W, List.mem_cons, List.not_mem_nil, forall_eq_or_imp, forall_eq] at hQ hN); (first | (revert hA; intro hA) | have hA := trivial); (first | (revert hQ; intro hQ) | have hQ := trivial); (first | (revert hN; intro hN) | have hN := trivial); simp only [go_sem, W, go_sem, hA, hQ, hN]; (repeat (refine ndI (by first | assumption | omega | rfl) ?_)); (first | apply eff_rd | apply eff_st | apply eff_nw)))); (simp only [St.eff, setO, hputs, go_sem, W])) | ((with_reducible refine evC_draw ?_ ?_ ?_ ?_); kernel_rfl; kernel_rfl; (first | kernel_rfl | simp [newNames, isNew, St.free, freeH, AV.refsL, AV.refs]); intro R hR)))))
  all_goals (refine ⟨by simp, ⟨_, ?_, AV.le_refl _⟩, leH_get (by simp [leH, hget])⟩; simp only [Try.results14, resL, ldA, oneOf, go_sem])
end Go.Proofs.Ytiggambibcohcaa

