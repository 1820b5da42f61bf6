/-
  Something saved in a slot; reckoned.
-/
import Derived.Test.YtiggambibcohcaaSq
import Derived.Test.YtiggambibcohcaaSk
namespace Go.Proofs.Ytiggambibcohcaa
open Go.RowKit
open Nat (reduceBEq)
set_option linter.unusedVariables false
set_option linter.unusedSimpArgs false
set_option maxRecDepth 20000
set_option maxHeartbeats 2000000
abbrev rbB (l : List Nat) : List AV := (l.flatMap bpv).map .c
theorem of_all (ex : Bool) (L : List Ac) (hL : Okl L) (a : Int) : Fn Try.prog 49 [stA ex L, vi .u64 a] [] (acR (ofS L a) 5 8) [(5, rbB (ofS L a).code), (8, raP (ofS L a).store)] := by
  cases h : isS L a with
  | true => exact of_row ex L (by have := hL.1; omega) (fun y hy => ⟨(hL.2 y hy).2.1, (hL.2 y hy).2.2⟩) a h
  | false =>
    have hof : ofS L a = ⟨a, 0, 0, [], []⟩ := by unfold ofS; rw [h]; rfl
    rw [hof]
    have t1 := St.to.nilagg (σ := ⟨[.agg [vi .u64 a, vi .u64 0, vi .u64 0, vi .u64 0, vi .u64 0, vi .u64 0, .c (.v (.slice none 0 0)), .c (.v (.slice none 0 0))]], []⟩) 0 6 5 5 1 rfl rfl (by simp) (by simp [St.free, freeH, AV.refsL, AV.refs]) (by decide)
    have t2 := St.to.nilagg (σ := ⟨[.agg [vi .u64 a, vi .u64 0, vi .u64 0, vi .u64 0, vi .u64 0, vi .u64 0, .row 5 5 1 0, .c (.v (.slice none 0 0))]], [(5, [])]⟩) 0 7 8 42 8 rfl rfl (by simp) (by simp [St.free, freeH, AV.refsL, AV.refs]) (by decide)
    have k := (of_nil ex L (by have := hL.1; omega) a h).to (t1.trans t2)
    simpa [acR, l0_zero, l1_zero, l2_zero, l3_zero, hput, rbB, raP] using k
theorem raP_split {L : List Pr} {i : Nat} {y : Pr} (h : L[i]? = some y) : raP L = raP (L.take i) ++ (y.pv.map .c ++ raP (L.drop (i + 1))) := by
  obtain ⟨hlt, rfl⟩ := List.getElem?_eq_some_iff.1 h
  conv => lhs; rw [← List.take_append_drop i L, List.drop_eq_getElem_cons hlt]
  unfold raP
  rw [List.flatMap_append, List.map_append, List.flatMap_cons, List.map_append]
theorem splP_set {L : List Pr} {i : Nat} (x : Pr) (hlt : i < L.length) : spl (raP L) (i * 8) (x.pv.map .c) = raP (L.take i ++ x :: L.drop (i + 1)) := by
  have e : (raP (L.take i)).length = i * 8 := by rw [raP_len, List.length_take, Nat.min_eq_left (by omega)]
  rw [raP_split (List.getElem?_eq_getElem hlt), spl_mid (raP (L.take i)) (L[i].pv.map .c) (raP (L.drop (i + 1))) (x.pv.map .c) (i * 8) e rfl]
  unfold raP
  rw [List.flatMap_append, List.map_append, List.flatMap_cons, List.map_append]
def saveR (L : List Ac) (x : Ac) (k v : Nat) : List Ac × Int :=
  let p := bsr (ltP x.store k) x.store.length 0 x.store.length
  let t := eqP x.store k p
  if t && decide (v = 0) then putS L { x with store := x.store.take p ++ x.store.drop (p + 1) }
  else if t then putS L { x with store := x.store.take p ++ ⟨k, v⟩ :: x.store.drop (p + 1) }
  else if !decide (v = 0) && decide (x.store.length = 24) then ([], 6)
  else if !decide (v = 0) then putS L { x with store := x.store.take p ++ ⟨k, v⟩ :: x.store.drop p }
  else putS L x
theorem save1_fn (ex : Bool) (L : List Ac) (hL : Okl L) (x : Ac) (hx : Okx x) (hs : x.store.length ≤ 24) (k v : Nat) (hk : k < WW) (hv : v < WW) : Fn Try.prog 67 [acR x 1005 1008, .ep (Pr.pv ⟨k, v⟩), .ep [.sl ex 8 L.length (L.flatMap Ac.pv)]] [(1005, rbB x.code), (1008, raP x.store)] (resS (saveR L x k v)) [] := by
  have sl := slot_fn x (by omega) hx.1.2.2.2.2.2 k hk
  have hple := bsr_le (ltP x.store k) x.store.length 0 x.store.length (Nat.zero_le _)
  have hqp : eqP x.store k (bsr (ltP x.store k) x.store.length 0 x.store.length) = true → bsr (ltP x.store k) x.store.length 0 x.store.length < x.store.length := fun h => by
    unfold eqP at h
    cases hz : x.store[bsr (ltP x.store k) x.store.length 0 x.store.length]? with
    | none => rw [hz] at h; cases h
    | some z => exact (List.getElem?_eq_some_iff.1 hz).1
  unfold saveR
  dsimp only
  generalize bsr (ltP x.store k) x.store.length 0 x.store.length = p at sl hple hqp ⊢
  generalize eqP x.store k p = q1 at sl hqp ⊢
  have f1 := wN_zero hv
  have f2 : ((x.store.length : Int) == 24) = decide (x.store.length = 24) := by rw [Bool.eq_iff_iff, beq_iff_eq, decide_eq_true_eq]; omega
  generalize decide (v = 0) = q2 at f1 ⊢
  generalize decide (x.store.length = 24) = q3 at f2 ⊢
  have de : q1 = true → Fn Try.prog 68 [.row 1000 42 8 x.store.length, vi .i64 p, vi .i64 (p + 1 : Nat)] [(1000, raP x.store)] (.row 1000 42 8 (x.store.length - 1)) [(1000, raP (x.store.take p ++ x.store.drop (p + 1)))] := fun h => deleteP_fn x.store p (hqp h) (by omega)
  have ins := insertP_fn x.store ⟨k, v⟩ p hple (by omega)
  rw [show raP [⟨k, v⟩] = [vi .u64 (l0 k), vi .u64 (l1 k), vi .u64 (l2 k), vi .u64 (l3 k), vi .u64 (l0 v), vi .u64 (l1 v), vi .u64 (l2 v), vi .u64 (l3 v)] from rfl] at ins
  have pt := fun (s : List Pr) (h1 : s.length ≤ 1000000) (h2 : ∀ p ∈ s, p.ok) => put_fn ex L hL { x with store := s } ⟨⟨hx.1.1, hx.1.2.1, hx.1.2.2.1, hx.1.2.2.2.1, Nat.le_trans h1 (by decide), h2⟩, hx.2.1, h1⟩
  have k4 := raP_len x.store
  have hxs := hx.1.2.2.2.2.2
  have k9 : (p : Int) + 1 = ((p + 1 : Nat) : Int) := by omega
  have ks : q1 = true → List.take (p * 8) (raP x.store) ++ [vi .u64 (l0 k), vi .u64 (l1 k), vi .u64 (l2 k), vi .u64 (l3 k), vi .u64 (l0 v), vi .u64 (l1 v), vi .u64 (l2 v), vi .u64 (l3 v)] ++ List.drop (p * 8 + 8) (raP x.store) = raP (x.store.take p ++ (⟨k, v⟩ : Pr) :: x.store.drop (p + 1)) := fun h => splP_set ⟨k, v⟩ (hqp h)
  unfold Pr.pv
  dsimp only
  cases q1 <;> cases q2 <;> cases q3
  all_goals try replace de := de rfl
  all_goals try replace hqp := hqp rfl
  all_goals try replace ks := ks rfl
  all_goals (refine fn_of Try.func67 rfl (by rfl) ?_; simp only [Try.ntmps67, List.length_cons, List.length_nil, Nat.reduceAdd, Nat.reduceSub, List.replicate, List.cons_append, List.nil_append])
  all_goals (have W := ndI f1 (ndI f2 (ndI k4 (ndI k9 (ndI @wrI (ndI @refsL_map @unC_map))))); (repeat (any_goals (first | ((with_reducible refine evL_call ?_ ?_ ?_); rfl; rfl; intro K hK; (first | ((apply opA_callv (sl); rfl; rfl; rfl; rfl; exact Try.func50); kernel_rfl; rfl; (focus ((simp (disch := omega) only [AV.viewL, AV.view, viewRow, unC, Option.map_some, go_sem, W, flat_length bpv_len, flat_length pr_len, Nat.mul_one]); (try rfl))); rfl) | (apply opA_callR (de) (fun r => 1008); rfl; rfl; rfl; rfl; exact Try.func68; kernel_rfl; rfl; rfl; (intro r hr q hq h; simp (disch := omega) only [List.map_cons, List.map_nil, List.cons_append, List.nil_append, List.mem_cons, List.not_mem_nil, or_false] at hr hq; (try dsimp only at h); first | omega | (rcases hr with rfl | rfl | rfl <;> rcases hq with rfl | rfl | rfl <;> simp at h ⊢) | (rcases hr with rfl | rfl <;> rcases hq with rfl | rfl <;> simp at h ⊢) | ((repeat' split at h) <;> omega)); (simp (disch := omega) only [argsOk, argOk, AV.ren, AV.renL, renL_map, List.mem_cons, List.not_mem_nil, forall_eq_or_imp, forall_eq, newOk, List.contains_cons, List.contains_nil, AV.refsL, AV.refs, refsL_map, AV.inN, AV.inNL, inH, inNL_map, go_sem, W, flat_length bpv_len, flat_length pr_len, Nat.mul_one])) | (apply opA_callR (ins) (fun r => if r = 1000 then 1008 else if r = 1001 then 56 else 57); rfl; rfl; rfl; rfl; exact Try.func69; kernel_rfl; rfl; rfl; (intro r hr q hq h; simp (disch := omega) only [List.map_cons, List.map_nil, List.cons_append, List.nil_append, List.mem_cons, List.not_mem_nil, or_false] at hr hq; (try dsimp only at h); first | omega | (rcases hr with rfl | rfl | rfl <;> rcases hq with rfl | rfl | rfl <;> simp at h ⊢) | (rcases hr with rfl | rfl <;> rcases hq with rfl | rfl <;> simp at h ⊢) | ((repeat' split at h) <;> omega)); (simp (disch := omega) only [argsOk, argOk, AV.ren, AV.renL, renL_map, List.mem_cons, List.not_mem_nil, forall_eq_or_imp, forall_eq, newOk, List.contains_cons, List.contains_nil, AV.refsL, AV.refs, refsL_map, AV.inN, AV.inNL, inH, inNL_map, go_sem, W, flat_length bpv_len, flat_length pr_len, Nat.mul_one]))); (simp (disch := omega) only [hputs, hdels, renH, AV.ren, AV.renL, renL_map, go_sem, W, flat_length bpv_len, flat_length pr_len, Nat.mul_one]; refine hK _ ?_; clear hK K)) | ((with_reducible refine evL_one ?_ ?_); rfl; intro K hK; simp (disch := omega) only [go_sem, W, flat_length bpv_len, flat_length pr_len, Nat.mul_one]; ((repeat (refine ndI (by first | assumption | omega | rfl) ?_)); refine hK _ ?_; clear hK K)) | (with_reducible first | (refine evL_nil ?_; refine hR _ ?_; clear hR R) | ((first | refine evC_seq ?_ | refine evC_block ?_); intro Ψ hΨ hΨ') | (refine evC_region ?_; intro R hR) | (refine hΨ _ ?_; clear hΨ hΨ' Ψ) | refine evC_skip ?_ | refine evC_ret ?_ | refine evC_exit ?_) | ((with_reducible refine hΨ' _ _ ?_ ?_); (focus (simp; done)); clear hΨ hΨ' Ψ) | ((with_reducible apply evL_unmet); rfl; rfl; rfl; (try simp (disch := omega) only [go_sem, W, flat_length bpv_len, flat_length pr_len, Nat.mul_one])) | ((with_reducible apply evL_grd); rfl; rfl; rfl; all_goals (intro hb; first | (cases hb; done) | ((try simp only [Bool.not_true, Bool.not_false] at hb); (first | ((with_reducible intro K hK); simp (disch := omega) only [go_sem, W, flat_length bpv_len, flat_length pr_len, Nat.mul_one]; ((repeat (refine ndI (by first | assumption | omega | rfl) ?_)); refine hK _ ?_; clear hK K)) | ((fail_if_success (with_reducible intro _)); simp (disch := omega) only [go_sem, W, flat_length bpv_len, flat_length pr_len, Nat.mul_one]))))) | ((with_reducible apply evC_cond); rfl; rfl; all_goals (intro hc; first | (cases hc; done) | (try simp only at hc)))))))
  all_goals first
    | (exact ⟨by simp, ⟨_, rfl, nilRes _⟩, leH_get (by simp [leH, hget])⟩; done)
    | skip
  all_goals try rw [ks]
  all_goals refine evL_to rfl (St.to.frz 1005 (pcs := x.code.flatMap bpv) (by simp [hget])) ?_
  all_goals simp only [St.frz, AV.frzL, AV.frz, frzH, frzL_map, flat_length bpv_len, Nat.mul_one, if_true, eq_self, ↓reduceIte, Nat.reduceEqDiff]
  have el : ((x.store.take p ++ (⟨k, v⟩ : Pr) :: x.store.drop p).flatMap Pr.pv).length = (x.store.length + 1) * 8 := by rw [flat_length pr_len]; simp only [List.length_append, List.length_cons, List.length_take, List.length_drop]; omega
  have en : x.store.length + 1 = (x.store.take p ++ (⟨k, v⟩ : Pr) :: x.store.drop p).length := by simp only [List.length_append, List.length_cons, List.length_take, List.length_drop]; omega
  have pp : Fn Try.prog 66 [stA ex L, .agg (ac8 x.a x.b x.n (bsV x.code) (.sl false 8 (x.store.length + 1) ((x.store.take p ++ (⟨k, v⟩ : Pr) :: x.store.drop p).flatMap Pr.pv)))] [] (resS (putS L { x with store := x.store.take p ++ (⟨k, v⟩ : Pr) :: x.store.drop p })) [] := by
    rw [en]; exact pt _ (by rw [← en]; omega) fun q hq => by simp only [List.mem_append, List.mem_cons] at hq; rcases hq with h | h <;> first | exact hxs q (List.mem_of_mem_take h) | exact hxs q (List.mem_of_mem_drop h) | (rcases h with rfl | h; exact ⟨hk, hv⟩; exact hxs q (List.mem_of_mem_drop h))
  obtain ⟨r, hr⟩ : ∃ r, putS L { x with store := x.store.take p ++ (⟨k, v⟩ : Pr) :: x.store.drop p } = r := ⟨_, rfl⟩
  rw [hr] at pp
  refine evL_to rfl (St.to.frz 57 (pcs := (x.store.take p ++ (⟨k, v⟩ : Pr) :: x.store.drop p).flatMap Pr.pv) (by simp [hget, raP])) ?_
  simp only [St.frz, AV.frzL, AV.frz, frzH, el, if_true, eq_self, ↓reduceIte, Nat.reduceEqDiff]
  rotate_left
  have pp : Fn Try.prog 66 [stA ex L, .agg (ac8 x.a x.b x.n (bsV x.code) (psV x.store))] [] (resS (putS L x)) [] := pt x.store (by omega) hxs
  obtain ⟨r, hr⟩ : ∃ r, putS L x = r := ⟨_, rfl⟩
  rw [hr] at pp
  refine evL_to rfl (St.to.frz 1008 (pcs := x.store.flatMap Pr.pv) (by simp [hget])) ?_
  simp only [St.frz, AV.frzL, AV.frz, frzH, flat_length pr_len, if_true, eq_self, ↓reduceIte, Nat.reduceEqDiff]
  rotate_left
  have pp : Fn Try.prog 66 [stA ex L, .agg (ac8 x.a x.b x.n (bsV x.code) (psV x.store))] [] (resS (putS L x)) [] := pt x.store (by omega) hxs
  obtain ⟨r, hr⟩ : ∃ r, putS L x = r := ⟨_, rfl⟩
  rw [hr] at pp
  refine evL_to rfl (St.to.frz 1008 (pcs := x.store.flatMap Pr.pv) (by simp [hget])) ?_
  simp only [St.frz, AV.frzL, AV.frz, frzH, flat_length pr_len, if_true, eq_self, ↓reduceIte, Nat.reduceEqDiff]
  rotate_left
  have el : ((x.store.take p ++ (⟨k, v⟩ : Pr) :: x.store.drop (p + 1)).flatMap Pr.pv).length = (x.store.length) * 8 := by rw [flat_length pr_len]; simp only [List.length_append, List.length_cons, List.length_take, List.length_drop]; omega
  have en : x.store.length = (x.store.take p ++ (⟨k, v⟩ : Pr) :: x.store.drop (p + 1)).length := by simp only [List.length_append, List.length_cons, List.length_take, List.length_drop]; omega
  have pp : Fn Try.prog 66 [stA ex L, .agg (ac8 x.a x.b x.n (bsV x.code) (.sl false 8 (x.store.length) ((x.store.take p ++ (⟨k, v⟩ : Pr) :: x.store.drop (p + 1)).flatMap Pr.pv)))] [] (resS (putS L { x with store := x.store.take p ++ (⟨k, v⟩ : Pr) :: x.store.drop (p + 1) })) [] := by
    rw [en]; exact pt _ (by rw [← en]; omega) fun q hq => by simp only [List.mem_append, List.mem_cons] at hq; rcases hq with h | h <;> first | exact hxs q (List.mem_of_mem_take h) | exact hxs q (List.mem_of_mem_drop h) | (rcases h with rfl | h; exact ⟨hk, hv⟩; exact hxs q (List.mem_of_mem_drop h))
  obtain ⟨r, hr⟩ : ∃ r, putS L { x with store := x.store.take p ++ (⟨k, v⟩ : Pr) :: x.store.drop (p + 1) } = r := ⟨_, rfl⟩
  rw [hr] at pp
  refine evL_to rfl (St.to.frz 1008 (pcs := (x.store.take p ++ (⟨k, v⟩ : Pr) :: x.store.drop (p + 1)).flatMap Pr.pv) (by simp [hget, raP])) ?_
  simp only [St.frz, AV.frzL, AV.frz, frzH, el, if_true, eq_self, ↓reduceIte, Nat.reduceEqDiff]
  rotate_left
  have el : ((x.store.take p ++ (⟨k, v⟩ : Pr) :: x.store.drop (p + 1)).flatMap Pr.pv).length = (x.store.length) * 8 := by rw [flat_length pr_len]; simp only [List.length_append, List.length_cons, List.length_take, List.length_drop]; omega
  have en : x.store.length = (x.store.take p ++ (⟨k, v⟩ : Pr) :: x.store.drop (p + 1)).length := by simp only [List.length_append, List.length_cons, List.length_take, List.length_drop]; omega
  have pp : Fn Try.prog 66 [stA ex L, .agg (ac8 x.a x.b x.n (bsV x.code) (.sl false 8 (x.store.length) ((x.store.take p ++ (⟨k, v⟩ : Pr) :: x.store.drop (p + 1)).flatMap Pr.pv)))] [] (resS (putS L { x with store := x.store.take p ++ (⟨k, v⟩ : Pr) :: x.store.drop (p + 1) })) [] := by
    rw [en]; exact pt _ (by rw [← en]; omega) fun q hq => by simp only [List.mem_append, List.mem_cons] at hq; rcases hq with h | h <;> first | exact hxs q (List.mem_of_mem_take h) | exact hxs q (List.mem_of_mem_drop h) | (rcases h with rfl | h; exact ⟨hk, hv⟩; exact hxs q (List.mem_of_mem_drop h))
  obtain ⟨r, hr⟩ : ∃ r, putS L { x with store := x.store.take p ++ (⟨k, v⟩ : Pr) :: x.store.drop (p + 1) } = r := ⟨_, rfl⟩
  rw [hr] at pp
  refine evL_to rfl (St.to.frz 1008 (pcs := (x.store.take p ++ (⟨k, v⟩ : Pr) :: x.store.drop (p + 1)).flatMap Pr.pv) (by simp [hget, raP])) ?_
  simp only [St.frz, AV.frzL, AV.frz, frzH, el, if_true, eq_self, ↓reduceIte, Nat.reduceEqDiff]
  rotate_left
  have el : ((x.store.take p ++ x.store.drop (p + 1)).flatMap Pr.pv).length = (x.store.length - 1) * 8 := by rw [flat_length pr_len]; simp only [List.length_append, List.length_cons, List.length_take, List.length_drop]; omega
  have en : x.store.length - 1 = (x.store.take p ++ x.store.drop (p + 1)).length := by simp only [List.length_append, List.length_cons, List.length_take, List.length_drop]; omega
  have pp : Fn Try.prog 66 [stA ex L, .agg (ac8 x.a x.b x.n (bsV x.code) (.sl false 8 (x.store.length - 1) ((x.store.take p ++ x.store.drop (p + 1)).flatMap Pr.pv)))] [] (resS (putS L { x with store := x.store.take p ++ x.store.drop (p + 1) })) [] := by
    rw [en]; exact pt _ (by rw [← en]; omega) fun q hq => by simp only [List.mem_append, List.mem_cons] at hq; rcases hq with h | h <;> first | exact hxs q (List.mem_of_mem_take h) | exact hxs q (List.mem_of_mem_drop h) | (rcases h with rfl | h; exact ⟨hk, hv⟩; exact hxs q (List.mem_of_mem_drop h))
  obtain ⟨r, hr⟩ : ∃ r, putS L { x with store := x.store.take p ++ x.store.drop (p + 1) } = r := ⟨_, rfl⟩
  rw [hr] at pp
  refine evL_to rfl (St.to.frz 1008 (pcs := (x.store.take p ++ x.store.drop (p + 1)).flatMap Pr.pv) (by simp [hget, raP])) ?_
  simp only [St.frz, AV.frzL, AV.frz, frzH, el, if_true, eq_self, ↓reduceIte, Nat.reduceEqDiff]
  rotate_left
  have el : ((x.store.take p ++ x.store.drop (p + 1)).flatMap Pr.pv).length = (x.store.length - 1) * 8 := by rw [flat_length pr_len]; simp only [List.length_append, List.length_cons, List.length_take, List.length_drop]; omega
  have en : x.store.length - 1 = (x.store.take p ++ x.store.drop (p + 1)).length := by simp only [List.length_append, List.length_cons, List.length_take, List.length_drop]; omega
  have pp : Fn Try.prog 66 [stA ex L, .agg (ac8 x.a x.b x.n (bsV x.code) (.sl false 8 (x.store.length - 1) ((x.store.take p ++ x.store.drop (p + 1)).flatMap Pr.pv)))] [] (resS (putS L { x with store := x.store.take p ++ x.store.drop (p + 1) })) [] := by
    rw [en]; exact pt _ (by rw [← en]; omega) fun q hq => by simp only [List.mem_append, List.mem_cons] at hq; rcases hq with h | h <;> first | exact hxs q (List.mem_of_mem_take h) | exact hxs q (List.mem_of_mem_drop h) | (rcases h with rfl | h; exact ⟨hk, hv⟩; exact hxs q (List.mem_of_mem_drop h))
  obtain ⟨r, hr⟩ : ∃ r, putS L { x with store := x.store.take p ++ x.store.drop (p + 1) } = r := ⟨_, rfl⟩
  rw [hr] at pp
  refine evL_to rfl (St.to.frz 1008 (pcs := (x.store.take p ++ x.store.drop (p + 1)).flatMap Pr.pv) (by simp [hget, raP])) ?_
  simp only [St.frz, AV.frzL, AV.frz, frzH, el, if_true, eq_self, ↓reduceIte, Nat.reduceEqDiff]
  rotate_left
  all_goals obtain ⟨r1, r2⟩ := r
  all_goals (repeat (any_goals (first | ((with_reducible refine evL_call ?_ ?_ ?_); rfl; rfl; intro K hK; ((apply opA_callB (pp); rfl; rfl; rfl; rfl; exact Try.func66); kernel_rfl; rfl; (simp only [go_sem]; rfl); (first | rfl | simp [AV.inNL, AV.inN])); (simp only [go_sem]; refine hK _ ?_; clear hK K)) | ((with_reducible refine evL_one ?_ ?_); rfl; intro K hK; simp only [go_sem]; ((repeat (refine ndI (by first | assumption | omega | rfl) ?_)); refine hK _ ?_; clear hK K)) | (with_reducible first | (refine evL_nil ?_; refine hR _ ?_; clear hR R) | ((first | refine evC_seq ?_ | refine evC_block ?_); intro Ψ hΨ hΨ') | (refine evC_region ?_; intro R hR) | (refine hΨ _ ?_; clear hΨ hΨ' Ψ) | refine evC_skip ?_ | refine evC_ret ?_ | refine evC_exit ?_) | ((with_reducible refine hΨ' _ _ ?_ ?_); (focus (simp; done)); clear hΨ hΨ' Ψ) | ((with_reducible apply evL_unmet); rfl; rfl; rfl; (try simp only [go_sem])) | ((with_reducible apply evL_grd); rfl; rfl; rfl; all_goals (intro hb; first | (cases hb; done) | ((try simp only [Bool.not_true, Bool.not_false] at hb); (first | ((with_reducible intro K hK); simp only [go_sem]; ((repeat (refine ndI (by first | assumption | omega | rfl) ?_)); refine hK _ ?_; clear hK K)) | ((fail_if_success (with_reducible intro _)); simp only [go_sem]))))) | ((with_reducible apply evC_cond); rfl; rfl; all_goals (intro hc; first | (cases hc; done) | (try simp only at hc))))))
  all_goals (refine ⟨by simp, ⟨_, ?_, AV.le_refl _⟩, leH_get (by simp [leH, hget])⟩; simp only [Try.results67, resL, ldA, oneOf, go_sem])
  all_goals first | rfl | (simp only [Bool.and_true, Bool.and_false, Bool.not_true, Bool.not_false, Bool.true_and, Bool.false_and, Bool.false_eq_true, if_true, if_false, hr]; done) | (simp only [Bool.and_true, Bool.and_false, Bool.not_true, Bool.not_false, Bool.true_and, Bool.false_and, Bool.false_eq_true, if_true, if_false, hr]; rfl)
theorem okS_all {q : Bool} {L : List Ac} : ∀ {i : Nat}, okS q L i = true → ∀ j, j < i → okS1 L j = true
  | 0, _, j, hj => by omega
  | i + 1, h, j, hj => by
    unfold okS at h
    rw [Bool.and_eq_true] at h
    by_cases e : j = i
    · rw [e]; exact h.2
    · exact okS_all h.1 j (by omega)
theorem okSt_ac {L : List Ac} (h : okSt L = true) : ∀ y ∈ L, okAc y = true := fun y hy => by
  obtain ⟨j, hj⟩ := List.mem_iff_getElem?.1 hy
  have := okS_all h j (List.getElem?_eq_some_iff.1 hj).1
  unfold okS1 at this
  rw [hj] at this
  simp only [Bool.and_eq_true] at this
  exact this.1.1
theorem okAc_store {x : Ac} (h : okAc x = true) : x.store.length ≤ 24 := by
  unfold okAc at h
  simp only [Bool.and_eq_true, decide_eq_true_eq] at h
  exact h.1.2
theorem ofS_store {L : List Ac} (h : okSt L = true) (a : Int) : (ofS L a).store.length ≤ 24 := by
  unfold ofS
  split
  · cases hx : L[posS L a]? with
    | none => exact Nat.zero_le _
    | some x => exact okAc_store (okSt_ac h x (List.mem_of_getElem? hx))
  · exact Nat.zero_le _
def saveS (L : List Ac) (a : Int) (k v : Nat) : List Ac × Int := withS L a (saveR L (ofS L a) k v)
theorem withSave_fn (ex : Bool) (L : List Ac) (hL : Okl L) (a : Int) (ha : U a) (k v : Nat) (hk : k < WW) (hv : v < WW) :
    Fn Try.prog 61 [stA ex L, vi .u64 a, .fn 67 [.ep (Pr.pv ⟨k, v⟩), .ep [.sl ex 8 L.length (L.flatMap Ac.pv)]]] [] (resS (saveS L a k v)) [] := by
  have ck := checkS_fn ex L (by have := hL.1; omega) (okl_fine hL)
  have of := of_all ex L hL a
  unfold saveS withS
  have D := fun h => save1_fn ex L hL (ofS L a) (okx_of hL ha) (ofS_store (L := L) h a) k v hk hv
  generalize okSt L = q at ck D ⊢
  generalize saveR L (ofS L a) k v = r at D ⊢
  generalize ofS L a = x at of D
  unfold Pr.pv at D ⊢
  dsimp only at D ⊢
  obtain ⟨R, e⟩ := r
  cases q with
  | false =>
    simp only [Bool.false_eq_true, if_false] at ck
    (refine fn_of Try.func61 rfl (by rfl) ?_; simp only [Try.ntmps61, List.length_cons, List.length_nil, Nat.reduceAdd, Nat.reduceSub, List.replicate, List.cons_append, List.nil_append])
    (repeat (any_goals (first | ((with_reducible refine evL_call ?_ ?_ ?_); rfl; rfl; intro K hK; ((apply opA_callB (ck); rfl; rfl; rfl; rfl; exact Try.func17); kernel_rfl; rfl; (simp only [go_sem]; rfl); (first | rfl | simp [AV.inNL, AV.inN])); (simp only [go_sem]; refine hK _ ?_; clear hK K)) | ((with_reducible refine evL_one ?_ ?_); rfl; intro K hK; simp only [go_sem]; ((repeat (refine ndI (by first | assumption | omega | rfl) ?_)); refine hK _ ?_; clear hK K)) | (with_reducible first | (refine evL_nil ?_; refine hR _ ?_; clear hR R) | ((first | refine evC_seq ?_ | refine evC_block ?_); intro Ψ hΨ hΨ') | (refine evC_region ?_; intro R hR) | (refine hΨ _ ?_; clear hΨ hΨ' Ψ) | refine evC_skip ?_ | refine evC_ret ?_ | refine evC_exit ?_) | ((with_reducible refine hΨ' _ _ ?_ ?_); (focus (simp; done)); clear hΨ hΨ' Ψ) | ((with_reducible apply evC_cond); rfl; rfl; all_goals (intro hc; first | (cases hc; done) | (try simp only at hc))))))
    exact ⟨by simp, ⟨_, rfl, nilRes _⟩, leH_get (by simp [leH, hget])⟩
  | true =>
    replace D := D rfl
    simp only [if_true] at ck
    by_cases h : a = 0
    · subst h
      (refine fn_of Try.func61 rfl (by rfl) ?_; simp only [Try.ntmps61, List.length_cons, List.length_nil, Nat.reduceAdd, Nat.reduceSub, List.replicate, List.cons_append, List.nil_append])
      (repeat (any_goals (first | ((with_reducible refine evL_call ?_ ?_ ?_); rfl; rfl; intro K hK; ((apply opA_callB (ck); rfl; rfl; rfl; rfl; exact Try.func17); kernel_rfl; rfl; (simp only [go_sem]; rfl); (first | rfl | simp [AV.inNL, AV.inN])); (simp only [go_sem]; refine hK _ ?_; clear hK K)) | ((with_reducible refine evL_one ?_ ?_); rfl; intro K hK; simp only [go_sem]; ((repeat (refine ndI (by first | assumption | omega | rfl) ?_)); refine hK _ ?_; clear hK K)) | (with_reducible first | (refine evL_nil ?_; refine hR _ ?_; clear hR R) | ((first | refine evC_seq ?_ | refine evC_block ?_); intro Ψ hΨ hΨ') | (refine evC_region ?_; intro R hR) | (refine hΨ _ ?_; clear hΨ hΨ' Ψ) | refine evC_skip ?_ | refine evC_ret ?_ | refine evC_exit ?_) | ((with_reducible refine hΨ' _ _ ?_ ?_); (focus (simp; done)); clear hΨ hΨ' Ψ) | ((with_reducible apply evC_cond); rfl; rfl; all_goals (intro hc; first | (cases hc; done) | (try simp only at hc))))))
      exact ⟨by simp, ⟨_, rfl, nilRes _⟩, leH_get (by simp [leH, hget])⟩
    · have ha : (a == 0) = false := by simpa using h
      rw [if_neg h]
      (refine fn_of Try.func61 rfl (by rfl) ?_; simp only [Try.ntmps61, List.length_cons, List.length_nil, Nat.reduceAdd, Nat.reduceSub, List.replicate, List.cons_append, List.nil_append])
      (repeat (any_goals (first | ((with_reducible refine evL_call ?_ ?_ ?_); rfl; rfl; intro K hK; (first | ((apply opA_callB (ck); rfl; rfl; rfl; rfl; exact Try.func17); kernel_rfl; rfl; (simp only [go_sem, ha, refsL_map]; rfl); (first | rfl | simp [AV.inNL, AV.inN])) | (apply opA_callR (of) (fun r => r); rfl; rfl; rfl; rfl; exact Try.func49; kernel_rfl; rfl; rfl; (intro r hr q hq h; simp only [List.map_cons, List.map_nil, List.cons_append, List.nil_append, List.mem_cons, List.not_mem_nil, or_false] at hr hq; (try dsimp only at h); first | omega | (rcases hr with rfl | rfl | rfl <;> rcases hq with rfl | rfl | rfl <;> simp at h ⊢) | (rcases hr with rfl | rfl <;> rcases hq with rfl | rfl <;> simp at h ⊢) | ((repeat' split at h) <;> omega)); (simp only [argsOk, argOk, AV.ren, AV.renL, renL_map, List.mem_cons, List.not_mem_nil, forall_eq_or_imp, forall_eq, newOk, List.contains_cons, List.contains_nil, AV.refsL, AV.refs, refsL_map, AV.inN, AV.inNL, inH, inNL_map, go_sem, ha, refsL_map])) | (apply opA_callR (D) (fun r => r - 1000); rfl; rfl; rfl; rfl; exact Try.func67; kernel_rfl; rfl; rfl; (intro r hr q hq h; simp only [List.map_cons, List.map_nil, List.cons_append, List.nil_append, List.mem_cons, List.not_mem_nil, or_false] at hr hq; (try dsimp only at h); first | omega | (rcases hr with rfl | rfl | rfl <;> rcases hq with rfl | rfl | rfl <;> simp at h ⊢) | (rcases hr with rfl | rfl <;> rcases hq with rfl | rfl <;> simp at h ⊢) | ((repeat' split at h) <;> omega)); (simp only [argsOk, argOk, AV.ren, AV.renL, renL_map, List.mem_cons, List.not_mem_nil, forall_eq_or_imp, forall_eq, newOk, List.contains_cons, List.contains_nil, AV.refsL, AV.refs, refsL_map, AV.inN, AV.inNL, inH, inNL_map, go_sem, ha, refsL_map]))); (simp only [hputs, hdels, renH, AV.ren, AV.renL, renL_map, go_sem, ha, refsL_map]; refine hK _ ?_; clear hK K)) | ((with_reducible refine evL_one ?_ ?_); rfl; intro K hK; simp only [go_sem, ha, refsL_map]; ((repeat (refine ndI (by first | assumption | omega | rfl) ?_)); refine hK _ ?_; clear hK K)) | (with_reducible first | (refine evL_nil ?_; refine hR _ ?_; clear hR R) | ((first | refine evC_seq ?_ | refine evC_block ?_); intro Ψ hΨ hΨ') | (refine evC_region ?_; intro R hR) | (refine hΨ _ ?_; clear hΨ hΨ' Ψ) | refine evC_skip ?_ | refine evC_ret ?_ | refine evC_exit ?_) | ((with_reducible refine hΨ' _ _ ?_ ?_); (focus (simp; done)); clear hΨ hΨ' Ψ) | ((with_reducible apply evC_cond); rfl; rfl; all_goals (intro hc; first | (cases hc; done) | (try simp only at hc))))))
      all_goals (refine ⟨by simp, ⟨_, ?_, AV.le_refl _⟩, leH_get (by simp [leH, hget])⟩; simp only [Try.results61, resL, ldA, oneOf, go_sem])
theorem save_fn (ex : Bool) (L : List Ac) (hL : Okl L) (a : Int) (ha : U a) (k v : Nat) (hk : k < WW) (hv : v < WW) : Fn Try.prog 37 [stA ex L, vi .u64 a, prA ⟨k, v⟩] [] (resS (saveS L a k v)) [] := by
  have w2 := withSave_fn ex L hL a ha k v hk hv
  generalize saveS L a k v = r at w2 ⊢
  obtain ⟨R, e⟩ := r
  unfold Pr.pv at w2
  dsimp only at w2 ⊢
  (refine fn_of Try.func37 rfl (by rfl) ?_; simp only [Try.ntmps37, List.length_cons, List.length_nil, Nat.reduceAdd, Nat.reduceSub, List.replicate, List.cons_append, List.nil_append])
  (repeat (any_goals (first | ((with_reducible refine evL_one ?_ ?_); rfl; intro K hK; simp only [go_sem]; ((repeat (refine ndI (by first | assumption | omega | rfl) ?_)); refine hK _ ?_; clear hK K)) | (with_reducible first | (refine evL_nil ?_; refine hR _ ?_; clear hR R) | ((first | refine evC_seq ?_ | refine evC_block ?_); intro Ψ hΨ hΨ') | (refine evC_region ?_; intro R hR) | (refine hΨ _ ?_; clear hΨ hΨ' Ψ) | refine evC_skip ?_ | refine evC_ret ?_ | refine evC_exit ?_) | ((with_reducible refine hΨ' _ _ ?_ ?_); (focus (simp; done)); clear hΨ hΨ' Ψ) | ((with_reducible apply evC_cond); rfl; rfl; all_goals (intro hc; first | (cases hc; done) | (try simp only at hc))))))
  refine evL_to rfl (St.to.frz 3 (pcs := [.sl ex 8 L.length (L.flatMap Ac.pv)]) (by simp [hget])) ?_
  simp only [St.frz, AV.frzL, AV.frz, frzH, if_true, eq_self, ↓reduceIte, Nat.reduceEqDiff, List.length_cons, List.length_nil, List.drop, Nat.reduceAdd, Nat.reduceLT]
  refine evL_to rfl (St.to.frz 5 (pcs := [.v (.int .u64 (l0 k)), .v (.int .u64 (l1 k)), .v (.int .u64 (l2 k)), .v (.int .u64 (l3 k)), .v (.int .u64 (l0 v)), .v (.int .u64 (l1 v)), .v (.int .u64 (l2 v)), .v (.int .u64 (l3 v))]) (by simp [hget])) ?_
  simp only [St.frz, AV.frzL, AV.frz, frzH, if_true, eq_self, ↓reduceIte, Nat.reduceEqDiff, List.length_cons, List.length_nil, List.drop, Nat.reduceAdd, Nat.reduceLT]
  (repeat (any_goals (first | ((with_reducible refine evL_call ?_ ?_ ?_); rfl; rfl; intro K hK; ((apply opA_callB (w2); rfl; rfl; rfl; rfl; exact Try.func61); kernel_rfl; rfl; (simp only [go_sem]; rfl); (first | rfl | simp [AV.inNL, AV.inN])); (simp only [go_sem]; refine hK _ ?_; clear hK K)) | ((with_reducible refine evL_one ?_ ?_); rfl; intro K hK; simp only [go_sem]; ((repeat (refine ndI (by first | assumption | omega | rfl) ?_)); refine hK _ ?_; clear hK K)) | (with_reducible first | (refine evL_nil ?_; refine hR _ ?_; clear hR R) | ((first | refine evC_seq ?_ | refine evC_block ?_); intro Ψ hΨ hΨ') | (refine evC_region ?_; intro R hR) | (refine hΨ _ ?_; clear hΨ hΨ' Ψ) | refine evC_skip ?_ | refine evC_ret ?_ | refine evC_exit ?_) | ((with_reducible refine hΨ' _ _ ?_ ?_); (focus (simp; done)); clear hΨ hΨ' Ψ) | ((with_reducible apply evC_cond); rfl; rfl; all_goals (intro hc; first | (cases hc; done) | (try simp only at hc))))))
  all_goals (refine ⟨by simp, ⟨_, ?_, AV.le_refl _⟩, leH_get (by simp [leH, hget])⟩; simp only [Try.results37, resL, ldA, oneOf, go_sem])
def totalS (L : List Ac) : Nat := if okSt L then (L.map Ac.b).sum % WW else 0
theorem totalS_fn (ex : Bool) (L : List Ac) (hL : Okl L) : Fn Try.prog 20 [stA ex L] [] (wN (totalS L)) [] := by
  have ck := checkS_fn ex L (by have := hL.1; omega) (okl_fine hL)
  have tn := total_nil ex L (by have := hL.1; omega) fun y hy => (hL.2 y hy).1.2.1
  unfold totalS
  generalize okSt L = q at ck ⊢
  generalize (L.map Ac.b).sum % WW = m at tn ⊢
  generalize decide (WW ≤ (L.map Ac.b).sum) = q2 at tn
  cases q
  all_goals simp only [Bool.false_eq_true, if_true, if_false] at ck ⊢
  all_goals (refine fn_of Try.func20 rfl (by rfl) ?_; simp only [Try.ntmps20, List.length_cons, List.length_nil, Nat.reduceAdd, Nat.reduceSub, List.replicate, List.cons_append, List.nil_append])
  all_goals (repeat (any_goals (first | ((with_reducible refine evL_call ?_ ?_ ?_); rfl; rfl; intro K hK; ((first | (apply opA_callB (ck); rfl; rfl; rfl; rfl; exact Try.func17) | (apply opA_callB (tn); rfl; rfl; rfl; rfl; exact Try.func46)); kernel_rfl; rfl; (simp only [go_sem]; rfl); (first | rfl | simp [AV.inNL, AV.inN])); (simp only [go_sem]; refine hK _ ?_; clear hK K)) | ((with_reducible refine evL_one ?_ ?_); rfl; intro K hK; simp only [go_sem]; ((repeat (refine ndI (by first | assumption | omega | rfl) ?_)); refine hK _ ?_; clear hK K)) | (with_reducible first | (refine evL_nil ?_; refine hR _ ?_; clear hR R) | ((first | refine evC_seq ?_ | refine evC_block ?_); intro Ψ hΨ hΨ') | (refine evC_region ?_; intro R hR) | (refine hΨ _ ?_; clear hΨ hΨ' Ψ) | refine evC_skip ?_ | refine evC_ret ?_ | refine evC_exit ?_) | ((with_reducible refine hΨ' _ _ ?_ ?_); (focus (simp; done)); clear hΨ hΨ' Ψ) | ((with_reducible apply evC_cond); rfl; rfl; all_goals (intro hc; first | (cases hc; done) | (try simp only at hc))))))
  all_goals (refine ⟨by simp, ⟨_, ?_, AV.le_refl _⟩, leH_get (by simp [leH, hget])⟩; simp only [Try.results20, resL, ldA, oneOf, go_sem])
  all_goals simp only [wN, l0_zero, l1_zero, l2_zero, l3_zero]
def OfS (L : List Ac) (a : Int) : Ac := if okSt L then ofS L a else ⟨a, 0, 0, [], []⟩
theorem OfS_fn (ex : Bool) (L : List Ac) (hL : Okl L) (a : Int) : Fn Try.prog 19 [stA ex L, vi .u64 a] [] (acA (OfS L a)) [] := by
  have ck := checkS_fn ex L (by have := hL.1; omega) (okl_fine hL)
  have of := of_fn ex L (by have := hL.1; omega) (fun y hy => ⟨(hL.2 y hy).2.1, (hL.2 y hy).2.2⟩) a
  unfold OfS
  generalize ofS L a = x at of ⊢
  generalize okSt L = q at ck ⊢
  cases q
  · simp only [Bool.false_eq_true, if_false] at ck ⊢
    have z := AV.le_agg (a := [vi .u64 a, vi .u64 0, vi .u64 0, vi .u64 0, vi .u64 0, vi .u64 0, .c (.v (.slice none 0 0)), .c (.v (.slice none 0 0))]) (b := ac8 a 0 0 (bsV []) (psV [])) ⟨AV.le_refl _, AV.le_of (by rw [l0_zero]), AV.le_of (by rw [l1_zero]), AV.le_of (by rw [l2_zero]), AV.le_of (by rw [l3_zero]), AV.le_refl _, AV.le_nil _ _, AV.le_nil _ _, trivial⟩
    have k : Fn Try.prog 19 [stA ex L, vi .u64 a] [] (.agg [vi .u64 a, vi .u64 0, vi .u64 0, vi .u64 0, vi .u64 0, vi .u64 0, .c (.v (.slice none 0 0)), .c (.v (.slice none 0 0))]) [] := by
      (refine fn_of Try.func19 rfl (by rfl) ?_; simp only [Try.ntmps19, List.length_cons, List.length_nil, Nat.reduceAdd, Nat.reduceSub, List.replicate, List.cons_append, List.nil_append])
      (repeat (any_goals (first | ((with_reducible refine evL_call ?_ ?_ ?_); rfl; rfl; intro K hK; ((apply opA_callB (ck); rfl; rfl; rfl; rfl; exact Try.func17); kernel_rfl; rfl; (simp only [go_sem]; rfl); (first | rfl | simp [AV.inNL, AV.inN])); (simp only [go_sem]; refine hK _ ?_; clear hK K)) | ((with_reducible refine evL_one ?_ ?_); rfl; intro K hK; simp only [go_sem]; ((repeat (refine ndI (by first | assumption | omega | rfl) ?_)); refine hK _ ?_; clear hK K)) | (with_reducible first | (refine evL_nil ?_; refine hR _ ?_; clear hR R) | ((first | refine evC_seq ?_ | refine evC_block ?_); intro Ψ hΨ hΨ') | (refine evC_region ?_; intro R hR) | (refine hΨ _ ?_; clear hΨ hΨ' Ψ) | refine evC_skip ?_ | refine evC_ret ?_ | refine evC_exit ?_) | ((with_reducible refine hΨ' _ _ ?_ ?_); (focus (simp; done)); clear hΨ hΨ' Ψ) | ((with_reducible apply evC_cond); rfl; rfl; all_goals (intro hc; first | (cases hc; done) | (try simp only at hc))))))
      all_goals (refine ⟨by simp, ⟨_, ?_, AV.le_refl _⟩, leH_get (by simp [leH, hget])⟩; simp only [Try.results19, resL, ldA, oneOf, go_sem])
    exact k.weaken z fun r cs h => by cases h
  · simp only [if_true] at ck ⊢
    (refine fn_of Try.func19 rfl (by rfl) ?_; simp only [Try.ntmps19, List.length_cons, List.length_nil, Nat.reduceAdd, Nat.reduceSub, List.replicate, List.cons_append, List.nil_append])
    (repeat (any_goals (first | ((with_reducible refine evL_call ?_ ?_ ?_); rfl; rfl; intro K hK; ((first | (apply opA_callB (ck); rfl; rfl; rfl; rfl; exact Try.func17) | (apply opA_callB (of); rfl; rfl; rfl; rfl; exact Try.func49)); kernel_rfl; rfl; (simp only [go_sem]; rfl); (first | rfl | simp [AV.inNL, AV.inN])); (simp only [go_sem]; refine hK _ ?_; clear hK K)) | ((with_reducible refine evL_one ?_ ?_); rfl; intro K hK; simp only [go_sem]; ((repeat (refine ndI (by first | assumption | omega | rfl) ?_)); refine hK _ ?_; clear hK K)) | (with_reducible first | (refine evL_nil ?_; refine hR _ ?_; clear hR R) | ((first | refine evC_seq ?_ | refine evC_block ?_); intro Ψ hΨ hΨ') | (refine evC_region ?_; intro R hR) | (refine hΨ _ ?_; clear hΨ hΨ' Ψ) | refine evC_skip ?_ | refine evC_ret ?_ | refine evC_exit ?_) | ((with_reducible refine hΨ' _ _ ?_ ?_); (focus (simp; done)); clear hΨ hΨ' Ψ) | ((with_reducible apply evC_cond); rfl; rfl; all_goals (intro hc; first | (cases hc; done) | (try simp only at hc))))))
    all_goals (refine ⟨by simp, ⟨_, ?_, AV.le_refl _⟩, leH_get (by simp [leH, hget])⟩; simp only [Try.results19, resL, ldA, oneOf, go_sem])
def loadX (x : Ac) (k : Nat) : Nat := if eqP x.store k (bsr (ltP x.store k) x.store.length 0 x.store.length) then ((x.store[bsr (ltP x.store k) x.store.length 0 x.store.length]?).map Pr.v).getD 0 else 0
theorem OfS_store (L : List Ac) (a : Int) : (OfS L a).store.length ≤ 24 := by
  unfold OfS
  split
  · exact ofS_store (by assumption) a
  · exact Nat.zero_le _
theorem OfS_ok {L : List Ac} (hL : Okl L) {a : Int} (ha : U a) : Okx (OfS L a) := by
  unfold OfS
  split
  · exact okx_of hL ha
  · exact okx_zero ha
theorem load_fn (ex : Bool) (L : List Ac) (hL : Okl L) (a : Int) (ha : U a) (k : Nat) (hk : k < WW) : Fn Try.prog 21 [stA ex L, vi .u64 a, wN k] [] (wN (loadX (OfS L a) k)) [] := by
  have of := OfS_fn ex L hL a
  have hs := OfS_store L a
  have ho := (OfS_ok hL ha).1.2.2.2.2.2
  generalize OfS L a = x at of hs ho ⊢
  have sl := slot_fn x (by omega) ho k hk
  unfold loadX
  have hqp : eqP x.store k (bsr (ltP x.store k) x.store.length 0 x.store.length) = true → ∃ y, x.store[bsr (ltP x.store k) x.store.length 0 x.store.length]? = some y := fun h => by
    unfold eqP at h
    cases hz : x.store[bsr (ltP x.store k) x.store.length 0 x.store.length]? with
    | none => rw [hz] at h; cases h
    | some z => exact ⟨z, rfl⟩
  generalize bsr (ltP x.store k) x.store.length 0 x.store.length = p at sl hqp ⊢
  generalize eqP x.store k p = q at sl hqp ⊢
  cases q with
  | false =>
    simp only [Bool.false_eq_true, if_false]
    (refine fn_of Try.func21 rfl (by rfl) ?_; simp only [Try.ntmps21, List.length_cons, List.length_nil, Nat.reduceAdd, Nat.reduceSub, List.replicate, List.cons_append, List.nil_append])
    (repeat (any_goals (first | ((with_reducible refine evL_call ?_ ?_ ?_); rfl; rfl; intro K hK; ((first | (apply opA_callB (of); rfl; rfl; rfl; rfl; exact Try.func19) | (apply opA_callB (sl); rfl; rfl; rfl; rfl; exact Try.func50)); kernel_rfl; rfl; (simp only [go_sem]; rfl); (first | rfl | simp [AV.inNL, AV.inN])); (simp only [go_sem]; refine hK _ ?_; clear hK K)) | ((with_reducible refine evL_one ?_ ?_); rfl; intro K hK; simp only [go_sem]; ((repeat (refine ndI (by first | assumption | omega | rfl) ?_)); refine hK _ ?_; clear hK K)) | (with_reducible first | (refine evL_nil ?_; refine hR _ ?_; clear hR R) | ((first | refine evC_seq ?_ | refine evC_block ?_); intro Ψ hΨ hΨ') | (refine evC_region ?_; intro R hR) | (refine hΨ _ ?_; clear hΨ hΨ' Ψ) | refine evC_skip ?_ | refine evC_ret ?_ | refine evC_exit ?_) | ((with_reducible refine hΨ' _ _ ?_ ?_); (focus (simp; done)); clear hΨ hΨ' Ψ) | ((with_reducible apply evC_cond); rfl; rfl; all_goals (intro hc; first | (cases hc; done) | (try simp only at hc))))))
    all_goals (refine ⟨by simp, ⟨_, ?_, AV.le_refl _⟩, leH_get (by simp [leH, hget])⟩; simp only [Try.results21, resL, ldA, oneOf, go_sem])
    all_goals simp only [wN, l0_zero, l1_zero, l2_zero, l3_zero]
  | true =>
    obtain ⟨y, hy⟩ := hqp rfl
    have hlt := (List.getElem?_eq_some_iff.1 hy).1
    have k2 := ps_at hy
    simp only [if_true, hy, Option.map_some, Option.getD_some]
    (refine fn_of Try.func21 rfl (by rfl) ?_; simp only [Try.ntmps21, List.length_cons, List.length_nil, Nat.reduceAdd, Nat.reduceSub, List.replicate, List.cons_append, List.nil_append])
    (repeat (any_goals (first | ((with_reducible refine evL_call ?_ ?_ ?_); rfl; rfl; intro K hK; ((first | (apply opA_callB (of); rfl; rfl; rfl; rfl; exact Try.func19) | (apply opA_callB (sl); rfl; rfl; rfl; rfl; exact Try.func50)); kernel_rfl; rfl; (simp (disch := omega) only [go_sem, k2]; rfl); (first | rfl | simp [AV.inNL, AV.inN])); (simp (disch := omega) only [go_sem, k2]; refine hK _ ?_; clear hK K)) | ((with_reducible refine evL_one ?_ ?_); rfl; intro K hK; simp (disch := omega) only [go_sem, k2]; ((repeat (refine ndI (by first | assumption | omega | rfl) ?_)); refine hK _ ?_; clear hK K)) | (with_reducible first | (refine evL_nil ?_; refine hR _ ?_; clear hR R) | ((first | refine evC_seq ?_ | refine evC_block ?_); intro Ψ hΨ hΨ') | (refine evC_region ?_; intro R hR) | (refine hΨ _ ?_; clear hΨ hΨ' Ψ) | refine evC_skip ?_ | refine evC_ret ?_ | refine evC_exit ?_) | ((with_reducible refine hΨ' _ _ ?_ ?_); (focus (simp; done)); clear hΨ hΨ' Ψ) | ((with_reducible apply evC_cond); rfl; rfl; all_goals (intro hc; first | (cases hc; done) | (try simp only at hc))))))
    all_goals (refine ⟨by simp, ⟨_, ?_, AV.le_refl _⟩, leH_get (by simp [leH, hget])⟩; simp only [Try.results21, resL, ldA, oneOf, go_sem])
end Go.Proofs.Ytiggambibcohcaa

