/-
  What an address has; whether there is room; reckoned.
-/
import Derived.Test.YtiggambibcohcaaSk
namespace Go.Proofs.Ytiggambibcohcaa
open Go.RowKit
open Nat (reduceBEq)
set_option linter.unusedVariables false
set_option linter.unusedSimpArgs false
set_option maxRecDepth 20000
set_option maxHeartbeats 2000000
def posS (L : List Ac) (a : Int) : Nat := bsr (ltA L a) L.length 0 L.length
def isS (L : List Ac) (a : Int) : Bool := eqA L a (posS L a)
theorem isS_at {L : List Ac} {a : Int} (h : isS L a = true) : ∃ x, L[posS L a]? = some x ∧ x.a = a := by
  unfold isS eqA at h
  cases hx : L[posS L a]? with
  | none => rw [hx] at h; cases h
  | some x =>
    rw [hx] at h
    refine ⟨x, rfl, ?_⟩
    simp only [cmpI, beq_iff_eq] at h
    split at h
    · cases h
    · split at h
      · cases h
      · omega
def ofS (L : List Ac) (a : Int) : Ac := if isS L a then (L[posS L a]?).getD ⟨a, 0, 0, [], []⟩ else ⟨a, 0, 0, [], []⟩
def roomS (L : List Ac) (a : Int) : Bool := decide (a ≠ 0) && (isS L a || (decide (a < 16) || decide (manyL L < 24)))
theorem posS_fn (ex : Bool) (L : List Ac) (hl : L.length ≤ 900) (a : Int) : Fn Try.prog 79 [stA ex L, vi .u64 a] [] (.tup [vi .i64 (posS L a : Nat), vb (isS L a)]) [] := place_fn ex L hl a
abbrev acR (x : Ac) (r s : Nat) : AV := .agg [vi .u64 x.a, vi .u64 (l0 x.b), vi .u64 (l1 x.b), vi .u64 (l2 x.b), vi .u64 (l3 x.b), vi .u64 x.n, .row r 5 1 x.code.length, .row s 42 8 x.store.length]
theorem of_row (ex : Bool) (L : List Ac) (hl : L.length ≤ 900) (ok : ∀ x ∈ L, x.code.length ≤ 1000000 ∧ x.store.length ≤ 1000000) (a : Int) (h : isS L a = true) : Fn Try.prog 49 [stA ex L, vi .u64 a] [] (acR (ofS L a) 5 8) [(5, rcB (ofS L a).code), (8, rcP (ofS L a).store)] := by
  have pl := posS_fn ex L hl a
  obtain ⟨x, hx, rfl⟩ := isS_at h
  have hof : ofS L x.a = x := by unfold ofS; rw [if_pos h, hx]; rfl
  rw [hof]
  rw [h] at pl
  generalize posS L x.a = p at pl hx
  have hp := (List.getElem?_eq_some_iff.1 hx).1
  have k2 := ac_at hx
  obtain ⟨g1, g2⟩ := ok x (List.mem_of_getElem? hx)
  have cp := copied_row x g1 g2
  unfold rcB rcP at cp ⊢
  (refine fn_of Try.func49 rfl (by rfl) ?_; simp only [Try.ntmps49, List.length_cons, List.length_nil, Nat.reduceAdd, Nat.reduceSub, List.replicate, List.cons_append, List.nil_append])
  (repeat (any_goals (first | ((with_reducible refine evL_call ?_ ?_ ?_); rfl; rfl; intro K hK; (first | ((apply opA_callB (pl); rfl; rfl; rfl; rfl; exact Try.func79); kernel_rfl; rfl; (simp (disch := omega) only [go_sem, k2, refsL_map]; rfl); (first | rfl | simp [AV.inNL, AV.inN])) | (apply opA_callR (cp) (fun r => r); rfl; rfl; rfl; rfl; exact Try.func80; kernel_rfl; rfl; rfl; (intro r hr q hq h; simp (disch := omega) only [List.map_cons, List.map_nil, List.cons_append, List.nil_append, List.mem_cons, List.not_mem_nil, or_false] at hr hq; (try dsimp only at h); first | omega | (rcases hr with rfl | rfl | rfl <;> rcases hq with rfl | rfl | rfl <;> simp at h ⊢) | (rcases hr with rfl | rfl <;> rcases hq with rfl | rfl <;> simp at h ⊢) | ((repeat' split at h) <;> omega)); (simp (disch := omega) only [argsOk, argOk, AV.ren, AV.renL, renL_map, List.mem_cons, List.not_mem_nil, forall_eq_or_imp, forall_eq, newOk, List.contains_cons, List.contains_nil, AV.refsL, AV.refs, refsL_map, AV.inN, AV.inNL, inH, inNL_map, go_sem, k2, refsL_map]))); (simp (disch := omega) only [hputs, hdels, renH, AV.ren, AV.renL, renL_map, go_sem, k2, refsL_map]; refine hK _ ?_; clear hK K)) | ((with_reducible refine evL_one ?_ ?_); rfl; intro K hK; simp (disch := omega) only [go_sem, k2, refsL_map]; ((repeat (refine ndI (by first | assumption | omega | rfl) ?_)); refine hK _ ?_; clear hK K)) | (with_reducible first | (refine evL_nil ?_; refine hR _ ?_; clear hR R) | ((first | refine evC_seq ?_ | refine evC_block ?_); intro Ψ hΨ hΨ') | (refine evC_region ?_; intro R hR) | (refine hΨ _ ?_; clear hΨ hΨ' Ψ) | refine evC_skip ?_ | refine evC_ret ?_ | refine evC_exit ?_) | ((with_reducible refine hΨ' _ _ ?_ ?_); (focus (simp; done)); clear hΨ hΨ' Ψ) | ((with_reducible apply evC_cond); rfl; rfl; all_goals (intro hc; first | (cases hc; done) | (try simp only at hc))))))
  all_goals (refine ⟨by simp, ⟨_, ?_, AV.le_refl _⟩, leH_get (by simp [leH, hget])⟩; simp only [Try.results49, resL, ldA, oneOf, go_sem])
theorem of_nil (ex : Bool) (L : List Ac) (hl : L.length ≤ 900) (a : Int) (h : isS L a = false) : Fn Try.prog 49 [stA ex L, vi .u64 a] [] (.agg [vi .u64 a, vi .u64 0, vi .u64 0, vi .u64 0, vi .u64 0, vi .u64 0, .c (.v (.slice none 0 0)), .c (.v (.slice none 0 0))]) [] := by
  have pl := posS_fn ex L hl a
  rw [h] at pl
  generalize posS L a = p at pl
  (refine fn_of Try.func49 rfl (by rfl) ?_; simp only [Try.ntmps49, List.length_cons, List.length_nil, Nat.reduceAdd, Nat.reduceSub, List.replicate, List.cons_append, List.nil_append])
  (repeat (any_goals (first | ((with_reducible refine evL_call ?_ ?_ ?_); rfl; rfl; intro K hK; ((apply opA_callB (pl); rfl; rfl; rfl; rfl; exact Try.func79); kernel_rfl; rfl; (simp only [go_sem]; rfl); (first | rfl | simp [AV.inNL, AV.inN])); (simp only [go_sem]; refine hK _ ?_; clear hK K)) | ((with_reducible refine evL_one ?_ ?_); rfl; intro K hK; simp only [go_sem]; ((repeat (refine ndI (by first | assumption | omega | rfl) ?_)); refine hK _ ?_; clear hK K)) | (with_reducible first | (refine evL_nil ?_; refine hR _ ?_; clear hR R) | ((first | refine evC_seq ?_ | refine evC_block ?_); intro Ψ hΨ hΨ') | (refine evC_region ?_; intro R hR) | (refine hΨ _ ?_; clear hΨ hΨ' Ψ) | refine evC_skip ?_ | refine evC_ret ?_ | refine evC_exit ?_) | ((with_reducible refine hΨ' _ _ ?_ ?_); (focus (simp; done)); clear hΨ hΨ' Ψ) | ((with_reducible apply evC_cond); rfl; rfl; all_goals (intro hc; first | (cases hc; done) | (try simp only at hc))))))
  all_goals (refine ⟨by simp, ⟨_, ?_, AV.le_refl _⟩, leH_get (by simp [leH, hget])⟩; simp only [Try.results49, resL, ldA, oneOf, go_sem])
theorem of_none (ex : Bool) (L : List Ac) (hl : L.length ≤ 900) (a : Int) (h : isS L a = false) : Fn Try.prog 49 [stA ex L, vi .u64 a] [] (acA (ofS L a)) [] := by
  have hof : ofS L a = ⟨a, 0, 0, [], []⟩ := by unfold ofS; rw [h]; rfl
  rw [hof]
  have z := AV.le_agg (a := [vi .u64 a, vi .u64 0, vi .u64 0, vi .u64 0, vi .u64 0, vi .u64 0, .c (.v (.slice none 0 0)), .c (.v (.slice none 0 0))]) (b := ac8 a 0 0 (bsV []) (psV [])) ⟨AV.le_refl _, AV.le_of (by rw [l0_zero]), AV.le_of (by rw [l1_zero]), AV.le_of (by rw [l2_zero]), AV.le_of (by rw [l3_zero]), AV.le_refl _, AV.le_nil _ _, AV.le_nil _ _, trivial⟩
  exact (of_nil ex L hl a h).weaken z fun r cs h => by cases h
theorem of_fn (ex : Bool) (L : List Ac) (hl : L.length ≤ 900) (ok : ∀ x ∈ L, x.code.length ≤ 1000000 ∧ x.store.length ≤ 1000000) (a : Int) : Fn Try.prog 49 [stA ex L, vi .u64 a] [] (acA (ofS L a)) [] := by
  cases h : isS L a with
  | false => exact of_none ex L hl a h
  | true =>
    have k := of_row ex L hl ok a h
    generalize ofS L a = x at k ⊢
    have k1 := k.frzN (d := 5) (pcs := x.code.flatMap bpv) rfl
    have k2 := k1.frzN (d := 8) (pcs := x.store.flatMap Pr.pv) (by simp [frzH, hget_cons, rcP, rcB])
    have e1 : (x.code.flatMap bpv).length = x.code.length * 1 := flat_length bpv_len _
    have e2 : (x.store.flatMap Pr.pv).length = x.store.length * 8 := flat_length pr_len _
    simpa [-List.length_flatMap, e1, e2, ac8, AV.frz, AV.frzL, frzH, acA, vi, bsV, psV] using k2
theorem room_fn (ex : Bool) (L : List Ac) (hl : L.length ≤ 900) (a : Int) : Fn Try.prog 60 [stA ex L, vi .u64 a] [] (vb (roomS L a)) [] := by
  have pl := posS_fn ex L hl a
  have mn := many_fn ex L (Nat.le_trans hl (by decide))
  unfold roomS
  obtain ⟨q1, e1⟩ : ∃ p, decide (a ≠ 0) = p := ⟨_, rfl⟩
  obtain ⟨q2, e2⟩ : ∃ p, isS L a = p := ⟨_, rfl⟩
  obtain ⟨q3, e3⟩ : ∃ p, decide (a < 16) = p := ⟨_, rfl⟩
  obtain ⟨q4, e4⟩ : ∃ p, decide (manyL L < 24) = p := ⟨_, rfl⟩
  have f1 : (a != 0) = q1 := by rw [← e1]; by_cases h : a = 0 <;> simp [h]
  have f4 : decide ((((L.filter fun x => decide (16 ≤ x.a)).length : Nat) : Int) < 24) = q4 := by
    rw [← e4]; exact decide_eq_decide.2 (by unfold manyL; omega)
  rw [e2] at pl
  rw [e1, e2, e3, e4]
  generalize posS L a = p at pl
  clear e1 e2 e4
  cases q1 <;> cases q2 <;> cases q3 <;> cases q4
  all_goals (refine fn_of Try.func60 rfl (by rfl) ?_; simp only [Try.ntmps60, List.length_cons, List.length_nil, Nat.reduceAdd, Nat.reduceSub, List.replicate, List.cons_append, List.nil_append])
  all_goals (have W := ndI f1 (ndI e3 f4); (repeat (any_goals (first | ((with_reducible refine evL_call ?_ ?_ ?_); rfl; rfl; intro K hK; ((apply opA_callB (pl); rfl; rfl; rfl; rfl; exact Try.func79); kernel_rfl; rfl; (simp only [go_sem, W]; rfl); (first | rfl | simp [AV.inNL, AV.inN])); (simp only [go_sem, W]; refine hK _ ?_; clear hK K)) | ((with_reducible refine evL_one ?_ ?_); rfl; intro K hK; simp only [go_sem, W]; ((repeat (refine ndI (by first | assumption | omega | rfl) ?_)); refine hK _ ?_; clear hK K)) | (with_reducible first | (refine evL_nil ?_; refine hR _ ?_; clear hR R) | ((first | refine evC_seq ?_ | refine evC_block ?_); intro Ψ hΨ hΨ') | (refine evC_region ?_; intro R hR) | (refine hΨ _ ?_; clear hΨ hΨ' Ψ) | refine evC_skip ?_ | refine evC_ret ?_ | refine evC_exit ?_) | ((with_reducible refine hΨ' _ _ ?_ ?_); (focus (simp; done)); clear hΨ hΨ' Ψ) | ((with_reducible apply evL_unmet); rfl; rfl; rfl; (try simp only [go_sem, W])) | ((with_reducible apply evL_grd); rfl; rfl; rfl; all_goals (intro hb; first | (cases hb; done) | ((try simp only [Bool.not_true, Bool.not_false] at hb); (first | ((with_reducible intro K hK); (first | ((apply opA_callB (mn); rfl; rfl; rfl; rfl; exact Try.func47); kernel_rfl; rfl; (simp only [go_sem, W]; rfl); (first | rfl | simp [AV.inNL, AV.inN])) | skip); simp only [go_sem, W]; ((repeat (refine ndI (by first | assumption | omega | rfl) ?_)); refine hK _ ?_; clear hK K)) | ((fail_if_success (with_reducible intro _)); simp only [go_sem, W]))))) | ((with_reducible apply evC_cond); rfl; rfl; all_goals (intro hc; first | (cases hc; done) | (try simp only at hc)))))))
  all_goals (refine ⟨by simp, ⟨_, ?_, AV.le_refl _⟩, leH_get (by simp [leH, hget])⟩; simp only [Try.results60, resL, ldA, oneOf, go_sem])
  all_goals rfl
def laysL (L : List Ac) (x : Ac) : List Ac := if isS L x.a then (if emptyA x then L.take (posS L x.a) ++ L.drop (posS L x.a + 1) else L.take (posS L x.a) ++ x :: L.drop (posS L x.a + 1)) else if emptyA x then L else L.take (posS L x.a) ++ x :: L.drop (posS L x.a)
theorem raS_split {L : List Ac} {i : Nat} {y : Ac} (h : L[i]? = some y) : raS L = raS (L.take i) ++ (y.pv.map .c ++ raS (L.drop (i + 1))) := by
  obtain ⟨hlt, rfl⟩ := List.getElem?_eq_some_iff.1 h
  conv => lhs; rw [← List.take_append_drop i L, List.drop_eq_getElem_cons hlt]
  unfold raS
  rw [List.flatMap_append, List.map_append, List.flatMap_cons, List.map_append]
theorem raS_at {L : List Ac} {i : Nat} {y : Ac} (h : L[i]? = some y) : ((raS L).drop (i * 8)).take 8 = y.pv.map .c := by
  have hlt := (List.getElem?_eq_some_iff.1 h).1
  have e : (raS (L.take i)).length = i * 8 := by rw [raS_len, List.length_take, Nat.min_eq_left (by omega)]
  rw [raS_split h, ← e, List.drop_left, List.take_left' (by rfl)]
theorem spl_set {L : List Ac} {i : Nat} {y x : Ac} (h : L[i]? = some y) : spl (raS L) (i * 8) (x.pv.map .c) = raS (L.take i ++ x :: L.drop (i + 1)) := by
  have hlt := (List.getElem?_eq_some_iff.1 h).1
  have e : (raS (L.take i)).length = i * 8 := by rw [raS_len, List.length_take, Nat.min_eq_left (by omega)]
  rw [raS_split h, spl_mid (raS (L.take i)) (y.pv.map .c) (raS (L.drop (i + 1))) (x.pv.map .c) (i * 8) e rfl]
  unfold raS
  rw [List.flatMap_append, List.map_append, List.flatMap_cons, List.map_append]
theorem spl_same {L : List Ac} {i : Nat} {y : Ac} (h : L[i]? = some y) : spl (raS L) (i * 8) (y.pv.map .c) = raS L := by
  rw [spl_set h]
  obtain ⟨hlt, rfl⟩ := List.getElem?_eq_some_iff.1 h
  rw [← List.drop_eq_getElem_cons hlt, List.take_append_drop]
theorem lays_row (ex : Bool) (L : List Ac) (hl : L.length ≤ 900) (ok : ∀ x ∈ L, x.code.length ≤ 1000000 ∧ x.store.length ≤ 1000000) (x : Ac) (hx : x.b < WW ∧ x.code.length ≤ 1000000 ∧ x.store.length ≤ 1000000) : ∃ d, Fn Try.prog 64 [stA ex L, acA x] [] (.agg [.row d 31 8 (laysL L x).length]) [(d, raS (laysL L x))] := by
  have pl := posS_fn ex L hl x.a
  have em := empty_fn x hx.1 (Nat.le_trans hx.2.2 (by decide)) (Nat.le_trans hx.2.1 (by decide)) (Nat.le_trans (Nat.add_le_add hx.2.1 hx.2.2) (by decide))
  have cx := copied_fn x hx.2.1 hx.2.2
  have cl : Fn Try.prog 83 [acS ex L] [] (.row 7 31 8 L.length) [(7, raS L)] := cloneA_fn ex L (by omega)
  have kr : ∀ d, AV.refsL d (raS L) = false := fun d => refsL_map d (L.flatMap Ac.pv)
  unfold laysL
  have hp := fun h => isS_at (L := L) (a := x.a) h
  generalize isS L x.a = q1 at pl hp ⊢
  have hple : posS L x.a ≤ L.length := bsr_le _ _ _ _ (Nat.zero_le _)
  generalize posS L x.a = p at pl hp hple ⊢
  generalize emptyA x = q2 at em ⊢
  have de : q1 = true → Fn Try.prog 84 [.row 1000 31 8 L.length, vi .i64 p, vi .i64 (p + 1 : Nat)] [(1000, raS L)] (.row 1000 31 8 (L.length - 1)) [(1000, raS (L.take p ++ L.drop (p + 1)))] := fun h => deleteS_fn L p (by obtain ⟨z, hz, _⟩ := hp h; exact (List.getElem?_eq_some_iff.1 hz).1) (by omega)
  have ins := insertS_fn L x p hple (by omega)
  have kx : raS [x] = ac8 x.a x.b x.n (bsV x.code) (psV x.store) := rfl
  have k4 := raS_len L
  have k9 : (p : Int) + 1 = ((p + 1 : Nat) : Int) := by omega
  have hpl : q1 = true → p < L.length := fun h => by obtain ⟨z, hz, _⟩ := hp h; exact (List.getElem?_eq_some_iff.1 hz).1
  have ks : q1 = true → List.take (p * 8) (raS L) ++ ac8 x.a x.b x.n (bsV x.code) (psV x.store) ++ List.drop (p * 8 + 8) (raS L) = raS (L.take p ++ x :: L.drop (p + 1)) := fun h => by obtain ⟨z, hz, _⟩ := hp h; exact spl_set hz
  clear hp
  rw [kx] at ins
  obtain ⟨b6, hb6⟩ : ∃ b6 : AV, b6 = vb q1 := ⟨_, rfl⟩
  refine ⟨if q1 then 18 else if q2 then 18 else 60, ?_⟩
  cases q1 <;> cases q2
  all_goals simp only [Bool.false_eq_true, if_true, if_false]
  all_goals (refine fn_of Try.func64 rfl (by rfl) ?_; simp only [Try.ntmps64, List.length_cons, List.length_nil, Nat.reduceAdd, Nat.reduceSub, List.replicate, List.cons_append, List.nil_append])
  all_goals (repeat (any_goals (first | ((with_reducible refine evL_call ?_ ?_ ?_); rfl; rfl; intro K hK; (first | ((apply opA_callB (pl); rfl; rfl; rfl; rfl; exact Try.func79); kernel_rfl; rfl; (simp only [go_sem, kr]; rfl); (first | rfl | simp [AV.inNL, AV.inN])) | (apply opA_callR (cl) (fun r => 18); rfl; rfl; rfl; rfl; exact Try.func83; kernel_rfl; rfl; rfl; (intro r hr q hq h; simp only [List.map_cons, List.map_nil, List.cons_append, List.nil_append, List.mem_cons, List.not_mem_nil, or_false] at hr hq; (try dsimp only at h); first | omega | (rcases hr with rfl | rfl | rfl <;> rcases hq with rfl | rfl | rfl <;> simp at h ⊢) | (rcases hr with rfl | rfl <;> rcases hq with rfl | rfl <;> simp at h ⊢) | ((repeat' split at h) <;> omega)); (simp only [argsOk, argOk, AV.ren, AV.renL, renL_map, List.mem_cons, List.not_mem_nil, forall_eq_or_imp, forall_eq, newOk, List.contains_cons, List.contains_nil, AV.refsL, AV.refs, refsL_map, AV.inN, AV.inNL, inH, inNL_map, go_sem, kr]))); (simp only [hputs, hdels, renH, AV.ren, AV.renL, renL_map, go_sem, kr]; refine hK _ ?_; clear hK K)) | ((with_reducible refine evL_one ?_ ?_); rfl; intro K hK; simp only [go_sem, kr]; ((repeat (refine ndI (by first | assumption | omega | rfl) ?_)); refine hK _ ?_; clear hK K)) | (with_reducible first | (refine evL_nil ?_; refine hR _ ?_; clear hR R) | ((first | refine evC_seq ?_ | refine evC_block ?_); intro Ψ hΨ hΨ') | (refine evC_region ?_; intro R hR) | (refine hΨ _ ?_; clear hΨ hΨ' Ψ) | refine evC_skip ?_ | refine evC_ret ?_ | refine evC_exit ?_) | ((with_reducible refine hΨ' _ _ ?_ ?_); (focus (simp; done)); clear hΨ hΨ' Ψ) | ((with_reducible apply evL_unmet); rfl; rfl; rfl; (try simp only [go_sem, kr])) | ((with_reducible apply evL_grd); rfl; rfl; rfl; all_goals (intro hb; first | (cases hb; done) | ((try simp only [Bool.not_true, Bool.not_false] at hb); (first | ((with_reducible intro K hK); simp only [go_sem, kr]; ((repeat (refine ndI (by first | assumption | omega | rfl) ?_)); refine hK _ ?_; clear hK K)) | ((fail_if_success (with_reducible intro _)); simp only [go_sem, kr]))))) | ((with_reducible apply evC_cond); rfl; rfl; all_goals (intro hc; first | (cases hc; done) | (try simp only at hc))))))
  all_goals refine evC_upto L.length (fun i => ⟨[.any, .any, .any, .ptr 3 0, .ptr 4 0, vi .i64 p, b6, .row 18 31 8 L.length, .any, .any, .any, .any, .any, .any, .any, .any, .any, .any, .any, .any, vi .i64 L.length, vi .i64 (i : Int), .any, .any, .any, .any, .any, .any, .any, .any, .any, .any, .any, .any, .any, .any, .any, .any, .any, .any, .any, .any, .any, .any, .any, .any, .any, .any, .any, .any, .any, .any, .any, .any, .any, .any, .any, .any, .any, .any, .any, .any, .any], [(3, ac8 x.a x.b x.n (bsV x.code) (psV x.store)), (4, [.c (.v (.slice none 0 0))]), (18, raS L)]⟩) (St.le_of (by simp [leT, hb6]) (by simp [leH, hget])) ?_
  all_goals intro i hi Ψ hΨ hΨ'
  all_goals (try dsimp only at hΨ ⊢)
  all_goals rcases Nat.lt_or_ge i L.length with hlt | hge
  all_goals first
    | (have hy0 := hlt
       obtain ⟨y, hy⟩ : ∃ y, L[i]? = some y := ⟨_, List.getElem?_eq_getElem hy0⟩
       have k1 : (decide ((i : Int) < (L.length : Int))) = true := decide_eq_true (by omega)
       have k2 := raS_at hy
       have k3 : List.take (i * 8) (raS L) ++ ac8 y.a y.b y.n (bsV y.code) (psV y.store) ++ List.drop (i * 8 + 8) (raS L) = raS L := spl_same hy
       have g := ok y (List.mem_of_getElem? hy)
       have cy := copied_fn y g.1 g.2
       simp only [Ac.pv, List.map_cons, List.map_nil] at k2)
    | (have k1 : (decide ((i : Int) < (L.length : Int))) = false := decide_eq_false (by omega)
       have k2 := True.intro
       have cy := True.intro)
  all_goals have k7 : (i : Int) + 1 = ((i + 1 : Nat) : Int) := by omega
  all_goals first
    | ((have hlt2 := hlt); (have W := ndI k1 (ndI k2 (ndI k4 (ndI k7 @wrI))); (repeat (any_goals (first | ((with_reducible refine evL_call ?_ ?_ ?_); rfl; rfl; intro K hK; ((apply opA_callB (cy); rfl; rfl; rfl; rfl; exact Try.func80); kernel_rfl; rfl; (simp (disch := omega) only [go_sem, W, kr]; rfl); (first | rfl | simp [AV.inNL, AV.inN])); (simp (disch := omega) only [go_sem, W, kr]; refine hK _ ?_; clear hK K)) | ((with_reducible refine evL_one ?_ ?_); rfl; intro K hK; simp (disch := omega) only [go_sem, W, kr]; ((repeat (refine ndI (by first | assumption | omega | rfl) ?_)); refine hK _ ?_; clear hK K)) | (with_reducible first | (refine evL_nil ?_; refine hR _ ?_; clear hR R) | ((first | refine evC_seq ?_ | refine evC_block ?_); intro Ψ hΨ hΨ') | (refine evC_region ?_; intro R hR) | (refine hΨ _ ?_; clear hΨ hΨ' Ψ) | refine evC_skip ?_ | refine evC_ret ?_ | refine evC_exit ?_) | ((with_reducible refine hΨ' _ _ ?_ ?_); (focus (simp; done)); clear hΨ hΨ' Ψ) | ((with_reducible apply evL_unmet); rfl; rfl; rfl; (try simp (disch := omega) only [go_sem, W, kr])) | ((with_reducible apply evL_grd); rfl; rfl; rfl; all_goals (intro hb; first | (cases hb; done) | ((try simp only [Bool.not_true, Bool.not_false] at hb); (first | ((with_reducible intro K hK); simp (disch := omega) only [go_sem, W, kr]; ((repeat (refine ndI (by first | assumption | omega | rfl) ?_)); refine hK _ ?_; clear hK K)) | ((fail_if_success (with_reducible intro _)); simp (disch := omega) only [go_sem, W, kr]))))) | ((with_reducible apply evC_cond); rfl; rfl; all_goals (intro hc; first | (cases hc; done) | (try simp only at hc))))))); (rw [k3]); exact hΨ _ hlt (St.le_of (by simp [leT]) (by simp [leH, hget])))
    | ((have hge2 := hge); (repeat (any_goals (first | ((with_reducible refine evL_call ?_ ?_ ?_); rfl; rfl; intro K hK; ((apply opA_callB (em); rfl; rfl; rfl; rfl; exact Try.func48); kernel_rfl; rfl; (simp only [go_sem, k1, kr, hb6]; rfl); (first | rfl | simp [AV.inNL, AV.inN])); (simp only [go_sem, k1, kr, hb6]; refine hK _ ?_; clear hK K)) | ((with_reducible refine evL_one ?_ ?_); rfl; intro K hK; simp only [go_sem, k1, kr, hb6]; ((repeat (refine ndI (by first | assumption | omega | rfl) ?_)); refine hK _ ?_; clear hK K)) | (with_reducible first | (refine evL_nil ?_; refine hR _ ?_; clear hR R) | ((first | refine evC_seq ?_ | refine evC_block ?_); intro Ψ hΨ hΨ') | (refine evC_region ?_; intro R hR) | (refine hΨ _ ?_; clear hΨ hΨ' Ψ) | refine evC_skip ?_ | refine evC_ret ?_ | refine evC_exit ?_) | ((with_reducible refine hΨ' _ _ ?_ ?_); (focus (simp; done)); clear hΨ hΨ' Ψ) | ((with_reducible apply evL_unmet); rfl; rfl; rfl; (try simp only [go_sem, k1, kr, hb6])) | ((with_reducible apply evL_grd); rfl; rfl; rfl; all_goals (intro hb; first | (cases hb; done) | ((try simp only [Bool.not_true, Bool.not_false] at hb); (first | ((with_reducible intro K hK); (first | ((apply opA_callB (em); rfl; rfl; rfl; rfl; exact Try.func48); kernel_rfl; rfl; (simp only [go_sem, k1, kr, hb6]; rfl); (first | rfl | simp [AV.inNL, AV.inN])) | skip); simp only [go_sem, k1, kr, hb6]; ((repeat (refine ndI (by first | assumption | omega | rfl) ?_)); refine hK _ ?_; clear hK K)) | ((fail_if_success (with_reducible intro _)); simp only [go_sem, k1, kr, hb6]))))) | ((with_reducible apply evC_cond); rfl; rfl; all_goals (intro hc; first | (cases hc; done) | (try simp only at hc)))))))
  · (have W := ndI k4 (ndI k9 @refsL_map); (repeat (any_goals (first | ((with_reducible refine evL_call ?_ ?_ ?_); rfl; rfl; intro K hK; (first | ((first | (apply opA_callB (em); rfl; rfl; rfl; rfl; exact Try.func48) | (apply opA_callB (cx); rfl; rfl; rfl; rfl; exact Try.func80)); kernel_rfl; rfl; (simp (disch := omega) only [go_sem, W, kr]; rfl); (first | rfl | simp [AV.inNL, AV.inN])) | (apply opA_callR (ins) (fun r => if r = 1000 then 18 else if r = 1001 then 59 else 60); rfl; rfl; rfl; rfl; exact Try.func85; kernel_rfl; rfl; rfl; (intro r hr q hq h; simp (disch := omega) only [List.map_cons, List.map_nil, List.cons_append, List.nil_append, List.mem_cons, List.not_mem_nil, or_false] at hr hq; (try dsimp only at h); first | omega | (rcases hr with rfl | rfl | rfl <;> rcases hq with rfl | rfl | rfl <;> simp at h ⊢) | (rcases hr with rfl | rfl <;> rcases hq with rfl | rfl <;> simp at h ⊢) | ((repeat' split at h) <;> omega)); (simp (disch := omega) only [argsOk, argOk, AV.ren, AV.renL, renL_map, List.mem_cons, List.not_mem_nil, forall_eq_or_imp, forall_eq, newOk, List.contains_cons, List.contains_nil, AV.refsL, AV.refs, refsL_map, AV.inN, AV.inNL, inH, inNL_map, go_sem, W, kr]))); (simp (disch := omega) only [hputs, hdels, renH, AV.ren, AV.renL, renL_map, go_sem, W, kr]; refine hK _ ?_; clear hK K)) | ((with_reducible refine evL_one ?_ ?_); rfl; intro K hK; simp (disch := omega) only [go_sem, W, kr]; ((repeat (refine ndI (by first | assumption | omega | rfl) ?_)); refine hK _ ?_; clear hK K)) | (with_reducible first | (refine evL_nil ?_; refine hR _ ?_; clear hR R) | ((first | refine evC_seq ?_ | refine evC_block ?_); intro Ψ hΨ hΨ') | (refine evC_region ?_; intro R hR) | (refine hΨ _ ?_; clear hΨ hΨ' Ψ) | refine evC_skip ?_ | refine evC_ret ?_ | refine evC_exit ?_) | ((with_reducible refine hΨ' _ _ ?_ ?_); (focus (simp; done)); clear hΨ hΨ' Ψ) | ((with_reducible apply evL_unmet); rfl; rfl; rfl; (try simp (disch := omega) only [go_sem, W, kr])) | ((with_reducible apply evL_grd); rfl; rfl; rfl; all_goals (intro hb; first | (cases hb; done) | ((try simp only [Bool.not_true, Bool.not_false] at hb); (first | ((with_reducible intro K hK); simp (disch := omega) only [go_sem, W, kr]; ((repeat (refine ndI (by first | assumption | omega | rfl) ?_)); refine hK _ ?_; clear hK K)) | ((fail_if_success (with_reducible intro _)); simp (disch := omega) only [go_sem, W, kr]))))) | ((with_reducible apply evC_cond); rfl; rfl; all_goals (intro hc; first | (cases hc; done) | (try simp only at hc)))))))
    have e : L.length + 1 = (L.take p ++ x :: L.drop p).length := by rw [List.length_append, List.length_cons, List.length_take, List.length_drop]; omega
    rw [e]
    exact ⟨by simp, ⟨_, rfl, AV.le_refl _⟩, leH_get (by simp [leH, hget, raS])⟩
  · (repeat (any_goals (first | ((with_reducible refine evL_call ?_ ?_ ?_); rfl; rfl; intro K hK; ((apply opA_callB (em); rfl; rfl; rfl; rfl; exact Try.func48); kernel_rfl; rfl; (simp only [go_sem, kr]; rfl); (first | rfl | simp [AV.inNL, AV.inN])); (simp only [go_sem, kr]; refine hK _ ?_; clear hK K)) | ((with_reducible refine evL_one ?_ ?_); rfl; intro K hK; simp only [go_sem, kr]; ((repeat (refine ndI (by first | assumption | omega | rfl) ?_)); refine hK _ ?_; clear hK K)) | (with_reducible first | (refine evL_nil ?_; refine hR _ ?_; clear hR R) | ((first | refine evC_seq ?_ | refine evC_block ?_); intro Ψ hΨ hΨ') | (refine evC_region ?_; intro R hR) | (refine hΨ _ ?_; clear hΨ hΨ' Ψ) | refine evC_skip ?_ | refine evC_ret ?_ | refine evC_exit ?_) | ((with_reducible refine hΨ' _ _ ?_ ?_); (focus (simp; done)); clear hΨ hΨ' Ψ) | ((with_reducible apply evL_unmet); rfl; rfl; rfl; (try simp only [go_sem, kr])) | ((with_reducible apply evL_grd); rfl; rfl; rfl; all_goals (intro hb; first | (cases hb; done) | ((try simp only [Bool.not_true, Bool.not_false] at hb); (first | ((with_reducible intro K hK); simp only [go_sem, kr]; ((repeat (refine ndI (by first | assumption | omega | rfl) ?_)); refine hK _ ?_; clear hK K)) | ((fail_if_success (with_reducible intro _)); simp only [go_sem, kr]))))) | ((with_reducible apply evC_cond); rfl; rfl; all_goals (intro hc; first | (cases hc; done) | (try simp only at hc))))))
    (refine ⟨by simp, ⟨_, ?_, AV.le_refl _⟩, leH_get (by simp [leH, hget])⟩; simp only [Try.results64, resL, ldA, oneOf, go_sem])
  · have hpp := hpl rfl
    (repeat (any_goals (first | ((with_reducible refine evL_call ?_ ?_ ?_); rfl; rfl; intro K hK; ((first | (apply opA_callB (em); rfl; rfl; rfl; rfl; exact Try.func48) | (apply opA_callB (cx); rfl; rfl; rfl; rfl; exact Try.func80)); kernel_rfl; rfl; (simp (disch := omega) only [go_sem, k4, kr]; rfl); (first | rfl | simp [AV.inNL, AV.inN])); (simp (disch := omega) only [go_sem, k4, kr]; refine hK _ ?_; clear hK K)) | ((with_reducible refine evL_one ?_ ?_); rfl; intro K hK; simp (disch := omega) only [go_sem, k4, kr]; ((repeat (refine ndI (by first | assumption | omega | rfl) ?_)); refine hK _ ?_; clear hK K)) | (with_reducible first | (refine evL_nil ?_; refine hR _ ?_; clear hR R) | ((first | refine evC_seq ?_ | refine evC_block ?_); intro Ψ hΨ hΨ') | (refine evC_region ?_; intro R hR) | (refine hΨ _ ?_; clear hΨ hΨ' Ψ) | refine evC_skip ?_ | refine evC_ret ?_ | refine evC_exit ?_) | ((with_reducible refine hΨ' _ _ ?_ ?_); (focus (simp; done)); clear hΨ hΨ' Ψ) | ((with_reducible apply evL_unmet); rfl; rfl; rfl; (try simp (disch := omega) only [go_sem, k4, kr])) | ((with_reducible apply evL_grd); rfl; rfl; rfl; all_goals (intro hb; first | (cases hb; done) | ((try simp only [Bool.not_true, Bool.not_false] at hb); (first | ((with_reducible intro K hK); simp (disch := omega) only [go_sem, k4, kr]; ((repeat (refine ndI (by first | assumption | omega | rfl) ?_)); refine hK _ ?_; clear hK K)) | ((fail_if_success (with_reducible intro _)); simp (disch := omega) only [go_sem, k4, kr]))))) | ((with_reducible apply evC_cond); rfl; rfl; all_goals (intro hc; first | (cases hc; done) | (try simp only at hc))))))
    rw [ks rfl]
    have e : L.length = (L.take p ++ x :: L.drop (p + 1)).length := by rw [List.length_append, List.length_cons, List.length_take, List.length_drop]; omega
    rw [e]
    exact ⟨by simp, ⟨_, rfl, AV.le_refl _⟩, leH_get (by simp [leH, hget, raS])⟩
  · have hpp := hpl rfl
    (have W := ndI k4 (ndI k9 (ndI @refsL_map @wrI)); (repeat (any_goals (first | ((with_reducible refine evL_call ?_ ?_ ?_); rfl; rfl; intro K hK; (first | ((apply opA_callB (em); rfl; rfl; rfl; rfl; exact Try.func48); kernel_rfl; rfl; (simp (disch := omega) only [go_sem, W, kr]; rfl); (first | rfl | simp [AV.inNL, AV.inN])) | (apply opA_callR (de rfl) (fun r => 18); rfl; rfl; rfl; rfl; exact Try.func84; kernel_rfl; rfl; rfl; (intro r hr q hq h; simp (disch := omega) only [List.map_cons, List.map_nil, List.cons_append, List.nil_append, List.mem_cons, List.not_mem_nil, or_false] at hr hq; (try dsimp only at h); first | omega | (rcases hr with rfl | rfl | rfl <;> rcases hq with rfl | rfl | rfl <;> simp at h ⊢) | (rcases hr with rfl | rfl <;> rcases hq with rfl | rfl <;> simp at h ⊢) | ((repeat' split at h) <;> omega)); (simp (disch := omega) only [argsOk, argOk, AV.ren, AV.renL, renL_map, List.mem_cons, List.not_mem_nil, forall_eq_or_imp, forall_eq, newOk, List.contains_cons, List.contains_nil, AV.refsL, AV.refs, refsL_map, AV.inN, AV.inNL, inH, inNL_map, go_sem, W, kr]))); (simp (disch := omega) only [hputs, hdels, renH, AV.ren, AV.renL, renL_map, go_sem, W, kr]; refine hK _ ?_; clear hK K)) | ((with_reducible refine evL_one ?_ ?_); rfl; intro K hK; simp (disch := omega) only [go_sem, W, kr]; ((repeat (refine ndI (by first | assumption | omega | rfl) ?_)); refine hK _ ?_; clear hK K)) | (with_reducible first | (refine evL_nil ?_; refine hR _ ?_; clear hR R) | ((first | refine evC_seq ?_ | refine evC_block ?_); intro Ψ hΨ hΨ') | (refine evC_region ?_; intro R hR) | (refine hΨ _ ?_; clear hΨ hΨ' Ψ) | refine evC_skip ?_ | refine evC_ret ?_ | refine evC_exit ?_) | ((with_reducible refine hΨ' _ _ ?_ ?_); (focus (simp; done)); clear hΨ hΨ' Ψ) | ((with_reducible apply evL_unmet); rfl; rfl; rfl; (try simp (disch := omega) only [go_sem, W, kr])) | ((with_reducible apply evL_grd); rfl; rfl; rfl; all_goals (intro hb; first | (cases hb; done) | ((try simp only [Bool.not_true, Bool.not_false] at hb); (first | ((with_reducible intro K hK); simp (disch := omega) only [go_sem, W, kr]; ((repeat (refine ndI (by first | assumption | omega | rfl) ?_)); refine hK _ ?_; clear hK K)) | ((fail_if_success (with_reducible intro _)); simp (disch := omega) only [go_sem, W, kr]))))) | ((with_reducible apply evC_cond); rfl; rfl; all_goals (intro hc; first | (cases hc; done) | (try simp only at hc)))))))
    have e : L.length - 1 = (L.take p ++ L.drop (p + 1)).length := by rw [List.length_append, List.length_take, List.length_drop]; omega
    rw [e]
    exact ⟨by simp, ⟨_, rfl, AV.le_refl _⟩, leH_get (by simp [leH, hget, raS])⟩
theorem lays_fn (ex : Bool) (L : List Ac) (hl : L.length ≤ 900) (ok : ∀ x ∈ L, x.code.length ≤ 1000000 ∧ x.store.length ≤ 1000000) (x : Ac) (hx : x.b < WW ∧ x.code.length ≤ 1000000 ∧ x.store.length ≤ 1000000) : Fn Try.prog 64 [stA ex L, acA x] [] (stA false (laysL L x)) [] := by
  obtain ⟨d, k⟩ := lays_row ex L hl ok x hx
  have h := Fn.frzG k
  have e : ((laysL L x).flatMap Ac.pv).length = (laysL L x).length * 8 := flat_length ac_len _
  simpa [-List.length_flatMap, AV.frz, AV.frzL, e] using h
def Okl (L : List Ac) : Prop := L.length ≤ 800 ∧ ∀ x ∈ L, x.ok ∧ x.code.length ≤ 1000000 ∧ x.store.length ≤ 1000000
def Okx (x : Ac) : Prop := x.ok ∧ x.code.length ≤ 1000000 ∧ x.store.length ≤ 1000000
abbrev resS (r : List Ac × Int) : AV := .tup [stA false r.1, vi .i64 r.2]
def putS (L : List Ac) (x : Ac) : List Ac × Int := if !okAc x then ([], 161) else if !emptyA x && !roomS L x.a then ([], 6) else if WW ≤ ((laysL L x).map Ac.b).sum then ([], 2) else (laysL L x, 0)
def lessS (L : List Ac) (x : Ac) (n : Nat) : List Ac × Int := if x.b < n then ([], 162) else (laysL L { x with b := x.b - n }, 0)
theorem laysL_len (L : List Ac) (x : Ac) : (laysL L x).length ≤ L.length + 1 := by
  unfold laysL
  have := bsr_le (ltA L x.a) L.length 0 L.length (Nat.zero_le _)
  have hp : posS L x.a ≤ L.length := this
  split
  · split <;> (try simp only [List.length_append, List.length_cons, List.length_take, List.length_drop]) <;> omega
  · split <;> (try simp only [List.length_append, List.length_cons, List.length_take, List.length_drop]) <;> omega
theorem laysL_mem {L : List Ac} {x y : Ac} (h : y ∈ laysL L x) : y = x ∨ y ∈ L := by
  unfold laysL at h
  split at h
  · split at h
    · rcases List.mem_append.1 h with h | h
      · exact .inr (List.mem_of_mem_take h)
      · exact .inr (List.mem_of_mem_drop h)
    · rcases List.mem_append.1 h with h | h
      · exact .inr (List.mem_of_mem_take h)
      · rcases List.mem_cons.1 h with h | h
        · exact .inl h
        · exact .inr (List.mem_of_mem_drop h)
  · split at h
    · exact .inr h
    · rcases List.mem_append.1 h with h | h
      · exact .inr (List.mem_of_mem_take h)
      · rcases List.mem_cons.1 h with h | h
        · exact .inl h
        · exact .inr (List.mem_of_mem_drop h)
theorem nilRes (e : Int) : (AV.tup [.agg [.c (.v (.slice none 0 0))], vi .i64 e]).le (resS ([], e)) := AV.le_tupL ⟨AV.le_agg ⟨AV.le_nil _ _, trivial⟩, AV.le_refl _, trivial⟩
theorem less_fn (ex : Bool) (L : List Ac) (hL : Okl L) (x : Ac) (hx : Okx x) (n : Nat) (hn : n < WW) : Fn Try.prog 63 [stA ex L, acA x, wN n] [] (resS (lessS L x n)) [] := by
  obtain ⟨h1, h2⟩ := hL
  obtain ⟨⟨u1, u2, u3, u4, u5, u6⟩, g1, g2⟩ := hx
  have sb := sub_fn x.b n u2 hn
  unfold lessS
  by_cases h : x.b < n
  · rw [decide_eq_true h] at sb
    generalize (x.b + WW - n) % WW = m at sb
    rw [if_pos h]
    (refine fn_of Try.func63 rfl (by rfl) ?_; simp only [Try.ntmps63, List.length_cons, List.length_nil, Nat.reduceAdd, Nat.reduceSub, List.replicate, List.cons_append, List.nil_append])
    (repeat (any_goals (first | ((with_reducible refine evL_call ?_ ?_ ?_); rfl; rfl; intro K hK; ((apply opA_callB (sb); rfl; rfl; rfl; rfl; exact Try.func23); kernel_rfl; rfl; (simp only [go_sem]; rfl); (first | rfl | simp [AV.inNL, AV.inN])); (simp only [go_sem]; refine hK _ ?_; clear hK K)) | ((with_reducible refine evL_one ?_ ?_); rfl; intro K hK; simp only [go_sem]; ((repeat (refine ndI (by first | assumption | omega | rfl) ?_)); refine hK _ ?_; clear hK K)) | (with_reducible first | (refine evL_nil ?_; refine hR _ ?_; clear hR R) | ((first | refine evC_seq ?_ | refine evC_block ?_); intro Ψ hΨ hΨ') | (refine evC_region ?_; intro R hR) | (refine hΨ _ ?_; clear hΨ hΨ' Ψ) | refine evC_skip ?_ | refine evC_ret ?_ | refine evC_exit ?_) | ((with_reducible refine hΨ' _ _ ?_ ?_); (focus (simp; done)); clear hΨ hΨ' Ψ) | ((with_reducible apply evC_cond); rfl; rfl; all_goals (intro hc; first | (cases hc; done) | (try simp only at hc))))))
    exact ⟨by simp, ⟨_, rfl, nilRes _⟩, leH_get (by simp [leH, hget])⟩
  · rw [decide_eq_false h] at sb
    have e : (x.b + WW - n) % WW = x.b - n := by
      rw [show x.b + WW - n = (x.b - n) + WW by omega, Nat.add_mod_right, Nat.mod_eq_of_lt (by omega)]
    rw [e] at sb
    rw [if_neg h]
    have ly := lays_fn ex L (by omega) (fun y hy => ⟨(h2 y hy).2.1, (h2 y hy).2.2⟩) { x with b := x.b - n } ⟨by show x.b - n < WW; omega, g1, g2⟩
    generalize laysL L { x with b := x.b - n } = R at ly ⊢
    generalize x.b - n = m at sb ly
    (refine fn_of Try.func63 rfl (by rfl) ?_; simp only [Try.ntmps63, List.length_cons, List.length_nil, Nat.reduceAdd, Nat.reduceSub, List.replicate, List.cons_append, List.nil_append])
    (repeat (any_goals (first | ((with_reducible refine evL_call ?_ ?_ ?_); rfl; rfl; intro K hK; ((first | (apply opA_callB (sb); rfl; rfl; rfl; rfl; exact Try.func23) | (apply opA_callB (ly); rfl; rfl; rfl; rfl; exact Try.func64)); kernel_rfl; rfl; (simp only [go_sem]; rfl); (first | rfl | simp [AV.inNL, AV.inN])); (simp only [go_sem]; refine hK _ ?_; clear hK K)) | ((with_reducible refine evL_one ?_ ?_); rfl; intro K hK; simp only [go_sem]; ((repeat (refine ndI (by first | assumption | omega | rfl) ?_)); refine hK _ ?_; clear hK K)) | (with_reducible first | (refine evL_nil ?_; refine hR _ ?_; clear hR R) | ((first | refine evC_seq ?_ | refine evC_block ?_); intro Ψ hΨ hΨ') | (refine evC_region ?_; intro R hR) | (refine hΨ _ ?_; clear hΨ hΨ' Ψ) | refine evC_skip ?_ | refine evC_ret ?_ | refine evC_exit ?_) | ((with_reducible refine hΨ' _ _ ?_ ?_); (focus (simp; done)); clear hΨ hΨ' Ψ) | ((with_reducible apply evC_cond); rfl; rfl; all_goals (intro hc; first | (cases hc; done) | (try simp only at hc))))))
    all_goals (refine ⟨by simp, ⟨_, ?_, AV.le_refl _⟩, leH_get (by simp [leH, hget])⟩; simp only [Try.results63, resL, ldA, oneOf, go_sem])
theorem put_fn (ex : Bool) (L : List Ac) (hL : Okl L) (x : Ac) (hx : Okx x) : Fn Try.prog 66 [stA ex L, acA x] [] (resS (putS L x)) [] := by
  obtain ⟨h1, h2⟩ := hL
  obtain ⟨⟨u1, u2, u3, ⟨u4, u5⟩, u6, u7⟩, g1, g2⟩ := hx
  have ck := check_fn x u7 u6 u4
  have em := empty_fn x u2 u6 u4 (Nat.le_trans (Nat.add_le_add g1 g2) (by decide))
  have rm := room_fn ex L (by omega) x.a
  have ly := lays_fn ex L (by omega) (fun y hy => ⟨(h2 y hy).2.1, (h2 y hy).2.2⟩) x ⟨u2, g1, g2⟩
  have hlen := laysL_len L x
  have tn := total_nil false (laysL L x) (by omega) fun y hy => by
    rcases laysL_mem hy with rfl | h
    · exact u2
    · exact (h2 y h).1.2.1
  unfold putS
  generalize laysL L x = R at ly tn ⊢
  by_cases hq : WW ≤ (R.map Ac.b).sum
  case' pos => rw [decide_eq_true hq] at tn; rw [if_pos hq]
  case' neg => rw [decide_eq_false hq] at tn; rw [if_neg hq]
  all_goals generalize okAc x = q1 at ck ⊢
  all_goals generalize emptyA x = q2 at em ⊢
  all_goals generalize roomS L x.a = q3 at rm ⊢
  all_goals generalize (R.map Ac.b).sum % WW = m at tn
  all_goals cases q1 <;> cases q2 <;> cases q3
  all_goals simp only [Bool.false_eq_true, if_true, if_false] at ck
  all_goals (refine fn_of Try.func66 rfl (by rfl) ?_; simp only [Try.ntmps66, List.length_cons, List.length_nil, Nat.reduceAdd, Nat.reduceSub, List.replicate, List.cons_append, List.nil_append])
  all_goals (repeat (any_goals (first | ((with_reducible refine evL_call ?_ ?_ ?_); rfl; rfl; intro K hK; ((first | (apply opA_callB (ck); rfl; rfl; rfl; rfl; exact Try.func12) | (apply opA_callB (em); rfl; rfl; rfl; rfl; exact Try.func48) | (apply opA_callB (ly); rfl; rfl; rfl; rfl; exact Try.func64) | (apply opA_callB (tn); rfl; rfl; rfl; rfl; exact Try.func46)); kernel_rfl; rfl; (simp only [go_sem]; rfl); (first | rfl | simp [AV.inNL, AV.inN])); (simp only [go_sem]; refine hK _ ?_; clear hK K)) | ((with_reducible refine evL_one ?_ ?_); rfl; intro K hK; simp only [go_sem]; ((repeat (refine ndI (by first | assumption | omega | rfl) ?_)); refine hK _ ?_; clear hK K)) | (with_reducible first | (refine evL_nil ?_; refine hR _ ?_; clear hR R) | ((first | refine evC_seq ?_ | refine evC_block ?_); intro Ψ hΨ hΨ') | (refine evC_region ?_; intro R hR) | (refine hΨ _ ?_; clear hΨ hΨ' Ψ) | refine evC_skip ?_ | refine evC_ret ?_ | refine evC_exit ?_) | ((with_reducible refine hΨ' _ _ ?_ ?_); (focus (simp; done)); clear hΨ hΨ' Ψ) | ((with_reducible apply evL_unmet); rfl; rfl; rfl; (try simp only [go_sem])) | ((with_reducible apply evL_grd); rfl; rfl; rfl; all_goals (intro hb; first | (cases hb; done) | ((try simp only [Bool.not_true, Bool.not_false] at hb); (first | ((with_reducible intro K hK); (first | ((apply opA_callB (rm); rfl; rfl; rfl; rfl; exact Try.func60); kernel_rfl; rfl; (simp only [go_sem]; rfl); (first | rfl | simp [AV.inNL, AV.inN])) | skip); simp only [go_sem]; ((repeat (refine ndI (by first | assumption | omega | rfl) ?_)); refine hK _ ?_; clear hK K)) | ((fail_if_success (with_reducible intro _)); simp only [go_sem]))))) | ((with_reducible apply evC_cond); rfl; rfl; all_goals (intro hc; first | (cases hc; done) | (try simp only at hc))))))
  all_goals first
    | exact ⟨by simp, ⟨_, rfl, nilRes _⟩, leH_get (by simp [leH, hget])⟩
    | ((refine ⟨by simp, ⟨_, ?_, AV.le_refl _⟩, leH_get (by simp [leH, hget])⟩; simp only [Try.results66, resL, ldA, oneOf, go_sem]); done)
    | ((refine ⟨by simp, ⟨_, ?_, AV.le_refl _⟩, leH_get (by simp [leH, hget])⟩; simp only [Try.results66, resL, ldA, oneOf, go_sem]); rfl)
end Go.Proofs.Ytiggambibcohcaa

