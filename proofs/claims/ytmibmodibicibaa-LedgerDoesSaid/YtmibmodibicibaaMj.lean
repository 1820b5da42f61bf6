/-
  The law LedgerDoes, walked.
-/
import Derived.Test.YtmibmodibicibaaMg
import Derived.Test.YtmibmodibicibaaMi
namespace Go.Proofs.Ytmibmodibicibaa
open Go.RowKit
open Nat (reduceBEq)
set_option linter.unusedVariables false
set_option linter.unusedSimpArgs false
set_option maxRecDepth 20000
set_option maxHeartbeats 4000000
def bumpA (h : Hd) : Hd := ⟨IntKind.u64.wrap (h.a + 1), h.p, h.s, h.d, h.f⟩
theorem rcH_mid (A B : List Hd) (w : Hd) : rcH (A ++ w :: B) = rcH A ++ (vi .u64 w.a :: ([vi .u64 (l0 w.p), vi .u64 (l1 w.p), vi .u64 (l2 w.p), vi .u64 (l3 w.p), vi .u64 (l0 w.s), vi .u64 (l1 w.s), vi .u64 (l2 w.s), vi .u64 (l3 w.s), vi .u64 w.d, vi .u64 w.f] ++ rcH B)) := by simp [rcH, Hd.pv]
theorem spl_bump (A B : List Hd) (y : Hd) (z : Int) (k : Nat) (hA : A.length = k) : spl (rcH (A ++ y :: B)) (k * 11) [vi .u64 z] = rcH (A ++ ⟨z, y.p, y.s, y.d, y.f⟩ :: B) := by
  have hl := rcH_len A
  rw [hA] at hl
  rw [rcH_mid, rcH_mid]
  generalize rcH A = X at hl
  subst hA
  unfold spl
  rw [List.take_append_of_le_length (by omega), List.take_of_length_le (by omega), List.drop_append]
  simp [hl]
theorem bump_at (A B : List Hd) (y : Hd) (k : Nat) (hA : A.length = k) : (rcH (A ++ y :: B))[k * 11]? = some (vi .u64 y.a) := by
  have hl := rcH_len A
  rw [hA] at hl
  rw [rcH_mid, List.getElem?_append_right (by omega), hl, Nat.sub_self]
  rfl
theorem ledgerDoes_fn (l0' : List Hd) (hl0 : l0'.length ≤ maxLen) (ok0 : ∀ h ∈ l0', h.ok) (ds : List Dd) (hd : ∀ D ∈ ds, D.ok) : Fn Try.prog 3 [lg false l0', dsl ds] [] (vb true) [] := by
  have wk := wakes_fn
  have ov := over_fn false l0'
  by_cases h60 : decide ((l0'.length : Int) > 40) = false ∧ decide ((ds.length : Int) > 80) = false
  case neg =>
    generalize c1 : decide ((l0'.length : Int) > 40) = b1 at ov h60
    generalize c2 : decide ((ds.length : Int) > 80) = b2 at h60
    cases b1 <;> cases b2
    all_goals first | exact absurd ⟨rfl, rfl⟩ h60 | skip
    all_goals (refine fn_of Try.func3 rfl (by rfl) ?_; simp only [Try.ntmps3, List.length_cons, List.length_nil, Nat.reduceAdd, Nat.reduceSub, List.replicate, List.cons_append, List.nil_append])
    all_goals (repeat (any_goals (first | ((with_reducible refine evL_call ?_ ?_ ?_); rfl; rfl; intro K hK; ((first | (apply opA_callB (wk); rfl; rfl; rfl; rfl; exact Try.func7) | (apply opA_callB (ov); rfl; rfl; rfl; rfl; exact Try.func8)); kernel_rfl; rfl; (simp only [go_sem, c2]; rfl); (first | rfl | simp [AV.inNL, AV.inN])); (simp only [go_sem, c2]; refine hK _ ?_; clear hK K)) | ((with_reducible refine evL_one ?_ ?_); rfl; intro K hK; simp only [go_sem, c2]; ((repeat (refine ndI (by first | assumption | omega | rfl) ?_)); refine hK _ ?_; clear hK K)) | (with_reducible first | (refine evL_nil ?_; refine hR _ ?_; clear hR R) | ((first | refine evC_seq ?_ | refine evC_block ?_); intro Ψ hΨ hΨ') | (refine evC_region ?_; intro R hR) | (refine hΨ _ ?_; clear hΨ hΨ' Ψ) | refine evC_skip ?_ | refine evC_ret ?_ | refine evC_exit ?_) | ((with_reducible refine hΨ' _ _ ?_ ?_); (focus (simp; done)); clear hΨ hΨ' Ψ) | ((with_reducible apply evL_unmet); rfl; rfl; rfl; (try simp only [go_sem, c2])) | ((with_reducible apply evL_grd); rfl; rfl; rfl; all_goals (intro hb; first | (cases hb; done) | ((try simp only [Bool.not_true, Bool.not_false] at hb); (first | ((with_reducible intro K hK); simp only [go_sem, c2]; ((repeat (refine ndI (by first | assumption | omega | rfl) ?_)); refine hK _ ?_; clear hK K)) | ((fail_if_success (with_reducible intro _)); simp only [go_sem, c2]))))) | ((with_reducible apply evC_cond); rfl; rfl; all_goals (intro hc; first | (cases hc; done) | (try simp only at hc))))))
    all_goals (refine ⟨by simp, ⟨_, ?_, AV.le_refl _⟩, leH_get (by simp [leH, hget])⟩; simp only [Try.results3, resL, ldA, oneOf, go_sem])
  obtain ⟨c1, c2⟩ := h60
  rw [c1] at ov
  have hl40 : l0'.length ≤ 40 := by simp at c1; omega
  have hd80 : ds.length ≤ 80 := by simp at c2; omega
  (refine fn_of Try.func3 rfl (by rfl) ?_; simp only [Try.ntmps3, List.length_cons, List.length_nil, Nat.reduceAdd, Nat.reduceSub, List.replicate, List.cons_append, List.nil_append])
  (repeat (any_goals (first | ((with_reducible refine evL_call ?_ ?_ ?_); rfl; rfl; intro K hK; ((first | (apply opA_callB (wk); rfl; rfl; rfl; rfl; exact Try.func7) | (apply opA_callB (ov); rfl; rfl; rfl; rfl; exact Try.func8)); kernel_rfl; rfl; (simp only [go_sem, c2]; rfl); (first | rfl | simp [AV.inNL, AV.inN])); (simp only [go_sem, c2]; refine hK _ ?_; clear hK K)) | ((with_reducible refine evL_one ?_ ?_); rfl; intro K hK; simp only [go_sem, c2]; ((repeat (refine ndI (by first | assumption | omega | rfl) ?_)); refine hK _ ?_; clear hK K)) | (with_reducible first | (refine evL_nil ?_; refine hR _ ?_; clear hR R) | ((first | refine evC_seq ?_ | refine evC_block ?_); intro Ψ hΨ hΨ') | (refine evC_region ?_; intro R hR) | (refine hΨ _ ?_; clear hΨ hΨ' Ψ) | refine evC_skip ?_ | refine evC_ret ?_ | refine evC_exit ?_) | ((with_reducible refine hΨ' _ _ ?_ ?_); (focus (simp; done)); clear hΨ hΨ' Ψ) | ((with_reducible apply evL_unmet); rfl; rfl; rfl; (try simp only [go_sem, c2])) | ((with_reducible apply evL_grd); rfl; rfl; rfl; all_goals (intro hb; first | (cases hb; done) | ((try simp only [Bool.not_true, Bool.not_false] at hb); (first | ((with_reducible intro K hK); simp only [go_sem, c2]; ((repeat (refine ndI (by first | assumption | omega | rfl) ?_)); refine hK _ ?_; clear hK K)) | ((fail_if_success (with_reducible intro _)); simp only [go_sem, c2]))))) | ((with_reducible apply evC_cond); rfl; rfl; all_goals (intro hc; first | (cases hc; done) | (try simp only at hc))))))
  refine evC_loop (α := { p : Nat × List Hd // p.1 ≤ ds.length ∧ p.2.length ≤ 40 ∧ ∀ h ∈ p.2, h.ok }) (fun p => ⟨[.any, .any, .ptr 2 0, .any, vb false, .any, .any, .any, .any, .any, .any, .any, .any, .any, .any, .any, .any, .any, .any, .any, .any, .any, .any, .any, dsl ds, vi .i64 ds.length, vi .i64 (p.1.1 : Int), .any, .any, .any, .any, .any, .any, .any, .any, .any, .any, .any, .any, .any, .any, .any, .any, .any, .any, .any, .any, .any, .any, .any, .any, .any, .any, .any, .any, .any, .any, .any, .any, .any, .any, .any, .any, .any, .any, .any, .any, .any, .any, .any, .any, .any, .any, .any, .any, .any, .any, .any, .any, .any, .any, .any, .any, .any, .any, .any, .any, .any, .any, .any, .any, .any, .any, .any], [(2, [hsl false p.1.2])]⟩) (fun p => ds.length - p.1.1) ⟨(0, l0'), Nat.zero_le _, hl40, ok0⟩ (St.le_of (by simp [leT]) (by simp [leH, hget])) ?_
  clear ov wk
  rintro ⟨⟨i, l⟩, hi, hl, ok⟩ Ψ hΨ hΨ'
  (try dsimp only at hi hl ok hΨ ⊢)
  rcases Nat.lt_or_ge i ds.length with hlt | hge
  · obtain ⟨D, hD⟩ : ∃ D, ds[i]? = some D := ⟨ds[i], List.getElem?_eq_getElem hlt⟩
    have k1 : (decide ((i : Int) < (ds.length : Int))) = true := by simpa using hlt
    have k2 := dsl_at hD
    have k7 : (i : Int) + 1 = ((i + 1 : Nat) : Int) := by omega
    have uD := hd D (List.mem_of_getElem? hD)
    have hlm : l.length ≤ maxLen := Nat.le_trans hl (by decide)
    have wn := wants_fn false l (by omega) ok D uD
    have se := refsame_fn false false l l (by omega) ok ok
    rw [decide_eq_true rfl] at se
    have r1 := rcH_len l
    have r2 : unC (rcH l) = some (l.flatMap Hd.pv) := unC_map _
    have r3 : ∀ d, AV.refsL d (rcH l) = false := fun d => refsL_map d _
    have r4 : (l.flatMap Hd.pv).map AV.c = rcH l := rfl
    by_cases hE : D.E l = 0
    · have hk := (gate_zero hE).1
      have rn := does_row false l hlm ok D uD hE
      have hM := deed_len hk ok uD
      rw [hE] at wn
      rw [deed_M hE] at wn hM
      generalize putL l (D.row (findH l D.a)) = M at rn wn hM
      generalize D.W l = w at rn wn
      have st := refsame_fn false false M M (by omega) hM.2 hM.2
      rw [decide_eq_true rfl] at st
      have q1 := rcH_len M
      have q2 : unC (rcH M) = some (M.flatMap Hd.pv) := unC_map _
      have q3 : ∀ d, AV.refsL d (rcH M) = false := fun d => refsL_map d _
      obtain ⟨k, a, n, y, t⟩ := D
      dsimp only at k2
      (have W := ndI k1 (ndI k2 (ndI k7 (ndI r1 (ndI r2 (ndI r3 (ndI r4 (ndI q1 (ndI q2 (ndI q3 @wrI))))))))); (repeat (any_goals (first | ((with_reducible refine evL_call ?_ ?_ ?_); rfl; rfl; intro K hK; (first | ((apply opA_callB (wn); rfl; rfl; rfl; rfl; exact Try.func10); kernel_rfl; rfl; (simp (disch := omega) only [go_sem, W, Nat.zero_add, List.nil_append, beq_self_eq_true, Bool.and_self, Bool.not_true, Bool.not_false, flat_length hd_len]; rfl); (first | rfl | simp [AV.inNL, AV.inN])) | ((apply opA_callv (st); rfl; rfl; rfl; rfl; exact Try.func11); kernel_rfl; rfl; (focus ((simp (disch := omega) only [AV.viewL, AV.view, viewRow, unC, Option.map_some, go_sem, W, Nat.zero_add, List.nil_append, beq_self_eq_true, Bool.and_self, Bool.not_true, Bool.not_false, flat_length hd_len]); (try rfl))); rfl) | ((apply opA_callv (se); rfl; rfl; rfl; rfl; exact Try.func11); kernel_rfl; rfl; (focus ((simp (disch := omega) only [AV.viewL, AV.view, viewRow, unC, Option.map_some, go_sem, W, Nat.zero_add, List.nil_append, beq_self_eq_true, Bool.and_self, Bool.not_true, Bool.not_false, flat_length hd_len]); (try rfl))); rfl) | (apply opA_callR (rn) (fun r => r); rfl; rfl; rfl; rfl; exact Try.func9; kernel_rfl; rfl; rfl; (intro r hr q hq h; simp (disch := omega) only [List.map_cons, List.map_nil, List.cons_append, List.nil_append, List.mem_cons, List.not_mem_nil, or_false] at hr hq; (try dsimp only at h); first | omega | (rcases hr with rfl | rfl | rfl <;> rcases hq with rfl | rfl | rfl <;> simp at h ⊢) | (rcases hr with rfl | rfl <;> rcases hq with rfl | rfl <;> simp at h ⊢) | ((repeat' split at h) <;> omega)); (simp (disch := omega) only [argsOk, argOk, AV.ren, AV.renL, renL_map, List.mem_cons, List.not_mem_nil, forall_eq_or_imp, forall_eq, newOk, List.contains_cons, List.contains_nil, AV.refsL, AV.refs, refsL_map, AV.inN, AV.inNL, inH, inNL_map, go_sem, W, Nat.zero_add, List.nil_append, beq_self_eq_true, Bool.and_self, Bool.not_true, Bool.not_false, flat_length hd_len]))); (simp (disch := omega) only [hputs, hdels, renH, AV.ren, AV.renL, renL_map, go_sem, W, Nat.zero_add, List.nil_append, beq_self_eq_true, Bool.and_self, Bool.not_true, Bool.not_false, flat_length hd_len]; refine hK _ ?_; clear hK K)) | ((with_reducible refine evL_one ?_ ?_); rfl; intro K hK; simp (disch := omega) only [go_sem, W, Nat.zero_add, List.nil_append, beq_self_eq_true, Bool.and_self, Bool.not_true, Bool.not_false, flat_length hd_len]; ((repeat (refine ndI (by first | assumption | omega | rfl) ?_)); refine hK _ ?_; clear hK K)) | (with_reducible first | (refine evL_nil ?_; refine hR _ ?_; clear hR R) | ((first | refine evC_seq ?_ | refine evC_block ?_); intro Ψ hΨ hΨ') | (refine evC_region ?_; intro R hR) | (refine hΨ _ ?_; clear hΨ hΨ' Ψ) | refine evC_skip ?_ | refine evC_ret ?_ | refine evC_exit ?_) | ((with_reducible refine hΨ' _ _ ?_ ?_); (focus (simp; done)); clear hΨ hΨ' Ψ) | ((with_reducible apply evL_unmet); rfl; rfl; rfl; (try simp (disch := omega) only [go_sem, W, Nat.zero_add, List.nil_append, beq_self_eq_true, Bool.and_self, Bool.not_true, Bool.not_false, flat_length hd_len])) | ((with_reducible apply evL_grd); rfl; rfl; rfl; all_goals (intro hb; first | (cases hb; done) | ((try simp only [Bool.not_true, Bool.not_false] at hb); (first | ((with_reducible intro K hK); (first | ((apply opA_callv (st); rfl; rfl; rfl; rfl; exact Try.func11); kernel_rfl; rfl; (focus ((simp (disch := omega) only [AV.viewL, AV.view, viewRow, unC, Option.map_some, go_sem, W, Nat.zero_add, List.nil_append, beq_self_eq_true, Bool.and_self, Bool.not_true, Bool.not_false, flat_length hd_len]); (try rfl))); rfl) | ((apply opA_callv (se); rfl; rfl; rfl; rfl; exact Try.func11); kernel_rfl; rfl; (focus ((simp (disch := omega) only [AV.viewL, AV.view, viewRow, unC, Option.map_some, go_sem, W, Nat.zero_add, List.nil_append, beq_self_eq_true, Bool.and_self, Bool.not_true, Bool.not_false, flat_length hd_len]); (try rfl))); rfl) | skip); simp (disch := omega) only [go_sem, W, Nat.zero_add, List.nil_append, beq_self_eq_true, Bool.and_self, Bool.not_true, Bool.not_false, flat_length hd_len]; ((repeat (refine ndI (by first | assumption | omega | rfl) ?_)); refine hK _ ?_; clear hK K)) | ((fail_if_success (with_reducible intro _)); simp (disch := omega) only [go_sem, W, Nat.zero_add, List.nil_append, beq_self_eq_true, Bool.and_self, Bool.not_true, Bool.not_false, flat_length hd_len]))))) | ((with_reducible apply evC_cond); rfl; rfl; all_goals (intro hc; first | (cases hc; done) | (try simp only at hc)))))))
      refine evC_upto M.length (fun j => ⟨[.any, .any, .ptr 2 0, .any, vb false, .any, .any, .row 33 39 11 l.length, .ptr 8 0, .any, vi .i64 0, .ptr 11 0, .any, .any, .any, .any, .any, .any, .any, .any, .any, .any, .any, .any, dsl ds, vi .i64 ds.length, vi .i64 (i : Int), .any, .any, .any, .any, .any, .any, .any, .any, .any, .any, .any, .any, .any, .any, .any, .any, .any, .any, .any, .any, .any, .any, .any, .any, .any, .any, .any, .any, .any, .any, .any, .any, .any, .any, .any, .any, .any, .any, .any, .any, .any, .any, .any, .any, vi .i64 M.length, vi .i64 (j : Int), .any, .any, .any, .any, .any, .any, .any, .any, .any, .any, .any, .any, .any, .any, .any, .any, .any, .any, .any, .any, .any], [(2, [hsl false l]), (8, [.row 544 39 11 M.length]), (11, [hsl false M]), (33, rcH l), (544, rcH ((M.take j).map bumpA ++ M.drop j))]⟩) (St.le_of (by simp [leT]) (by simp [leH, hget])) ?_
      intro j hj Ψ hΨ hΨ'
      dsimp only at hΨ ⊢
      rcases Nat.lt_or_ge j M.length with hjt | hjt
      · obtain ⟨z, hz⟩ : ∃ z, M[j]? = some z := ⟨M[j], List.getElem?_eq_getElem hjt⟩
        have m1 : (decide ((j : Int) < (M.length : Int))) = true := by simpa using hjt
        have m7 : (j : Int) + 1 = ((j + 1 : Nat) : Int) := by omega
        have hdr : M.drop j = z :: M.drop (j + 1) := by
          obtain ⟨_, rfl⟩ := List.getElem?_eq_some_iff.1 hz
          exact List.drop_eq_getElem_cons hjt
        have hA : ((M.take j).map bumpA).length = j := by simp; omega
        have sC := spl_bump ((M.take j).map bumpA) (M.drop (j + 1)) z (IntKind.u64.wrap (z.a + 1)) j hA
        have hnx : (M.take j).map bumpA ++ ⟨IntKind.u64.wrap (z.a + 1), z.p, z.s, z.d, z.f⟩ :: M.drop (j + 1) = (M.take (j + 1)).map bumpA ++ M.drop (j + 1) := by
          rw [List.take_add_one, hz]; simp [bumpA]
        rw [hnx] at sC
        have gC := bump_at ((M.take j).map bumpA) (M.drop (j + 1)) z j hA
        have cl : (rcH ((M.take j).map bumpA ++ z :: M.drop (j + 1))).length = M.length * 11 := by
          rw [rcH_len]; simp; omega
        have r5 : ∀ d, AV.refsL d (rcH ((M.take j).map bumpA ++ z :: M.drop (j + 1))) = false := fun d => refsL_map d _
        rw [hdr]
        generalize rcH ((M.take j).map bumpA ++ z :: M.drop (j + 1)) = C at gC cl sC r5
        (have W := ndI m1 (ndI m7 (ndI r3 (ndI r5 @wrI))); (repeat (any_goals (first | ((with_reducible refine evL_one ?_ ?_); rfl; intro K hK; simp (disch := omega) only [go_sem, W, gC, cl, Nat.add_zero]; ((repeat (refine ndI (by first | assumption | omega | rfl) ?_)); refine hK _ ?_; clear hK K)) | (with_reducible first | (refine evL_nil ?_; refine hR _ ?_; clear hR R) | ((first | refine evC_seq ?_ | refine evC_block ?_); intro Ψ hΨ hΨ') | (refine evC_region ?_; intro R hR) | (refine hΨ _ ?_; clear hΨ hΨ' Ψ) | refine evC_skip ?_ | refine evC_ret ?_ | refine evC_exit ?_) | ((with_reducible refine hΨ' _ _ ?_ ?_); (focus (simp; done)); clear hΨ hΨ' Ψ) | ((with_reducible apply evL_unmet); rfl; rfl; rfl; (try simp (disch := omega) only [go_sem, W, gC, cl, Nat.add_zero])) | ((with_reducible apply evL_grd); rfl; rfl; rfl; all_goals (intro hb; first | (cases hb; done) | ((try simp only [Bool.not_true, Bool.not_false] at hb); (first | ((with_reducible intro K hK); simp (disch := omega) only [go_sem, W, gC, cl, Nat.add_zero]; ((repeat (refine ndI (by first | assumption | omega | rfl) ?_)); refine hK _ ?_; clear hK K)) | ((fail_if_success (with_reducible intro _)); simp (disch := omega) only [go_sem, W, gC, cl, Nat.add_zero]))))) | ((with_reducible apply evC_cond); rfl; rfl; all_goals (intro hc; first | (cases hc; done) | (try simp only at hc)))))))
        refine hΨ _ hjt (St.le_of (by simp [leT]) ?_)
        simp [leH, hget]
        simpa [spl] using sC
      · have m1 : (decide ((j : Int) < (M.length : Int))) = false := by simpa using hjt
        generalize rcH ((M.take j).map bumpA ++ M.drop j) = C
        (have W := ndI m1 (ndI k7 (ndI r1 (ndI r2 (ndI r3 @wrI)))); (repeat (any_goals (first | ((with_reducible refine evL_call ?_ ?_ ?_); rfl; rfl; intro K hK; ((apply opA_callv (se); rfl; rfl; rfl; rfl; exact Try.func11); kernel_rfl; rfl; (focus ((simp (disch := omega) only [AV.viewL, AV.view, viewRow, unC, Option.map_some, go_sem, W, Bool.not_true, Bool.not_false, flat_length hd_len]); (try rfl))); rfl); (simp (disch := omega) only [go_sem, W, Bool.not_true, Bool.not_false, flat_length hd_len]; refine hK _ ?_; clear hK K)) | ((with_reducible refine evL_one ?_ ?_); rfl; intro K hK; simp (disch := omega) only [go_sem, W, Bool.not_true, Bool.not_false, flat_length hd_len]; ((repeat (refine ndI (by first | assumption | omega | rfl) ?_)); refine hK _ ?_; clear hK K)) | (with_reducible first | (refine evL_nil ?_; refine hR _ ?_; clear hR R) | ((first | refine evC_seq ?_ | refine evC_block ?_); intro Ψ hΨ hΨ') | (refine evC_region ?_; intro R hR) | (refine hΨ _ ?_; clear hΨ hΨ' Ψ) | refine evC_skip ?_ | refine evC_ret ?_ | refine evC_exit ?_) | ((with_reducible refine hΨ' _ _ ?_ ?_); (focus (simp; done)); clear hΨ hΨ' Ψ) | ((with_reducible apply evL_unmet); rfl; rfl; rfl; (try simp (disch := omega) only [go_sem, W, Bool.not_true, Bool.not_false, flat_length hd_len])) | ((with_reducible apply evL_grd); rfl; rfl; rfl; all_goals (intro hb; first | (cases hb; done) | ((try simp only [Bool.not_true, Bool.not_false] at hb); (first | ((with_reducible intro K hK); (first | ((apply opA_callv (se); rfl; rfl; rfl; rfl; exact Try.func11); kernel_rfl; rfl; (focus ((simp (disch := omega) only [AV.viewL, AV.view, viewRow, unC, Option.map_some, go_sem, W, Bool.not_true, Bool.not_false, flat_length hd_len]); (try rfl))); rfl) | skip); simp (disch := omega) only [go_sem, W, Bool.not_true, Bool.not_false, flat_length hd_len]; ((repeat (refine ndI (by first | assumption | omega | rfl) ?_)); refine hK _ ?_; clear hK K)) | ((fail_if_success (with_reducible intro _)); simp (disch := omega) only [go_sem, W, Bool.not_true, Bool.not_false, flat_length hd_len]))))) | ((with_reducible apply evC_cond); rfl; rfl; all_goals (intro hc; first | (cases hc; done) | (try simp only at hc)))))))
        all_goals exact hΨ _ ⟨(i + 1, M), hlt, Nat.le_trans hM.1 (by decide), hM.2⟩ (by dsimp only; omega) (St.le_of (by simp [leT]) (by simp [leH, hget]))
    · have hE0 : (D.E l == 0) = false := by simpa using hE
      have rn := does_no false l hlm ok D uD hE0
      have hM0 : D.M l = [] := by unfold Dd.M; rw [if_neg hE]
      have hW0 : D.W l = 0 := by unfold Dd.W; rw [if_neg hE, ite_self]
      rw [hM0, hW0] at wn
      have st := Fn.argN (refsame_fn false false [] [] (by decide) (fun _ h => by cases h) (fun _ h => by cases h))
      rw [decide_eq_true rfl] at st
      generalize D.E l = e at rn wn hE0
      obtain ⟨k, a, n, y, t⟩ := D
      dsimp only at k2
      (have W := ndI k1 (ndI k2 (ndI k7 (ndI r1 (ndI r2 (ndI r3 (ndI r4 (ndI hE0 @wrI))))))); (repeat (any_goals (first | ((with_reducible refine evL_call ?_ ?_ ?_); rfl; rfl; intro K hK; (first | ((first | (apply opA_callB (rn); rfl; rfl; rfl; rfl; exact Try.func9) | (apply opA_callB (wn); rfl; rfl; rfl; rfl; exact Try.func10)); kernel_rfl; rfl; (simp (disch := omega) only [go_sem, W, Nat.zero_add, List.nil_append, beq_self_eq_true, Bool.and_self, Bool.not_true, Bool.not_false, flat_length hd_len]; rfl); (first | rfl | simp [AV.inNL, AV.inN])) | ((apply opA_callB (st); rfl; rfl; rfl; rfl; exact Try.func11); kernel_rfl; rfl; (simp (disch := omega) only [go_sem, W, Nat.zero_add, List.nil_append, beq_self_eq_true, Bool.and_self, Bool.not_true, Bool.not_false, flat_length hd_len]; rfl); (first | rfl | simp [AV.inNL, AV.inN])) | ((apply opA_callv (se); rfl; rfl; rfl; rfl; exact Try.func11); kernel_rfl; rfl; (focus ((simp (disch := omega) only [AV.viewL, AV.view, viewRow, unC, Option.map_some, go_sem, W, Nat.zero_add, List.nil_append, beq_self_eq_true, Bool.and_self, Bool.not_true, Bool.not_false, flat_length hd_len]); (try rfl))); rfl)); (simp (disch := omega) only [go_sem, W, Nat.zero_add, List.nil_append, beq_self_eq_true, Bool.and_self, Bool.not_true, Bool.not_false, flat_length hd_len]; refine hK _ ?_; clear hK K)) | ((with_reducible refine evL_one ?_ ?_); rfl; intro K hK; simp (disch := omega) only [go_sem, W, Nat.zero_add, List.nil_append, beq_self_eq_true, Bool.and_self, Bool.not_true, Bool.not_false, flat_length hd_len]; ((repeat (refine ndI (by first | assumption | omega | rfl) ?_)); refine hK _ ?_; clear hK K)) | (with_reducible first | (refine evL_nil ?_; refine hR _ ?_; clear hR R) | ((first | refine evC_seq ?_ | refine evC_block ?_); intro Ψ hΨ hΨ') | (refine evC_region ?_; intro R hR) | (refine hΨ _ ?_; clear hΨ hΨ' Ψ) | refine evC_skip ?_ | refine evC_ret ?_ | refine evC_exit ?_) | ((with_reducible refine hΨ' _ _ ?_ ?_); (focus (simp; done)); clear hΨ hΨ' Ψ) | ((with_reducible apply evL_unmet); rfl; rfl; rfl; (try simp (disch := omega) only [go_sem, W, Nat.zero_add, List.nil_append, beq_self_eq_true, Bool.and_self, Bool.not_true, Bool.not_false, flat_length hd_len])) | ((with_reducible apply evL_grd); rfl; rfl; rfl; all_goals (intro hb; first | (cases hb; done) | ((try simp only [Bool.not_true, Bool.not_false] at hb); (first | ((with_reducible intro K hK); (first | ((apply opA_callB (st); rfl; rfl; rfl; rfl; exact Try.func11); kernel_rfl; rfl; (simp (disch := omega) only [go_sem, W, Nat.zero_add, List.nil_append, beq_self_eq_true, Bool.and_self, Bool.not_true, Bool.not_false, flat_length hd_len]; rfl); (first | rfl | simp [AV.inNL, AV.inN])) | ((apply opA_callv (se); rfl; rfl; rfl; rfl; exact Try.func11); kernel_rfl; rfl; (focus ((simp (disch := omega) only [AV.viewL, AV.view, viewRow, unC, Option.map_some, go_sem, W, Nat.zero_add, List.nil_append, beq_self_eq_true, Bool.and_self, Bool.not_true, Bool.not_false, flat_length hd_len]); (try rfl))); rfl) | skip); simp (disch := omega) only [go_sem, W, Nat.zero_add, List.nil_append, beq_self_eq_true, Bool.and_self, Bool.not_true, Bool.not_false, flat_length hd_len]; ((repeat (refine ndI (by first | assumption | omega | rfl) ?_)); refine hK _ ?_; clear hK K)) | ((fail_if_success (with_reducible intro _)); simp (disch := omega) only [go_sem, W, Nat.zero_add, List.nil_append, beq_self_eq_true, Bool.and_self, Bool.not_true, Bool.not_false, flat_length hd_len]))))) | ((with_reducible apply evC_cond); rfl; rfl; all_goals (intro hc; first | (cases hc; done) | (try simp only at hc))) | (with_reducible refine evC_rounds 1 ?_) | ((with_reducible refine evR_succ ?_); intro Ψ hΨ hΨ')))))
      all_goals exact hΨ _ ⟨(i + 1, l), hlt, hl, ok⟩ (by dsimp only; omega) (St.le_of (by simp [leT]) (by simp [leH, hget]))
  · have k1 : (decide ((i : Int) < (ds.length : Int))) = false := by simpa using hge
    (repeat (any_goals (first | ((with_reducible refine evL_one ?_ ?_); rfl; intro K hK; simp only [go_sem, k1]; ((repeat (refine ndI (by first | assumption | omega | rfl) ?_)); refine hK _ ?_; clear hK K)) | (with_reducible first | (refine evL_nil ?_; refine hR _ ?_; clear hR R) | ((first | refine evC_seq ?_ | refine evC_block ?_); intro Ψ hΨ hΨ') | (refine evC_region ?_; intro R hR) | (refine hΨ _ ?_; clear hΨ hΨ' Ψ) | refine evC_skip ?_ | refine evC_ret ?_ | refine evC_exit ?_) | ((with_reducible refine hΨ' _ _ ?_ ?_); (focus (simp; done)); clear hΨ hΨ' Ψ) | ((with_reducible apply evL_unmet); rfl; rfl; rfl; (try simp only [go_sem, k1])) | ((with_reducible apply evL_grd); rfl; rfl; rfl; all_goals (intro hb; first | (cases hb; done) | ((try simp only [Bool.not_true, Bool.not_false] at hb); (first | ((with_reducible intro K hK); simp only [go_sem, k1]; ((repeat (refine ndI (by first | assumption | omega | rfl) ?_)); refine hK _ ?_; clear hK K)) | ((fail_if_success (with_reducible intro _)); simp only [go_sem, k1]))))) | ((with_reducible apply evC_cond); rfl; rfl; all_goals (intro hc; first | (cases hc; done) | (try simp only at hc))))))
    all_goals (refine ⟨by simp, ⟨_, ?_, AV.le_refl _⟩, leH_get (by simp [leH, hget])⟩; simp only [Try.results3, resL, ldA, oneOf, go_sem])
end Go.Proofs.Ytmibmodibicibaa
