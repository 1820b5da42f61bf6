/-
  Rows of bytes, of pairs, accounts, states: are two one; reckoned.
-/
import Derived.Test.YtiggambibcohcaaSn
import Derived.Test.YtiggambibcohcaaBytes
namespace Go.Proofs.Ytiggambibcohcaa
open Go.RowKit
open Nat (reduceBEq)
set_option linter.unusedVariables false
set_option linter.unusedSimpArgs false
set_option maxRecDepth 20000
set_option maxHeartbeats 2000000
abbrev bsl (ex : Bool) (l : List Nat) : AV := .c (.sl ex 1 l.length (l.flatMap bpv))
theorem bequal_any {A B : Option Addr} {n m c d N M : Nat} {xs ys : List UInt8} {w : World} (hx : Sl w N 1 A n c (u8s xs)) (hy : Sl w M 1 B m d (u8s ys)) :
    Calls Try.prog 34 #[.slice A n c, .slice B m d] w fun e w' => e = .returned (.bool (decide (xs = ys))) ∧ w = w' := by
  have h1 := conv8 Try.underlying28 Try.underlying5 Try.underlying9 hx
  have h2 := conv8 Try.underlying28 Try.underlying5 Try.underlying9 hy
  have h3 := str_eq xs ys
  have H3 := hide h3
  clear hx hy h3
  go_enter Try.func34, Try.ntmps34
  go_wp2
  go_ret
  exact ⟨by rw [← Bool.beq_eq_decide_eq] <;> rfl, rfl⟩

theorem RV.sl8 {S : Nat → Prop} {ι : Nat → Nat × Nat × Nat} {w : World} {v : Value} {ex : Bool} {l : List Nat} (hb : ∀ b ∈ l, b < 256) (h : RV S ι w v (bsl ex l)) : ∃ A c, v = .slice A l.length c ∧ Sl w w.heap.size 1 A l.length c (u8s (l.map UInt8.ofNat)) := by
  have hp := bpv_map l
  cases h with
  | c _ _ h =>
    cases h with
    | sl _ _ A _ c us _ h1 h2 h3 hx hl hn' h4 h5 =>
      have hus : us = u8s (l.map UInt8.ofNat) := by
        refine List.ext_getElem? fun j => ?_
        unfold u8s
        rw [List.map_map, List.getElem?_map]
        rcases Nat.lt_or_ge j l.length with hj | hj
        · have hju : j < us.length := by rw [hl, hp, List.length_map]; exact hj
          have hr := h5 j _ (.v (.int .u8 ((l[j] : Nat) : Int))) (List.getElem?_eq_getElem hju) (by rw [hp, List.getElem?_map, List.getElem?_eq_getElem hj]; rfl)
          rw [List.getElem?_eq_getElem hju, List.getElem?_eq_getElem hj]
          generalize us[j] = u at hr ⊢
          cases hr
          have := hb l[j] (List.getElem_mem hj)
          simp only [Option.map_some, Function.comp, Option.some.injEq]
          rw [UInt8.toNat_ofNat_of_lt' (by exact this)]
        · rw [List.getElem?_eq_none (by rw [hl, hp, List.length_map]; exact hj), List.getElem?_eq_none hj]
          rfl
      refine ⟨A, c, rfl, h1, h2, h3, by rw [← hus, hl, hn'], fun hne => ?_⟩
      rw [hus] at h4
      have hne' : u8s (l.map UInt8.ofNat) ≠ [] := fun e => by
        have := congrArg List.length e
        simp [u8s] at this
        subst this
        exact absurd hne (Nat.lt_irrefl _)
      obtain ⟨b, o, hA, hS, hc⟩ := h4 hne'
      obtain ⟨u0, rest, hu0⟩ := List.exists_cons_of_ne_nil hne'
      exact ⟨b, o, hA, block_lt_of_cell (hc 0 u0 (by rw [hu0]; rfl)), hc⟩
theorem Fn.ofBool {P : Program} {f : FuncId} {args : List AV} {b : Bool} (h : ∀ (S : Nat → Prop) (ι : Nat → Nat × Nat × Nat) (w : World) (vs : List Value), vs.length = args.length → (∀ (j : Nat) (v : Value) (x : AV), vs[j]? = some v → args[j]? = some x → RV S ι w v x) →
    Calls P f vs.toArray w fun e w' => e = .returned (.bool b) ∧ w = w') : Fn P f args [] (vb b) [] := by
  intro E vs hD hsep hH hlen hargs
  refine (h E.S E.ι E.w vs hlen hargs).mono ?_
  rintro e w' ⟨rfl, rfl⟩
  exact ⟨_, E.ι, rfl, .c _ _ (.v _ rfl), ⟨fun r cs hr => (by cases hr), fun r q cs ds hr => (by cases hr)⟩, ⟨rfl, rfl, rfl, Nat.le_refl _, fun _ _ _ => rfl, fun r cs hr => (by cases hr)⟩⟩
theorem bequal_fn (e1 e2 : Bool) (a b : List Nat) (ha : ∀ x ∈ a, x < 256) (hb : ∀ x ∈ b, x < 256) : Fn Try.prog 34 [bsl e1 a, bsl e2 b] [] (vb (decide (a = b))) [] := by
  refine Fn.ofBool fun S ι w vs hlen hargs => ?_
  match vs, hlen with
  | [v0, v1], _ =>
    obtain ⟨A, c, rfl, h0⟩ := RV.sl8 ha (hargs 0 v0 _ rfl rfl)
    obtain ⟨B, d, rfl, h1⟩ := RV.sl8 hb (hargs 1 v1 _ rfl rfl)
    refine (bequal_any h0 h1).mono ?_
    rintro e w' ⟨rfl, rfl⟩
    refine ⟨?_, rfl⟩
    have key : (a.map UInt8.ofNat = b.map UInt8.ofNat) ↔ a = b := by
      constructor
      · intro h
        have h2 := congrArg (List.map UInt8.toNat) h
        rw [List.map_map, List.map_map] at h2
        have e : ∀ l : List Nat, (∀ x ∈ l, x < 256) → l.map (UInt8.toNat ∘ UInt8.ofNat) = l := fun l hl => by
          conv => rhs; rw [← List.map_id l]
          exact List.map_congr_left fun x hx => UInt8.toNat_ofNat_of_lt' (hl x hx)
        rwa [e a ha, e b hb] at h2
      · intro h; rw [h]
    rw [decide_eq_decide.2 key]
instance decPr : DecidableEq Pr := fun p q => decidable_of_iff (p.k = q.k ∧ p.v = q.v) ⟨fun h => by cases p; cases q; simp_all, fun h => by rw [h]; exact ⟨rfl, rfl⟩⟩
theorem pr_eq {p q : Pr} (hp : p.ok) (hq : q.ok) : (l0 p.k == l0 q.k && (l1 p.k == l1 q.k && (l2 p.k == l2 q.k && (l3 p.k == l3 q.k && (l0 p.v == l0 q.v && (l1 p.v == l1 q.v && (l2 p.v == l2 q.v && l3 p.v == l3 q.v))))))) = decide (p = q) := by
  have h1 := wN_eq hp.1 hq.1
  have h2 := wN_eq hp.2 hq.2
  have e : (l0 p.k == l0 q.k && (l1 p.k == l1 q.k && (l2 p.k == l2 q.k && (l3 p.k == l3 q.k && (l0 p.v == l0 q.v && (l1 p.v == l1 q.v && (l2 p.v == l2 q.v && l3 p.v == l3 q.v))))))) = ((l0 p.k == l0 q.k && (l1 p.k == l1 q.k && (l2 p.k == l2 q.k && l3 p.k == l3 q.k))) && (l0 p.v == l0 q.v && (l1 p.v == l1 q.v && (l2 p.v == l2 q.v && l3 p.v == l3 q.v)))) := by simp only [Bool.and_assoc]
  rw [e, h1, h2, ← Bool.decide_and]
  exact decide_eq_decide.2 ⟨fun h => by cases p; cases q; simp_all, fun h => by rw [h]; exact ⟨rfl, rfl⟩⟩
theorem eqP_fn (e1 e2 : Bool) (l m : List Pr) (hl : l.length ≤ maxLen) (hm : m.length ≤ maxLen) (ol : ∀ p ∈ l, p.ok) (om : ∀ p ∈ m, p.ok) : Fn Try.prog 35 [.c (.sl e1 8 l.length (l.flatMap Pr.pv)), .c (.sl e2 8 m.length (m.flatMap Pr.pv))] [] (vb (decide (l = m))) [] := by
  by_cases hlen : l.length = m.length
  · have k0 : ((l.length : Int) != (m.length : Int)) = false := by rw [hlen]; simp
    have k8 : l.length < 9223372036854775808 := Nat.lt_succ_of_le hl
    obtain ⟨r, hr⟩ : ∃ r, decide (l = m) = r := ⟨_, rfl⟩
    rw [hr]
    (refine fn_of Try.func35 rfl (by rfl) ?_; simp only [Try.ntmps35, List.length_cons, List.length_nil, Nat.reduceAdd, Nat.reduceSub, List.replicate, List.cons_append, List.nil_append])
    (repeat (any_goals (first | ((with_reducible refine evL_one ?_ ?_); rfl; intro K hK; simp only [go_sem, k0]; ((repeat (refine ndI (by first | assumption | omega | rfl) ?_)); refine hK _ ?_; clear hK K)) | (with_reducible first | (refine evL_nil ?_; refine hR _ ?_; clear hR R) | ((first | refine evC_seq ?_ | refine evC_block ?_); intro Ψ hΨ hΨ') | (refine evC_region ?_; intro R hR) | (refine hΨ _ ?_; clear hΨ hΨ' Ψ) | refine evC_skip ?_ | refine evC_ret ?_ | refine evC_exit ?_) | ((with_reducible refine hΨ' _ _ ?_ ?_); (focus (simp; done)); clear hΨ hΨ' Ψ) | ((with_reducible apply evC_cond); rfl; rfl; all_goals (intro hc; first | (cases hc; done) | (try simp only at hc))) | ((with_reducible refine evD_nil ?_ ?_); kernel_rfl; (with_reducible refine hR _ ?_); clear hR R) | (((with_reducible apply evD_any); rfl; rfl; (simp only [rdE, rdOf, go_sem, k0]; rfl); (intro τ hA hQ hN; ((try simp only [agree, Op.operands, Call.operands, go_sem, k0, go_sem, List.mem_cons, List.not_mem_nil, forall_eq_or_imp, forall_eq, List.append_toArray, Option.toArray] at hA); (try simp only [go_sem, k0, List.mem_cons, List.not_mem_nil, forall_eq_or_imp, forall_eq] at hQ hN); (first | (revert hA; intro hA) | have hA := trivial); (first | (revert hQ; intro hQ) | have hQ := trivial); (first | (revert hN; intro hN) | have hN := trivial); simp only [go_sem, k0, go_sem, hA, hQ, hN]; (repeat (refine ndI (by first | assumption | omega | rfl) ?_)); (first | apply eff_rd | apply eff_st | apply eff_nw)))); (simp only [St.eff, setO, hputs, go_sem, k0])) | ((with_reducible refine evC_draw ?_ ?_ ?_ ?_); kernel_rfl; kernel_rfl; (first | kernel_rfl | simp [newNames, isNew, St.free, freeH, AV.refsL, AV.refs]); intro R hR))))
    refine evC_loop (α := { i : Nat // i ≤ l.length ∧ ∀ j, j < i → l[j]? = m[j]? }) (fun p => ⟨[.c (.sl e1 8 l.length (l.flatMap Pr.pv)), .c (.sl e2 8 m.length (m.flatMap Pr.pv)), .any, .any, .any, .any, .any, .any, .any, .any, .any, .any, vi .i64 l.length, vi .i64 p.1, .any, .any, .any, .any, .any, .any, .any, .any, .any, .any, .any, .any], []⟩) (fun p => l.length - p.1) ⟨0, Nat.zero_le _, fun j hj => by omega⟩ (St.le_of (by simp [leT]) (by simp [leH])) ?_
    rintro ⟨i, hi, hno⟩ Ψ hΨ hΨ'
    dsimp only at hi hΨ ⊢
    rcases Nat.lt_or_ge i l.length with hlt | hge
    · have k1 : (decide ((i : Int) < (l.length : Int))) = true := decide_eq_true (by omega)
      have k7 : (i : Int) + 1 = ((i + 1 : Nat) : Int) := by omega
      obtain ⟨x, hx⟩ : ∃ x, l[i]? = some x := ⟨_, List.getElem?_eq_getElem hlt⟩
      obtain ⟨y, hy⟩ : ∃ y, m[i]? = some y := ⟨_, List.getElem?_eq_getElem (by omega)⟩
      have hlm : i < m.length := by omega
      have k2 := ps_at hx
      have k3 := ps_at hy
      have k4 := pr_eq (ol x (List.mem_of_getElem? hx)) (om y (List.mem_of_getElem? hy))
      by_cases hxy : x = y
      · rw [decide_eq_true hxy] at k4
        (have W := ndI k1 (ndI k2 (ndI k3 (ndI k4 (ndI k7 @wrI)))); (repeat (any_goals (first | ((with_reducible refine evL_one ?_ ?_); rfl; intro K hK; simp (disch := omega) only [go_sem, W]; ((repeat (refine ndI (by first | assumption | omega | rfl) ?_)); refine hK _ ?_; clear hK K)) | (with_reducible first | (refine evL_nil ?_; refine hR _ ?_; clear hR R) | ((first | refine evC_seq ?_ | refine evC_block ?_); intro Ψ hΨ hΨ') | (refine evC_region ?_; intro R hR) | (refine hΨ _ ?_; clear hΨ hΨ' Ψ) | refine evC_skip ?_ | refine evC_ret ?_ | refine evC_exit ?_) | ((with_reducible refine hΨ' _ _ ?_ ?_); (focus (simp; done)); clear hΨ hΨ' Ψ) | ((with_reducible apply evC_cond); rfl; rfl; all_goals (intro hc; first | (cases hc; done) | (try simp only at hc))) | ((with_reducible refine evD_nil ?_ ?_); kernel_rfl; (with_reducible refine hR _ ?_); clear hR R) | (((with_reducible apply evD_any); rfl; rfl; (simp (disch := omega) only [rdE, rdOf, go_sem, W]; rfl); (intro τ hA hQ hN; ((try simp only [agree, Op.operands, Call.operands, go_sem, W, go_sem, List.mem_cons, List.not_mem_nil, forall_eq_or_imp, forall_eq, List.append_toArray, Option.toArray] at hA); (try simp only [go_sem, W, List.mem_cons, List.not_mem_nil, forall_eq_or_imp, forall_eq] at hQ hN); (first | (revert hA; intro hA) | have hA := trivial); (first | (revert hQ; intro hQ) | have hQ := trivial); (first | (revert hN; intro hN) | have hN := trivial); simp (disch := omega) only [go_sem, W, go_sem, hA, hQ, hN]; (repeat (refine ndI (by first | assumption | omega | rfl) ?_)); (first | apply eff_rd | apply eff_st | apply eff_nw)))); (simp (disch := omega) only [St.eff, setO, hputs, go_sem, W])) | ((with_reducible refine evC_draw ?_ ?_ ?_ ?_); kernel_rfl; kernel_rfl; (first | kernel_rfl | simp [newNames, isNew, St.free, freeH, AV.refsL, AV.refs]); intro R hR)))))
        all_goals exact hΨ _ ⟨i + 1, hlt, fun j hj => by
          rcases Nat.lt_or_ge j i with h' | h'
          · exact hno j h'
          · obtain rfl : j = i := by omega
            rw [hx, hy, hxy]⟩ (by simp only; omega) (St.le_of (by simp [leT]) (by simp [leH]))
      · rw [decide_eq_false hxy] at k4
        have hrf : r = false := by
          rw [← hr, decide_eq_false_iff_not]
          intro e; rw [e, hy] at hx; cases hx; exact hxy rfl
        (have W := ndI k1 (ndI k2 (ndI k3 (ndI k4 (ndI k7 @wrI)))); (repeat (any_goals (first | ((with_reducible refine evL_one ?_ ?_); rfl; intro K hK; simp (disch := omega) only [go_sem, W]; ((repeat (refine ndI (by first | assumption | omega | rfl) ?_)); refine hK _ ?_; clear hK K)) | (with_reducible first | (refine evL_nil ?_; refine hR _ ?_; clear hR R) | ((first | refine evC_seq ?_ | refine evC_block ?_); intro Ψ hΨ hΨ') | (refine evC_region ?_; intro R hR) | (refine hΨ _ ?_; clear hΨ hΨ' Ψ) | refine evC_skip ?_ | refine evC_ret ?_ | refine evC_exit ?_) | ((with_reducible refine hΨ' _ _ ?_ ?_); (focus (simp; done)); clear hΨ hΨ' Ψ) | ((with_reducible apply evC_cond); rfl; rfl; all_goals (intro hc; first | (cases hc; done) | (try simp only at hc))) | ((with_reducible refine evD_nil ?_ ?_); kernel_rfl; (with_reducible refine hR _ ?_); clear hR R) | (((with_reducible apply evD_any); rfl; rfl; (simp (disch := omega) only [rdE, rdOf, go_sem, W]; rfl); (intro τ hA hQ hN; ((try simp only [agree, Op.operands, Call.operands, go_sem, W, go_sem, List.mem_cons, List.not_mem_nil, forall_eq_or_imp, forall_eq, List.append_toArray, Option.toArray] at hA); (try simp only [go_sem, W, List.mem_cons, List.not_mem_nil, forall_eq_or_imp, forall_eq] at hQ hN); (first | (revert hA; intro hA) | have hA := trivial); (first | (revert hQ; intro hQ) | have hQ := trivial); (first | (revert hN; intro hN) | have hN := trivial); simp (disch := omega) only [go_sem, W, go_sem, hA, hQ, hN]; (repeat (refine ndI (by first | assumption | omega | rfl) ?_)); (first | apply eff_rd | apply eff_st | apply eff_nw)))); (simp (disch := omega) only [St.eff, setO, hputs, go_sem, W])) | ((with_reducible refine evC_draw ?_ ?_ ?_ ?_); kernel_rfl; kernel_rfl; (first | kernel_rfl | simp [newNames, isNew, St.free, freeH, AV.refsL, AV.refs]); intro R hR)))))
        all_goals rw [hrf]
        all_goals (refine ⟨by simp, ⟨_, ?_, AV.le_refl _⟩, leH_get (by simp [leH, hget])⟩; simp only [Try.results35, resL, ldA, oneOf, go_sem])
    · have k1 : (decide ((i : Int) < (l.length : Int))) = false := decide_eq_false (by omega)
      have hrt : r = true := by
        rw [← hr, decide_eq_true_iff]
        refine List.ext_getElem? fun j => ?_
        rcases Nat.lt_or_ge j l.length with h | h
        · exact hno j (by omega)
        · rw [List.getElem?_eq_none h, List.getElem?_eq_none (by omega)]
      (repeat (any_goals (first | ((with_reducible refine evL_one ?_ ?_); rfl; intro K hK; simp only [go_sem, k1]; ((repeat (refine ndI (by first | assumption | omega | rfl) ?_)); refine hK _ ?_; clear hK K)) | (with_reducible first | (refine evL_nil ?_; refine hR _ ?_; clear hR R) | ((first | refine evC_seq ?_ | refine evC_block ?_); intro Ψ hΨ hΨ') | (refine evC_region ?_; intro R hR) | (refine hΨ _ ?_; clear hΨ hΨ' Ψ) | refine evC_skip ?_ | refine evC_ret ?_ | refine evC_exit ?_) | ((with_reducible refine hΨ' _ _ ?_ ?_); (focus (simp; done)); clear hΨ hΨ' Ψ) | ((with_reducible apply evC_cond); rfl; rfl; all_goals (intro hc; first | (cases hc; done) | (try simp only at hc))) | ((with_reducible refine evD_nil ?_ ?_); kernel_rfl; (with_reducible refine hR _ ?_); clear hR R) | (((with_reducible apply evD_any); rfl; rfl; (simp only [rdE, rdOf, go_sem, k1]; rfl); (intro τ hA hQ hN; ((try simp only [agree, Op.operands, Call.operands, go_sem, k1, go_sem, List.mem_cons, List.not_mem_nil, forall_eq_or_imp, forall_eq, List.append_toArray, Option.toArray] at hA); (try simp only [go_sem, k1, List.mem_cons, List.not_mem_nil, forall_eq_or_imp, forall_eq] at hQ hN); (first | (revert hA; intro hA) | have hA := trivial); (first | (revert hQ; intro hQ) | have hQ := trivial); (first | (revert hN; intro hN) | have hN := trivial); simp only [go_sem, k1, go_sem, hA, hQ, hN]; (repeat (refine ndI (by first | assumption | omega | rfl) ?_)); (first | apply eff_rd | apply eff_st | apply eff_nw)))); (simp only [St.eff, setO, hputs, go_sem, k1])) | ((with_reducible refine evC_draw ?_ ?_ ?_ ?_); kernel_rfl; kernel_rfl; (first | kernel_rfl | simp [newNames, isNew, St.free, freeH, AV.refsL, AV.refs]); intro R hR))))
      all_goals rw [hrt]
      all_goals (refine ⟨by simp, ⟨_, ?_, AV.le_refl _⟩, leH_get (by simp [leH, hget])⟩; simp only [Try.results35, resL, ldA, oneOf, go_sem])
  · have k0 : ((l.length : Int) != (m.length : Int)) = true := by simp; omega
    have he : decide (l = m) = false := by rw [decide_eq_false_iff_not]; intro e; exact hlen (by rw [e])
    rw [he]
    (refine fn_of Try.func35 rfl (by rfl) ?_; simp only [Try.ntmps35, List.length_cons, List.length_nil, Nat.reduceAdd, Nat.reduceSub, List.replicate, List.cons_append, List.nil_append])
    (repeat (any_goals (first | ((with_reducible refine evL_one ?_ ?_); rfl; intro K hK; simp only [go_sem, k0]; ((repeat (refine ndI (by first | assumption | omega | rfl) ?_)); refine hK _ ?_; clear hK K)) | (with_reducible first | (refine evL_nil ?_; refine hR _ ?_; clear hR R) | ((first | refine evC_seq ?_ | refine evC_block ?_); intro Ψ hΨ hΨ') | (refine evC_region ?_; intro R hR) | (refine hΨ _ ?_; clear hΨ hΨ' Ψ) | refine evC_skip ?_ | refine evC_ret ?_ | refine evC_exit ?_) | ((with_reducible refine hΨ' _ _ ?_ ?_); (focus (simp; done)); clear hΨ hΨ' Ψ) | ((with_reducible apply evC_cond); rfl; rfl; all_goals (intro hc; first | (cases hc; done) | (try simp only at hc))) | ((with_reducible refine evD_nil ?_ ?_); kernel_rfl; (with_reducible refine hR _ ?_); clear hR R) | (((with_reducible apply evD_any); rfl; rfl; (simp only [rdE, rdOf, go_sem, k0]; rfl); (intro τ hA hQ hN; ((try simp only [agree, Op.operands, Call.operands, go_sem, k0, go_sem, List.mem_cons, List.not_mem_nil, forall_eq_or_imp, forall_eq, List.append_toArray, Option.toArray] at hA); (try simp only [go_sem, k0, List.mem_cons, List.not_mem_nil, forall_eq_or_imp, forall_eq] at hQ hN); (first | (revert hA; intro hA) | have hA := trivial); (first | (revert hQ; intro hQ) | have hQ := trivial); (first | (revert hN; intro hN) | have hN := trivial); simp only [go_sem, k0, go_sem, hA, hQ, hN]; (repeat (refine ndI (by first | assumption | omega | rfl) ?_)); (first | apply eff_rd | apply eff_st | apply eff_nw)))); (simp only [St.eff, setO, hputs, go_sem, k0])) | ((with_reducible refine evC_draw ?_ ?_ ?_ ?_); kernel_rfl; kernel_rfl; (first | kernel_rfl | simp [newNames, isNew, St.free, freeH, AV.refsL, AV.refs]); intro R hR))))
    all_goals (refine ⟨by simp, ⟨_, ?_, AV.le_refl _⟩, leH_get (by simp [leH, hget])⟩; simp only [Try.results35, resL, ldA, oneOf, go_sem])
end Go.Proofs.Ytiggambibcohcaa

