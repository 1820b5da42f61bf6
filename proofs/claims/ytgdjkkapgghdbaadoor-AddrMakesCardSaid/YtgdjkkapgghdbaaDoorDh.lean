/-
  Addresses sorted, whichever: what comes rises, and has just what was there.
-/
import Derived.Test.YtgdjkkapgghdbaaDoorDf
import Derived.Test.YtgdjkkapgghdbaaDoorSg
namespace Go.Proofs.YtgdjkkapgghdbaaDoor
open Go.RowKit
open Nat (reduceBEq)
set_option linter.unusedVariables false
set_option linter.unusedSimpArgs false
set_option maxRecDepth 20000
set_option maxHeartbeats 2000000
theorem ddN_succ {s : List Int} {i : Nat} {b : Int} (hb : s[i]? = some b) : (ddN s (i + 1) = ddN s i ∧ 0 < i ∧ s[i - 1]? = some b) ∨ (ddN s (i + 1) = ddN s i ++ [b] ∧ (0 < i → s[i - 1]? ≠ some b)) := by
  have e : ddN s (i + 1) = if 0 < i ∧ s[i - 1]? = some b then ddN s i else ddN s i ++ [b] := by
    show (match s[i]? with | none => _ | some b => _) = _
    rw [hb]
  by_cases h : 0 < i ∧ s[i - 1]? = some b
  · exact .inl ⟨by rw [e, if_pos h], h⟩
  · exact .inr ⟨by rw [e, if_neg h], fun h1 h2 => h ⟨h1, h2⟩⟩
theorem mem_take_of {s : List Int} {i j : Nat} {b : Int} (h : s[j]? = some b) (hj : j < i) : b ∈ s.take i := by
  refine List.mem_of_getElem? (i := j) ?_
  rw [List.getElem?_take, if_pos hj, h]
theorem ddN_mem (s : List Int) : ∀ i, i ≤ s.length → ∀ x, x ∈ ddN s i ↔ x ∈ s.take i
  | 0, _, x => by simp [ddN]
  | i + 1, h, x => by
    have ih := ddN_mem s i (by omega) x
    have hb : s[i]? = some (s[i]'(by omega)) := List.getElem?_eq_getElem (by omega)
    have et : s.take (i + 1) = s.take i ++ [s[i]'(by omega)] := by rw [List.take_add_one, hb]; rfl
    rw [et, List.mem_append, List.mem_singleton]
    rcases ddN_succ hb with ⟨e, h0, h1⟩ | ⟨e, _⟩
    · rw [e, ih]
      refine ⟨.inl, fun h => h.elim id fun hx => ?_⟩
      rw [hx]
      exact mem_take_of h1 (by omega)
    · rw [e, List.mem_append, List.mem_singleton, ih]
theorem ddN_lt (s : List Int) (hs : s.Pairwise (· ≤ ·)) : ∀ i, i ≤ s.length → (ddN s i).Pairwise (· < ·)
  | 0, _ => by simp [ddN]
  | i + 1, h => by
    have ih := ddN_lt s hs i (by omega)
    have hb : s[i]? = some (s[i]'(by omega)) := List.getElem?_eq_getElem (by omega)
    rcases ddN_succ hb with ⟨e, _⟩ | ⟨e, h1⟩
    · rw [e]; exact ih
    · rw [e, List.pairwise_append]
      refine ⟨ih, List.pairwise_singleton _ _, fun a ha b hb' => ?_⟩
      rw [List.mem_singleton] at hb'
      subst hb'
      have ha' := (ddN_mem s i (by omega) a).1 ha
      obtain ⟨j, hj⟩ := List.mem_iff_getElem?.1 ha'
      rw [List.getElem?_take] at hj
      split at hj
      · rename_i hji
        have hp := List.pairwise_iff_getElem.1 hs
        have haj : s[j]'(by omega) = a := (List.getElem?_eq_some_iff.1 hj).2
        have h2 := hp j i (by omega) (by omega) hji
        rw [haj] at h2
        have h3 := h1 (by omega)
        rw [List.getElem?_eq_getElem (by omega)] at h3
        have h4 : s[i - 1]'(by omega) ≠ s[i]'(by omega) := fun e => h3 (by rw [e])
        have h5 := hp (i - 1) i (by omega) (by omega) (by omega)
        rcases Nat.lt_or_ge j (i - 1) with h6 | h6
        · have h7 := hp j (i - 1) (by omega) (by omega) h6
          rw [haj] at h7
          omega
        · have : j = i - 1 := by omega
          subst this
          rw [haj] at h4
          omega
      · cases hj
theorem rise_eq : ∀ {a b : List Int}, a.Pairwise (· < ·) → b.Pairwise (· < ·) → (∀ x, x ∈ a ↔ x ∈ b) → a = b
  | [], [], _, _, _ => rfl
  | [], y :: b, _, _, h => by have := (h y).2 (by simp); simp at this
  | x :: a, [], _, _, h => by have := (h x).1 (by simp); simp at this
  | x :: a, y :: b, ha, hb, h => by
    rw [List.pairwise_cons] at ha hb
    have hx := (h x).1 (by simp)
    have hy := (h y).2 (by simp)
    rw [List.mem_cons] at hx hy
    have e : x = y := by
      rcases hx with hx | hx
      · exact hx
      · rcases hy with hy | hy
        · exact hy.symm
        · have h1 := ha.1 y hy
          have h2 := hb.1 x hx
          omega
    subst e
    rw [rise_eq ha.2 hb.2 fun z => by
      have hz := h z
      rw [List.mem_cons, List.mem_cons] at hz
      constructor
      · intro hm
        rcases hz.1 (.inr hm) with e | hm'
        · have := ha.1 z hm; omega
        · exact hm'
      · intro hm
        rcases hz.2 (.inr hm) with e | hm'
        · have := hb.1 z hm; omega
        · exact hm']
theorem sorted_any (ex : Bool) (l : List Int) (hl : l.length ≤ 1000000) (hu : ∀ a ∈ l, U a) : ∃ r : List Int, r.Pairwise (· < ·) ∧ (∀ x, x ∈ r ↔ x ∈ l) ∧ r.length ≤ l.length ∧ Fn Tryd.prog 14 [asl ex l] [] (asl false r) [] := by
  obtain ⟨s, hp, hs, so⟩ := sortA_fn l hl hu
  have hlen := hp.length_eq
  have cl := cloneA_fn ex l hl
  have co := (compact_cells s (by omega)).weaken (H2 := [(1000, rcA (ddN s s.length))]) (AV.le_refl _) (leHp (ds := rcA (List.replicate (s.length - (ddN s s.length).length) 0)) (by rw [rcA_app]; simp [hget]))
  rw [hlen] at co
  have hdl := ddN_le s l.length
  refine ⟨ddN s l.length, ddN_lt s hs _ (by omega), fun x => ?_, hdl, ?_⟩
  · rw [ddN_mem s _ (by omega), ← hlen, List.take_length]
    exact hp.mem_iff
  · have hrow : Fn Tryd.prog 14 [asl ex l] [] (.row 5 23 1 (ddN s l.length).length) [(5, rcA (ddN s l.length))] := by
      generalize ddN s l.length = r at co hdl ⊢
      unfold rcA at cl so co ⊢
      (refine fn_of Tryd.func14 rfl (by rfl) ?_; simp only [Tryd.ntmps14, List.length_cons, List.length_nil, Nat.reduceAdd, Nat.reduceSub, List.replicate, List.cons_append, List.nil_append])
      (repeat (any_goals (first | ((with_reducible refine evL_call ?_ ?_ ?_); rfl; rfl; intro K hK; (first | (apply opA_callR (cl) (fun r => 5); rfl; rfl; rfl; rfl; exact Tryd.func27; kernel_rfl; rfl; rfl; (intro r hr q hq h; simp only [List.map_cons, List.map_nil, List.cons_append, List.nil_append, List.mem_cons, List.not_mem_nil, or_false] at hr hq; (try dsimp only at h); first | omega | (rcases hr with rfl | rfl | rfl <;> rcases hq with rfl | rfl | rfl <;> simp at h ⊢) | (rcases hr with rfl | rfl <;> rcases hq with rfl | rfl <;> simp at h ⊢) | ((repeat' split at h) <;> omega)); (simp only [argsOk, argOk, AV.ren, AV.renL, renL_map, List.mem_cons, List.not_mem_nil, forall_eq_or_imp, forall_eq, newOk, List.contains_cons, List.contains_nil, AV.refsL, AV.refs, refsL_map, AV.inN, AV.inNL, inH, inNL_map, go_sem])) | (apply opA_callR (so) (fun r => 5); rfl; rfl; rfl; rfl; exact Tryd.func28; kernel_rfl; rfl; rfl; (intro r hr q hq h; simp only [List.map_cons, List.map_nil, List.cons_append, List.nil_append, List.mem_cons, List.not_mem_nil, or_false] at hr hq; (try dsimp only at h); first | omega | (rcases hr with rfl | rfl | rfl <;> rcases hq with rfl | rfl | rfl <;> simp at h ⊢) | (rcases hr with rfl | rfl <;> rcases hq with rfl | rfl <;> simp at h ⊢) | ((repeat' split at h) <;> omega)); (simp only [argsOk, argOk, AV.ren, AV.renL, renL_map, List.mem_cons, List.not_mem_nil, forall_eq_or_imp, forall_eq, newOk, List.contains_cons, List.contains_nil, AV.refsL, AV.refs, refsL_map, AV.inN, AV.inNL, inH, inNL_map, go_sem])) | (apply opA_callR (co) (fun r => 5); rfl; rfl; rfl; rfl; exact Tryd.func30; kernel_rfl; rfl; rfl; (intro r hr q hq h; simp only [List.map_cons, List.map_nil, List.cons_append, List.nil_append, List.mem_cons, List.not_mem_nil, or_false] at hr hq; (try dsimp only at h); first | omega | (rcases hr with rfl | rfl | rfl <;> rcases hq with rfl | rfl | rfl <;> simp at h ⊢) | (rcases hr with rfl | rfl <;> rcases hq with rfl | rfl <;> simp at h ⊢) | ((repeat' split at h) <;> omega)); (simp only [argsOk, argOk, AV.ren, AV.renL, renL_map, List.mem_cons, List.not_mem_nil, forall_eq_or_imp, forall_eq, newOk, List.contains_cons, List.contains_nil, AV.refsL, AV.refs, refsL_map, AV.inN, AV.inNL, inH, inNL_map, go_sem]))); (simp only [hputs, hdels, renH, AV.ren, AV.renL, renL_map, go_sem]; refine hK _ ?_; clear hK K)) | ((with_reducible refine evL_one ?_ ?_); rfl; intro K hK; simp only [go_sem]; ((repeat (refine ndI (by first | assumption | omega | rfl) ?_)); refine hK _ ?_; clear hK K)) | (with_reducible first | (refine evL_nil ?_; refine hR _ ?_; clear hR R) | ((first | refine evC_seq ?_ | refine evC_block ?_); intro Ψ hΨ hΨ') | (refine evC_region ?_; intro R hR) | (refine hΨ _ ?_; clear hΨ hΨ' Ψ) | refine evC_skip ?_ | refine evC_ret ?_ | refine evC_exit ?_) | ((with_reducible refine hΨ' _ _ ?_ ?_); (focus (simp; done)); clear hΨ hΨ' Ψ) | ((with_reducible apply evC_cond); rfl; rfl; all_goals (intro hc; first | (cases hc; done) | (try simp only at hc))))))
      all_goals (refine ⟨by simp, ⟨_, ?_, AV.le_refl _⟩, leH_get (by simp [leH, hget])⟩; simp only [Tryd.results14, resL, ldA, oneOf, go_sem])
    have h := Fn.frzG (d := 5) (pcs := (ddN s l.length).flatMap apv) hrow
    simp only [AV.frz, beq_self_eq_true, if_true] at h
    rw [if_pos (flat_length apv_len _).symm] at h
    exact h
end Go.Proofs.YtgdjkkapgghdbaaDoor

