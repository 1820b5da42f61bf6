/-
  Rows of addresses, by value; cloned; reckoned.
-/
import Derived.Test.YtgdjkkapgghdbaaDoorWn
import Derived.Test.YtgdjkkapgghdbaaDoorAvO
namespace Go.Proofs.YtgdjkkapgghdbaaDoor
open Go.RowKit
open Nat (reduceBEq)
set_option linter.unusedVariables false
set_option linter.unusedSimpArgs false
set_option maxRecDepth 20000
set_option maxHeartbeats 2000000
def apv (a : Int) : List PV := [.v (.int .u64 a)]
theorem apv_len (a : Int) : (apv a).length = 1 := rfl
abbrev asl (ex : Bool) (l : List Int) : AV := .c (.sl ex 1 l.length (l.flatMap apv))
def rcA (l : List Int) : List AV := (l.flatMap apv).map .c
theorem rcA_len (l : List Int) : (rcA l).length = l.length * 1 := by unfold rcA; rw [List.length_map, flat_length apv_len]
theorem cloneA_fn (ex : Bool) (l : List Int) (hl : l.length ≤ 1000000) : Fn Tryd.prog 27 [asl ex l] [] (.row 7 23 1 l.length) [(7, rcA l)] := by
  have e1 := rcA_len l
  unfold rcA at e1 ⊢
  (refine fn_of Tryd.func27 rfl (by rfl) ?_; simp only [Tryd.ntmps27, List.length_cons, List.length_nil, Nat.reduceAdd, Nat.reduceSub, List.replicate, List.cons_append, List.nil_append])
  (repeat (any_goals (first | ((have hz0 := hb0 hc); (with_reducible refine evL_op ?_ ?_); rfl; intro K hK; refine OpA.nilrow_after 2 7 23 1 (evO_sound ?_); (simp (disch := omega) only [go_sem, e1, refsL_map]); (repeat (refine And.intro (by first | assumption | omega | rfl | decide) ?_)); refine hK _ ?_; clear hK K; clear hb0) | ((with_reducible refine evL_one ?_ ?_); rfl; intro K hK; simp (disch := omega) only [go_sem, e1, refsL_map]; ((repeat (refine ndI (by first | assumption | omega | rfl) ?_)); refine hK _ ?_; clear hK K)) | ((with_reducible refine evL_one ?_ ?_); rfl; intro K hK; refine evO_isnil rfl rfl (by first | exact .inl rfl | exact .inr rfl) ?_ rfl ?_; (focus (simp (disch := omega) only [go_sem]; try rfl)); (intro b hb0; simp (disch := omega) only [eq_self, go_sem, e1, refsL_map]; (with_reducible refine hK _ ?_); clear hK K)) | ((with_reducible refine evL_one ?_ ?_); rfl; intro K hK; simp (disch := omega) only [go_sem, e1, refsL_map]; (repeat (refine And.intro rfl ?_)); (refine evO_nilnil rfl rfl (by first | exact .inl rfl | exact .inr rfl) ?_ rfl ?_); (focus (simp (disch := omega) only [go_sem]; try rfl)); (simp (disch := omega) only [eq_self, go_sem, e1, refsL_map]; (with_reducible refine hK _ ?_); clear hK K)) | (with_reducible first | (refine evL_nil ?_; refine hR _ ?_; clear hR R) | ((first | refine evC_seq ?_ | refine evC_block ?_); intro Ψ hΨ hΨ') | (refine evC_region ?_; intro R hR) | (refine hΨ _ ?_; clear hΨ hΨ' Ψ) | refine evC_skip ?_ | refine evC_ret ?_ | refine evC_exit ?_) | ((with_reducible refine hΨ' _ _ ?_ ?_); (focus (simp; done)); clear hΨ hΨ' Ψ) | ((with_reducible apply evC_cond); rfl; rfl; all_goals (intro hc; first | (cases hc; done) | (try simp only at hc))))))
  all_goals (try (obtain rfl := List.eq_nil_of_length_eq_zero hz0))
  all_goals exact ⟨by simp, ⟨_, rfl, AV.le_refl _⟩, leH_get (by simp [leH, hget])⟩
end Go.Proofs.YtgdjkkapgghdbaaDoor

