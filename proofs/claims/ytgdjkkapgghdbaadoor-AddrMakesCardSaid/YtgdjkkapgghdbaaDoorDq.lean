/-
  The bytes of an address, as the code and as the document have them; reckoned.
-/
import Derived.Test.YtgdjkkapgghdbaaDoorDp
namespace Go.Proofs.YtgdjkkapgghdbaaDoor
open Go.RowKit
open Nat (reduceBEq)
attribute [-go_sem] IntKind.bits
set_option linter.unusedVariables false
set_option linter.unusedSimpArgs false
set_option maxRecDepth 20000
set_option maxHeartbeats 2000000
def be8 (x : Nat) : List Nat := [x / 72057594037927936 % 256, x / 281474976710656 % 256, x / 1099511627776 % 256, x / 4294967296 % 256, x / 16777216 % 256, x / 65536 % 256, x / 256 % 256, x % 256]
theorem be8_eq (x : Nat) : (beS 8 x).map (·.toNat) = be8 x := by
  have h : ∀ y : Nat, (UInt8.ofNat (y % 256)).toNat = y % 256 := fun y => by simp
  simp only [beS, List.map_cons, List.map_nil, h]
  simp [be8]
def rcB (l : List Nat) : List AV := (l.flatMap bpv).map .c
theorem rcB_len (l : List Nat) : (rcB l).length = l.length * 1 := by unfold rcB; rw [List.length_map, flat_length bpv_len]
theorem refsL_rcB (d : Nat) (l : List Nat) : AV.refsL d (rcB l) = false := by unfold rcB; exact refsL_map _ _
theorem abytes_fn (x : Nat) (hx : x < 18446744073709551616) : Fn Tryd.prog 18 [vi .u64 (x : Int)] [] (bsl false (be8 x)) [] := by
  have h := put64_fn x hx
  rw [be8_eq] at h
  have h2 : Fn Tryd.prog 37 [.c (.v (.slice none 0 0)), vi .u64 (x : Int)] [] (bsl false (be8 x)) [] := Fn.args h ⟨AV.le_nil true 1, AV.le_refl _, trivial⟩
  (refine fn_of Tryd.func18 rfl (by rfl) ?_; simp only [Tryd.ntmps18, List.length_cons, List.length_nil, Nat.reduceAdd, Nat.reduceSub, List.replicate, List.cons_append, List.nil_append])
  (repeat (any_goals (first | ((with_reducible refine evL_call ?_ ?_ ?_); rfl; rfl; intro K hK; ((apply opA_callB (h2); rfl; rfl; rfl; rfl; exact Tryd.func37); kernel_rfl; rfl; (focus ((simp only [go_sem]); (try rfl); done)); (first | rfl | simp [AV.inNL, AV.inN])); (simp only [go_sem]; refine hK _ ?_; clear hK K)) | ((with_reducible refine evL_one ?_ ?_); rfl; intro K hK; simp only [go_sem]; ((repeat (refine ndI (by first | assumption | omega | rfl) ?_)); refine hK _ ?_; clear hK K)) | (with_reducible first | (refine evL_nil ?_; refine hR _ ?_; clear hR R) | ((first | refine evC_seq ?_ | refine evC_block ?_); intro Ψ hΨ hΨ') | (refine evC_region ?_; intro R hR) | (refine hΨ _ ?_; clear hΨ hΨ' Ψ) | refine evC_skip ?_ | refine evC_ret ?_ | refine evC_exit ?_) | ((with_reducible refine hΨ' _ _ ?_ ?_); (focus (simp; done)); clear hΨ hΨ' Ψ) | ((with_reducible apply evC_cond); rfl; rfl; all_goals (intro hc; first | (cases hc; done) | (try simp only at hc))))))
  all_goals (refine ⟨by simp, ⟨_, ?_, AV.le_refl _⟩, leH_get (by simp [leH, hget])⟩; simp only [Tryd.results18, resL, ldA, oneOf, go_sem])
theorem be8_at (x : Nat) {i : Nat} (hi : i < 8) : ∃ y, (be8 x)[i]? = some y ∧ y < 256 ∧ IntKind.u8.wrap ((x : Int).fdiv (2 ^ (min (8 * (7 - (i : Int))).toNat IntKind.u64.bits))) = (y : Int) := by
  have h : ∀ d : Nat, (x : Int).fdiv (d : Int) = ((x / d : Nat) : Int) := fun d => by
    rw [Int.fdiv_eq_ediv_of_nonneg _ (Int.natCast_nonneg d)]; rfl
  have c : i = 0 ∨ i = 1 ∨ i = 2 ∨ i = 3 ∨ i = 4 ∨ i = 5 ∨ i = 6 ∨ i = 7 := by omega
  rcases c with rfl | rfl | rfl | rfl | rfl | rfl | rfl | rfl
  · exact ⟨_, rfl, by omega, by have h2 : (x : Int).fdiv 72057594037927936 = ((x / 72057594037927936 : Nat) : Int) := h 72057594037927936; rw [IntKind.wrap_u8]; show (x : Int).fdiv 72057594037927936 % 256 = _; rw [h2]; omega⟩
  · exact ⟨_, rfl, by omega, by have h2 : (x : Int).fdiv 281474976710656 = ((x / 281474976710656 : Nat) : Int) := h 281474976710656; rw [IntKind.wrap_u8]; show (x : Int).fdiv 281474976710656 % 256 = _; rw [h2]; omega⟩
  · exact ⟨_, rfl, by omega, by have h2 : (x : Int).fdiv 1099511627776 = ((x / 1099511627776 : Nat) : Int) := h 1099511627776; rw [IntKind.wrap_u8]; show (x : Int).fdiv 1099511627776 % 256 = _; rw [h2]; omega⟩
  · exact ⟨_, rfl, by omega, by have h2 : (x : Int).fdiv 4294967296 = ((x / 4294967296 : Nat) : Int) := h 4294967296; rw [IntKind.wrap_u8]; show (x : Int).fdiv 4294967296 % 256 = _; rw [h2]; omega⟩
  · exact ⟨_, rfl, by omega, by have h2 : (x : Int).fdiv 16777216 = ((x / 16777216 : Nat) : Int) := h 16777216; rw [IntKind.wrap_u8]; show (x : Int).fdiv 16777216 % 256 = _; rw [h2]; omega⟩
  · exact ⟨_, rfl, by omega, by have h2 : (x : Int).fdiv 65536 = ((x / 65536 : Nat) : Int) := h 65536; rw [IntKind.wrap_u8]; show (x : Int).fdiv 65536 % 256 = _; rw [h2]; omega⟩
  · exact ⟨_, rfl, by omega, by have h2 : (x : Int).fdiv 256 = ((x / 256 : Nat) : Int) := h 256; rw [IntKind.wrap_u8]; show (x : Int).fdiv 256 % 256 = _; rw [h2]; omega⟩
  · exact ⟨_, rfl, by omega, by have h2 : (x : Int).fdiv 1 = ((x / 1 : Nat) : Int) := h 1; rw [IntKind.wrap_u8]; show (x : Int).fdiv 1 % 256 = _; rw [h2]; omega⟩
abbrev stB (x : Nat) (r : Nat) (out : List Nat) (i : Int) : St := ⟨[vi .u64 (x : Int), .any, .any, .row r 5 1 out.length, vi .i64 i, .any, .any, .any, .any, .any, .any, .any, .any, .any, .any, .any, .any, .any], [(r, rcB out)]⟩
theorem stB_rn (x : Nat) (out : List Nat) (i : Int) : (stB x 16 out i).to (stB x 500 out i) := by
  have h := St.to.rn (σ := stB x 16 out i) (fun r => if r = 16 then 500 else r) (fun r => if r = 500 then 16 else r) [16] (by simp [AV.inNL, AV.inN]) (by simp) (by simp [inH, AV.inNL, AV.inN, rcB]) (by simp) (by simp)
  simpa [AV.renL, AV.ren, renH, rcB, stB] using h
theorem rbytes_row (x : Nat) (hx : x < 18446744073709551616) : Fn Tryd.prog 21 [vi .u64 (x : Int)] [] (.row 500 5 1 8) [(500, rcB (be8 x))] := by
  (refine fn_of Tryd.func21 rfl (by rfl) ?_; simp only [Tryd.ntmps21, List.length_cons, List.length_nil, Nat.reduceAdd, Nat.reduceSub, List.replicate, List.cons_append, List.nil_append])
  (repeat (any_goals (first | ((with_reducible refine evL_one ?_ ?_); rfl; intro K hK; simp only [go_sem]; ((repeat (refine ndI (by first | assumption | omega | rfl) ?_)); refine hK _ ?_; clear hK K)) | (with_reducible first | (refine evL_nil ?_; refine hR _ ?_; clear hR R) | ((first | refine evC_seq ?_ | refine evC_block ?_); intro Ψ hΨ hΨ') | (refine evC_region ?_; intro R hR) | (refine hΨ _ ?_; clear hΨ hΨ' Ψ) | refine evC_skip ?_ | refine evC_ret ?_ | refine evC_exit ?_) | ((with_reducible refine hΨ' _ _ ?_ ?_); (focus (simp; done)); clear hΨ hΨ' Ψ) | ((with_reducible apply evC_cond); rfl; rfl; all_goals (intro hc; first | (cases hc; done) | (try simp only at hc))))))
  refine evC_uptoT 8 (fun i => stB x 500 ((be8 x).take i) (7 - (i : Int))) ?_ ?_
  · refine St.to.trans (St.to.of_le (τ := ⟨[vi .u64 (x : Int), .any, .any, .c (.v (.slice none 0 0)), vi .i64 7, .any, .any, .any, .any, .any, .any, .any, .any, .any, .any, .any, .any, .any], []⟩) (St.le_of (by simp [leT]) (by simp [leH, hget]))) ?_
    refine St.to.trans (St.to.nilrow 3 500 5 1 rfl (by simp) (by simp [St.free, freeH, AV.refsL, AV.refs]) (by decide)) (St.to.of_le (St.le_of (by simp [leT]) (by simp [leH, hget, hput, rcB])))
  intro i hi Ψ hΨ hΨ'
  dsimp only [stB] at hΨ ⊢
  rcases Nat.lt_or_ge i 8 with hlt | hge
  · have k1 : (decide ((7 : Int) - (i : Int) ≥ 0)) = true := by simp; omega
    obtain ⟨out, ho⟩ : ∃ o, (be8 x).take i = o := ⟨_, rfl⟩
    have hol : out.length = i := by rw [← ho, List.length_take]; simp [be8]; omega
    have k2 := rcB_len out
    obtain ⟨y, hy, hy2, k3⟩ := be8_at x hlt
    have k7 : (7 : Int) - (i : Int) - 1 = 7 - ((i + 1 : Nat) : Int) := by omega
    have k8 : (0 ≤ 8 * (7 - (i : Int))) = True := eq_true (by omega)
    have ht : (be8 x).take (i + 1) = out ++ [y] := by rw [List.take_add_one, hy, ho]; rfl
    rw [ht] at hΨ
    rw [ho]
    (have W := ndI k1 (ndI k2 (ndI k3 (ndI k7 (ndI k8 (ndI @wrI @refsL_map))))); (repeat (any_goals (first | ((with_reducible refine evL_one ?_ ?_); rfl; intro K hK; simp (disch := omega) only [go_sem, W, refsL_rcB, refsL_app, AV.refsL, AV.refs, List.length_append, List.length_cons, List.length_nil, Bool.or_false]; ((repeat (refine ndI (by first | assumption | omega | rfl) ?_)); refine hK _ ?_; clear hK K)) | (with_reducible first | (refine evL_nil ?_; refine hR _ ?_; clear hR R) | ((first | refine evC_seq ?_ | refine evC_block ?_); intro Ψ hΨ hΨ') | (refine evC_region ?_; intro R hR) | (refine hΨ _ ?_; clear hΨ hΨ' Ψ) | refine evC_skip ?_ | refine evC_ret ?_ | refine evC_exit ?_) | ((with_reducible refine hΨ' _ _ ?_ ?_); (focus (simp; done)); clear hΨ hΨ' Ψ) | ((with_reducible apply evC_cond); rfl; rfl; all_goals (intro hc; first | (cases hc; done) | (try simp only at hc)))))))
    all_goals exact hΨ _ hlt (St.to.trans (St.to.of_le (τ := stB x 16 (out ++ [y]) (7 - ((i + 1 : Nat) : Int))) (St.le_of (by simp [leT]) (by simp [leH, hget, rcB, bpv]))) (stB_rn x _ _))
  · have k1 : (decide ((7 : Int) - (i : Int) ≥ 0)) = false := by simp; omega
    obtain rfl : i = 8 := by omega
    rw [show (be8 x).take 8 = be8 x from rfl, show (be8 x).length = 8 from rfl]
    (repeat (any_goals (first | ((with_reducible refine evL_one ?_ ?_); rfl; intro K hK; simp only [go_sem, k1]; ((repeat (refine ndI (by first | assumption | omega | rfl) ?_)); refine hK _ ?_; clear hK K)) | (with_reducible first | (refine evL_nil ?_; refine hR _ ?_; clear hR R) | ((first | refine evC_seq ?_ | refine evC_block ?_); intro Ψ hΨ hΨ') | (refine evC_region ?_; intro R hR) | (refine hΨ _ ?_; clear hΨ hΨ' Ψ) | refine evC_skip ?_ | refine evC_ret ?_ | refine evC_exit ?_) | ((with_reducible refine hΨ' _ _ ?_ ?_); (focus (simp; done)); clear hΨ hΨ' Ψ) | ((with_reducible apply evC_cond); rfl; rfl; all_goals (intro hc; first | (cases hc; done) | (try simp only at hc))))))
    all_goals (refine ⟨by simp, ⟨_, ?_, AV.le_refl _⟩, leH_get (by simp [leH, hget])⟩; simp only [Tryd.results21, resL, ldA, oneOf, go_sem])
theorem rbytes_fn (x : Nat) (hx : x < 18446744073709551616) : Fn Tryd.prog 21 [vi .u64 (x : Int)] [] (bsl false (be8 x)) [] := by
  have h := Fn.frzG (d := 500) (pcs := (be8 x).flatMap bpv) (rbytes_row x hx)
  simp only [AV.frz, beq_self_eq_true, if_true] at h
  rw [if_pos (by rw [flat_length bpv_len]; rfl)] at h
  exact h
end Go.Proofs.YtgdjkkapgghdbaaDoor

