/-
  Rows of bytes, of pairs, accounts, states: are two one; reckoned.
-/
import Derived.Test.YtmidmaeihpldhaaGreatLc
import Derived.Test.YtmidmaeihpldhaaGreatAvTy
import Derived.Test.YtmidmaeihpldhaaGreatAvW
import Derived.Test.YtmidmaeihpldhaaGreatAvI
import Derived.Lib.BytesEntry
import Derived.Laws.BytesArg
import Derived.Laws.Externs
import Derived.Shelf.Bytes.SlCountOne
set_option linter.unusedSimpArgs false
set_option linter.unusedVariables false
namespace Go.Proofs.YtmidmaeihpldhaaGreat.lg
open Go.RowKit
open Nat (reduceBEq)
set_option maxRecDepth 20000
set_option maxHeartbeats 2000000
def lastA (l : List Hd) : Nat → Int
  | 0 => 0
  | i + 1 => match l[i]? with | some y => y.a | none => 0
def okR (l : List Hd) (i : Nat) : Bool := match l[i]? with | some y => rightH y && decide (lastA l i < y.a) | none => false
def okU (l : List Hd) : Nat → Bool
  | 0 => true
  | i + 1 => okU l i && okR l i
def okL (l : List Hd) : Bool := decide (l.length ≤ 24) && (okU l l.length && decide (tot l < WW))
theorem okU_false {l : List Hd} {i n : Nat} (h : okR l i = false) (hi : i < n) : okU l n = false := by
  induction n with
  | zero => omega
  | succ n ih =>
    unfold okU
    rcases Nat.lt_or_ge i n with h1 | h1
    · rw [ih h1]; rfl
    · obtain rfl : i = n := by omega
      rw [h, Bool.and_false]
theorem check_fn (ex : Bool) (l : List Hd) (hl : l.length ≤ maxLen) (ok : ∀ h ∈ l, h.ok) : Fn Tryz.prog 52 [lg ex l] [] (vi .i64 (if okL l then 0 else 170)) [] := by
  unfold maxLen at hl
  by_cases h24 : l.length ≤ 24
  · have e0 : (decide ((l.length : Int) > 24)) = false := by simp; omega
    have al := all_nil ex l (by omega) ok
    have hq : (decide (WW ≤ tot l)) = !decide (tot l < WW) := by
      rw [Bool.eq_iff_iff]; simp
    rw [hq] at al
    have hres : okL l = (okU l l.length && decide (tot l < WW)) := by unfold okL; rw [decide_eq_true h24, Bool.true_and]
    rw [hres]
    obtain ⟨tn, htn⟩ : ∃ n, tot l % WW = n := ⟨_, rfl⟩
    obtain ⟨tq, htq⟩ : ∃ q, decide (tot l < WW) = q := ⟨_, rfl⟩
    obtain ⟨tu, htu⟩ : ∃ q, okU l l.length = q := ⟨_, rfl⟩
    rw [htn, htq] at al
    rw [htq, htu]
    (refine fn_of Tryz.func52 rfl (by rfl) ?_; simp only [Tryz.ntmps52, List.length_cons, List.length_nil, Nat.reduceAdd, Nat.reduceSub, List.replicate, List.cons_append, List.nil_append])
    (repeat (any_goals (first | ((with_reducible refine evL_one ?_ ?_); rfl; intro K hK; simp only [go_sem, e0]; ((repeat (refine ndI (by first | assumption) ?_)); refine hK _ ?_; clear hK K)) | (with_reducible first | (refine evL_nil ?_; refine hR _ ?_; clear hR R) | ((first | refine evC_seq ?_ | refine evC_block ?_); intro Ψ hΨ hΨ') | (refine evC_region ?_; intro R hR) | (refine hΨ _ ?_; clear hΨ hΨ' Ψ) | refine evC_skip ?_) | ((with_reducible apply evC_cond); rfl; rfl; all_goals (intro hc; first | (cases hc; done) | (try simp only at hc))))))
    refine evC_loop (α := { i : Nat // i ≤ l.length ∧ okU l i = true }) (fun p => ⟨[.any, .ptr 1 0, .any, vi .u64 (lastA l p.1), .any, .any, .any, .any, .any, .any, .any, .any, .any, hsl ex l, vi .i64 l.length, vi .i64 p.1, .any, .any, .any, .any, .any, .any, .any, .any, .any, .any, .any, .any, .any, .any, .any, .any, .any, .any, .any, .any, .any], [(1, [hsl ex l])]⟩) (fun p => l.length - p.1) ⟨0, Nat.zero_le _, rfl⟩ (St.le_of (by simp [leT, lastA]) (by simp [leH, hget])) ?_
    rintro ⟨i, hi, hu⟩ Ψ hΨ hΨ'
    dsimp only at hi hu hΨ ⊢
    rcases Nat.lt_or_ge i l.length with hlt | hge
    · obtain ⟨y, hy⟩ : ∃ y, l[i]? = some y := ⟨l[i], List.getElem?_eq_getElem hlt⟩
      have k1 : (decide ((i : Int) < (l.length : Int))) = true := by simpa using hlt
      have k2 := hsl_at hy
      have k7 : (i : Int) + 1 = ((i + 1 : Nat) : Int) := by omega
      obtain ⟨_, op, os, _, _⟩ := ok y (List.mem_of_getElem? hy)
      have rf := right_fn y.a y.p y.s y.d y.f op os
      have hR : okR l i = (rightH y && decide (lastA l i < y.a)) := by unfold okR; rw [hy]
      have hnx : lastA l (i + 1) = y.a := by simp only [lastA, hy]
      have hnu : okR l i = true → okU l (i + 1) = true := fun h => by unfold okU; rw [hu, h]; rfl
      have hno : okR l i = false → tu = false := fun h => by rw [← htu]; exact okU_false h hlt
      rw [show (⟨y.a, y.p, y.s, y.d, y.f⟩ : Hd) = y from rfl] at rf
      rw [hR] at hnu hno
      generalize rightH y = rq at rf hnu hno
      have hle : (decide (lastA l i < y.a)) = !decide (y.a ≤ lastA l i) := by
        rw [Bool.eq_iff_iff]; simp
      rw [hle] at hnu hno
      obtain ⟨lq, hlb⟩ : ∃ lq, decide (y.a ≤ lastA l i) = lq := ⟨_, rfl⟩
      rw [hlb] at hnu hno
      clear hR hle
      cases rq with
      | false =>
        (have W := ndI k1 (ndI k2 (ndI k7 @wrI)); (repeat (any_goals (first | ((with_reducible refine evL_call ?_ ?_ ?_); rfl; rfl; intro K hK; ((apply opA_callB (rf); rfl; rfl; rfl; rfl; exact Tryz.func90); kernel_rfl; rfl; (simp (disch := omega) only [go_sem, W, hlb]; rfl); (first | simp [AV.inNL, AV.inN])); (simp (disch := omega) only [go_sem, W, hlb]; refine hK _ ?_; clear hK K)) | ((with_reducible refine evL_one ?_ ?_); rfl; intro K hK; simp (disch := omega) only [go_sem, W, hlb]; ((repeat (refine ndI (by first | assumption | omega | rfl) ?_)); refine hK _ ?_; clear hK K)) | (with_reducible first | (refine evL_nil ?_; refine hR _ ?_; clear hR R) | ((first | refine evC_seq ?_ | refine evC_block ?_); intro Ψ hΨ hΨ') | (refine evC_region ?_; intro R hR) | (refine hΨ _ ?_; clear hΨ hΨ' Ψ) | refine evC_skip ?_ | refine evC_ret ?_) | ((with_reducible refine hΨ' _ _ ?_ ?_); (focus (simp; done)); clear hΨ hΨ' Ψ) | ((with_reducible apply evL_grd); rfl; rfl; rfl; all_goals (intro hb; first | (cases hb; done) | ((try simp only [Bool.not_true, Bool.not_false] at hb); (first | ((fail_if_success (with_reducible intro _)); simp (disch := omega) only [go_sem, W, hlb]))))) | ((with_reducible apply evC_cond); rfl; rfl; all_goals (intro hc; first | (cases hc; done) | (try simp only at hc)))))))
        all_goals (refine ⟨by simp, ⟨_, ?_, AV.le_refl _⟩, leH_get (by simp [leH, hget])⟩; simp only [Tryz.results52, resL, ldA, oneOf, go_sem])
        all_goals rw [hno rfl]
        all_goals rfl
      | true =>
        cases lq with
        | true =>
          (have W := ndI k1 (ndI k2 (ndI k7 @wrI)); (repeat (any_goals (first | ((with_reducible refine evL_call ?_ ?_ ?_); rfl; rfl; intro K hK; ((apply opA_callB (rf); rfl; rfl; rfl; rfl; exact Tryz.func90); kernel_rfl; rfl; (simp (disch := omega) only [go_sem, W, hlb]; rfl); (first | simp [AV.inNL, AV.inN])); (simp (disch := omega) only [go_sem, W, hlb]; refine hK _ ?_; clear hK K)) | ((with_reducible refine evL_one ?_ ?_); rfl; intro K hK; simp (disch := omega) only [go_sem, W, hlb]; ((repeat (refine ndI (by first | assumption | omega | rfl) ?_)); refine hK _ ?_; clear hK K)) | (with_reducible first | (refine evL_nil ?_; refine hR _ ?_; clear hR R) | ((first | refine evC_seq ?_ | refine evC_block ?_); intro Ψ hΨ hΨ') | (refine evC_region ?_; intro R hR) | (refine hΨ _ ?_; clear hΨ hΨ' Ψ) | refine evC_skip ?_ | refine evC_ret ?_) | ((with_reducible refine hΨ' _ _ ?_ ?_); (focus (simp; done)); clear hΨ hΨ' Ψ) | ((with_reducible apply evL_grd); rfl; rfl; rfl; all_goals (intro hb; first | (cases hb; done) | ((try simp only [Bool.not_true, Bool.not_false] at hb); (first | ((with_reducible intro K hK); simp (disch := omega) only [go_sem, W, hlb]; ((repeat (refine ndI (by first | assumption | rfl) ?_)); refine hK _ ?_; clear hK K)))))) | ((with_reducible apply evC_cond); rfl; rfl; all_goals (intro hc; first | (cases hc; done) | (try simp only at hc)))))))
          all_goals (refine ⟨by simp, ⟨_, ?_, AV.le_refl _⟩, leH_get (by simp [leH, hget])⟩; simp only [Tryz.results52, resL, ldA, oneOf, go_sem])
          all_goals rw [hno rfl]
          all_goals rfl
        | false =>
          (have W := ndI k1 (ndI k2 (ndI k7 @wrI)); (repeat (any_goals (first | ((with_reducible refine evL_call ?_ ?_ ?_); rfl; rfl; intro K hK; ((apply opA_callB (rf); rfl; rfl; rfl; rfl; exact Tryz.func90); kernel_rfl; rfl; (simp (disch := omega) only [go_sem, W, hlb]; rfl); (first | simp [AV.inNL, AV.inN])); (simp (disch := omega) only [go_sem, W, hlb]; refine hK _ ?_; clear hK K)) | ((with_reducible refine evL_one ?_ ?_); rfl; intro K hK; simp (disch := omega) only [go_sem, W, hlb]; ((repeat (refine ndI (by first | assumption | omega | rfl) ?_)); refine hK _ ?_; clear hK K)) | (with_reducible first | (refine evL_nil ?_; refine hR _ ?_; clear hR R) | ((first | refine evC_seq ?_ | refine evC_block ?_); intro Ψ hΨ hΨ') | (refine evC_region ?_; intro R hR) | (refine hΨ _ ?_; clear hΨ hΨ' Ψ) | refine evC_skip ?_) | ((with_reducible refine hΨ' _ _ ?_ ?_); (focus (simp; done)); clear hΨ hΨ' Ψ) | ((with_reducible apply evL_grd); rfl; rfl; rfl; all_goals (intro hb; first | (cases hb; done) | ((try simp only [Bool.not_true, Bool.not_false] at hb); (first | ((with_reducible intro K hK); simp (disch := omega) only [go_sem, W, hlb]; ((repeat (refine ndI (by first | assumption | rfl) ?_)); refine hK _ ?_; clear hK K)))))) | ((with_reducible apply evC_cond); rfl; rfl; all_goals (intro hc; first | (cases hc; done) | (try simp only at hc)))))))
          exact hΨ _ ⟨i + 1, hlt, hnu rfl⟩ (by simp only; omega) (St.le_of (by simp [leT, hnx]) (by simp [leH, hget]))
    · have k1 : (decide ((i : Int) < (l.length : Int))) = false := by simpa using hge
      have htu' : tu = true := by rw [← htu, ← hu]; congr 1; omega
      (repeat (any_goals (first | ((with_reducible refine evL_call ?_ ?_ ?_); rfl; rfl; intro K hK; ((apply opA_callB (al); rfl; rfl; rfl; rfl; exact Tryz.func91); kernel_rfl; rfl; (simp only [go_sem, k1]; rfl); (first | simp [AV.inNL, AV.inN])); (simp only [go_sem, k1]; refine hK _ ?_; clear hK K)) | ((with_reducible refine evL_one ?_ ?_); rfl; intro K hK; simp only [go_sem, k1]; ((repeat (refine ndI (by first | assumption) ?_)); refine hK _ ?_; clear hK K)) | (with_reducible first | (refine evL_nil ?_; refine hR _ ?_; clear hR R) | ((first | refine evC_seq ?_); intro Ψ hΨ hΨ') | (refine evC_region ?_; intro R hR) | (refine hΨ _ ?_; clear hΨ hΨ' Ψ) | refine evC_skip ?_ | refine evC_ret ?_ | refine evC_exit ?_) | ((with_reducible refine hΨ' _ _ ?_ ?_); (focus (simp; done)); clear hΨ hΨ' Ψ) | ((with_reducible apply evC_cond); rfl; rfl; all_goals (intro hc; first | (cases hc; done) | (try simp only at hc))))))
      all_goals (refine ⟨by simp, ⟨_, ?_, AV.le_refl _⟩, leH_get (by simp [leH, hget])⟩; simp only [Tryz.results52, resL, ldA, oneOf, go_sem])
      all_goals rw [htu']
      all_goals simp_all
  · have e0 : (decide ((l.length : Int) > 24)) = true := by simp; omega
    have hres : okL l = false := by unfold okL; rw [decide_eq_false h24]; rfl
    rw [hres]
    (refine fn_of Tryz.func52 rfl (by rfl) ?_; simp only [Tryz.ntmps52, List.length_cons, List.length_nil, Nat.reduceAdd, Nat.reduceSub, List.replicate, List.cons_append, List.nil_append])
    (repeat (any_goals (first | ((with_reducible refine evL_one ?_ ?_); rfl; intro K hK; simp only [go_sem, e0]; ((repeat (refine ndI (by first | assumption) ?_)); refine hK _ ?_; clear hK K)) | (with_reducible first | (refine evL_nil ?_; refine hR _ ?_; clear hR R) | ((first | refine evC_seq ?_); intro Ψ hΨ hΨ') | (refine evC_region ?_; intro R hR) | (refine hΨ _ ?_; clear hΨ hΨ' Ψ) | refine evC_ret ?_) | ((with_reducible refine hΨ' _ _ ?_ ?_); (focus (simp; done)); clear hΨ hΨ' Ψ) | ((with_reducible apply evC_cond); rfl; rfl; all_goals (intro hc; first | (cases hc; done) | (try simp only at hc))))))
    all_goals (refine ⟨by simp, ⟨_, ?_, AV.le_refl _⟩, leH_get (by simp [leH, hget])⟩; simp only [Tryz.results52, resL, ldA, oneOf, go_sem])
    all_goals rfl
end Go.Proofs.YtmidmaeihpldhaaGreat.lg
namespace Go.Proofs.YtmidmaeihpldhaaGreat.nz
open Go.RowKit
open Nat (reduceBEq)
abbrev vi (k : IntKind) (n : Int) : AV := .c (.v (.int k n))
abbrev vb (b : Bool) : AV := .c (.v (.bool b))
abbrev w4 (a b c d : Int) : AV := .agg [vi .u64 a, vi .u64 b, vi .u64 c, vi .u64 d]
set_option maxRecDepth 20000
theorem right_fn (a b c d e : Int) : Fn Tryz.prog 92 [.agg [vi .u64 a, vi .u64 b, vi .u64 c, vi .u64 d, vi .u64 e]] [] (vb ((a != 0) && (e == 0))) [] := by
  (refine fn_of Tryz.func92 rfl (by rfl) ?_; simp only [Tryz.ntmps92, List.length_cons, List.length_nil, Nat.reduceAdd, Nat.reduceSub, List.replicate, List.cons_append, List.nil_append])
  (repeat (any_goals (first | ((with_reducible refine evL_one ?_ ?_); rfl; intro K hK; simp only [go_sem]; ((repeat (refine ndI (by first | assumption) ?_)); refine hK _ ?_; clear hK K)) | (with_reducible first | (refine evL_nil ?_; refine hR _ ?_; clear hR R) | ((first | refine evC_seq ?_); intro Ψ hΨ hΨ') | (refine evC_region ?_; intro R hR) | (refine hΨ _ ?_; clear hΨ hΨ' Ψ) | refine evC_ret ?_) | ((with_reducible apply evL_grd); rfl; rfl; rfl; all_goals (intro hb; first | (cases hb; done) | ((try simp only [Bool.not_true, Bool.not_false] at hb); (first | ((with_reducible intro K hK); simp only [go_sem]; ((repeat (refine ndI (by first | assumption | omega) ?_)); refine hK _ ?_; clear hK K)) | ((fail_if_success (with_reducible intro _)); simp only [go_sem]))))))))
  all_goals (refine ⟨by simp, ⟨_, ?_, AV.le_refl _⟩, leH_get (by simp [leH, hget])⟩; simp only [Tryz.results92, resL, ldA, oneOf, go_sem])
  all_goals simp [*]
theorem refkey_fn (a b c d : Int) : Fn Tryz.prog 82 [w4 a b c d] [] (vb (d == 0)) [] := by
  (refine fn_of Tryz.func82 rfl (by rfl) ?_; simp only [Tryz.ntmps82, List.length_cons, List.length_nil, Nat.reduceAdd, Nat.reduceSub, List.replicate, List.cons_append, List.nil_append])
  (repeat (any_goals (first | ((with_reducible refine evL_one ?_ ?_); rfl; intro K hK; simp only [go_sem]; ((repeat (refine ndI (by first | assumption | omega) ?_)); refine hK _ ?_; clear hK K)) | (with_reducible first | (refine evL_nil ?_; refine hR _ ?_; clear hR R) | ((first | refine evC_seq ?_); intro Ψ hΨ hΨ') | (refine evC_region ?_; intro R hR) | (refine hΨ _ ?_; clear hΨ hΨ' Ψ) | refine evC_ret ?_))))
  all_goals (refine ⟨by simp, ⟨_, ?_, AV.le_refl _⟩, leH_get (by simp [leH, hget])⟩; simp only [Tryz.results82, resL, ldA, oneOf, go_sem])
theorem isNaN_fn (a : Int) : Fn Tryz.prog 136 [vi .u64 a] [] (vb false) [] := by
  (refine fn_of Tryz.func136 rfl (by rfl) ?_; simp only [Tryz.ntmps136, List.length_cons, List.length_nil, Nat.reduceAdd, Nat.reduceSub, List.replicate, List.cons_append, List.nil_append])
  (repeat (any_goals (first | ((with_reducible refine evL_one ?_ ?_); rfl; intro K hK; simp only [go_sem]; ((repeat (refine ndI (by first | assumption) ?_)); refine hK _ ?_; clear hK K)) | (with_reducible first | (refine evL_nil ?_; refine hR _ ?_; clear hR R) | ((first | refine evC_seq ?_); intro Ψ hΨ hΨ') | (refine evC_region ?_; intro R hR) | (refine hΨ _ ?_; clear hΨ hΨ' Ψ) | refine evC_ret ?_))))
  all_goals (refine ⟨by simp, ⟨_, ?_, AV.le_refl _⟩, leH_get (by simp [leH, hget])⟩; simp only [Tryz.results136, resL, ldA, oneOf, go_sem])
  all_goals simp
def cmpI (a b : Int) : Int := if a < b then -1 else if b < a then 1 else 0
theorem compare_fn (a b : Int) : Fn Tryz.prog 113 [vi .u64 a, vi .u64 b] [] (vi .i64 (cmpI a b)) [] := by
  (refine fn_of Tryz.func113 rfl (by rfl) ?_; simp only [Tryz.ntmps113, List.length_cons, List.length_nil, Nat.reduceAdd, Nat.reduceSub, List.replicate, List.cons_append, List.nil_append])
  (repeat (any_goals (first | ((with_reducible refine evL_call ?_ ?_ ?_); rfl; rfl; intro K hK; ((apply opA_callB (isNaN_fn _); rfl; rfl; rfl; rfl; exact Tryz.func136); kernel_rfl; rfl; (simp only [go_sem]; rfl); (first | rfl)); (simp only [go_sem]; refine hK _ ?_; clear hK K)) | ((with_reducible refine evL_one ?_ ?_); rfl; intro K hK; simp only [go_sem]; ((repeat (refine ndI (by first | assumption) ?_)); refine hK _ ?_; clear hK K)) | (with_reducible first | (refine evL_nil ?_; refine hR _ ?_; clear hR R) | ((first | refine evC_seq ?_); intro Ψ hΨ hΨ') | (refine evC_region ?_; intro R hR) | (refine hΨ _ ?_; clear hΨ hΨ' Ψ) | refine evC_skip ?_ | refine evC_ret ?_) | ((with_reducible refine hΨ' _ _ ?_ ?_); (focus (simp; done)); clear hΨ hΨ' Ψ) | ((with_reducible apply evC_cond); rfl; rfl; all_goals (intro hc; first | (cases hc; done) | (try simp only at hc))))))
  all_goals (refine ⟨by simp, ⟨_, ?_, AV.le_refl _⟩, leH_get (by simp [leH, hget])⟩; simp only [Tryz.results113, resL, ldA, oneOf, go_sem])
  all_goals simp_all [cmpI]
  all_goals omega
end Go.Proofs.YtmidmaeihpldhaaGreat.nz
namespace Go.Proofs.YtmidmaeihpldhaaGreat.nz
open Go.RowKit
set_option maxRecDepth 20000
theorem wrI {x : Int} (h1 : -9223372036854775808 ≤ x) (h2 : x ≤ 9223372036854775807) : IntKind.i64.wrap x = x := by
  unfold IntKind.wrap; simp [IntKind.bits, IntKind.signed]; omega
theorem wrU {x : Int} (h1 : 0 ≤ x) (h2 : x ≤ 18446744073709551615) : IntKind.u64.wrap x = x := by
  unfold IntKind.wrap; simp [IntKind.bits, IntKind.signed]; omega
end Go.Proofs.YtmidmaeihpldhaaGreat.nz
namespace Go.Proofs.YtmidmaeihpldhaaGreat.nz
open Go.RowKit
set_option maxRecDepth 20000
set_option maxHeartbeats 1000000
abbrev U (a : Int) : Prop := 0 ≤ a ∧ a ≤ 18446744073709551615
end Go.Proofs.YtmidmaeihpldhaaGreat.nz
namespace Go.Proofs.YtmidmaeihpldhaaGreat.nz
open Go.RowKit
open Nat (reduceBEq)
set_option maxRecDepth 20000
set_option maxHeartbeats 1000000
def lbit (x : Int) (k : Nat) : Int := x / 2 ^ k % 2
theorem lbit_eq {x : Int} (h : U x) (k : Nat) (hk : k < 64) : IntKind.i64.wrap (IntKind.u64.wrap ((BitVec.ofInt IntKind.u64.bits (x.fdiv (2 ^ (min k IntKind.u64.bits))) &&& BitVec.ofInt IntKind.u64.bits 1).toNat : Nat)) = lbit x k := by
  obtain ⟨h1, h2⟩ := h
  obtain ⟨N, rfl⟩ := Int.eq_ofNat_of_zero_le h1
  have hm : min k IntKind.u64.bits = k := Nat.min_eq_left (show k ≤ 64 by omega)
  have hd : ((N : Int)).fdiv (2 ^ k) = ((N / 2 ^ k : Nat) : Int) := by
    rw [Int.fdiv_eq_ediv_of_nonneg _ (Int.le_of_lt (Int.pow_pos (by decide)))]
    simp
  rw [hm, hd]
  have hle : N / 2 ^ k ≤ N := Nat.div_le_self _ _
  generalize hq : N / 2 ^ k = q at hle
  have e : (BitVec.ofInt IntKind.u64.bits (q : Int) &&& BitVec.ofInt IntKind.u64.bits 1).toNat = q % 2 := by
    show (BitVec.ofInt 64 (q : Int) &&& BitVec.ofInt 64 1).toNat = q % 2
    rw [BitVec.toNat_and]
    have e1 : (BitVec.ofInt 64 (q : Int)).toNat = q := by rw [BitVec.toNat_ofInt]; omega
    have e2 : (BitVec.ofInt 64 1).toNat = 1 := by decide
    rw [e1, e2, Nat.and_one_is_mod]
  rw [e, wrU (by omega) (by omega), wrI (by omega) (by omega)]
  unfold lbit
  have : (N : Int) / 2 ^ k = (q : Int) := by rw [← hq]; simp
  rw [this]; omega
def bitW (a b c d : Int) (n : Nat) : Int := if n < 64 then lbit a n else if n < 128 then lbit b (n - 64) else if n < 192 then lbit c (n - 128) else lbit d (n - 192)
theorem bit_fn (a b c d : Int) (u1 : U a) (u2 : U b) (u3 : U c) (u4 : U d) (n : Nat) (hn : n ≤ 255) : Fn Tryz.prog 130 [w4 a b c d, vi .i64 n] [] (vi .i64 (bitW a b c d n)) [] := by
  have e1 : (decide ((n : Int) < 0)) = false := by simp
  have e2 : (decide ((n : Int) > 255)) = false := by simp; omega
  have e3 : (n : Int).tdiv 64 = ((n / 64 : Nat) : Int) := rfl
  have e4 : (n : Int).tmod 64 = ((n % 64 : Nat) : Int) := rfl
  have hq : n / 64 = 0 ∨ n / 64 = 1 ∨ n / 64 = 2 ∨ n / 64 = 3 := by omega
  rcases hq with hq | hq | hq | hq
  · (refine fn_of Tryz.func130 rfl (by rfl) ?_; simp only [Tryz.ntmps130, List.length_cons, List.length_nil, Nat.reduceAdd, Nat.reduceSub, List.replicate, List.cons_append, List.nil_append])
    (have W := ndI e1 (ndI e2 (ndI e3 (ndI e4 @wrI))); (repeat (any_goals (first | ((with_reducible refine evL_one ?_ ?_); rfl; intro K hK; simp (disch := omega) only [go_sem, W, hq, Int.cast_ofNat_Int, Int.reduceEq, Int.toNat_natCast, Int.natCast_nonneg]; ((repeat (refine ndI (by first | assumption | rfl) ?_)); refine hK _ ?_; clear hK K)) | (with_reducible first | (refine evL_nil ?_; refine hR _ ?_; clear hR R) | ((first | refine evC_seq ?_); intro Ψ hΨ hΨ') | (refine evC_region ?_; intro R hR) | (refine hΨ _ ?_; clear hΨ hΨ' Ψ) | refine evC_skip ?_ | refine evC_ret ?_) | ((with_reducible apply evL_grd); rfl; rfl; rfl; all_goals (intro hb; first | (cases hb; done) | ((try simp only [Bool.not_true, Bool.not_false] at hb); (first | ((with_reducible intro K hK); simp (disch := omega) only [go_sem, W, hq, Int.cast_ofNat_Int, Int.reduceEq, Int.toNat_natCast, Int.natCast_nonneg]; ((repeat (refine ndI (by first | assumption | rfl) ?_)); refine hK _ ?_; clear hK K)))))) | ((with_reducible apply evC_cond); rfl; rfl; all_goals (intro hc; first | (cases hc; done) | (try simp only at hc)))))))
    all_goals (refine ⟨by simp, ⟨_, ?_, AV.le_refl _⟩, leH_get (by simp [leH, hget])⟩; simp only [Tryz.results130, resL, ldA, oneOf, go_sem])
    show vi .i64 (IntKind.i64.wrap (IntKind.u64.wrap ((BitVec.ofInt IntKind.u64.bits (a.fdiv (2 ^ (min (n % 64) IntKind.u64.bits))) &&& BitVec.ofInt IntKind.u64.bits 1).toNat : Nat))) = _
    rw [lbit_eq u1 _ (Nat.mod_lt _ (by decide))]
    simp only [bitW, if_pos (show n < 64 by omega), Nat.mod_eq_of_lt (show n < 64 by omega)]
  · (refine fn_of Tryz.func130 rfl (by rfl) ?_; simp only [Tryz.ntmps130, List.length_cons, List.length_nil, Nat.reduceAdd, Nat.reduceSub, List.replicate, List.cons_append, List.nil_append])
    (have W := ndI e1 (ndI e2 (ndI e3 (ndI e4 @wrI))); (repeat (any_goals (first | ((with_reducible refine evL_one ?_ ?_); rfl; intro K hK; simp (disch := omega) only [go_sem, W, hq, Int.cast_ofNat_Int, Int.natCast_one, Int.reduceEq, Int.toNat_natCast, Int.natCast_nonneg]; ((repeat (refine ndI (by first | assumption | rfl) ?_)); refine hK _ ?_; clear hK K)) | (with_reducible first | (refine evL_nil ?_; refine hR _ ?_; clear hR R) | ((first | refine evC_seq ?_); intro Ψ hΨ hΨ') | (refine evC_region ?_; intro R hR) | (refine hΨ _ ?_; clear hΨ hΨ' Ψ) | refine evC_skip ?_ | refine evC_ret ?_) | ((with_reducible apply evL_grd); rfl; rfl; rfl; all_goals (intro hb; first | (cases hb; done) | ((try simp only [Bool.not_true, Bool.not_false] at hb); (first | ((with_reducible intro K hK); simp (disch := omega) only [go_sem, W, hq, Int.cast_ofNat_Int, Int.natCast_one, Int.reduceEq, Int.toNat_natCast, Int.natCast_nonneg]; ((repeat (refine ndI (by first | assumption | rfl) ?_)); refine hK _ ?_; clear hK K)))))) | ((with_reducible apply evC_cond); rfl; rfl; all_goals (intro hc; first | (cases hc; done) | (try simp only at hc)))))))
    all_goals (refine ⟨by simp, ⟨_, ?_, AV.le_refl _⟩, leH_get (by simp [leH, hget])⟩; simp only [Tryz.results130, resL, ldA, oneOf, go_sem])
    show vi .i64 (IntKind.i64.wrap (IntKind.u64.wrap ((BitVec.ofInt IntKind.u64.bits (b.fdiv (2 ^ (min (n % 64) IntKind.u64.bits))) &&& BitVec.ofInt IntKind.u64.bits 1).toNat : Nat))) = _
    rw [lbit_eq u2 _ (Nat.mod_lt _ (by decide)), show n % 64 = n - 64 by omega]
    simp only [bitW, if_neg (show ¬ n < 64 by omega), if_pos (show n < 128 by omega)]
  · (refine fn_of Tryz.func130 rfl (by rfl) ?_; simp only [Tryz.ntmps130, List.length_cons, List.length_nil, Nat.reduceAdd, Nat.reduceSub, List.replicate, List.cons_append, List.nil_append])
    (have W := ndI e1 (ndI e2 (ndI e3 (ndI e4 @wrI))); (repeat (any_goals (first | ((with_reducible refine evL_one ?_ ?_); rfl; intro K hK; simp (disch := omega) only [go_sem, W, hq, Int.cast_ofNat_Int, Int.natCast_one, Int.reduceEq, Int.toNat_natCast, Int.natCast_nonneg]; ((repeat (refine ndI (by first | assumption | rfl) ?_)); refine hK _ ?_; clear hK K)) | (with_reducible first | (refine evL_nil ?_; refine hR _ ?_; clear hR R) | ((first | refine evC_seq ?_); intro Ψ hΨ hΨ') | (refine evC_region ?_; intro R hR) | (refine hΨ _ ?_; clear hΨ hΨ' Ψ) | refine evC_skip ?_ | refine evC_ret ?_) | ((with_reducible apply evL_grd); rfl; rfl; rfl; all_goals (intro hb; first | (cases hb; done) | ((try simp only [Bool.not_true, Bool.not_false] at hb); (first | ((with_reducible intro K hK); simp (disch := omega) only [go_sem, W, hq, Int.cast_ofNat_Int, Int.natCast_one, Int.reduceEq, Int.toNat_natCast, Int.natCast_nonneg]; ((repeat (refine ndI (by first | assumption | rfl) ?_)); refine hK _ ?_; clear hK K)))))) | ((with_reducible apply evC_cond); rfl; rfl; all_goals (intro hc; first | (cases hc; done) | (try simp only at hc)))))))
    all_goals (refine ⟨by simp, ⟨_, ?_, AV.le_refl _⟩, leH_get (by simp [leH, hget])⟩; simp only [Tryz.results130, resL, ldA, oneOf, go_sem])
    show vi .i64 (IntKind.i64.wrap (IntKind.u64.wrap ((BitVec.ofInt IntKind.u64.bits (c.fdiv (2 ^ (min (n % 64) IntKind.u64.bits))) &&& BitVec.ofInt IntKind.u64.bits 1).toNat : Nat))) = _
    rw [lbit_eq u3 _ (Nat.mod_lt _ (by decide)), show n % 64 = n - 128 by omega]
    simp only [bitW, if_neg (show ¬ n < 64 by omega), if_neg (show ¬ n < 128 by omega), if_pos (show n < 192 by omega)]
  · (refine fn_of Tryz.func130 rfl (by rfl) ?_; simp only [Tryz.ntmps130, List.length_cons, List.length_nil, Nat.reduceAdd, Nat.reduceSub, List.replicate, List.cons_append, List.nil_append])
    (have W := ndI e1 (ndI e2 (ndI e3 (ndI e4 @wrI))); (repeat (any_goals (first | ((with_reducible refine evL_one ?_ ?_); rfl; intro K hK; simp (disch := omega) only [go_sem, W, hq, Int.cast_ofNat_Int, Int.natCast_one, Int.reduceEq, Int.toNat_natCast, Int.natCast_nonneg]; ((repeat (refine ndI (by first | assumption | rfl) ?_)); refine hK _ ?_; clear hK K)) | (with_reducible first | (refine evL_nil ?_; refine hR _ ?_; clear hR R) | ((first | refine evC_seq ?_); intro Ψ hΨ hΨ') | (refine evC_region ?_; intro R hR) | (refine hΨ _ ?_; clear hΨ hΨ' Ψ) | refine evC_skip ?_ | refine evC_ret ?_) | ((with_reducible apply evL_grd); rfl; rfl; rfl; all_goals (intro hb; first | (cases hb; done) | ((try simp only [Bool.not_true, Bool.not_false] at hb); (first | ((with_reducible intro K hK); simp (disch := omega) only [go_sem, W, hq, Int.cast_ofNat_Int, Int.natCast_one, Int.reduceEq, Int.toNat_natCast, Int.natCast_nonneg]; ((repeat (refine ndI (by first | assumption | rfl) ?_)); refine hK _ ?_; clear hK K)))))) | ((with_reducible apply evC_cond); rfl; rfl; all_goals (intro hc; first | (cases hc; done) | (try simp only at hc)))))))
    all_goals (refine ⟨by simp, ⟨_, ?_, AV.le_refl _⟩, leH_get (by simp [leH, hget])⟩; simp only [Tryz.results130, resL, ldA, oneOf, go_sem])
    show vi .i64 (IntKind.i64.wrap (IntKind.u64.wrap ((BitVec.ofInt IntKind.u64.bits (d.fdiv (2 ^ (min (n % 64) IntKind.u64.bits))) &&& BitVec.ofInt IntKind.u64.bits 1).toNat : Nat))) = _
    rw [lbit_eq u4 _ (Nat.mod_lt _ (by decide)), show n % 64 = n - 192 by omega]
    simp only [bitW, if_neg (show ¬ n < 64 by omega), if_neg (show ¬ n < 128 by omega), if_neg (show ¬ n < 192 by omega)]
/-! a word as a number -/
def VW (a b c d : Int) : Nat := a.toNat + 18446744073709551616 * (b.toNat + 18446744073709551616 * (c.toNat + 18446744073709551616 * d.toNat))
theorem bit_lo (A R k : Nat) (hk : k < 64) : (A + 18446744073709551616 * R) / 2 ^ k % 2 = A / 2 ^ k % 2 := by
  have e : (18446744073709551616 : Nat) = 2 ^ k * (2 * 2 ^ (63 - k)) := by
    rw [← Nat.pow_succ', ← Nat.pow_add, show k + (63 - k).succ = 64 by omega]
  rw [e, Nat.mul_assoc, Nat.add_mul_div_left _ _ (Nat.pos_of_ne_zero (by simp)), Nat.mul_assoc 2, Nat.add_mul_mod_self_left]
theorem bit_hi (A R k : Nat) (hA : A < 18446744073709551616) (hk : 64 ≤ k) : (A + 18446744073709551616 * R) / 2 ^ k = R / 2 ^ (k - 64) := by
  have e : (2 : Nat) ^ k = 18446744073709551616 * 2 ^ (k - 64) := by
    rw [show (18446744073709551616 : Nat) = 2 ^ 64 by decide, ← Nat.pow_add, show 64 + (k - 64) = k by omega]
  rw [e, ← Nat.div_div_eq_div_mul, Nat.add_mul_div_left _ _ (by decide), Nat.div_eq_of_lt hA, Nat.zero_add]
theorem lbit_nat {x : Int} (h : U x) (k : Nat) : lbit x k = ((x.toNat / 2 ^ k % 2 : Nat) : Int) := by
  obtain ⟨N, rfl⟩ := Int.eq_ofNat_of_zero_le h.1
  unfold lbit
  have : (N : Int) / 2 ^ k = ((N / 2 ^ k : Nat) : Int) := by simp
  rw [this]; simp
theorem bitW_val {a b c d : Int} (u1 : U a) (u2 : U b) (u3 : U c) (u4 : U d) (n : Nat) (hn : n ≤ 255) : bitW a b c d n = ((VW a b c d / 2 ^ n % 2 : Nat) : Int) := by
  unfold bitW VW
  have h1 : a.toNat < 18446744073709551616 := by have := u1.2; omega
  have h2 : b.toNat < 18446744073709551616 := by have := u2.2; omega
  have h3 : c.toNat < 18446744073709551616 := by have := u3.2; omega
  split
  · rw [lbit_nat u1, bit_lo _ _ _ (by omega)]
  · rw [bit_hi _ _ _ h1 (by omega)]
    split
    · rw [lbit_nat u2, bit_lo _ _ _ (by omega)]
    · rw [bit_hi _ _ _ h2 (by omega)]
      split
      · rw [lbit_nat u3, show n - 64 - 64 = n - 128 by omega, bit_lo _ _ _ (by omega)]
      · rw [show n - 64 - 64 = n - 128 by omega, bit_hi _ _ _ h3 (by omega), lbit_nat u4, show n - 128 - 64 = n - 192 by omega]
def cmpN (x y : Nat) : Int := if x < y then -1 else if y < x then 1 else 0
theorem cmpN_lt {x y n : Nat} (h1 : x / 2 ^ (n + 1) = y / 2 ^ (n + 1)) (h2 : x / 2 ^ n % 2 < y / 2 ^ n % 2) : x < y := by
  rw [Nat.pow_succ, ← Nat.div_div_eq_div_mul, ← Nat.div_div_eq_div_mul] at h1
  rcases Nat.lt_or_ge x y with h | h
  · exact h
  · have := Nat.div_le_div_right (c := 2 ^ n) h; omega
theorem cmpN_eq {x y n : Nat} (h1 : x / 2 ^ (n + 1) = y / 2 ^ (n + 1)) (h2 : x / 2 ^ n % 2 = y / 2 ^ n % 2) : x / 2 ^ n = y / 2 ^ n := by
  rw [Nat.pow_succ, ← Nat.div_div_eq_div_mul, ← Nat.div_div_eq_div_mul] at h1
  omega
theorem VW_lt {a b c d : Int} (u1 : U a) (u2 : U b) (u3 : U c) (u4 : U d) : VW a b c d < 2 ^ 256 := by
  unfold VW
  have h1 := u1.2; have h2 := u2.2; have h3 := u3.2; have h4 := u4.2
  simp only [show (2 : Nat) ^ 256 = 115792089237316195423570985008687907853269984665640564039457584007913129639936 by decide]
  omega
theorem refcmp_fn (a b c d e f g h : Int) (u1 : U a) (u2 : U b) (u3 : U c) (u4 : U d) (u5 : U e) (u6 : U f) (u7 : U g) (u8 : U h) : Fn Tryz.prog 107 [w4 a b c d, w4 e f g h] [] (vi .i64 (cmpN (VW a b c d) (VW e f g h))) [] := by
  (refine fn_of Tryz.func107 rfl (by rfl) ?_; simp only [Tryz.ntmps107, List.length_cons, List.length_nil, Nat.reduceAdd, Nat.reduceSub, List.replicate, List.cons_append, List.nil_append])
  (repeat (any_goals (first | ((with_reducible refine evL_one ?_ ?_); rfl; intro K hK; simp only [go_sem]; ((repeat (refine ndI (by first | assumption) ?_)); refine hK _ ?_; clear hK K)) | (with_reducible first | (refine evL_nil ?_; refine hR _ ?_; clear hR R) | ((first | refine evC_seq ?_ | refine evC_block ?_); intro Ψ hΨ hΨ') | (refine evC_region ?_; intro R hR) | (refine hΨ _ ?_; clear hΨ hΨ' Ψ)))))
  obtain ⟨x, hx⟩ : ∃ x, VW a b c d = x := ⟨_, rfl⟩
  obtain ⟨y, hy⟩ : ∃ y, VW e f g h = y := ⟨_, rfl⟩
  have lx := VW_lt u1 u2 u3 u4
  have ly := VW_lt u5 u6 u7 u8
  rw [hx] at lx
  rw [hy] at ly
  refine evC_loop (α := { i : Nat // i ≤ 256 ∧ x / 2 ^ i = y / 2 ^ i }) (fun p => ⟨[.any, .any, .ptr 2 0, .ptr 3 0, vi .i64 0, vi .i64 ((p.1 : Int) - 1), .any, .any, .any, .any, .any, .any, .any, .any, .any, .any, .any, .any, .any, .any, .any, .any, .any, .any], [(2, [vi .u64 a, vi .u64 b, vi .u64 c, vi .u64 d]), (3, [vi .u64 e, vi .u64 f, vi .u64 g, vi .u64 h])]⟩) (fun p => p.1) ⟨256, Nat.le_refl _, by rw [Nat.div_eq_of_lt lx, Nat.div_eq_of_lt ly]⟩ (St.le_of (by simp [leT]) (by simp [leH, hget])) ?_
  rintro ⟨i, h1, h2⟩ Ψ hΨ hΨ'
  dsimp only at hΨ ⊢
  rcases i with _ | n
  · simp only [Nat.pow_zero, Nat.div_one] at h2
    subst h2
    have e1 : (decide (((0 : Nat) : Int) - 1 ≥ 0)) = false := by decide
    (repeat (any_goals (first | ((with_reducible refine evL_one ?_ ?_); rfl; intro K hK; simp only [go_sem, e1]; ((repeat (refine ndI (by first | assumption) ?_)); refine hK _ ?_; clear hK K)) | (with_reducible first | (refine evL_nil ?_; refine hR _ ?_; clear hR R) | ((first | refine evC_seq ?_); intro Ψ hΨ hΨ') | (refine evC_region ?_; intro R hR) | (refine hΨ _ ?_; clear hΨ hΨ' Ψ) | refine evC_ret ?_ | refine evC_exit ?_) | ((with_reducible refine hΨ' _ _ ?_ ?_); (focus (simp; done)); clear hΨ hΨ' Ψ) | ((with_reducible apply evC_cond); rfl; rfl; all_goals (intro hc; first | (cases hc; done) | (try simp only at hc))))))
    all_goals (refine ⟨by simp, ⟨_, ?_, AV.le_refl _⟩, leH_get (by simp [leH, hget])⟩; simp only [Tryz.results107, resL, ldA, oneOf, go_sem])
    all_goals simp [cmpN, hx, hy]
  · have e0 : ((n + 1 : Nat) : Int) - 1 = (n : Int) := by omega
    have e1 : (decide ((n : Int) ≥ 0)) = true := by simp
    have b1 := bitW_val u1 u2 u3 u4 n (by omega)
    have b2 := bitW_val u5 u6 u7 u8 n (by omega)
    rw [hx] at b1
    rw [hy] at b2
    obtain ⟨p, hp⟩ : ∃ p, x / 2 ^ n % 2 = p := ⟨_, rfl⟩
    obtain ⟨q, hq⟩ : ∃ q, y / 2 ^ n % 2 = q := ⟨_, rfl⟩
    rw [hp] at b1
    rw [hq] at b2
    rw [e0]
    (have W := ndI e1 (ndI b1 (ndI b2 @wrI)); (repeat (any_goals (first | ((with_reducible refine evL_one ?_ ?_); rfl; intro K hK; simp (disch := omega) only [go_sem, W]; ((repeat (refine ndI (by first | assumption) ?_)); refine hK _ ?_; clear hK K)) | (with_reducible first | (refine evL_nil ?_; refine hR _ ?_; clear hR R) | ((first | refine evC_seq ?_ | refine evC_block ?_); intro Ψ hΨ hΨ') | (refine evC_region ?_; intro R hR) | (refine hΨ _ ?_; clear hΨ hΨ' Ψ) | refine evC_skip ?_ | refine evC_ret ?_) | ((with_reducible refine hΨ' _ _ ?_ ?_); (focus (simp; done)); clear hΨ hΨ' Ψ) | ((with_reducible apply evC_cond); rfl; rfl; all_goals (intro hc; first | (cases hc; done) | (try simp only at hc))) | ((with_reducible refine evD_nil ?_ ?_); kernel_rfl; (with_reducible refine hR _ ?_); clear hR R) | ((first | ((with_reducible apply evD_fcall); rfl; rfl; (first | ((apply opF_callB (bit_fn a b c d u1 u2 u3 u4 n (by omega)); rfl; rfl; rfl; rfl; exact Tryz.func130); kernel_rfl; rfl; (simp (disch := omega) only [go_sem, W]; rfl); (first | simp [AV.inNL, AV.inN])) | ((apply opF_callB (bit_fn e f g h u5 u6 u7 u8 n (by omega)); rfl; rfl; rfl; rfl; exact Tryz.func130); kernel_rfl; rfl; (simp (disch := omega) only [go_sem, W]; rfl); (first | simp [AV.inNL, AV.inN])))) | ((with_reducible apply evD_any); rfl; rfl; (simp (disch := omega) only [rdE, rdOf, go_sem, W]; rfl); (intro τ hA hQ hN; ((try simp only [agree, Op.operands, Call.operands, go_sem, W, go_sem, List.mem_cons, List.not_mem_nil, forall_eq_or_imp, forall_eq, List.append_toArray, Option.toArray] at hA); (try simp only [go_sem, W, List.mem_cons, List.not_mem_nil, forall_eq_or_imp, forall_eq] at hQ hN); (first | (revert hA; intro hA)); (first | (revert hQ; intro hQ)); (first | (revert hN; intro hN)); simp (disch := omega) only [go_sem, W, go_sem, hA, hQ, hN]; (repeat (refine ndI (by first | assumption) ?_)); (first | apply eff_rd))))); (simp (disch := omega) only [St.eff, setO, hputs, go_sem, W])) | ((with_reducible refine evC_draw ?_ ?_ ?_ ?_); kernel_rfl; kernel_rfl; (first | kernel_rfl); intro R hR)))))
    · (refine ⟨by simp, ⟨_, ?_, AV.le_refl _⟩, leH_get (by simp [leH, hget])⟩; simp only [Tryz.results107, resL, ldA, oneOf, go_sem])
      have hlt := cmpN_lt h2 (by rw [hp, hq]; simpa using hc)
      simp [cmpN, hx, hy, hlt]
    · (refine ⟨by simp, ⟨_, ?_, AV.le_refl _⟩, leH_get (by simp [leH, hget])⟩; simp only [Tryz.results107, resL, ldA, oneOf, go_sem])
      have hlt := cmpN_lt h2.symm (by rw [hp, hq]; simpa using hc)
      simp [cmpN, hx, hy, hlt, Nat.lt_asymm hlt]
    · refine hΨ _ ⟨n, by omega, cmpN_eq h2 (by rw [hp, hq]; simp at hc; simp_all; omega)⟩ (by simp) (St.le_of (by simp [leT]) (by simp [leH, hget]))
end Go.Proofs.YtmidmaeihpldhaaGreat.nz
namespace Go.Proofs.YtmidmaeihpldhaaGreat.nz
open Go.RowKit
open Nat (reduceBEq)
set_option maxRecDepth 20000
set_option maxHeartbeats 1000000
theorem wcmp_fn (a b c d e f g h : Int) : Fn Tryz.prog 120 [w4 a b c d, w4 e f g h] [] (vi .i64 (if d < h then -1 else if h < d then 1 else if c < g then -1 else if g < c then 1 else if b < f then -1 else if f < b then 1 else if a < e then -1 else if e < a then 1 else 0)) [] := by
  (refine fn_of Tryz.func120 rfl (by rfl) ?_; simp only [Tryz.ntmps120, List.length_cons, List.length_nil, Nat.reduceAdd, Nat.reduceSub, List.replicate, List.cons_append, List.nil_append])
  (repeat (any_goals (first | ((with_reducible refine evL_one ?_ ?_); rfl; intro K hK; simp (disch := omega) only [go_sem, wrI, Int.reduceSub, Int.reduceNeg, Int.reduceGE, decide_true, decide_false, ge_iff_le, gt_iff_lt]; ((repeat (refine ndI (by first | assumption | rfl) ?_)); refine hK _ ?_; clear hK K)) | (with_reducible first | (refine evL_nil ?_; refine hR _ ?_; clear hR R) | ((first | refine evC_seq ?_ | refine evC_block ?_); intro Ψ hΨ hΨ') | (refine evC_region ?_; intro R hR) | (refine hΨ _ ?_; clear hΨ hΨ' Ψ) | refine evC_skip ?_ | refine evC_ret ?_ | refine evC_exit ?_) | ((with_reducible refine hΨ' _ _ ?_ ?_); (focus (simp; done)); clear hΨ hΨ' Ψ) | ((with_reducible apply evC_cond); rfl; rfl; all_goals (intro hc; first | (cases hc; done) | (try simp only at hc))) | (with_reducible refine evC_rounds 5 ?_) | ((with_reducible refine evR_succ ?_); intro Ψ hΨ hΨ') | ((with_reducible refine evD_nil ?_ ?_); kernel_rfl; (with_reducible refine hR _ ?_); clear hR R) | (((with_reducible apply evD_any); rfl; rfl; (simp (disch := omega) only [rdE, rdOf, go_sem, wrI, Int.reduceSub, Int.reduceNeg, Int.reduceGE, decide_true, decide_false, ge_iff_le, gt_iff_lt]; rfl); (intro τ hA hQ hN; ((try simp only [agree, Op.operands, Call.operands, go_sem, wrI, Int.reduceSub, Int.reduceNeg, Int.reduceGE, decide_true, decide_false, ge_iff_le, gt_iff_lt, go_sem, List.mem_cons, List.not_mem_nil, forall_eq_or_imp, forall_eq, List.append_toArray, Option.toArray] at hA); (try simp only [go_sem, wrI, Int.reduceSub, Int.reduceNeg, Int.reduceGE, decide_true, decide_false, ge_iff_le, gt_iff_lt, List.mem_cons, List.not_mem_nil, forall_eq_or_imp, forall_eq] at hQ hN); (first | (revert hA; intro hA)); (first | (revert hQ; intro hQ)); (first | (revert hN; intro hN)); simp (disch := omega) only [go_sem, wrI, Int.reduceSub, Int.reduceNeg, Int.reduceGE, decide_true, decide_false, ge_iff_le, gt_iff_lt, go_sem, hA, hQ, hN]; (repeat (refine ndI (by first | assumption | omega | rfl) ?_)); (first | apply eff_rd)))); (simp (disch := omega) only [St.eff, setO, hputs, go_sem, wrI, Int.reduceSub, Int.reduceNeg, Int.reduceGE, decide_true, decide_false, ge_iff_le, gt_iff_lt])) | ((with_reducible refine evC_draw ?_ ?_ ?_ ?_); kernel_rfl; kernel_rfl; (first | kernel_rfl); intro R hR))))
  all_goals (refine ⟨by simp, ⟨_, ?_, AV.le_refl _⟩, leH_get (by simp [leH, hget])⟩; simp only [Tryz.results120, resL, ldA, oneOf, go_sem])
  all_goals simp_all
  all_goals (repeat' split) <;> first | rfl | omega
end Go.Proofs.YtmidmaeihpldhaaGreat.nz
namespace Go.Proofs.YtmidmaeihpldhaaGreat.nz
open Go.RowKit
open Nat (reduceBEq)
set_option maxRecDepth 20000
set_option maxHeartbeats 1000000
theorem cmpor_fn (x y : Int) : Fn Tryz.prog 123 [.c (.sl false 1 2 [.v (.int .i64 x), .v (.int .i64 y)])] [] (vi .i64 (if x = 0 then y else x)) [] := by
  (refine fn_of Tryz.func123 rfl (by rfl) ?_; simp only [Tryz.ntmps123, List.length_cons, List.length_nil, Nat.reduceAdd, Nat.reduceSub, List.replicate, List.cons_append, List.nil_append])
  (repeat (any_goals (first | ((with_reducible refine evL_one ?_ ?_); rfl; intro K hK; simp (disch := omega) only [go_sem, wrI, Int.reduceAdd]; ((repeat (refine ndI (by first | assumption | omega | rfl) ?_)); refine hK _ ?_; clear hK K)) | (with_reducible first | (refine evL_nil ?_; refine hR _ ?_; clear hR R) | ((first | refine evC_seq ?_ | refine evC_block ?_); intro Ψ hΨ hΨ') | (refine evC_region ?_; intro R hR) | (refine hΨ _ ?_; clear hΨ hΨ' Ψ) | refine evC_skip ?_ | refine evC_ret ?_ | refine evC_exit ?_) | ((with_reducible refine hΨ' _ _ ?_ ?_); (focus (simp; done)); clear hΨ hΨ' Ψ) | ((with_reducible apply evC_cond); rfl; rfl; all_goals (intro hc; first | (cases hc; done) | (try simp only at hc))) | (with_reducible refine evC_rounds 3 ?_) | ((with_reducible refine evR_succ ?_); intro Ψ hΨ hΨ'))))
  all_goals (refine ⟨by simp, ⟨_, ?_, AV.le_refl _⟩, leH_get (by simp [leH, hget])⟩; simp only [Tryz.results123, resL, ldA, oneOf, go_sem])
  all_goals simp_all
def cmpW (a b c d e f g h : Int) : Int := if d < h then -1 else if h < d then 1 else if c < g then -1 else if g < c then 1 else if b < f then -1 else if f < b then 1 else if a < e then -1 else if e < a then 1 else 0
abbrev n6 (a b c d e x : Int) : AV := .agg [vi .u64 a, vi .u64 b, vi .u64 c, vi .u64 d, vi .u64 e, vi .u64 x]
abbrev k5 (a b c d e : Int) : AV := .agg [vi .u64 a, vi .u64 b, vi .u64 c, vi .u64 d, vi .u64 e]
theorem ncompare_fn (a b c d e x a' b' c' d' e' : Int) : Fn Tryz.prog 93 [n6 a b c d e x, k5 a' b' c' d' e'] [] (vi .i64 (if cmpI a a' = 0 then cmpW b c d e b' c' d' e' else cmpI a a')) [] := by
  (refine fn_of Tryz.func93 rfl (by rfl) ?_; simp only [Tryz.ntmps93, List.length_cons, List.length_nil, Nat.reduceAdd, Nat.reduceSub, List.replicate, List.cons_append, List.nil_append])
  (repeat (any_goals (first | ((with_reducible refine evL_one ?_ ?_); rfl; intro K hK; simp only [go_sem]; ((repeat (refine ndI (by first | assumption) ?_)); refine hK _ ?_; clear hK K)) | (with_reducible first | (refine evL_nil ?_; refine hR _ ?_; clear hR R) | ((first | refine evC_seq ?_); intro Ψ hΨ hΨ') | (refine evC_region ?_; intro R hR) | (refine hΨ _ ?_; clear hΨ hΨ' Ψ) | refine evC_ret ?_) | ((with_reducible refine evD_nil ?_ ?_); kernel_rfl; (with_reducible refine hR _ ?_); clear hR R) | ((first | ((with_reducible apply evD_fcall); rfl; rfl; (first | ((first | (apply opF_callB (compare_fn _ _); rfl; rfl; rfl; rfl; exact Tryz.func113) | (apply opF_callB (wcmp_fn _ _ _ _ _ _ _ _); rfl; rfl; rfl; rfl; exact Tryz.func120)); kernel_rfl; rfl; (simp only [go_sem]; rfl); (first | rfl)) | ((apply opF_callv (cmpor_fn _ _); rfl; rfl; rfl; rfl; exact Tryz.func123); kernel_rfl; rfl; (focus ((simp only [AV.viewL, AV.view, viewRow, unC, Option.map_some, go_sem]); (try rfl))); rfl; (simp only [AV.rowsL, AV.rows, go_sem]; rfl)))) | ((with_reducible apply evD_any); rfl; rfl; (simp only [rdE, rdOf, go_sem]; rfl); (intro τ hA hQ hN; ((try simp only [agree, Op.operands, Call.operands, go_sem, List.mem_cons, List.not_mem_nil, forall_eq_or_imp, forall_eq, List.append_toArray, Option.toArray] at hA); (try simp only [go_sem, List.mem_cons, List.not_mem_nil, forall_eq_or_imp, forall_eq] at hQ hN); (first | (revert hA; intro hA)); (first | (revert hQ; intro hQ)); (first | (revert hN; intro hN)); simp only [go_sem, hA, hQ, hN]; (repeat (refine ndI (by first | assumption) ?_)); (first | apply eff_rd)))) | ((first | ((with_reducible apply evD_new); rfl; rfl; rfl)); (intro τ hA hQ hN; ((try simp only [agree, Op.operands, Call.operands, go_sem, List.mem_cons, List.not_mem_nil, forall_eq_or_imp, forall_eq, List.append_toArray, Option.toArray] at hA); (try simp only [go_sem, List.mem_cons, List.not_mem_nil, forall_eq_or_imp, forall_eq] at hQ); (first | (revert hA; intro hA)); (first | (revert hQ; intro hQ)); simp only [go_sem, hA, hQ, hN]; (repeat (refine ndI (by first | assumption) ?_)); exact eff_nw _ _ _ _)))); (simp only [St.eff, setO, hputs, go_sem])) | ((with_reducible refine evC_draw ?_ ?_ ?_ ?_); kernel_rfl; kernel_rfl; (first | kernel_rfl); intro R hR))))
  all_goals (refine ⟨by simp, ⟨_, ?_, AV.le_refl _⟩, leH_get (by simp [leH, hget])⟩; simp only [Tryz.results93, resL, ldA, oneOf, go_sem])
  all_goals simp_all [cmpW]
end Go.Proofs.YtmidmaeihpldhaaGreat.nz
namespace Go.Proofs.YtmidmaeihpldhaaGreat.nz
open Go.RowKit
open Nat (reduceBEq)
set_option maxRecDepth 20000
set_option maxHeartbeats 1000000
structure N6 where
  a : Int
  b : Int
  c : Int
  d : Int
  e : Int
  x : Int
def N6.pv (n : N6) : List PV := [.v (.int .u64 n.a), .v (.int .u64 n.b), .v (.int .u64 n.c), .v (.int .u64 n.d), .v (.int .u64 n.e), .v (.int .u64 n.x)]
theorem pv_len (n : N6) : n.pv.length = 6 := rfl
abbrev nsl (ex : Bool) (l : List N6) : AV := .c (.sl ex 6 l.length (l.flatMap N6.pv))
theorem nsl_at {l : List N6} {i : Nat} {y : N6} (h : l[i]? = some y) : ((l.flatMap N6.pv).drop (i * 6)).take 6 = [.v (.int .u64 y.a), .v (.int .u64 y.b), .v (.int .u64 y.c), .v (.int .u64 y.d), .v (.int .u64 y.e), .v (.int .u64 y.x)] := flat_at pv_len h
def cN (z y : N6) : Int := if cmpI z.a y.a = 0 then cmpW z.b z.c z.d z.e y.b y.c y.d y.e else cmpI z.a y.a
def okS (l : List N6) (i : Nat) : Bool := match l[i]? with
  | some y => (y.a != 0) && (y.e == 0) && decide (y.x > 0) && (i == 0 || match l[i - 1]? with | some z => decide (cN z y < 0) | none => false)
  | none => false
def okTo (l : List N6) : Nat → Bool
  | 0 => decide ((l.length : Int) ≤ 48)
  | i + 1 => okTo l i && okS l i
theorem check_fn (ex : Bool) (l : List N6) (hl : l.length ≤ 4611686018427387904) : Fn Tryz.prog 53 [nsl ex l] [] (vi .i64 (if okTo l l.length then 0 else 180)) [] := by
  (refine fn_of Tryz.func53 rfl (by rfl) ?_; simp only [Tryz.ntmps53, List.length_cons, List.length_nil, Nat.reduceAdd, Nat.reduceSub, List.replicate, List.cons_append, List.nil_append])
  (repeat (any_goals (first | ((with_reducible refine evL_one ?_ ?_); rfl; intro K hK; simp only [go_sem]; ((repeat (refine ndI (by first | assumption) ?_)); refine hK _ ?_; clear hK K)) | (with_reducible first | (refine evL_nil ?_; refine hR _ ?_; clear hR R) | ((first | refine evC_seq ?_ | refine evC_block ?_); intro Ψ hΨ hΨ') | (refine evC_region ?_; intro R hR) | (refine hΨ _ ?_; clear hΨ hΨ' Ψ)))))
  refine evC_upto l.length (fun i => ⟨[nsl ex l, .any, .any, vb (okTo l i), .any, .any, .any, .any, .any, .any, nsl ex l, vi .i64 l.length, vi .i64 i, .any, .any, .any, .any, .any, .any, .any, .any, .any, .any, .any, .any, .any, .any, .any, .any, .any, .any, .any, .any, .any, .any, .any, .any, .any, .any, .any, .any, .any, .any, .any, .any, .any, .any, .any, .any], []⟩) (St.le_of (by simp [leT, okTo]) (by simp [leH])) ?_
  intro i hi Ψ hΨ hΨ'
  rcases Nat.lt_or_ge i l.length with hlt | hge
  · obtain ⟨y, hy⟩ : ∃ y, l[i]? = some y := ⟨l[i], List.getElem?_eq_getElem hlt⟩
    have e1 : (decide ((i : Int) < (l.length : Int))) = true := by simpa using hlt
    have e2 := nsl_at hy
    dsimp only at hΨ ⊢
    rw [show okTo l (i + 1) = (okTo l i && okS l i) from rfl] at hΨ
    generalize okTo l i = b at hΨ ⊢
    rcases i with _ | j
    · simp only [Nat.zero_mul, List.drop_zero] at e2
      rw [show okS l 0 = ((y.a != 0) && (y.e == 0) && decide (y.x > 0)) by simp [okS, hy]] at hΨ
      (repeat (any_goals (first | ((with_reducible refine evL_one ?_ ?_); rfl; intro K hK; simp (disch := omega) only [go_sem, e1, e2]; ((repeat (refine ndI (by first | assumption | omega | rfl) ?_)); refine hK _ ?_; clear hK K)) | (with_reducible first | (refine evL_nil ?_; refine hR _ ?_; clear hR R) | ((first | refine evC_seq ?_ | refine evC_block ?_); intro Ψ hΨ hΨ') | (refine evC_region ?_; intro R hR) | (refine hΨ _ ?_; clear hΨ hΨ' Ψ) | refine evC_skip ?_) | ((with_reducible refine hΨ' _ _ ?_ ?_); (focus (simp; done)); clear hΨ hΨ' Ψ) | ((with_reducible apply evC_cond); rfl; rfl; all_goals (intro hc; first | (cases hc; done) | (try simp only at hc))) | ((with_reducible refine evD_nil ?_ ?_); kernel_rfl; (with_reducible refine hR _ ?_); clear hR R) | ((first | ((with_reducible apply evD_skip); rfl; rfl; rfl; rfl) | ((with_reducible apply evD_unmet); rfl; rfl; rfl) | ((first | ((with_reducible apply evD_gcall); rfl; rfl; rfl; rfl; rfl)); ((apply opF_callB (right_fn _ _ _ _ _); rfl; rfl; rfl; rfl; exact Tryz.func92); kernel_rfl; rfl; (simp (disch := omega) only [go_sem, e1, e2]; rfl); (first | rfl))) | ((first | ((with_reducible apply evD_any); rfl; rfl) | ((with_reducible apply evD_gany); rfl; rfl; rfl; rfl; rfl)); (simp (disch := omega) only [rdE, rdOf, go_sem, e1, e2]; rfl); (intro τ hA hQ hN; ((try simp only [agree, Op.operands, Call.operands, go_sem, e1, e2, go_sem, List.mem_cons, List.not_mem_nil, forall_eq_or_imp, forall_eq, List.append_toArray, Option.toArray] at hA); (try simp only [go_sem, e1, e2, List.mem_cons, List.not_mem_nil, forall_eq_or_imp, forall_eq] at hQ hN); (first | (revert hA; intro hA)); (first | (revert hQ; intro hQ)); (first | (revert hN; intro hN)); simp (disch := omega) only [go_sem, e1, e2, go_sem, hA, hQ, hN]; (repeat (refine ndI (by first | assumption | rfl) ?_)); (first | apply eff_rd))))); (simp (disch := omega) only [St.eff, setO, hputs, go_sem, e1, e2])) | ((with_reducible apply evD_split); rfl; rfl; rfl; all_goals intro hb; all_goals (simp (disch := omega) only [St.eff, setO, hputs, go_sem, e1, e2])) | ((with_reducible refine evC_draw ?_ ?_ ?_ ?_); kernel_rfl; kernel_rfl; (first | kernel_rfl); intro R hR))))
      all_goals refine hΨ _ (by omega) (St.le_of ?_ (by simp [leH]))
      all_goals simp only [leT, pickAV]
      all_goals simp_all [wrI]
    · obtain ⟨z, hz⟩ : ∃ z, l[j]? = some z := ⟨l[j], List.getElem?_eq_getElem (by omega)⟩
      have e3 := nsl_at hz
      have e4 : (((j + 1 : Nat) : Int) == 0) = false := by simp; omega
      have e5 : IntKind.i64.wrap (((j + 1 : Nat) : Int) - 1) = (j : Int) := by rw [wrI (by omega) (by omega)]; omega
      have e7 : IntKind.i64.wrap (((j + 1 : Nat) : Int) + 1) = ((j + 1 + 1 : Nat) : Int) := by rw [wrI (by omega) (by omega)]; omega
      rw [show okS l (j + 1) = ((y.a != 0) && (y.e == 0) && decide (y.x > 0) && decide (cN z y < 0)) by simp [okS, hy, hz]] at hΨ
      (have W := ndI e1 (ndI e2 (ndI e3 (ndI e4 (ndI e5 e7)))); (repeat (any_goals (first | ((with_reducible refine evL_one ?_ ?_); rfl; intro K hK; simp (disch := omega) only [go_sem, W]; ((repeat (refine ndI (by first | assumption | omega | rfl) ?_)); refine hK _ ?_; clear hK K)) | (with_reducible first | (refine evL_nil ?_; refine hR _ ?_; clear hR R) | ((first | refine evC_seq ?_ | refine evC_block ?_); intro Ψ hΨ hΨ') | (refine evC_region ?_; intro R hR) | (refine hΨ _ ?_; clear hΨ hΨ' Ψ) | refine evC_skip ?_) | ((with_reducible refine hΨ' _ _ ?_ ?_); (focus (simp; done)); clear hΨ hΨ' Ψ) | ((with_reducible apply evC_cond); rfl; rfl; all_goals (intro hc; first | (cases hc; done) | (try simp only at hc))) | ((with_reducible refine evD_nil ?_ ?_); kernel_rfl; (with_reducible refine hR _ ?_); clear hR R) | ((first | ((with_reducible apply evD_skip); rfl; rfl; rfl; rfl) | ((with_reducible apply evD_unmet); rfl; rfl; rfl) | ((first | ((with_reducible apply evD_gcall); rfl; rfl; rfl; rfl; rfl)); ((first | (apply opF_callB (right_fn _ _ _ _ _); rfl; rfl; rfl; rfl; exact Tryz.func92) | (apply opF_callB (ncompare_fn _ _ _ _ _ _ _ _ _ _ _); rfl; rfl; rfl; rfl; exact Tryz.func93)); kernel_rfl; rfl; (simp (disch := omega) only [go_sem, W]; rfl); (first | rfl))) | ((first | ((with_reducible apply evD_any); rfl; rfl) | ((with_reducible apply evD_gany); rfl; rfl; rfl; rfl; rfl)); (simp (disch := omega) only [rdE, rdOf, go_sem, W]; rfl); (intro τ hA hQ hN; ((try simp only [agree, Op.operands, Call.operands, go_sem, W, go_sem, List.mem_cons, List.not_mem_nil, forall_eq_or_imp, forall_eq, List.append_toArray, Option.toArray] at hA); (try simp only [go_sem, W, List.mem_cons, List.not_mem_nil, forall_eq_or_imp, forall_eq] at hQ hN); (first | (revert hA; intro hA)); (first | (revert hQ; intro hQ)); (first | (revert hN; intro hN)); simp (disch := omega) only [go_sem, W, go_sem, hA, hQ, hN]; (repeat (refine ndI (by first | assumption | omega | rfl) ?_)); (first | apply eff_rd))))); (simp (disch := omega) only [St.eff, setO, hputs, go_sem, W])) | ((with_reducible apply evD_split); rfl; rfl; rfl; all_goals intro hb; all_goals (simp (disch := omega) only [St.eff, setO, hputs, go_sem, W])) | ((with_reducible refine evC_draw ?_ ?_ ?_ ?_); kernel_rfl; kernel_rfl; (first | kernel_rfl); intro R hR)))))
      all_goals refine hΨ _ (by omega) (St.le_of ?_ (by simp [leH]))
      all_goals simp only [leT, pickAV]
      all_goals simp_all [cN]
      all_goals (intro h; omega)
  · have e1 : (decide ((i : Int) < (l.length : Int))) = false := by simpa using hge
    obtain rfl : i = l.length := by omega
    (repeat (any_goals (first | ((with_reducible refine evL_one ?_ ?_); rfl; intro K hK; simp only [go_sem, e1]; ((repeat (refine ndI (by first | assumption) ?_)); refine hK _ ?_; clear hK K)) | (with_reducible first | (refine evL_nil ?_; refine hR _ ?_; clear hR R) | ((first | refine evC_seq ?_); intro Ψ hΨ hΨ') | (refine evC_region ?_; intro R hR) | (refine hΨ _ ?_; clear hΨ hΨ' Ψ) | refine evC_skip ?_ | refine evC_ret ?_ | refine evC_exit ?_) | ((with_reducible refine hΨ' _ _ ?_ ?_); (focus (simp; done)); clear hΨ hΨ' Ψ) | ((with_reducible apply evC_cond); rfl; rfl; all_goals (intro hc; first | (cases hc; done) | (try simp only at hc))))))
    all_goals (refine ⟨by simp, ⟨_, ?_, AV.le_refl _⟩, leH_get (by simp [leH, hget])⟩; simp only [Tryz.results53, resL, ldA, oneOf, go_sem])
    all_goals simp_all
end Go.Proofs.YtmidmaeihpldhaaGreat.nz
namespace Go.Proofs.YtmidmaeihpldhaaGreat.nz
open Go.RowKit
set_option maxRecDepth 20000
set_option maxHeartbeats 1000000
def bsr (lt : Nat → Bool) : Nat → Nat → Nat → Nat
  | 0, i, _ => i
  | f + 1, i, j => if i < j then (if lt ((i + j) / 2) then bsr lt f ((i + j) / 2 + 1) j else bsr lt f i ((i + j) / 2)) else i
def cK (z : N6) (a b c d e : Int) : Int := if cmpI z.a a = 0 then cmpW z.b z.c z.d z.e b c d e else cmpI z.a a
end Go.Proofs.YtmidmaeihpldhaaGreat.nz
namespace Go.Proofs.YtmidmaeihpldhaaGreat.nz
open Go.RowKit
set_option maxRecDepth 20000
set_option maxHeartbeats 1000000
abbrev c4 (a b c d : Int) : List AV := [vi .u64 a, vi .u64 b, vi .u64 c, vi .u64 d]
end Go.Proofs.YtmidmaeihpldhaaGreat.nz
namespace Go.Proofs.YtmidmaeihpldhaaGreat.nz
open Go.RowKit
set_option maxRecDepth 20000
set_option maxHeartbeats 1000000
abbrev nilS : AV := .c (.v (.slice none 0 0))
end Go.Proofs.YtmidmaeihpldhaaGreat.nz
namespace Go.Proofs.YtmidmaeihpldhaaGreat.nz
open Go.RowKit
open Nat (reduceBEq)
set_option maxRecDepth 20000
set_option maxHeartbeats 1000000
def N6.ok (n : N6) : Prop := U n.a ∧ U n.b ∧ U n.c ∧ U n.d ∧ U n.e ∧ U n.x
theorem cmpW_val {a b c d e f g h : Int} (u1 : U a) (u2 : U b) (u3 : U c) (u4 : U d) (u5 : U e) (u6 : U f) (u7 : U g) (u8 : U h) : cmpW a b c d e f g h = cmpN (VW a b c d) (VW e f g h) := by
  obtain ⟨a1, a2⟩ := u1; obtain ⟨b1, b2⟩ := u2; obtain ⟨c1, c2⟩ := u3; obtain ⟨d1, d2⟩ := u4
  obtain ⟨e1, e2⟩ := u5; obtain ⟨f1, f2⟩ := u6; obtain ⟨g1, g2⟩ := u7; obtain ⟨h1, h2⟩ := u8
  obtain ⟨a, rfl⟩ := Int.eq_ofNat_of_zero_le a1; obtain ⟨b, rfl⟩ := Int.eq_ofNat_of_zero_le b1; obtain ⟨c, rfl⟩ := Int.eq_ofNat_of_zero_le c1; obtain ⟨d, rfl⟩ := Int.eq_ofNat_of_zero_le d1
  obtain ⟨e, rfl⟩ := Int.eq_ofNat_of_zero_le e1; obtain ⟨f, rfl⟩ := Int.eq_ofNat_of_zero_le f1; obtain ⟨g, rfl⟩ := Int.eq_ofNat_of_zero_le g1; obtain ⟨h, rfl⟩ := Int.eq_ofNat_of_zero_le h1
  unfold cmpW cmpN VW
  simp only [Int.toNat_natCast]
  repeat' split
  all_goals first | rfl | omega
def rk (a b c d e : Int) : Nat := a.toNat * 2 ^ 256 + VW b c d e
def N6.rk (n : N6) : Nat := Go.Proofs.YtmidmaeihpldhaaGreat.nz.rk n.a n.b n.c n.d n.e
theorem cK_rk {z : N6} {a b c d e : Int} (hz : z.ok) (u0 : U a) (u1 : U b) (u2 : U c) (u3 : U d) (u4 : U e) : cK z a b c d e = cmpN z.rk (rk a b c d e) := by
  obtain ⟨z0, z1, z2, z3, z4, z5⟩ := hz
  unfold cK N6.rk
  rw [cmpW_val z1 z2 z3 z4 u1 u2 u3 u4]
  have l1 := VW_lt z1 z2 z3 z4
  have l2 := VW_lt u1 u2 u3 u4
  obtain ⟨p1, p2⟩ := z0; obtain ⟨q1, q2⟩ := u0
  obtain ⟨A, hA⟩ := Int.eq_ofNat_of_zero_le p1; obtain ⟨B, rfl⟩ := Int.eq_ofNat_of_zero_le q1
  rw [hA]
  unfold rk cmpI cmpN
  simp only [Int.toNat_natCast]
  generalize VW z.b z.c z.d z.e = v at *
  generalize VW b c d e = u at *
  simp only [show (2 : Nat) ^ 256 = 115792089237316195423570985008687907853269984665640564039457584007913129639936 by decide] at *
  repeat' split
  all_goals first | rfl | omega
theorem cN_rk {z y : N6} (hz : z.ok) (hy : y.ok) : cN z y = cmpN z.rk y.rk := cK_rk hz hy.1 hy.2.1 hy.2.2.1 hy.2.2.2.1 hy.2.2.2.2.1
theorem cmpN_neg {x y : Nat} : cmpN x y < 0 ↔ x < y := by unfold cmpN; repeat' split <;> omega
theorem before_fn (a b c d e x a' b' c' d' e' x' : Int) (h : N6.ok ⟨a, b, c, d, e, x⟩) (h' : N6.ok ⟨a', b', c', d', e', x'⟩) : Fn Tryz.prog 83 [n6 a b c d e x, n6 a' b' c' d' e' x'] [] (vb (decide (rk a b c d e < rk a' b' c' d' e'))) [] := by
  obtain ⟨z0, z1, z2, z3, z4, z5⟩ := h
  obtain ⟨y0, y1, y2, y3, y4, y5⟩ := h'
  dsimp only at z0 z1 z2 z3 z4 z5 y0 y1 y2 y3 y4 y5
  have hk := cK_rk (z := ⟨a, b, c, d, e, x⟩) ⟨z0, z1, z2, z3, z4, z5⟩ y0 y1 y2 y3 y4
  unfold cK at hk
  dsimp only at hk
  rw [cmpW_val z1 z2 z3 z4 y1 y2 y3 y4] at hk
  have hlt : (rk a b c d e < rk a' b' c' d' e') ↔ (a < a' ∨ a = a' ∧ cmpN (VW b c d e) (VW b' c' d' e') < 0) := by
    rw [← cmpN_neg, show cmpN (rk a b c d e) (rk a' b' c' d' e') = _ from hk.symm]
    unfold cmpI
    rcases Int.lt_trichotomy a a' with h | h | h
    · simp [h]
    · subst h; simp
    · simp [h, show ¬ a < a' by omega, show a ≠ a' by omega]
  (refine fn_of Tryz.func83 rfl (by rfl) ?_; simp only [Tryz.ntmps83, List.length_cons, List.length_nil, Nat.reduceAdd, Nat.reduceSub, List.replicate, List.cons_append, List.nil_append])
  (repeat (any_goals (first | ((with_reducible refine evL_one ?_ ?_); rfl; intro K hK; simp only [go_sem]; ((repeat (refine ndI (by first | assumption) ?_)); refine hK _ ?_; clear hK K)) | (with_reducible first | (refine evL_nil ?_; refine hR _ ?_; clear hR R) | ((first | refine evC_seq ?_); intro Ψ hΨ hΨ') | (refine evC_region ?_; intro R hR) | (refine hΨ _ ?_; clear hΨ hΨ' Ψ) | refine evC_ret ?_) | ((with_reducible apply evL_unmet); rfl; rfl; rfl; (try simp only [go_sem])) | ((with_reducible apply evL_grd); rfl; rfl; rfl; all_goals (intro hb; first | (cases hb; done) | ((try simp only [Bool.not_true, Bool.not_false] at hb); (first | ((with_reducible intro K hK); (first | ((apply opA_callB (refcmp_fn b c d e b' c' d' e' z1 z2 z3 z4 y1 y2 y3 y4); rfl; rfl; rfl; rfl; exact Tryz.func107); kernel_rfl; rfl; (simp only [go_sem]; rfl); (first | simp [AV.inNL, AV.inN])) | skip); simp only [go_sem]; ((repeat (refine ndI (by first | assumption) ?_)); refine hK _ ?_; clear hK K)) | ((fail_if_success (with_reducible intro _)); simp only [go_sem]))))))))
  all_goals (refine ⟨by simp, ⟨_, ?_, AV.le_refl _⟩, leH_get (by simp [leH, hget])⟩; simp only [Tryz.results83, resL, ldA, oneOf, go_sem])
  all_goals clear hk
  all_goals simp_all
end Go.Proofs.YtmidmaeihpldhaaGreat.nz
namespace Go.Proofs.YtmidmaeihpldhaaGreat
open Go.RowKit
open Nat (reduceBEq)
set_option maxRecDepth 20000
set_option maxHeartbeats 2000000
structure Wl where
  S : List Ac
  L : List lg.Hd
  N : List nz.N6
abbrev acV (l : List Ac) : PV := .sl false 8 l.length (l.flatMap Ac.pv)
abbrev hdV (l : List lg.Hd) : PV := .sl false 11 l.length (l.flatMap lg.Hd.pv)
abbrev noV (l : List nz.N6) : PV := .sl false 6 l.length (l.flatMap nz.N6.pv)
def Wl.pv (w : Wl) : List PV := [acV w.S, hdV w.L, noV w.N]
abbrev wlA (w : Wl) : AV := .agg [.c (acV w.S), .c (hdV w.L), .c (noV w.N)]
structure Wl.ok (w : Wl) : Prop where
  s : w.S.length ≤ 45 ∧ ∀ x ∈ w.S, x.ok ∧ x.code.length ≤ 300 ∧ x.store.length ≤ 40
  l : w.L.length ≤ 40 ∧ ∀ h ∈ w.L, h.ok
  n : w.N.length ≤ 70 ∧ ∀ x ∈ w.N, x.ok
def rightW (w : Wl) : Bool := okSt w.S && lg.okL w.L && nz.okTo w.N w.N.length
theorem checkW_fn (w : Wl) (hw : w.ok) : Fn Tryz.prog 18 [wlA w] [] (vi .i64 (if rightW w then 0 else 200)) [] := by
  obtain ⟨S, L, N⟩ := w
  obtain ⟨⟨hs, os⟩, ⟨hl, ol⟩, ⟨hn, on'⟩⟩ := hw
  dsimp only at hs os hl ol hn on'
  have h6 : (600:Nat) ≤ maxLen := by decide
  have f1 := checkS_fn false S (by omega) fun x hx => ⟨(os x hx).1, by have := (os x hx).2; omega⟩
  have f2 := lg.check_fn false L (Nat.le_trans hl (by decide)) ol
  have f3 := nz.check_fn false N (Nat.le_trans hn (by decide))
  unfold rightW
  dsimp only
  cases e1 : okSt S <;> cases e2 : lg.okL L <;> cases e3 : nz.okTo N N.length <;> simp only [e1, e2, e3, if_true, if_false, Bool.false_eq_true] at f1 f2 f3 ⊢
  all_goals (refine fn_of Tryz.func18 rfl (by rfl) ?_; simp only [Tryz.ntmps18, List.length_cons, List.length_nil, Nat.reduceAdd, Nat.reduceSub, List.replicate, List.cons_append, List.nil_append])
  all_goals (repeat (any_goals (first | ((with_reducible refine evL_call ?_ ?_ ?_); rfl; rfl; intro K hK; ((apply opA_callB (f1); rfl; rfl; rfl; rfl; exact Tryz.func51); kernel_rfl; rfl; (simp only [go_sem]; rfl); (first | simp [AV.inNL, AV.inN])); (simp only [go_sem]; refine hK _ ?_; clear hK K)) | ((with_reducible refine evL_one ?_ ?_); rfl; intro K hK; simp only [go_sem]; ((repeat (refine ndI (by first | assumption) ?_)); refine hK _ ?_; clear hK K)) | (with_reducible first | (refine evL_nil ?_; refine hR _ ?_; clear hR R) | ((first | refine evC_seq ?_); intro Ψ hΨ hΨ') | (refine evC_region ?_; intro R hR) | (refine hΨ _ ?_; clear hΨ hΨ' Ψ) | refine evC_skip ?_ | refine evC_ret ?_) | ((with_reducible refine hΨ' _ _ ?_ ?_); (focus (simp; done)); clear hΨ hΨ' Ψ) | ((with_reducible apply evL_grd); rfl; rfl; rfl; all_goals (intro hb; first | (cases hb; done) | ((try simp only [Bool.not_true, Bool.not_false] at hb); (first | ((with_reducible intro K hK); (first | ((first | (apply opA_callB (f2); rfl; rfl; rfl; rfl; exact Tryz.func52) | (apply opA_callB (f3); rfl; rfl; rfl; rfl; exact Tryz.func53)); kernel_rfl; rfl; (simp only [go_sem]; rfl); (first | simp [AV.inNL, AV.inN])) | skip); simp only [go_sem]; ((repeat (refine ndI (by first | assumption) ?_)); refine hK _ ?_; clear hK K)) | ((fail_if_success (with_reducible intro _)); simp only [go_sem]))))) | ((with_reducible apply evC_cond); rfl; rfl; all_goals (intro hc; first | (cases hc; done) | (try simp only at hc))))))
  all_goals (refine ⟨by simp, ⟨_, ?_, AV.le_refl _⟩, leH_get (by simp [leH, hget])⟩; simp only [Tryz.results18, resL, ldA, oneOf, go_sem])
  all_goals rfl
end Go.Proofs.YtmidmaeihpldhaaGreat
namespace Go.Proofs.YtmidmaeihpldhaaGreat.ax
open Go.RowKit
open Nat (reduceBEq)
set_option maxRecDepth 20000
set_option maxHeartbeats 2000000
def apv (a : Int) : List PV := [.v (.int .u64 a)]
theorem apv_len (a : Int) : (apv a).length = 1 := rfl
abbrev asl (ex : Bool) (l : List Int) : AV := .c (.sl ex 1 l.length (l.flatMap apv))
def rcA (l : List Int) : List AV := (l.flatMap apv).map .c
theorem rcA_len (l : List Int) : (rcA l).length = l.length * 1 := by unfold rcA; rw [List.length_map, flat_length apv_len]
theorem cloneA_fn (ex : Bool) (l : List Int) (hl : l.length ≤ 1000000) : Fn Tryz.prog 15 [asl ex l] [] (.row 7 58 1 l.length) [(7, rcA l)] := by
  have e1 := rcA_len l
  unfold rcA at e1 ⊢
  (refine fn_of Tryz.func15 rfl (by rfl) ?_; simp only [Tryz.ntmps15, List.length_cons, List.length_nil, Nat.reduceAdd, Nat.reduceSub, List.replicate, List.cons_append, List.nil_append])
  (repeat (any_goals (first | ((have hz0 := hb0 hc); (with_reducible refine evL_op ?_ ?_); rfl; intro K hK; refine OpA.nilrow_after 2 7 58 1 (evO_sound ?_); (simp (disch := omega) only [go_sem, e1, refsL_map]); (repeat (refine And.intro (by first | assumption | rfl) ?_)); refine hK _ ?_; clear hK K; clear hb0) | ((with_reducible refine evL_one ?_ ?_); rfl; intro K hK; simp (disch := omega) only [go_sem, e1, refsL_map]; ((repeat (refine ndI (by first | assumption | omega | rfl) ?_)); refine hK _ ?_; clear hK K)) | ((with_reducible refine evL_one ?_ ?_); rfl; intro K hK; refine evO_isnil rfl rfl (by first | exact .inl rfl) ?_ rfl ?_; (focus (simp (disch := omega) only [go_sem]; try rfl)); (intro b hb0; simp (disch := omega) only [eq_self, go_sem, e1, refsL_map]; (with_reducible refine hK _ ?_); clear hK K)) | (with_reducible first | (refine evL_nil ?_; refine hR _ ?_; clear hR R) | ((first | refine evC_seq ?_); intro Ψ hΨ hΨ') | (refine evC_region ?_; intro R hR) | (refine hΨ _ ?_; clear hΨ hΨ' Ψ) | refine evC_skip ?_ | refine evC_ret ?_) | ((with_reducible refine hΨ' _ _ ?_ ?_); (focus (simp; done)); clear hΨ hΨ' Ψ) | ((with_reducible apply evC_cond); rfl; rfl; all_goals (intro hc; first | (try simp only at hc))))))
  all_goals (try (obtain rfl := List.eq_nil_of_length_eq_zero hz0))
  all_goals exact ⟨by simp, ⟨_, rfl, AV.le_refl _⟩, leH_get (by simp [leH, hget])⟩
theorem asl_at {l : List Int} {i : Nat} {y : Int} (h : l[i]? = some y) : ((l.flatMap apv).drop i).take 1 = [.v (.int .u64 y)] := by
  have h2 := flat_at (f := apv) apv_len h
  rw [Nat.mul_one] at h2
  exact h2
theorem asl_take (l : List Int) (k : Nat) : (l.flatMap apv).take k = (l.take k).flatMap apv := by
  have e : l.flatMap apv = l.map fun a => PV.v (.int .u64 a) := by
    induction l with
    | nil => rfl
    | cons a l ih => rw [List.flatMap_cons, ih]; rfl
  have e2 : (l.take k).flatMap apv = (l.take k).map fun a => PV.v (.int .u64 a) := by
    generalize l.take k = r
    induction r with
    | nil => rfl
    | cons a r ih => rw [List.flatMap_cons, ih]; rfl
  rw [e, e2, List.map_take]
end Go.Proofs.YtmidmaeihpldhaaGreat.ax
namespace Go.Proofs.YtmidmaeihpldhaaGreat
open Go.RowKit
def bsr (lt : Nat → Bool) : Nat → Nat → Nat → Nat
  | 0, i, _ => i
  | f + 1, i, j => if i < j then (if lt ((i + j) / 2) then bsr lt f ((i + j) / 2 + 1) j else bsr lt f i ((i + j) / 2)) else i
section
variable {α : Type} (key : α → Int)
def Rises (L : List α) : Prop := L.Pairwise fun x y => key x < key y
def fnd (k : Int) : List α → Option α
  | [] => none
  | y :: L => if key y = k then some y else fnd k L
def lay (k : Int) (o : Option α) : List α → List α
  | [] => o.toList
  | y :: L => if key y < k then y :: lay k o L else if key y = k then o.toList ++ L else o.toList ++ y :: L
variable {key}
theorem fnd_key {k : Int} : ∀ {L : List α} {x : α}, fnd key k L = some x → key x = k ∧ x ∈ L
  | y :: L, x, h => by
    unfold fnd at h
    split at h
    · rename_i e; cases h; exact ⟨e, by simp⟩
    · have := fnd_key h; exact ⟨this.1, by simp [this.2]⟩
theorem fnd_mem {L : List α} (hr : Rises key L) {x : α} (hx : x ∈ L) : fnd key (key x) L = some x := by
  induction L with
  | nil => cases hx
  | cons y L ih =>
    obtain ⟨l1, l2⟩ := List.pairwise_cons.1 hr
    unfold fnd
    rcases List.mem_cons.1 hx with rfl | hx
    · rw [if_pos rfl]
    · rw [if_neg (by have := l1 x hx; omega)]; exact ih l2 hx
theorem mem_iff {L : List α} (hr : Rises key L) {x : α} : x ∈ L ↔ fnd key (key x) L = some x := ⟨fnd_mem hr, fun h => (fnd_key h).2⟩
structure Parts (key : α → Int) (L : List α) (k : Int) (p : Nat) : Prop where
  le : p ≤ L.length
  lo : ∀ (i : Nat) (h : i < L.length), i < p → key L[i] < k
  hi : ∀ (i : Nat) (h : i < L.length), p ≤ i → k ≤ key L[i]
theorem Parts.tail {y : α} {L : List α} {k : Int} {p : Nat} (h : Parts key (y :: L) k (p + 1)) : Parts key L k p :=
  ⟨by have := h.le; simpa using this, fun i hi hp => by have := h.lo (i + 1) (by simpa using hi) (by omega); simpa using this, fun i hi hp => by have := h.hi (i + 1) (by simpa using hi) (by omega); simpa using this⟩
end
end Go.Proofs.YtmidmaeihpldhaaGreat
namespace Go.Proofs.YtmidmaeihpldhaaGreat.ax
open Go.RowKit
open Nat (reduceBEq)
set_option maxRecDepth 20000
set_option maxHeartbeats 2000000
theorem isNaN_fn (a : Int) : Fn Tryz.prog 136 [vi .u64 a] [] (vb false) [] := by
  (refine fn_of Tryz.func136 rfl (by rfl) ?_; simp only [Tryz.ntmps136, List.length_cons, List.length_nil, Nat.reduceAdd, Nat.reduceSub, List.replicate, List.cons_append, List.nil_append])
  (repeat (any_goals (first | ((with_reducible refine evL_one ?_ ?_); rfl; intro K hK; simp only [go_sem]; ((repeat (refine ndI (by first | assumption) ?_)); refine hK _ ?_; clear hK K)) | (with_reducible first | (refine evL_nil ?_; refine hR _ ?_; clear hR R) | ((first | refine evC_seq ?_); intro Ψ hΨ hΨ') | (refine evC_region ?_; intro R hR) | (refine hΨ _ ?_; clear hΨ hΨ' Ψ) | refine evC_ret ?_))))
  all_goals (refine ⟨by simp, ⟨_, ?_, AV.le_refl _⟩, leH_get (by simp [leH, hget])⟩; simp only [Tryz.results136, resL, ldA, oneOf, go_sem])
  all_goals simp
def cmpI (a b : Int) : Int := if a < b then -1 else if b < a then 1 else 0
theorem compare_fn (a b : Int) : Fn Tryz.prog 113 [vi .u64 a, vi .u64 b] [] (vi .i64 (cmpI a b)) [] := by
  (refine fn_of Tryz.func113 rfl (by rfl) ?_; simp only [Tryz.ntmps113, List.length_cons, List.length_nil, Nat.reduceAdd, Nat.reduceSub, List.replicate, List.cons_append, List.nil_append])
  (repeat (any_goals (first | ((with_reducible refine evL_call ?_ ?_ ?_); rfl; rfl; intro K hK; ((apply opA_callB (isNaN_fn _); rfl; rfl; rfl; rfl; exact Tryz.func136); kernel_rfl; rfl; (simp only [go_sem]; rfl); (first | rfl)); (simp only [go_sem]; refine hK _ ?_; clear hK K)) | ((with_reducible refine evL_one ?_ ?_); rfl; intro K hK; simp only [go_sem]; ((repeat (refine ndI (by first | assumption) ?_)); refine hK _ ?_; clear hK K)) | (with_reducible first | (refine evL_nil ?_; refine hR _ ?_; clear hR R) | ((first | refine evC_seq ?_); intro Ψ hΨ hΨ') | (refine evC_region ?_; intro R hR) | (refine hΨ _ ?_; clear hΨ hΨ' Ψ) | refine evC_skip ?_ | refine evC_ret ?_) | ((with_reducible refine hΨ' _ _ ?_ ?_); (focus (simp; done)); clear hΨ hΨ' Ψ) | ((with_reducible apply evC_cond); rfl; rfl; all_goals (intro hc; first | (cases hc; done) | (try simp only at hc))))))
  all_goals (refine ⟨by simp, ⟨_, ?_, AV.le_refl _⟩, leH_get (by simp [leH, hget])⟩; simp only [Tryz.results113, resL, ldA, oneOf, go_sem])
  all_goals simp_all [cmpI]
  all_goals omega
abbrev aKey (a : Int) : Int := a
structure Sp where
  a : Int
  k : Nat
structure Pg where
  s : Sp
  v : Nat
def Sp.pv (s : Sp) : List PV := [.v (.int .u64 s.a), .v (.int .u64 (l0 s.k)), .v (.int .u64 (l1 s.k)), .v (.int .u64 (l2 s.k)), .v (.int .u64 (l3 s.k))]
def Pg.pv (p : Pg) : List PV := [.v (.int .u64 p.s.a), .v (.int .u64 (l0 p.s.k)), .v (.int .u64 (l1 p.s.k)), .v (.int .u64 (l2 p.s.k)), .v (.int .u64 (l3 p.s.k)), .v (.int .u64 (l0 p.v)), .v (.int .u64 (l1 p.v)), .v (.int .u64 (l2 p.v)), .v (.int .u64 (l3 p.v))]
theorem sp_len (s : Sp) : s.pv.length = 5 := rfl
theorem pg_len (p : Pg) : p.pv.length = 9 := rfl
abbrev spA (s : Sp) : AV := .agg [vi .u64 s.a, vi .u64 (l0 s.k), vi .u64 (l1 s.k), vi .u64 (l2 s.k), vi .u64 (l3 s.k)]
abbrev pgA (p : Pg) : AV := .agg [vi .u64 p.s.a, vi .u64 (l0 p.s.k), vi .u64 (l1 p.s.k), vi .u64 (l2 p.s.k), vi .u64 (l3 p.s.k), vi .u64 (l0 p.v), vi .u64 (l1 p.v), vi .u64 (l2 p.v), vi .u64 (l3 p.v)]
abbrev spl5 (ex : Bool) (l : List Sp) : AV := .c (.sl ex 5 l.length (l.flatMap Sp.pv))
abbrev pgl9 (ex : Bool) (l : List Pg) : AV := .c (.sl ex 9 l.length (l.flatMap Pg.pv))
theorem spl5_at {l : List Sp} {i : Nat} {y : Sp} (h : l[i]? = some y) : ((l.flatMap Sp.pv).drop (i * 5)).take 5 = [.v (.int .u64 y.a), .v (.int .u64 (l0 y.k)), .v (.int .u64 (l1 y.k)), .v (.int .u64 (l2 y.k)), .v (.int .u64 (l3 y.k))] := flat_at (f := Sp.pv) sp_len h
theorem pgl9_at {l : List Pg} {i : Nat} {y : Pg} (h : l[i]? = some y) : ((l.flatMap Pg.pv).drop (i * 9)).take 9 = [.v (.int .u64 y.s.a), .v (.int .u64 (l0 y.s.k)), .v (.int .u64 (l1 y.s.k)), .v (.int .u64 (l2 y.s.k)), .v (.int .u64 (l3 y.s.k)), .v (.int .u64 (l0 y.v)), .v (.int .u64 (l1 y.v)), .v (.int .u64 (l2 y.v)), .v (.int .u64 (l3 y.v))] := flat_at (f := Pg.pv) pg_len h
def Sp.ok (s : Sp) : Prop := U s.a ∧ s.k < WW
def Pg.ok (p : Pg) : Prop := p.s.ok ∧ p.v < WW
def Sp.key (s : Sp) : Int := s.a * (WW : Int) + (s.k : Int)
abbrev Pg.key (p : Pg) : Int := p.s.key
theorem key_lt {W a b : Int} {x y : Int} (hx : 0 ≤ x ∧ x < W) (hy : 0 ≤ y ∧ y < W) : a * W + x < b * W + y ↔ a < b ∨ (a = b ∧ x < y) := by
  rcases Int.lt_trichotomy a b with h | h | h
  · have e : (a + 1) * W ≤ b * W := Int.mul_le_mul_of_nonneg_right (by omega) (by omega)
    rw [Int.add_mul] at e
    omega
  · subst h; omega
  · have e : (b + 1) * W ≤ a * W := Int.mul_le_mul_of_nonneg_right (by omega) (by omega)
    rw [Int.add_mul] at e
    omega
theorem Sp.key_lt {s t : Sp} (hs : s.ok) (ht : t.ok) : s.key < t.key ↔ s.a < t.a ∨ (s.a = t.a ∧ s.k < t.k) := by
  have h := @Go.Proofs.YtmidmaeihpldhaaGreat.ax.key_lt (WW : Int) s.a t.a s.k t.k ⟨by omega, by have := hs.2; exact_mod_cast this⟩ ⟨by omega, by have := ht.2; exact_mod_cast this⟩
  unfold Sp.key
  rw [h]
  omega
theorem cmp_key {s t : Sp} (hs : s.ok) (ht : t.ok) : (if cmpI s.a t.a = 0 then (if s.k < t.k then -1 else if t.k < s.k then 1 else 0) else cmpI s.a t.a) = cmpI s.key t.key := by
  have h1 := Sp.key_lt hs ht
  have h2 := Sp.key_lt ht hs
  generalize s.key = x at *
  generalize t.key = y at *
  unfold cmpI
  rcases Int.lt_trichotomy s.a t.a with h | h | h
  · have hx : x < y := by omega
    simp [h, hx]
  · rcases Nat.lt_trichotomy s.k t.k with g | g | g
    · have hx : x < y := by omega
      simp [h, g, hx]
    · have hx : ¬ x < y := by omega
      have hy : ¬ y < x := by omega
      simp [h, g, hx, hy]
    · have hx : ¬ x < y := by omega
      have hy : y < x := by omega
      have g2 : ¬ s.k < t.k := by omega
      simp [h, g, hx, hy, g2]
  · have hx : ¬ x < y := by omega
    have hy : y < x := by omega
    have g2 : ¬ s.a < t.a := by omega
    simp [h, hx, hy, g2]
theorem cmpor_fn (ex : Bool) (x y : Int) : Fn Tryz.prog 123 [.c (.sl ex 1 2 [.v (.int .i64 x), .v (.int .i64 y)])] [] (vi .i64 (if x = 0 then y else x)) [] := by
  (refine fn_of Tryz.func123 rfl (by rfl) ?_; simp only [Tryz.ntmps123, List.length_cons, List.length_nil, Nat.reduceAdd, Nat.reduceSub, List.replicate, List.cons_append, List.nil_append])
  (repeat (any_goals (first | ((with_reducible refine evL_one ?_ ?_); rfl; intro K hK; simp (disch := omega) only [go_sem, wrI, Int.reduceAdd]; ((repeat (refine ndI (by first | assumption | omega | rfl) ?_)); refine hK _ ?_; clear hK K)) | (with_reducible first | (refine evL_nil ?_; refine hR _ ?_; clear hR R) | ((first | refine evC_seq ?_ | refine evC_block ?_); intro Ψ hΨ hΨ') | (refine evC_region ?_; intro R hR) | (refine hΨ _ ?_; clear hΨ hΨ' Ψ) | refine evC_skip ?_ | refine evC_ret ?_ | refine evC_exit ?_) | ((with_reducible refine hΨ' _ _ ?_ ?_); (focus (simp; done)); clear hΨ hΨ' Ψ) | ((with_reducible apply evC_cond); rfl; rfl; all_goals (intro hc; first | (cases hc; done) | (try simp only at hc))) | (with_reducible refine evC_rounds 3 ?_) | ((with_reducible refine evR_succ ?_); intro Ψ hΨ hΨ'))))
  all_goals (refine ⟨by simp, ⟨_, ?_, AV.le_refl _⟩, leH_get (by simp [leH, hget])⟩; simp only [Tryz.results123, resL, ldA, oneOf, go_sem])
  all_goals simp_all
theorem compareS_fn (s t : Sp) (hs : s.ok) (ht : t.ok) : Fn Tryz.prog 115 [spA s, spA t] [] (vi .i64 (cmpI s.key t.key)) [] := by
  have c1 := compare_fn s.a t.a
  have c2 := cmp_fn s.k t.k hs.2 ht.2
  rw [← cmp_key hs ht]
  generalize cmpI s.a t.a = x at c1 ⊢
  generalize (if s.k < t.k then -1 else if t.k < s.k then 1 else 0 : Int) = y at c2 ⊢
  (refine fn_of Tryz.func115 rfl (by rfl) ?_; simp only [Tryz.ntmps115, List.length_cons, List.length_nil, Nat.reduceAdd, Nat.reduceSub, List.replicate, List.cons_append, List.nil_append])
  (repeat (any_goals (first | ((with_reducible refine evL_one ?_ ?_); rfl; intro K hK; simp only [go_sem]; ((repeat (refine ndI (by first | assumption) ?_)); refine hK _ ?_; clear hK K)) | (with_reducible first | (refine evL_nil ?_; refine hR _ ?_; clear hR R) | ((first | refine evC_seq ?_); intro Ψ hΨ hΨ') | (refine evC_region ?_; intro R hR) | (refine hΨ _ ?_; clear hΨ hΨ' Ψ) | refine evC_ret ?_) | ((with_reducible refine evD_nil ?_ ?_); kernel_rfl; (with_reducible refine hR _ ?_); clear hR R) | ((first | ((with_reducible apply evD_fcall); rfl; rfl; ((first | (apply opF_callB (c1); rfl; rfl; rfl; rfl; exact Tryz.func113) | (apply opF_callB (c2); rfl; rfl; rfl; rfl; exact Tryz.func120) | (apply opF_callB (cmpor_fn _ _ _); rfl; rfl; rfl; rfl; exact Tryz.func123)); kernel_rfl; rfl; (simp only [go_sem]; rfl); (first | rfl | simp [AV.inNL, AV.inN]))) | ((with_reducible apply evD_any); rfl; rfl; (simp only [rdE, rdOf, go_sem]; rfl); (intro τ hA hQ hN; ((try simp only [agree, Op.operands, Call.operands, go_sem, List.mem_cons, List.not_mem_nil, forall_eq_or_imp, forall_eq, List.append_toArray, Option.toArray] at hA); (try simp only [go_sem, List.mem_cons, List.not_mem_nil, forall_eq_or_imp, forall_eq] at hQ hN); (first | (revert hA; intro hA)); (first | (revert hQ; intro hQ)); (first | (revert hN; intro hN)); simp only [go_sem, hA, hQ, hN]; (repeat (refine ndI (by first | assumption) ?_)); (first | apply eff_rd)))) | ((first | ((with_reducible apply evD_one); rfl)); apply opF_buildSlice_flat; rfl; rfl; (focus (simp only [go_sem]; try rfl)); (focus (simp only [go_sem]; try rfl)); rfl; (first | omega); (first | omega); (first | omega); (simp only [go_sem]; rfl); rfl; (focus ((simp only [unC, Option.map_some]); (try rfl))))); (simp only [St.eff, setO, hputs, go_sem])) | ((with_reducible refine evC_draw ?_ ?_ ?_ ?_); kernel_rfl; kernel_rfl; (first | kernel_rfl); intro R hR))))
  all_goals (refine ⟨by simp, ⟨_, ?_, AV.le_refl _⟩, leH_get (by simp [leH, hget])⟩; simp only [Tryz.results115, resL, ldA, oneOf, go_sem])
theorem kept_fn (s t : Pg) (hs : s.ok) (ht : t.ok) : Fn Tryz.prog 117 [pgA s, pgA t] [] (vi .i64 (cmpI s.key t.key)) [] := by
  have c1 := compare_fn s.s.a t.s.a
  have c2 := cmp_fn s.s.k t.s.k hs.1.2 ht.1.2
  rw [← cmp_key hs.1 ht.1]
  generalize cmpI s.s.a t.s.a = x at c1 ⊢
  generalize (if s.s.k < t.s.k then -1 else if t.s.k < s.s.k then 1 else 0 : Int) = y at c2 ⊢
  (refine fn_of Tryz.func117 rfl (by rfl) ?_; simp only [Tryz.ntmps117, List.length_cons, List.length_nil, Nat.reduceAdd, Nat.reduceSub, List.replicate, List.cons_append, List.nil_append])
  (repeat (any_goals (first | ((with_reducible refine evL_one ?_ ?_); rfl; intro K hK; simp only [go_sem]; ((repeat (refine ndI (by first | assumption) ?_)); refine hK _ ?_; clear hK K)) | (with_reducible first | (refine evL_nil ?_; refine hR _ ?_; clear hR R) | ((first | refine evC_seq ?_); intro Ψ hΨ hΨ') | (refine evC_region ?_; intro R hR) | (refine hΨ _ ?_; clear hΨ hΨ' Ψ) | refine evC_ret ?_) | ((with_reducible refine evD_nil ?_ ?_); kernel_rfl; (with_reducible refine hR _ ?_); clear hR R) | ((first | ((with_reducible apply evD_fcall); rfl; rfl; ((first | (apply opF_callB (c1); rfl; rfl; rfl; rfl; exact Tryz.func113) | (apply opF_callB (c2); rfl; rfl; rfl; rfl; exact Tryz.func120) | (apply opF_callB (cmpor_fn _ _ _); rfl; rfl; rfl; rfl; exact Tryz.func123)); kernel_rfl; rfl; (simp only [go_sem]; rfl); (first | rfl | simp [AV.inNL, AV.inN]))) | ((with_reducible apply evD_any); rfl; rfl; (simp only [rdE, rdOf, go_sem]; rfl); (intro τ hA hQ hN; ((try simp only [agree, Op.operands, Call.operands, go_sem, List.mem_cons, List.not_mem_nil, forall_eq_or_imp, forall_eq, List.append_toArray, Option.toArray] at hA); (try simp only [go_sem, List.mem_cons, List.not_mem_nil, forall_eq_or_imp, forall_eq] at hQ hN); (first | (revert hA; intro hA)); (first | (revert hQ; intro hQ)); (first | (revert hN; intro hN)); simp only [go_sem, hA, hQ, hN]; (repeat (refine ndI (by first | assumption) ?_)); (first | apply eff_rd)))) | ((first | ((with_reducible apply evD_one); rfl)); apply opF_buildSlice_flat; rfl; rfl; (focus (simp only [go_sem]; try rfl)); (focus (simp only [go_sem]; try rfl)); rfl; (first | omega); (first | omega); (first | omega); (simp only [go_sem]; rfl); rfl; (focus ((simp only [unC, Option.map_some]); (try rfl))))); (simp only [St.eff, setO, hputs, go_sem])) | ((with_reducible refine evC_draw ?_ ?_ ?_ ?_); kernel_rfl; kernel_rfl; (first | kernel_rfl); intro R hR))))
  all_goals (refine ⟨by simp, ⟨_, ?_, AV.le_refl _⟩, leH_get (by simp [leH, hget])⟩; simp only [Tryz.results117, resL, ldA, oneOf, go_sem])
end Go.Proofs.YtmidmaeihpldhaaGreat.ax
namespace Go.Proofs.YtmidmaeihpldhaaGreat.ax
open Go.RowKit
open Nat (reduceBEq)
set_option maxRecDepth 20000
set_option maxHeartbeats 2000000
section
variable {α : Type} (key : α → Int)
def bad (l : List α) (j : Nat) : Bool := match l[j]?, l[j + 1]? with | some x, some y => !decide (key x < key y) | _, _ => false
def risB (l : List α) : Bool := (List.range l.length).all fun j => !bad key l j
variable {key}
theorem bad_false {l : List α} (h : risB key l = true) (j : Nat) : bad key l j = false := by
  unfold risB at h
  rw [List.all_eq_true] at h
  rcases Nat.lt_or_ge j l.length with h1 | h1
  · have := h j (List.mem_range.2 h1)
    simpa using this
  · unfold bad; rw [List.getElem?_eq_none h1]
theorem bad_ex {l : List α} (h : risB key l = false) : ∃ j, j < l.length ∧ bad key l j = true := by
  refine Classical.byContradiction fun hn => ?_
  have : risB key l = true := by
    unfold risB
    rw [List.all_eq_true]
    intro j hj
    cases hb : bad key l j with
    | false => rfl
    | true => exact absurd ⟨j, List.mem_range.1 hj, hb⟩ hn
  rw [this] at h; cases h
def okR (key : α → Int) (l : List α) : Bool := risB key l && decide (l.length ≤ 400)
end
theorem cmpI_ge (x y : Int) : decide (cmpI x y ≥ 0) = !decide (x < y) := by
  unfold cmpI
  by_cases h : x < y
  · simp [h]
  · by_cases h2 : y < x <;> simp [h, h2]
theorem risesA_fn (ex : Bool) (l : List Int) (hl : l.length ≤ 1000000) : Fn Tryz.prog 112 [asl ex l, .fn 113 []] [] (vb (okR aKey l)) [] := by
  unfold okR
  have kn : decide ((l.length : Int) ≤ 400) = decide (l.length ≤ 400) := decide_eq_decide.2 (by omega)
  obtain ⟨m, hm, h1, h2⟩ : ∃ m, m ≤ l.length ∧ (∀ j, j < m → bad aKey l j = false) ∧ (risB aKey l = false → bad aKey l m = true) ∧ (risB aKey l = true → m = l.length) := by
    cases hb : risB aKey l with
    | true => exact ⟨l.length, Nat.le_refl _, fun j _ => bad_false hb j, nofun, fun _ => rfl⟩
    | false =>
      obtain ⟨j, h1, h2⟩ := bad_ex hb
      obtain ⟨i, h3, h4, h5⟩ := first_out (L := fun j => !bad aKey l j) (n := l.length) ⟨j, h1, by simp [h2]⟩
      exact ⟨i, by omega, fun j hj => by have := h5 j hj; simpa using this, fun _ => by simpa using h4, nofun⟩
  obtain ⟨h2, h3⟩ := h2
  generalize risB aKey l = q at h2 h3 ⊢
  (refine fn_of Tryz.func112 rfl (by rfl) ?_; simp only [Tryz.ntmps112, List.length_cons, List.length_nil, Nat.reduceAdd, Nat.reduceSub, List.replicate, List.cons_append, List.nil_append])
  (repeat (any_goals (first | ((with_reducible refine evL_one ?_ ?_); rfl; intro K hK; simp only [go_sem]; ((repeat (refine ndI (by first | assumption) ?_)); refine hK _ ?_; clear hK K)) | (with_reducible first | (refine evL_nil ?_; refine hR _ ?_; clear hR R) | ((first | refine evC_seq ?_ | refine evC_block ?_); intro Ψ hΨ hΨ') | (refine evC_region ?_; intro R hR) | (refine hΨ _ ?_; clear hΨ hΨ' Ψ)))))
  refine evC_loop (α := { i : Nat // i ≤ l.length ∧ (q = false → i ≤ m + 1) }) (fun i => ⟨[asl ex l, .fn 113 [], .any, .any, .any, .any, .any, vi .i64 l.length, vi .i64 (i.1 : Int), .any, .any, .any, .any, .any, .any, .any, .any, .any, .any, .any, .any, .any, .any, .any, .any, .any, .any, .any, .any, .any, .any], []⟩) (fun i => l.length - i.1) ⟨0, Nat.zero_le _, fun _ => Nat.zero_le _⟩ (St.le_of (by simp [leT]) (by simp [leH])) ?_
  rintro ⟨i, hi, hq⟩ Ψ hΨ hΨ'
  (try dsimp only at hi hq hΨ ⊢)
  rcases Nat.lt_or_ge i l.length with hlt | hge
  · obtain ⟨y, hy⟩ : ∃ y, l[i]? = some y := ⟨_, List.getElem?_eq_getElem hlt⟩
    have k1 : (decide ((i : Int) < (l.length : Int))) = true := decide_eq_true (by omega)
    have k2 := asl_at hy
    have k7 : (i : Int) + 1 = ((i + 1 : Nat) : Int) := by omega
    rcases Nat.eq_zero_or_pos i with h0 | h0
    · have k4 : (decide ((i : Int) > 0)) = false := decide_eq_false (by omega)
      (have W := ndI k1 (ndI k4 (ndI k7 @wrI)); (repeat (any_goals (first | ((with_reducible refine evL_one ?_ ?_); rfl; intro K hK; simp (disch := omega) only [go_sem, W, Nat.mul_one]; ((repeat (refine ndI (by first | assumption | rfl) ?_)); refine hK _ ?_; clear hK K)) | (with_reducible first | (refine evL_nil ?_; refine hR _ ?_; clear hR R) | ((first | refine evC_seq ?_ | refine evC_block ?_); intro Ψ hΨ hΨ') | (refine evC_region ?_; intro R hR) | (refine hΨ _ ?_; clear hΨ hΨ' Ψ) | refine evC_skip ?_) | ((with_reducible refine hΨ' _ _ ?_ ?_); (focus (simp; done)); clear hΨ hΨ' Ψ) | ((with_reducible apply evC_cond); rfl; rfl; all_goals (intro hc; first | (cases hc; done) | (try simp only at hc))) | ((with_reducible refine evD_nil ?_ ?_); kernel_rfl; (with_reducible refine hR _ ?_); clear hR R) | ((first | ((with_reducible apply evD_skip); rfl; rfl; rfl; rfl) | ((first | ((with_reducible apply evD_any); rfl; rfl)); (simp (disch := omega) only [rdE, rdOf, go_sem, W, Nat.mul_one]; rfl); (intro τ hA hQ hN; ((try simp only [agree, Op.operands, Call.operands, go_sem, W, Nat.mul_one, go_sem, List.mem_cons, List.not_mem_nil, forall_eq_or_imp, forall_eq, List.append_toArray, Option.toArray] at hA); (try simp only [go_sem, W, Nat.mul_one, List.mem_cons, List.not_mem_nil, forall_eq_or_imp, forall_eq] at hQ hN); (first | (revert hA; intro hA)); (first | (revert hQ; intro hQ)); (first | (revert hN; intro hN)); simp (disch := omega) only [go_sem, W, Nat.mul_one, go_sem, hA, hQ, hN]; (repeat (refine ndI (by first | assumption | rfl) ?_)); (first | apply eff_rd))))); (simp (disch := omega) only [St.eff, setO, hputs, go_sem, W, Nat.mul_one])) | ((with_reducible refine evC_draw ?_ ?_ ?_ ?_); kernel_rfl; kernel_rfl; (first | kernel_rfl); intro R hR)))))
      all_goals exact hΨ _ ⟨i + 1, hlt, fun hf => by omega⟩ (by dsimp only; omega) (St.le_of (by simp [leT]) (by simp [leH]))
    · obtain ⟨x, hx⟩ : ∃ x, l[i - 1]? = some x := ⟨_, List.getElem?_eq_getElem (by omega)⟩
      have k3 := asl_at hx
      have k4 : (decide ((i : Int) > 0)) = true := decide_eq_true (by omega)
      have k5 : (i : Int) - 1 = ((i - 1 : Nat) : Int) := by omega
      have k6 := cmpI_ge (aKey x) (aKey y)
      have cm := compare_fn x y
      have hb : bad aKey l (i - 1) = !decide (aKey x < aKey y) := by
        unfold bad; rw [hx, show i - 1 + 1 = i by omega, hy]
      rw [← hb] at k6
      clear hb
      generalize cmpI (aKey x) (aKey y) = c at k6 cm
      by_cases hc : i - 1 < m
      · rw [h1 _ hc] at k6
        (have W := ndI k1 (ndI k2 (ndI k3 (ndI k4 (ndI k5 (ndI k6 (ndI k7 @wrI)))))); (repeat (any_goals (first | ((with_reducible refine evL_one ?_ ?_); rfl; intro K hK; simp (disch := omega) only [go_sem, W, Nat.mul_one]; ((repeat (refine ndI (by first | assumption | rfl) ?_)); refine hK _ ?_; clear hK K)) | (with_reducible first | (refine evL_nil ?_; refine hR _ ?_; clear hR R) | ((first | refine evC_seq ?_ | refine evC_block ?_); intro Ψ hΨ hΨ') | (refine evC_region ?_; intro R hR) | (refine hΨ _ ?_; clear hΨ hΨ' Ψ) | refine evC_skip ?_) | ((with_reducible refine hΨ' _ _ ?_ ?_); (focus (simp; done)); clear hΨ hΨ' Ψ) | ((with_reducible apply evC_cond); rfl; rfl; all_goals (intro hc; first | (cases hc; done) | (try simp only at hc))) | ((with_reducible refine evD_nil ?_ ?_); kernel_rfl; (with_reducible refine hR _ ?_); clear hR R) | ((first | ((first | ((with_reducible apply evD_gcall); rfl; rfl; rfl; rfl; rfl)); ((apply opF_callB (cm); rfl; rfl; rfl; rfl; exact Tryz.func113); kernel_rfl; rfl; (simp (disch := omega) only [go_sem, W, Nat.mul_one]; rfl); (first | simp [AV.inNL, AV.inN]))) | ((first | ((with_reducible apply evD_any); rfl; rfl) | ((with_reducible apply evD_gany); rfl; rfl; rfl; rfl; rfl)); (simp (disch := omega) only [rdE, rdOf, go_sem, W, Nat.mul_one]; rfl); (intro τ hA hQ hN; ((try simp only [agree, Op.operands, Call.operands, go_sem, W, Nat.mul_one, go_sem, List.mem_cons, List.not_mem_nil, forall_eq_or_imp, forall_eq, List.append_toArray, Option.toArray] at hA); (try simp only [go_sem, W, Nat.mul_one, List.mem_cons, List.not_mem_nil, forall_eq_or_imp, forall_eq] at hQ hN); (first | (revert hA; intro hA)); (first | (revert hQ; intro hQ)); (first | (revert hN; intro hN)); simp (disch := omega) only [go_sem, W, Nat.mul_one, go_sem, hA, hQ, hN]; (repeat (refine ndI (by first | assumption | omega | rfl) ?_)); (first | apply eff_rd))))); (simp (disch := omega) only [St.eff, setO, hputs, go_sem, W, Nat.mul_one])) | ((with_reducible refine evC_draw ?_ ?_ ?_ ?_); kernel_rfl; kernel_rfl; (first | kernel_rfl); intro R hR)))))
        all_goals exact hΨ _ ⟨i + 1, hlt, fun hf => by omega⟩ (by dsimp only; omega) (St.le_of (by simp [leT]) (by simp [leH]))
      · have hqf : q = false := by
          cases hq2 : q with
          | false => rfl
          | true => have := h3 hq2; omega
        have e : i - 1 = m := by have := hq hqf; omega
        rw [e, h2 hqf] at k6
        (have W := ndI k1 (ndI k2 (ndI k3 (ndI k4 (ndI k5 (ndI k6 (ndI k7 @wrI)))))); (repeat (any_goals (first | ((with_reducible refine evL_one ?_ ?_); rfl; intro K hK; simp (disch := omega) only [go_sem, W, Nat.mul_one]; ((repeat (refine ndI (by first | assumption | rfl) ?_)); refine hK _ ?_; clear hK K)) | (with_reducible first | (refine evL_nil ?_; refine hR _ ?_; clear hR R) | ((first | refine evC_seq ?_ | refine evC_block ?_); intro Ψ hΨ hΨ') | (refine evC_region ?_; intro R hR) | (refine hΨ _ ?_; clear hΨ hΨ' Ψ) | refine evC_skip ?_ | refine evC_ret ?_) | ((with_reducible refine hΨ' _ _ ?_ ?_); (focus (simp; done)); clear hΨ hΨ' Ψ) | ((with_reducible apply evC_cond); rfl; rfl; all_goals (intro hc; first | (cases hc; done) | (try simp only at hc))) | ((with_reducible refine evD_nil ?_ ?_); kernel_rfl; (with_reducible refine hR _ ?_); clear hR R) | ((first | ((first | ((with_reducible apply evD_gcall); rfl; rfl; rfl; rfl; rfl)); ((apply opF_callB (cm); rfl; rfl; rfl; rfl; exact Tryz.func113); kernel_rfl; rfl; (simp (disch := omega) only [go_sem, W, Nat.mul_one]; rfl); (first | simp [AV.inNL, AV.inN]))) | ((first | ((with_reducible apply evD_any); rfl; rfl) | ((with_reducible apply evD_gany); rfl; rfl; rfl; rfl; rfl)); (simp (disch := omega) only [rdE, rdOf, go_sem, W, Nat.mul_one]; rfl); (intro τ hA hQ hN; ((try simp only [agree, Op.operands, Call.operands, go_sem, W, Nat.mul_one, go_sem, List.mem_cons, List.not_mem_nil, forall_eq_or_imp, forall_eq, List.append_toArray, Option.toArray] at hA); (try simp only [go_sem, W, Nat.mul_one, List.mem_cons, List.not_mem_nil, forall_eq_or_imp, forall_eq] at hQ hN); (first | (revert hA; intro hA)); (first | (revert hQ; intro hQ)); (first | (revert hN; intro hN)); simp (disch := omega) only [go_sem, W, Nat.mul_one, go_sem, hA, hQ, hN]; (repeat (refine ndI (by first | assumption | omega | rfl) ?_)); (first | apply eff_rd))))); (simp (disch := omega) only [St.eff, setO, hputs, go_sem, W, Nat.mul_one])) | ((with_reducible refine evC_draw ?_ ?_ ?_ ?_); kernel_rfl; kernel_rfl; (first | kernel_rfl); intro R hR)))))
        all_goals rw [hqf]
        all_goals (refine ⟨by simp, ⟨_, ?_, AV.le_refl _⟩, leH_get (by simp [leH, hget])⟩; simp only [Tryz.results112, resL, ldA, oneOf, go_sem])
        all_goals rfl
  · have k1 : (decide ((i : Int) < (l.length : Int))) = false := decide_eq_false (by omega)
    have hqt : q = true := by
      cases hq2 : q with
      | true => rfl
      | false =>
        have := hq hq2
        have hbm := h2 hq2
        unfold bad at hbm
        rw [List.getElem?_eq_none (show l.length ≤ m + 1 by omega)] at hbm
        split at hbm <;> simp_all
    (repeat (any_goals (first | ((with_reducible refine evL_one ?_ ?_); rfl; intro K hK; simp only [go_sem, k1, kn]; ((repeat (refine ndI (by first | assumption) ?_)); refine hK _ ?_; clear hK K)) | (with_reducible first | (refine evL_nil ?_; refine hR _ ?_; clear hR R) | ((first | refine evC_seq ?_); intro Ψ hΨ hΨ') | (refine evC_region ?_; intro R hR) | (refine hΨ _ ?_; clear hΨ hΨ' Ψ) | refine evC_ret ?_ | refine evC_exit ?_) | ((with_reducible refine hΨ' _ _ ?_ ?_); (focus (simp; done)); clear hΨ hΨ' Ψ) | ((with_reducible apply evC_cond); rfl; rfl; all_goals (intro hc; first | (cases hc; done) | (try simp only at hc))))))
    all_goals rw [hqt]
    all_goals (refine ⟨by simp, ⟨_, ?_, AV.le_refl _⟩, leH_get (by simp [leH, hget])⟩; simp only [Tryz.results112, resL, ldA, oneOf, go_sem])
    all_goals simp
theorem risesS_fn (ex : Bool) (l : List Sp) (hl : l.length ≤ 1000000) (ok : ∀ x ∈ l, Sp.ok x) : Fn Tryz.prog 114 [spl5 ex l, .fn 115 []] [] (vb (okR Sp.key l)) [] := by
  unfold okR
  have kn : decide ((l.length : Int) ≤ 400) = decide (l.length ≤ 400) := decide_eq_decide.2 (by omega)
  obtain ⟨m, hm, h1, h2⟩ : ∃ m, m ≤ l.length ∧ (∀ j, j < m → bad Sp.key l j = false) ∧ (risB Sp.key l = false → bad Sp.key l m = true) ∧ (risB Sp.key l = true → m = l.length) := by
    cases hb : risB Sp.key l with
    | true => exact ⟨l.length, Nat.le_refl _, fun j _ => bad_false hb j, nofun, fun _ => rfl⟩
    | false =>
      obtain ⟨j, h1, h2⟩ := bad_ex hb
      obtain ⟨i, h3, h4, h5⟩ := first_out (L := fun j => !bad Sp.key l j) (n := l.length) ⟨j, h1, by simp [h2]⟩
      exact ⟨i, by omega, fun j hj => by have := h5 j hj; simpa using this, fun _ => by simpa using h4, nofun⟩
  obtain ⟨h2, h3⟩ := h2
  generalize risB Sp.key l = q at h2 h3 ⊢
  (refine fn_of Tryz.func114 rfl (by rfl) ?_; simp only [Tryz.ntmps114, List.length_cons, List.length_nil, Nat.reduceAdd, Nat.reduceSub, List.replicate, List.cons_append, List.nil_append])
  (repeat (any_goals (first | ((with_reducible refine evL_one ?_ ?_); rfl; intro K hK; simp only [go_sem]; ((repeat (refine ndI (by first | assumption) ?_)); refine hK _ ?_; clear hK K)) | (with_reducible first | (refine evL_nil ?_; refine hR _ ?_; clear hR R) | ((first | refine evC_seq ?_ | refine evC_block ?_); intro Ψ hΨ hΨ') | (refine evC_region ?_; intro R hR) | (refine hΨ _ ?_; clear hΨ hΨ' Ψ)))))
  refine evC_loop (α := { i : Nat // i ≤ l.length ∧ (q = false → i ≤ m + 1) }) (fun i => ⟨[spl5 ex l, .fn 115 [], .any, .any, .any, .any, .any, vi .i64 l.length, vi .i64 (i.1 : Int), .any, .any, .any, .any, .any, .any, .any, .any, .any, .any, .any, .any, .any, .any, .any, .any, .any, .any, .any, .any, .any, .any], []⟩) (fun i => l.length - i.1) ⟨0, Nat.zero_le _, fun _ => Nat.zero_le _⟩ (St.le_of (by simp [leT]) (by simp [leH])) ?_
  rintro ⟨i, hi, hq⟩ Ψ hΨ hΨ'
  (try dsimp only at hi hq hΨ ⊢)
  rcases Nat.lt_or_ge i l.length with hlt | hge
  · obtain ⟨y, hy⟩ : ∃ y, l[i]? = some y := ⟨_, List.getElem?_eq_getElem hlt⟩
    have k1 : (decide ((i : Int) < (l.length : Int))) = true := decide_eq_true (by omega)
    have k2 := spl5_at hy
    have k7 : (i : Int) + 1 = ((i + 1 : Nat) : Int) := by omega
    rcases Nat.eq_zero_or_pos i with h0 | h0
    · have k4 : (decide ((i : Int) > 0)) = false := decide_eq_false (by omega)
      (have W := ndI k1 (ndI k4 (ndI k7 @wrI)); (repeat (any_goals (first | ((with_reducible refine evL_one ?_ ?_); rfl; intro K hK; simp (disch := omega) only [go_sem, W, Nat.mul_one]; ((repeat (refine ndI (by first | assumption | rfl) ?_)); refine hK _ ?_; clear hK K)) | (with_reducible first | (refine evL_nil ?_; refine hR _ ?_; clear hR R) | ((first | refine evC_seq ?_ | refine evC_block ?_); intro Ψ hΨ hΨ') | (refine evC_region ?_; intro R hR) | (refine hΨ _ ?_; clear hΨ hΨ' Ψ) | refine evC_skip ?_) | ((with_reducible refine hΨ' _ _ ?_ ?_); (focus (simp; done)); clear hΨ hΨ' Ψ) | ((with_reducible apply evC_cond); rfl; rfl; all_goals (intro hc; first | (cases hc; done) | (try simp only at hc))) | ((with_reducible refine evD_nil ?_ ?_); kernel_rfl; (with_reducible refine hR _ ?_); clear hR R) | ((first | ((with_reducible apply evD_skip); rfl; rfl; rfl; rfl) | ((first | ((with_reducible apply evD_any); rfl; rfl)); (simp (disch := omega) only [rdE, rdOf, go_sem, W, Nat.mul_one]; rfl); (intro τ hA hQ hN; ((try simp only [agree, Op.operands, Call.operands, go_sem, W, Nat.mul_one, go_sem, List.mem_cons, List.not_mem_nil, forall_eq_or_imp, forall_eq, List.append_toArray, Option.toArray] at hA); (try simp only [go_sem, W, Nat.mul_one, List.mem_cons, List.not_mem_nil, forall_eq_or_imp, forall_eq] at hQ hN); (first | (revert hA; intro hA)); (first | (revert hQ; intro hQ)); (first | (revert hN; intro hN)); simp (disch := omega) only [go_sem, W, Nat.mul_one, go_sem, hA, hQ, hN]; (repeat (refine ndI (by first | assumption | rfl) ?_)); (first | apply eff_rd))))); (simp (disch := omega) only [St.eff, setO, hputs, go_sem, W, Nat.mul_one])) | ((with_reducible refine evC_draw ?_ ?_ ?_ ?_); kernel_rfl; kernel_rfl; (first | kernel_rfl); intro R hR)))))
      all_goals exact hΨ _ ⟨i + 1, hlt, fun hf => by omega⟩ (by dsimp only; omega) (St.le_of (by simp [leT]) (by simp [leH]))
    · obtain ⟨x, hx⟩ : ∃ x, l[i - 1]? = some x := ⟨_, List.getElem?_eq_getElem (by omega)⟩
      have k3 := spl5_at hx
      have ox := ok x (List.mem_of_getElem? hx)
      have oy := ok y (List.mem_of_getElem? hy)
      have k4 : (decide ((i : Int) > 0)) = true := decide_eq_true (by omega)
      have k5 : (i : Int) - 1 = ((i - 1 : Nat) : Int) := by omega
      have k6 := cmpI_ge (Sp.key x) (Sp.key y)
      have cm := compareS_fn x y ox oy
      have hb : bad Sp.key l (i - 1) = !decide (Sp.key x < Sp.key y) := by
        unfold bad; rw [hx, show i - 1 + 1 = i by omega, hy]
      rw [← hb] at k6
      clear hb
      generalize cmpI (Sp.key x) (Sp.key y) = c at k6 cm
      by_cases hc : i - 1 < m
      · rw [h1 _ hc] at k6
        (have W := ndI k1 (ndI k2 (ndI k3 (ndI k4 (ndI k5 (ndI k6 (ndI k7 @wrI)))))); (repeat (any_goals (first | ((with_reducible refine evL_one ?_ ?_); rfl; intro K hK; simp (disch := omega) only [go_sem, W, Nat.mul_one]; ((repeat (refine ndI (by first | assumption | rfl) ?_)); refine hK _ ?_; clear hK K)) | (with_reducible first | (refine evL_nil ?_; refine hR _ ?_; clear hR R) | ((first | refine evC_seq ?_ | refine evC_block ?_); intro Ψ hΨ hΨ') | (refine evC_region ?_; intro R hR) | (refine hΨ _ ?_; clear hΨ hΨ' Ψ) | refine evC_skip ?_) | ((with_reducible refine hΨ' _ _ ?_ ?_); (focus (simp; done)); clear hΨ hΨ' Ψ) | ((with_reducible apply evC_cond); rfl; rfl; all_goals (intro hc; first | (cases hc; done) | (try simp only at hc))) | ((with_reducible refine evD_nil ?_ ?_); kernel_rfl; (with_reducible refine hR _ ?_); clear hR R) | ((first | ((first | ((with_reducible apply evD_gcall); rfl; rfl; rfl; rfl; rfl)); ((apply opF_callB (cm); rfl; rfl; rfl; rfl; exact Tryz.func115); kernel_rfl; rfl; (simp (disch := omega) only [go_sem, W, Nat.mul_one]; rfl); (first | simp [AV.inNL, AV.inN]))) | ((first | ((with_reducible apply evD_any); rfl; rfl) | ((with_reducible apply evD_gany); rfl; rfl; rfl; rfl; rfl)); (simp (disch := omega) only [rdE, rdOf, go_sem, W, Nat.mul_one]; rfl); (intro τ hA hQ hN; ((try simp only [agree, Op.operands, Call.operands, go_sem, W, Nat.mul_one, go_sem, List.mem_cons, List.not_mem_nil, forall_eq_or_imp, forall_eq, List.append_toArray, Option.toArray] at hA); (try simp only [go_sem, W, Nat.mul_one, List.mem_cons, List.not_mem_nil, forall_eq_or_imp, forall_eq] at hQ hN); (first | (revert hA; intro hA)); (first | (revert hQ; intro hQ)); (first | (revert hN; intro hN)); simp (disch := omega) only [go_sem, W, Nat.mul_one, go_sem, hA, hQ, hN]; (repeat (refine ndI (by first | assumption | omega | rfl) ?_)); (first | apply eff_rd))))); (simp (disch := omega) only [St.eff, setO, hputs, go_sem, W, Nat.mul_one])) | ((with_reducible refine evC_draw ?_ ?_ ?_ ?_); kernel_rfl; kernel_rfl; (first | kernel_rfl); intro R hR)))))
        all_goals exact hΨ _ ⟨i + 1, hlt, fun hf => by omega⟩ (by dsimp only; omega) (St.le_of (by simp [leT]) (by simp [leH]))
      · have hqf : q = false := by
          cases hq2 : q with
          | false => rfl
          | true => have := h3 hq2; omega
        have e : i - 1 = m := by have := hq hqf; omega
        rw [e, h2 hqf] at k6
        (have W := ndI k1 (ndI k2 (ndI k3 (ndI k4 (ndI k5 (ndI k6 (ndI k7 @wrI)))))); (repeat (any_goals (first | ((with_reducible refine evL_one ?_ ?_); rfl; intro K hK; simp (disch := omega) only [go_sem, W, Nat.mul_one]; ((repeat (refine ndI (by first | assumption | rfl) ?_)); refine hK _ ?_; clear hK K)) | (with_reducible first | (refine evL_nil ?_; refine hR _ ?_; clear hR R) | ((first | refine evC_seq ?_ | refine evC_block ?_); intro Ψ hΨ hΨ') | (refine evC_region ?_; intro R hR) | (refine hΨ _ ?_; clear hΨ hΨ' Ψ) | refine evC_skip ?_ | refine evC_ret ?_) | ((with_reducible refine hΨ' _ _ ?_ ?_); (focus (simp; done)); clear hΨ hΨ' Ψ) | ((with_reducible apply evC_cond); rfl; rfl; all_goals (intro hc; first | (cases hc; done) | (try simp only at hc))) | ((with_reducible refine evD_nil ?_ ?_); kernel_rfl; (with_reducible refine hR _ ?_); clear hR R) | ((first | ((first | ((with_reducible apply evD_gcall); rfl; rfl; rfl; rfl; rfl)); ((apply opF_callB (cm); rfl; rfl; rfl; rfl; exact Tryz.func115); kernel_rfl; rfl; (simp (disch := omega) only [go_sem, W, Nat.mul_one]; rfl); (first | simp [AV.inNL, AV.inN]))) | ((first | ((with_reducible apply evD_any); rfl; rfl) | ((with_reducible apply evD_gany); rfl; rfl; rfl; rfl; rfl)); (simp (disch := omega) only [rdE, rdOf, go_sem, W, Nat.mul_one]; rfl); (intro τ hA hQ hN; ((try simp only [agree, Op.operands, Call.operands, go_sem, W, Nat.mul_one, go_sem, List.mem_cons, List.not_mem_nil, forall_eq_or_imp, forall_eq, List.append_toArray, Option.toArray] at hA); (try simp only [go_sem, W, Nat.mul_one, List.mem_cons, List.not_mem_nil, forall_eq_or_imp, forall_eq] at hQ hN); (first | (revert hA; intro hA)); (first | (revert hQ; intro hQ)); (first | (revert hN; intro hN)); simp (disch := omega) only [go_sem, W, Nat.mul_one, go_sem, hA, hQ, hN]; (repeat (refine ndI (by first | assumption | omega | rfl) ?_)); (first | apply eff_rd))))); (simp (disch := omega) only [St.eff, setO, hputs, go_sem, W, Nat.mul_one])) | ((with_reducible refine evC_draw ?_ ?_ ?_ ?_); kernel_rfl; kernel_rfl; (first | kernel_rfl); intro R hR)))))
        all_goals rw [hqf]
        all_goals (refine ⟨by simp, ⟨_, ?_, AV.le_refl _⟩, leH_get (by simp [leH, hget])⟩; simp only [Tryz.results114, resL, ldA, oneOf, go_sem])
        all_goals rfl
  · have k1 : (decide ((i : Int) < (l.length : Int))) = false := decide_eq_false (by omega)
    have hqt : q = true := by
      cases hq2 : q with
      | true => rfl
      | false =>
        have := hq hq2
        have hbm := h2 hq2
        unfold bad at hbm
        rw [List.getElem?_eq_none (show l.length ≤ m + 1 by omega)] at hbm
        split at hbm <;> simp_all
    (repeat (any_goals (first | ((with_reducible refine evL_one ?_ ?_); rfl; intro K hK; simp only [go_sem, k1, kn]; ((repeat (refine ndI (by first | assumption) ?_)); refine hK _ ?_; clear hK K)) | (with_reducible first | (refine evL_nil ?_; refine hR _ ?_; clear hR R) | ((first | refine evC_seq ?_); intro Ψ hΨ hΨ') | (refine evC_region ?_; intro R hR) | (refine hΨ _ ?_; clear hΨ hΨ' Ψ) | refine evC_ret ?_ | refine evC_exit ?_) | ((with_reducible refine hΨ' _ _ ?_ ?_); (focus (simp; done)); clear hΨ hΨ' Ψ) | ((with_reducible apply evC_cond); rfl; rfl; all_goals (intro hc; first | (cases hc; done) | (try simp only at hc))))))
    all_goals rw [hqt]
    all_goals (refine ⟨by simp, ⟨_, ?_, AV.le_refl _⟩, leH_get (by simp [leH, hget])⟩; simp only [Tryz.results114, resL, ldA, oneOf, go_sem])
    all_goals simp
theorem risesP_fn (ex : Bool) (l : List Pg) (hl : l.length ≤ 1000000) (ok : ∀ x ∈ l, Pg.ok x) : Fn Tryz.prog 116 [pgl9 ex l, .fn 117 []] [] (vb (okR Pg.key l)) [] := by
  unfold okR
  have kn : decide ((l.length : Int) ≤ 400) = decide (l.length ≤ 400) := decide_eq_decide.2 (by omega)
  obtain ⟨m, hm, h1, h2⟩ : ∃ m, m ≤ l.length ∧ (∀ j, j < m → bad Pg.key l j = false) ∧ (risB Pg.key l = false → bad Pg.key l m = true) ∧ (risB Pg.key l = true → m = l.length) := by
    cases hb : risB Pg.key l with
    | true => exact ⟨l.length, Nat.le_refl _, fun j _ => bad_false hb j, nofun, fun _ => rfl⟩
    | false =>
      obtain ⟨j, h1, h2⟩ := bad_ex hb
      obtain ⟨i, h3, h4, h5⟩ := first_out (L := fun j => !bad Pg.key l j) (n := l.length) ⟨j, h1, by simp [h2]⟩
      exact ⟨i, by omega, fun j hj => by have := h5 j hj; simpa using this, fun _ => by simpa using h4, nofun⟩
  obtain ⟨h2, h3⟩ := h2
  generalize risB Pg.key l = q at h2 h3 ⊢
  (refine fn_of Tryz.func116 rfl (by rfl) ?_; simp only [Tryz.ntmps116, List.length_cons, List.length_nil, Nat.reduceAdd, Nat.reduceSub, List.replicate, List.cons_append, List.nil_append])
  (repeat (any_goals (first | ((with_reducible refine evL_one ?_ ?_); rfl; intro K hK; simp only [go_sem]; ((repeat (refine ndI (by first | assumption) ?_)); refine hK _ ?_; clear hK K)) | (with_reducible first | (refine evL_nil ?_; refine hR _ ?_; clear hR R) | ((first | refine evC_seq ?_ | refine evC_block ?_); intro Ψ hΨ hΨ') | (refine evC_region ?_; intro R hR) | (refine hΨ _ ?_; clear hΨ hΨ' Ψ)))))
  refine evC_loop (α := { i : Nat // i ≤ l.length ∧ (q = false → i ≤ m + 1) }) (fun i => ⟨[pgl9 ex l, .fn 117 [], .any, .any, .any, .any, .any, vi .i64 l.length, vi .i64 (i.1 : Int), .any, .any, .any, .any, .any, .any, .any, .any, .any, .any, .any, .any, .any, .any, .any, .any, .any, .any, .any, .any, .any, .any], []⟩) (fun i => l.length - i.1) ⟨0, Nat.zero_le _, fun _ => Nat.zero_le _⟩ (St.le_of (by simp [leT]) (by simp [leH])) ?_
  rintro ⟨i, hi, hq⟩ Ψ hΨ hΨ'
  (try dsimp only at hi hq hΨ ⊢)
  rcases Nat.lt_or_ge i l.length with hlt | hge
  · obtain ⟨y, hy⟩ : ∃ y, l[i]? = some y := ⟨_, List.getElem?_eq_getElem hlt⟩
    have k1 : (decide ((i : Int) < (l.length : Int))) = true := decide_eq_true (by omega)
    have k2 := pgl9_at hy
    have k7 : (i : Int) + 1 = ((i + 1 : Nat) : Int) := by omega
    rcases Nat.eq_zero_or_pos i with h0 | h0
    · have k4 : (decide ((i : Int) > 0)) = false := decide_eq_false (by omega)
      (have W := ndI k1 (ndI k4 (ndI k7 @wrI)); (repeat (any_goals (first | ((with_reducible refine evL_one ?_ ?_); rfl; intro K hK; simp (disch := omega) only [go_sem, W, Nat.mul_one]; ((repeat (refine ndI (by first | assumption | rfl) ?_)); refine hK _ ?_; clear hK K)) | (with_reducible first | (refine evL_nil ?_; refine hR _ ?_; clear hR R) | ((first | refine evC_seq ?_ | refine evC_block ?_); intro Ψ hΨ hΨ') | (refine evC_region ?_; intro R hR) | (refine hΨ _ ?_; clear hΨ hΨ' Ψ) | refine evC_skip ?_) | ((with_reducible refine hΨ' _ _ ?_ ?_); (focus (simp; done)); clear hΨ hΨ' Ψ) | ((with_reducible apply evC_cond); rfl; rfl; all_goals (intro hc; first | (cases hc; done) | (try simp only at hc))) | ((with_reducible refine evD_nil ?_ ?_); kernel_rfl; (with_reducible refine hR _ ?_); clear hR R) | ((first | ((with_reducible apply evD_skip); rfl; rfl; rfl; rfl) | ((first | ((with_reducible apply evD_any); rfl; rfl)); (simp (disch := omega) only [rdE, rdOf, go_sem, W, Nat.mul_one]; rfl); (intro τ hA hQ hN; ((try simp only [agree, Op.operands, Call.operands, go_sem, W, Nat.mul_one, go_sem, List.mem_cons, List.not_mem_nil, forall_eq_or_imp, forall_eq, List.append_toArray, Option.toArray] at hA); (try simp only [go_sem, W, Nat.mul_one, List.mem_cons, List.not_mem_nil, forall_eq_or_imp, forall_eq] at hQ hN); (first | (revert hA; intro hA)); (first | (revert hQ; intro hQ)); (first | (revert hN; intro hN)); simp (disch := omega) only [go_sem, W, Nat.mul_one, go_sem, hA, hQ, hN]; (repeat (refine ndI (by first | assumption | rfl) ?_)); (first | apply eff_rd))))); (simp (disch := omega) only [St.eff, setO, hputs, go_sem, W, Nat.mul_one])) | ((with_reducible refine evC_draw ?_ ?_ ?_ ?_); kernel_rfl; kernel_rfl; (first | kernel_rfl); intro R hR)))))
      all_goals exact hΨ _ ⟨i + 1, hlt, fun hf => by omega⟩ (by dsimp only; omega) (St.le_of (by simp [leT]) (by simp [leH]))
    · obtain ⟨x, hx⟩ : ∃ x, l[i - 1]? = some x := ⟨_, List.getElem?_eq_getElem (by omega)⟩
      have k3 := pgl9_at hx
      have ox := ok x (List.mem_of_getElem? hx)
      have oy := ok y (List.mem_of_getElem? hy)
      have k4 : (decide ((i : Int) > 0)) = true := decide_eq_true (by omega)
      have k5 : (i : Int) - 1 = ((i - 1 : Nat) : Int) := by omega
      have k6 := cmpI_ge (Pg.key x) (Pg.key y)
      have cm := kept_fn x y ox oy
      have hb : bad Pg.key l (i - 1) = !decide (Pg.key x < Pg.key y) := by
        unfold bad; rw [hx, show i - 1 + 1 = i by omega, hy]
      rw [← hb] at k6
      clear hb
      generalize cmpI (Pg.key x) (Pg.key y) = c at k6 cm
      by_cases hc : i - 1 < m
      · rw [h1 _ hc] at k6
        (have W := ndI k1 (ndI k2 (ndI k3 (ndI k4 (ndI k5 (ndI k6 (ndI k7 @wrI)))))); (repeat (any_goals (first | ((with_reducible refine evL_one ?_ ?_); rfl; intro K hK; simp (disch := omega) only [go_sem, W, Nat.mul_one]; ((repeat (refine ndI (by first | assumption | rfl) ?_)); refine hK _ ?_; clear hK K)) | (with_reducible first | (refine evL_nil ?_; refine hR _ ?_; clear hR R) | ((first | refine evC_seq ?_ | refine evC_block ?_); intro Ψ hΨ hΨ') | (refine evC_region ?_; intro R hR) | (refine hΨ _ ?_; clear hΨ hΨ' Ψ) | refine evC_skip ?_) | ((with_reducible refine hΨ' _ _ ?_ ?_); (focus (simp; done)); clear hΨ hΨ' Ψ) | ((with_reducible apply evC_cond); rfl; rfl; all_goals (intro hc; first | (cases hc; done) | (try simp only at hc))) | ((with_reducible refine evD_nil ?_ ?_); kernel_rfl; (with_reducible refine hR _ ?_); clear hR R) | ((first | ((first | ((with_reducible apply evD_gcall); rfl; rfl; rfl; rfl; rfl)); ((apply opF_callB (cm); rfl; rfl; rfl; rfl; exact Tryz.func117); kernel_rfl; rfl; (simp (disch := omega) only [go_sem, W, Nat.mul_one]; rfl); (first | simp [AV.inNL, AV.inN]))) | ((first | ((with_reducible apply evD_any); rfl; rfl) | ((with_reducible apply evD_gany); rfl; rfl; rfl; rfl; rfl)); (simp (disch := omega) only [rdE, rdOf, go_sem, W, Nat.mul_one]; rfl); (intro τ hA hQ hN; ((try simp only [agree, Op.operands, Call.operands, go_sem, W, Nat.mul_one, go_sem, List.mem_cons, List.not_mem_nil, forall_eq_or_imp, forall_eq, List.append_toArray, Option.toArray] at hA); (try simp only [go_sem, W, Nat.mul_one, List.mem_cons, List.not_mem_nil, forall_eq_or_imp, forall_eq] at hQ hN); (first | (revert hA; intro hA)); (first | (revert hQ; intro hQ)); (first | (revert hN; intro hN)); simp (disch := omega) only [go_sem, W, Nat.mul_one, go_sem, hA, hQ, hN]; (repeat (refine ndI (by first | assumption | omega | rfl) ?_)); (first | apply eff_rd))))); (simp (disch := omega) only [St.eff, setO, hputs, go_sem, W, Nat.mul_one])) | ((with_reducible refine evC_draw ?_ ?_ ?_ ?_); kernel_rfl; kernel_rfl; (first | kernel_rfl); intro R hR)))))
        all_goals exact hΨ _ ⟨i + 1, hlt, fun hf => by omega⟩ (by dsimp only; omega) (St.le_of (by simp [leT]) (by simp [leH]))
      · have hqf : q = false := by
          cases hq2 : q with
          | false => rfl
          | true => have := h3 hq2; omega
        have e : i - 1 = m := by have := hq hqf; omega
        rw [e, h2 hqf] at k6
        (have W := ndI k1 (ndI k2 (ndI k3 (ndI k4 (ndI k5 (ndI k6 (ndI k7 @wrI)))))); (repeat (any_goals (first | ((with_reducible refine evL_one ?_ ?_); rfl; intro K hK; simp (disch := omega) only [go_sem, W, Nat.mul_one]; ((repeat (refine ndI (by first | assumption | rfl) ?_)); refine hK _ ?_; clear hK K)) | (with_reducible first | (refine evL_nil ?_; refine hR _ ?_; clear hR R) | ((first | refine evC_seq ?_ | refine evC_block ?_); intro Ψ hΨ hΨ') | (refine evC_region ?_; intro R hR) | (refine hΨ _ ?_; clear hΨ hΨ' Ψ) | refine evC_skip ?_ | refine evC_ret ?_) | ((with_reducible refine hΨ' _ _ ?_ ?_); (focus (simp; done)); clear hΨ hΨ' Ψ) | ((with_reducible apply evC_cond); rfl; rfl; all_goals (intro hc; first | (cases hc; done) | (try simp only at hc))) | ((with_reducible refine evD_nil ?_ ?_); kernel_rfl; (with_reducible refine hR _ ?_); clear hR R) | ((first | ((first | ((with_reducible apply evD_gcall); rfl; rfl; rfl; rfl; rfl)); ((apply opF_callB (cm); rfl; rfl; rfl; rfl; exact Tryz.func117); kernel_rfl; rfl; (simp (disch := omega) only [go_sem, W, Nat.mul_one]; rfl); (first | simp [AV.inNL, AV.inN]))) | ((first | ((with_reducible apply evD_any); rfl; rfl) | ((with_reducible apply evD_gany); rfl; rfl; rfl; rfl; rfl)); (simp (disch := omega) only [rdE, rdOf, go_sem, W, Nat.mul_one]; rfl); (intro τ hA hQ hN; ((try simp only [agree, Op.operands, Call.operands, go_sem, W, Nat.mul_one, go_sem, List.mem_cons, List.not_mem_nil, forall_eq_or_imp, forall_eq, List.append_toArray, Option.toArray] at hA); (try simp only [go_sem, W, Nat.mul_one, List.mem_cons, List.not_mem_nil, forall_eq_or_imp, forall_eq] at hQ hN); (first | (revert hA; intro hA)); (first | (revert hQ; intro hQ)); (first | (revert hN; intro hN)); simp (disch := omega) only [go_sem, W, Nat.mul_one, go_sem, hA, hQ, hN]; (repeat (refine ndI (by first | assumption | omega | rfl) ?_)); (first | apply eff_rd))))); (simp (disch := omega) only [St.eff, setO, hputs, go_sem, W, Nat.mul_one])) | ((with_reducible refine evC_draw ?_ ?_ ?_ ?_); kernel_rfl; kernel_rfl; (first | kernel_rfl); intro R hR)))))
        all_goals rw [hqf]
        all_goals (refine ⟨by simp, ⟨_, ?_, AV.le_refl _⟩, leH_get (by simp [leH, hget])⟩; simp only [Tryz.results116, resL, ldA, oneOf, go_sem])
        all_goals rfl
  · have k1 : (decide ((i : Int) < (l.length : Int))) = false := decide_eq_false (by omega)
    have hqt : q = true := by
      cases hq2 : q with
      | true => rfl
      | false =>
        have := hq hq2
        have hbm := h2 hq2
        unfold bad at hbm
        rw [List.getElem?_eq_none (show l.length ≤ m + 1 by omega)] at hbm
        split at hbm <;> simp_all
    (repeat (any_goals (first | ((with_reducible refine evL_one ?_ ?_); rfl; intro K hK; simp only [go_sem, k1, kn]; ((repeat (refine ndI (by first | assumption) ?_)); refine hK _ ?_; clear hK K)) | (with_reducible first | (refine evL_nil ?_; refine hR _ ?_; clear hR R) | ((first | refine evC_seq ?_); intro Ψ hΨ hΨ') | (refine evC_region ?_; intro R hR) | (refine hΨ _ ?_; clear hΨ hΨ' Ψ) | refine evC_ret ?_ | refine evC_exit ?_) | ((with_reducible refine hΨ' _ _ ?_ ?_); (focus (simp; done)); clear hΨ hΨ' Ψ) | ((with_reducible apply evC_cond); rfl; rfl; all_goals (intro hc; first | (cases hc; done) | (try simp only at hc))))))
    all_goals rw [hqt]
    all_goals (refine ⟨by simp, ⟨_, ?_, AV.le_refl _⟩, leH_get (by simp [leH, hget])⟩; simp only [Tryz.results116, resL, ldA, oneOf, go_sem])
    all_goals simp
end Go.Proofs.YtmidmaeihpldhaaGreat.ax
namespace Go.Proofs.YtmidmaeihpldhaaGreat.ax
open Go.RowKit
open Nat (reduceBEq)
set_option maxRecDepth 20000
set_option maxHeartbeats 2000000
abbrev raS (l : List Sp) : List AV := (l.flatMap Sp.pv).map .c
theorem raS_len (l : List Sp) : (raS l).length = l.length * 5 := by rw [List.length_map, flat_length sp_len]
theorem cloneS_fn (ex : Bool) (l : List Sp) (hl : l.length ≤ 1000000) : Fn Tryz.prog 34 [.c (.sl ex 5 l.length (l.flatMap Sp.pv))] [] (.row 7 92 5 l.length) [(7, raS l)] := by
  have e1 := raS_len l
  show Fn _ _ _ _ _ [(7, (l.flatMap Sp.pv).map .c)]
  (refine fn_of Tryz.func34 rfl (by rfl) ?_; simp only [Tryz.ntmps34, List.length_cons, List.length_nil, Nat.reduceAdd, Nat.reduceSub, List.replicate, List.cons_append, List.nil_append])
  (repeat (any_goals (first | ((have hz0 := hb0 hc); (with_reducible refine evL_op ?_ ?_); rfl; intro K hK; refine OpA.nilrow_after 2 7 92 5 (evO_sound ?_); (simp (disch := omega) only [go_sem, e1, refsL_map]); (repeat (refine And.intro (by first | assumption | rfl) ?_)); refine hK _ ?_; clear hK K; clear hb0) | ((with_reducible refine evL_one ?_ ?_); rfl; intro K hK; simp (disch := omega) only [go_sem, e1, refsL_map]; ((repeat (refine ndI (by first | assumption | omega | rfl) ?_)); refine hK _ ?_; clear hK K)) | ((with_reducible refine evL_one ?_ ?_); rfl; intro K hK; refine evO_isnil rfl rfl (by first | exact .inl rfl) ?_ rfl ?_; (focus (simp (disch := omega) only [go_sem]; try rfl)); (intro b hb0; simp (disch := omega) only [eq_self, go_sem, e1, refsL_map]; (with_reducible refine hK _ ?_); clear hK K)) | (with_reducible first | (refine evL_nil ?_; refine hR _ ?_; clear hR R) | ((first | refine evC_seq ?_); intro Ψ hΨ hΨ') | (refine evC_region ?_; intro R hR) | (refine hΨ _ ?_; clear hΨ hΨ' Ψ) | refine evC_skip ?_ | refine evC_ret ?_) | ((with_reducible refine hΨ' _ _ ?_ ?_); (focus (simp; done)); clear hΨ hΨ' Ψ) | ((with_reducible apply evC_cond); rfl; rfl; all_goals (intro hc; first | (try simp only at hc))))))
  all_goals (try (obtain rfl := List.eq_nil_of_length_eq_zero hz0))
  all_goals exact ⟨by simp, ⟨_, rfl, AV.le_refl _⟩, leH_get (by simp [leH, hget])⟩
end Go.Proofs.YtmidmaeihpldhaaGreat.ax
namespace Go.Proofs.YtmidmaeihpldhaaGreat.ax
open Go.RowKit
open Nat (reduceBEq)
set_option maxRecDepth 20000
set_option maxHeartbeats 2000000
abbrev raP (l : List Pg) : List AV := (l.flatMap Pg.pv).map .c
theorem raP_len (l : List Pg) : (raP l).length = l.length * 9 := by rw [List.length_map, flat_length pg_len]
theorem cloneP_fn (ex : Bool) (l : List Pg) (hl : l.length ≤ 1000000) : Fn Tryz.prog 35 [.c (.sl ex 9 l.length (l.flatMap Pg.pv))] [] (.row 7 95 9 l.length) [(7, raP l)] := by
  have e1 := raP_len l
  show Fn _ _ _ _ _ [(7, (l.flatMap Pg.pv).map .c)]
  (refine fn_of Tryz.func35 rfl (by rfl) ?_; simp only [Tryz.ntmps35, List.length_cons, List.length_nil, Nat.reduceAdd, Nat.reduceSub, List.replicate, List.cons_append, List.nil_append])
  (repeat (any_goals (first | ((have hz0 := hb0 hc); (with_reducible refine evL_op ?_ ?_); rfl; intro K hK; refine OpA.nilrow_after 2 7 95 9 (evO_sound ?_); (simp (disch := omega) only [go_sem, e1, refsL_map]); (repeat (refine And.intro (by first | assumption | rfl) ?_)); refine hK _ ?_; clear hK K; clear hb0) | ((with_reducible refine evL_one ?_ ?_); rfl; intro K hK; simp (disch := omega) only [go_sem, e1, refsL_map]; ((repeat (refine ndI (by first | assumption | omega | rfl) ?_)); refine hK _ ?_; clear hK K)) | ((with_reducible refine evL_one ?_ ?_); rfl; intro K hK; refine evO_isnil rfl rfl (by first | exact .inl rfl) ?_ rfl ?_; (focus (simp (disch := omega) only [go_sem]; try rfl)); (intro b hb0; simp (disch := omega) only [eq_self, go_sem, e1, refsL_map]; (with_reducible refine hK _ ?_); clear hK K)) | (with_reducible first | (refine evL_nil ?_; refine hR _ ?_; clear hR R) | ((first | refine evC_seq ?_); intro Ψ hΨ hΨ') | (refine evC_region ?_; intro R hR) | (refine hΨ _ ?_; clear hΨ hΨ' Ψ) | refine evC_skip ?_ | refine evC_ret ?_) | ((with_reducible refine hΨ' _ _ ?_ ?_); (focus (simp; done)); clear hΨ hΨ' Ψ) | ((with_reducible apply evC_cond); rfl; rfl; all_goals (intro hc; first | (try simp only at hc))))))
  all_goals (try (obtain rfl := List.eq_nil_of_length_eq_zero hz0))
  all_goals exact ⟨by simp, ⟨_, rfl, AV.le_refl _⟩, leH_get (by simp [leH, hget])⟩
end Go.Proofs.YtmidmaeihpldhaaGreat.ax
namespace Go.Proofs.YtmidmaeihpldhaaGreat.ax
open Go.RowKit
set_option maxRecDepth 20000
set_option maxHeartbeats 2000000
abbrev raA (l : List Int) : List AV := (l.flatMap apv).map .c
end Go.Proofs.YtmidmaeihpldhaaGreat.ax
namespace Go.Proofs.YtmidmaeihpldhaaGreat.ax
open Go.RowKit
open Nat (reduceBEq)
set_option maxRecDepth 20000
set_option maxHeartbeats 2000000
instance decSp : DecidableEq Sp := fun p q => decidable_of_iff (p.a = q.a ∧ p.k = q.k) ⟨fun h => by cases p; cases q; simp_all, fun h => by rw [h]; exact ⟨rfl, rfl⟩⟩
instance decPg : DecidableEq Pg := fun p q => decidable_of_iff (p.s = q.s ∧ p.v = q.v) ⟨fun h => by cases p; cases q; simp_all, fun h => by rw [h]; exact ⟨rfl, rfl⟩⟩
theorem sp_eq {p q : Sp} (hp : p.ok) (hq : q.ok) : (p.a == q.a && (l0 p.k == l0 q.k && (l1 p.k == l1 q.k && (l2 p.k == l2 q.k && l3 p.k == l3 q.k)))) = decide (p = q) := by
  rw [wN_eq hp.2 hq.2]
  by_cases h1 : p.a = q.a
  · by_cases h2 : p.k = q.k
    · have e : p = q := by cases p; cases q; simp_all
      simp [h1, h2, e]
    · have e : ¬ p = q := fun h => h2 (by rw [h])
      simp [h1, h2, e]
  · have e : ¬ p = q := fun h => h1 (by rw [h])
    simp [h1, e]
theorem pg_eq {p q : Pg} (hp : p.ok) (hq : q.ok) : (p.s.a == q.s.a && (l0 p.s.k == l0 q.s.k && (l1 p.s.k == l1 q.s.k && (l2 p.s.k == l2 q.s.k && (l3 p.s.k == l3 q.s.k && (l0 p.v == l0 q.v && (l1 p.v == l1 q.v && (l2 p.v == l2 q.v && l3 p.v == l3 q.v)))))))) = decide (p = q) := by
  have h1 := sp_eq hp.1 hq.1
  have h2 := wN_eq hp.2 hq.2
  have e : (p.s.a == q.s.a && (l0 p.s.k == l0 q.s.k && (l1 p.s.k == l1 q.s.k && (l2 p.s.k == l2 q.s.k && (l3 p.s.k == l3 q.s.k && (l0 p.v == l0 q.v && (l1 p.v == l1 q.v && (l2 p.v == l2 q.v && l3 p.v == l3 q.v)))))))) = ((p.s.a == q.s.a && (l0 p.s.k == l0 q.s.k && (l1 p.s.k == l1 q.s.k && (l2 p.s.k == l2 q.s.k && l3 p.s.k == l3 q.s.k)))) && (l0 p.v == l0 q.v && (l1 p.v == l1 q.v && (l2 p.v == l2 q.v && l3 p.v == l3 q.v)))) := by simp only [Bool.and_assoc]
  rw [e, h1, h2, ← Bool.decide_and]
  exact decide_eq_decide.2 ⟨fun h => by cases p; cases q; simp_all, fun h => by rw [h]; exact ⟨rfl, rfl⟩⟩
theorem a_ne (x y : Int) : (x != y) = !decide (x = y) := by
  by_cases h : x = y
  · simp [h]
  · simp [h]
theorem eqA_fn (e1 e2 : Bool) (l m : List Int) (hl : l.length ≤ maxLen) (hm : m.length ≤ maxLen) : Fn Tryz.prog 124 [asl e1 l, asl e2 m] [] (vb (decide (l = m))) [] := by
  by_cases hlen : l.length = m.length
  · have k0 : ((l.length : Int) != (m.length : Int)) = false := by rw [hlen]; simp
    have k8 : l.length < 9223372036854775808 := Nat.lt_succ_of_le hl
    obtain ⟨r, hr⟩ : ∃ r, decide (l = m) = r := ⟨_, rfl⟩
    rw [hr]
    (refine fn_of Tryz.func124 rfl (by rfl) ?_; simp only [Tryz.ntmps124, List.length_cons, List.length_nil, Nat.reduceAdd, Nat.reduceSub, List.replicate, List.cons_append, List.nil_append])
    (repeat (any_goals (first | ((with_reducible refine evL_one ?_ ?_); rfl; intro K hK; simp only [go_sem, k0]; ((repeat (refine ndI (by first | assumption) ?_)); refine hK _ ?_; clear hK K)) | (with_reducible first | (refine evL_nil ?_; refine hR _ ?_; clear hR R) | ((first | refine evC_seq ?_ | refine evC_block ?_); intro Ψ hΨ hΨ') | (refine evC_region ?_; intro R hR) | (refine hΨ _ ?_; clear hΨ hΨ' Ψ) | refine evC_skip ?_) | ((with_reducible apply evC_cond); rfl; rfl; all_goals (intro hc; first | (cases hc; done) | (try simp only at hc))))))
    refine evC_loop (α := { i : Nat // i ≤ l.length ∧ ∀ j, j < i → l[j]? = m[j]? }) (fun p => ⟨[asl e1 l, asl e2 m, .any, .any, .any, .any, .any, .any, .any, .any, .any, .any, vi .i64 l.length, vi .i64 p.1, .any, .any, .any, .any, .any, .any, .any, .any, .any, .any, .any, .any], []⟩) (fun p => l.length - p.1) ⟨0, Nat.zero_le _, fun j hj => by omega⟩ (St.le_of (by simp [leT]) (by simp [leH])) ?_
    rintro ⟨i, hi, hno⟩ Ψ hΨ hΨ'
    dsimp only at hi hΨ ⊢
    rcases Nat.lt_or_ge i l.length with hlt | hge
    · have k1 : (decide ((i : Int) < (l.length : Int))) = true := decide_eq_true (by omega)
      have k7 : (i : Int) + 1 = ((i + 1 : Nat) : Int) := by omega
      obtain ⟨x, hx⟩ : ∃ x, l[i]? = some x := ⟨_, List.getElem?_eq_getElem hlt⟩
      obtain ⟨y, hy⟩ : ∃ y, m[i]? = some y := ⟨_, List.getElem?_eq_getElem (by omega)⟩
      have hlm : i < m.length := by omega
      have k2 := asl_at hx
      have k3 := asl_at hy
      have k4 := a_ne x y
      by_cases hxy : x = y
      · rw [decide_eq_true hxy, Bool.not_true] at k4
        (have W := ndI k1 (ndI k2 (ndI k3 (ndI k4 (ndI k7 @wrI)))); (repeat (any_goals (first | ((with_reducible refine evL_one ?_ ?_); rfl; intro K hK; simp (disch := omega) only [go_sem, W, Nat.mul_one, Bool.not_true, Bool.not_false]; ((repeat (refine ndI (by first | assumption | rfl) ?_)); refine hK _ ?_; clear hK K)) | (with_reducible first | (refine evL_nil ?_; refine hR _ ?_; clear hR R) | ((first | refine evC_seq ?_ | refine evC_block ?_); intro Ψ hΨ hΨ') | (refine evC_region ?_; intro R hR) | (refine hΨ _ ?_; clear hΨ hΨ' Ψ) | refine evC_skip ?_) | ((with_reducible refine hΨ' _ _ ?_ ?_); (focus (simp; done)); clear hΨ hΨ' Ψ) | ((with_reducible apply evC_cond); rfl; rfl; all_goals (intro hc; first | (cases hc; done) | (try simp only at hc))) | ((with_reducible refine evD_nil ?_ ?_); kernel_rfl; (with_reducible refine hR _ ?_); clear hR R) | (((with_reducible apply evD_any); rfl; rfl; (simp (disch := omega) only [rdE, rdOf, go_sem, W, Nat.mul_one, Bool.not_true, Bool.not_false]; rfl); (intro τ hA hQ hN; ((try simp only [agree, Op.operands, Call.operands, go_sem, W, Nat.mul_one, Bool.not_true, Bool.not_false, go_sem, List.mem_cons, List.not_mem_nil, forall_eq_or_imp, forall_eq, List.append_toArray, Option.toArray] at hA); (try simp only [go_sem, W, Nat.mul_one, Bool.not_true, Bool.not_false, List.mem_cons, List.not_mem_nil, forall_eq_or_imp, forall_eq] at hQ hN); (first | (revert hA; intro hA)); (first | (revert hQ; intro hQ)); (first | (revert hN; intro hN)); simp (disch := omega) only [go_sem, W, Nat.mul_one, Bool.not_true, Bool.not_false, go_sem, hA, hQ, hN]; (repeat (refine ndI (by first | assumption | omega | rfl) ?_)); (first | apply eff_rd)))); (simp (disch := omega) only [St.eff, setO, hputs, go_sem, W, Nat.mul_one, Bool.not_true, Bool.not_false])) | ((with_reducible refine evC_draw ?_ ?_ ?_ ?_); kernel_rfl; kernel_rfl; (first | kernel_rfl); intro R hR)))))
        all_goals exact hΨ _ ⟨i + 1, hlt, fun j hj => by
          rcases Nat.lt_or_ge j i with h' | h'
          · exact hno j h'
          · obtain rfl : j = i := by omega
            rw [hx, hy, hxy]⟩ (by simp only; omega) (St.le_of (by simp [leT]) (by simp [leH]))
      · rw [decide_eq_false hxy, Bool.not_false] at k4
        have hrf : r = false := by
          rw [← hr, decide_eq_false_iff_not]
          intro e; rw [e, hy] at hx; cases hx; exact hxy rfl
        (have W := ndI k1 (ndI k2 (ndI k3 (ndI k4 (ndI k7 @wrI)))); (repeat (any_goals (first | ((with_reducible refine evL_one ?_ ?_); rfl; intro K hK; simp (disch := omega) only [go_sem, W, Nat.mul_one, Bool.not_true, Bool.not_false]; ((repeat (refine ndI (by first | assumption | rfl) ?_)); refine hK _ ?_; clear hK K)) | (with_reducible first | (refine evL_nil ?_; refine hR _ ?_; clear hR R) | ((first | refine evC_seq ?_ | refine evC_block ?_); intro Ψ hΨ hΨ') | (refine evC_region ?_; intro R hR) | (refine hΨ _ ?_; clear hΨ hΨ' Ψ) | refine evC_skip ?_ | refine evC_ret ?_) | ((with_reducible refine hΨ' _ _ ?_ ?_); (focus (simp; done)); clear hΨ hΨ' Ψ) | ((with_reducible apply evC_cond); rfl; rfl; all_goals (intro hc; first | (cases hc; done) | (try simp only at hc))) | ((with_reducible refine evD_nil ?_ ?_); kernel_rfl; (with_reducible refine hR _ ?_); clear hR R) | (((with_reducible apply evD_any); rfl; rfl; (simp (disch := omega) only [rdE, rdOf, go_sem, W, Nat.mul_one, Bool.not_true, Bool.not_false]; rfl); (intro τ hA hQ hN; ((try simp only [agree, Op.operands, Call.operands, go_sem, W, Nat.mul_one, Bool.not_true, Bool.not_false, go_sem, List.mem_cons, List.not_mem_nil, forall_eq_or_imp, forall_eq, List.append_toArray, Option.toArray] at hA); (try simp only [go_sem, W, Nat.mul_one, Bool.not_true, Bool.not_false, List.mem_cons, List.not_mem_nil, forall_eq_or_imp, forall_eq] at hQ hN); (first | (revert hA; intro hA)); (first | (revert hQ; intro hQ)); (first | (revert hN; intro hN)); simp (disch := omega) only [go_sem, W, Nat.mul_one, Bool.not_true, Bool.not_false, go_sem, hA, hQ, hN]; (repeat (refine ndI (by first | assumption | omega | rfl) ?_)); (first | apply eff_rd)))); (simp (disch := omega) only [St.eff, setO, hputs, go_sem, W, Nat.mul_one, Bool.not_true, Bool.not_false])) | ((with_reducible refine evC_draw ?_ ?_ ?_ ?_); kernel_rfl; kernel_rfl; (first | kernel_rfl); intro R hR)))))
        all_goals rw [hrf]
        all_goals (refine ⟨by simp, ⟨_, ?_, AV.le_refl _⟩, leH_get (by simp [leH, hget])⟩; simp only [Tryz.results124, resL, ldA, oneOf, go_sem])
    · have k1 : (decide ((i : Int) < (l.length : Int))) = false := decide_eq_false (by omega)
      have hrt : r = true := by
        rw [← hr, decide_eq_true_iff]
        refine List.ext_getElem? fun j => ?_
        rcases Nat.lt_or_ge j l.length with h | h
        · exact hno j (by omega)
        · rw [List.getElem?_eq_none h, List.getElem?_eq_none (by omega)]
      (repeat (any_goals (first | ((with_reducible refine evL_one ?_ ?_); rfl; intro K hK; simp only [go_sem, k1]; ((repeat (refine ndI (by first | assumption) ?_)); refine hK _ ?_; clear hK K)) | (with_reducible first | (refine evL_nil ?_; refine hR _ ?_; clear hR R) | ((first | refine evC_seq ?_); intro Ψ hΨ hΨ') | (refine evC_region ?_; intro R hR) | (refine hΨ _ ?_; clear hΨ hΨ' Ψ) | refine evC_ret ?_ | refine evC_exit ?_) | ((with_reducible refine hΨ' _ _ ?_ ?_); (focus (simp; done)); clear hΨ hΨ' Ψ) | ((with_reducible apply evC_cond); rfl; rfl; all_goals (intro hc; first | (cases hc; done) | (try simp only at hc))))))
      all_goals rw [hrt]
      all_goals (refine ⟨by simp, ⟨_, ?_, AV.le_refl _⟩, leH_get (by simp [leH, hget])⟩; simp only [Tryz.results124, resL, ldA, oneOf, go_sem])
  · have k0 : ((l.length : Int) != (m.length : Int)) = true := by simp; omega
    have he : decide (l = m) = false := by rw [decide_eq_false_iff_not]; intro e; exact hlen (by rw [e])
    rw [he]
    (refine fn_of Tryz.func124 rfl (by rfl) ?_; simp only [Tryz.ntmps124, List.length_cons, List.length_nil, Nat.reduceAdd, Nat.reduceSub, List.replicate, List.cons_append, List.nil_append])
    (repeat (any_goals (first | ((with_reducible refine evL_one ?_ ?_); rfl; intro K hK; simp only [go_sem, k0]; ((repeat (refine ndI (by first | assumption) ?_)); refine hK _ ?_; clear hK K)) | (with_reducible first | (refine evL_nil ?_; refine hR _ ?_; clear hR R) | ((first | refine evC_seq ?_); intro Ψ hΨ hΨ') | (refine evC_region ?_; intro R hR) | (refine hΨ _ ?_; clear hΨ hΨ' Ψ) | refine evC_ret ?_) | ((with_reducible refine hΨ' _ _ ?_ ?_); (focus (simp; done)); clear hΨ hΨ' Ψ) | ((with_reducible apply evC_cond); rfl; rfl; all_goals (intro hc; first | (cases hc; done) | (try simp only at hc))))))
    all_goals (refine ⟨by simp, ⟨_, ?_, AV.le_refl _⟩, leH_get (by simp [leH, hget])⟩; simp only [Tryz.results124, resL, ldA, oneOf, go_sem])
theorem eqS_fn (e1 e2 : Bool) (l m : List Sp) (hl : l.length ≤ maxLen) (hm : m.length ≤ maxLen) (ol : ∀ p ∈ l, Sp.ok p) (om : ∀ p ∈ m, Sp.ok p) : Fn Tryz.prog 125 [spl5 e1 l, spl5 e2 m] [] (vb (decide (l = m))) [] := by
  by_cases hlen : l.length = m.length
  · have k0 : ((l.length : Int) != (m.length : Int)) = false := by rw [hlen]; simp
    have k8 : l.length < 9223372036854775808 := Nat.lt_succ_of_le hl
    obtain ⟨r, hr⟩ : ∃ r, decide (l = m) = r := ⟨_, rfl⟩
    rw [hr]
    (refine fn_of Tryz.func125 rfl (by rfl) ?_; simp only [Tryz.ntmps125, List.length_cons, List.length_nil, Nat.reduceAdd, Nat.reduceSub, List.replicate, List.cons_append, List.nil_append])
    (repeat (any_goals (first | ((with_reducible refine evL_one ?_ ?_); rfl; intro K hK; simp only [go_sem, k0]; ((repeat (refine ndI (by first | assumption) ?_)); refine hK _ ?_; clear hK K)) | (with_reducible first | (refine evL_nil ?_; refine hR _ ?_; clear hR R) | ((first | refine evC_seq ?_ | refine evC_block ?_); intro Ψ hΨ hΨ') | (refine evC_region ?_; intro R hR) | (refine hΨ _ ?_; clear hΨ hΨ' Ψ) | refine evC_skip ?_) | ((with_reducible apply evC_cond); rfl; rfl; all_goals (intro hc; first | (cases hc; done) | (try simp only at hc))))))
    refine evC_loop (α := { i : Nat // i ≤ l.length ∧ ∀ j, j < i → l[j]? = m[j]? }) (fun p => ⟨[spl5 e1 l, spl5 e2 m, .any, .any, .any, .any, .any, .any, .any, .any, .any, .any, vi .i64 l.length, vi .i64 p.1, .any, .any, .any, .any, .any, .any, .any, .any, .any, .any, .any, .any], []⟩) (fun p => l.length - p.1) ⟨0, Nat.zero_le _, fun j hj => by omega⟩ (St.le_of (by simp [leT]) (by simp [leH])) ?_
    rintro ⟨i, hi, hno⟩ Ψ hΨ hΨ'
    dsimp only at hi hΨ ⊢
    rcases Nat.lt_or_ge i l.length with hlt | hge
    · have k1 : (decide ((i : Int) < (l.length : Int))) = true := decide_eq_true (by omega)
      have k7 : (i : Int) + 1 = ((i + 1 : Nat) : Int) := by omega
      obtain ⟨x, hx⟩ : ∃ x, l[i]? = some x := ⟨_, List.getElem?_eq_getElem hlt⟩
      obtain ⟨y, hy⟩ : ∃ y, m[i]? = some y := ⟨_, List.getElem?_eq_getElem (by omega)⟩
      have hlm : i < m.length := by omega
      have k2 := spl5_at hx
      have k3 := spl5_at hy
      have k4 := sp_eq (ol x (List.mem_of_getElem? hx)) (om y (List.mem_of_getElem? hy))
      by_cases hxy : x = y
      · rw [decide_eq_true hxy] at k4
        (have W := ndI k1 (ndI k2 (ndI k3 (ndI k4 (ndI k7 @wrI)))); (repeat (any_goals (first | ((with_reducible refine evL_one ?_ ?_); rfl; intro K hK; simp (disch := omega) only [go_sem, W]; ((repeat (refine ndI (by first | assumption | rfl) ?_)); refine hK _ ?_; clear hK K)) | (with_reducible first | (refine evL_nil ?_; refine hR _ ?_; clear hR R) | ((first | refine evC_seq ?_ | refine evC_block ?_); intro Ψ hΨ hΨ') | (refine evC_region ?_; intro R hR) | (refine hΨ _ ?_; clear hΨ hΨ' Ψ) | refine evC_skip ?_) | ((with_reducible refine hΨ' _ _ ?_ ?_); (focus (simp; done)); clear hΨ hΨ' Ψ) | ((with_reducible apply evC_cond); rfl; rfl; all_goals (intro hc; first | (cases hc; done) | (try simp only at hc))) | ((with_reducible refine evD_nil ?_ ?_); kernel_rfl; (with_reducible refine hR _ ?_); clear hR R) | (((with_reducible apply evD_any); rfl; rfl; (simp (disch := omega) only [rdE, rdOf, go_sem, W]; rfl); (intro τ hA hQ hN; ((try simp only [agree, Op.operands, Call.operands, go_sem, W, go_sem, List.mem_cons, List.not_mem_nil, forall_eq_or_imp, forall_eq, List.append_toArray, Option.toArray] at hA); (try simp only [go_sem, W, List.mem_cons, List.not_mem_nil, forall_eq_or_imp, forall_eq] at hQ hN); (first | (revert hA; intro hA)); (first | (revert hQ; intro hQ)); (first | (revert hN; intro hN)); simp (disch := omega) only [go_sem, W, go_sem, hA, hQ, hN]; (repeat (refine ndI (by first | assumption | omega | rfl) ?_)); (first | apply eff_rd)))); (simp (disch := omega) only [St.eff, setO, hputs, go_sem, W])) | ((with_reducible refine evC_draw ?_ ?_ ?_ ?_); kernel_rfl; kernel_rfl; (first | kernel_rfl); intro R hR)))))
        all_goals exact hΨ _ ⟨i + 1, hlt, fun j hj => by
          rcases Nat.lt_or_ge j i with h' | h'
          · exact hno j h'
          · obtain rfl : j = i := by omega
            rw [hx, hy, hxy]⟩ (by simp only; omega) (St.le_of (by simp [leT]) (by simp [leH]))
      · rw [decide_eq_false hxy] at k4
        have hrf : r = false := by
          rw [← hr, decide_eq_false_iff_not]
          intro e; rw [e, hy] at hx; cases hx; exact hxy rfl
        (have W := ndI k1 (ndI k2 (ndI k3 (ndI k4 (ndI k7 @wrI)))); (repeat (any_goals (first | ((with_reducible refine evL_one ?_ ?_); rfl; intro K hK; simp (disch := omega) only [go_sem, W]; ((repeat (refine ndI (by first | assumption | rfl) ?_)); refine hK _ ?_; clear hK K)) | (with_reducible first | (refine evL_nil ?_; refine hR _ ?_; clear hR R) | ((first | refine evC_seq ?_ | refine evC_block ?_); intro Ψ hΨ hΨ') | (refine evC_region ?_; intro R hR) | (refine hΨ _ ?_; clear hΨ hΨ' Ψ) | refine evC_skip ?_ | refine evC_ret ?_) | ((with_reducible refine hΨ' _ _ ?_ ?_); (focus (simp; done)); clear hΨ hΨ' Ψ) | ((with_reducible apply evC_cond); rfl; rfl; all_goals (intro hc; first | (cases hc; done) | (try simp only at hc))) | ((with_reducible refine evD_nil ?_ ?_); kernel_rfl; (with_reducible refine hR _ ?_); clear hR R) | (((with_reducible apply evD_any); rfl; rfl; (simp (disch := omega) only [rdE, rdOf, go_sem, W]; rfl); (intro τ hA hQ hN; ((try simp only [agree, Op.operands, Call.operands, go_sem, W, go_sem, List.mem_cons, List.not_mem_nil, forall_eq_or_imp, forall_eq, List.append_toArray, Option.toArray] at hA); (try simp only [go_sem, W, List.mem_cons, List.not_mem_nil, forall_eq_or_imp, forall_eq] at hQ hN); (first | (revert hA; intro hA)); (first | (revert hQ; intro hQ)); (first | (revert hN; intro hN)); simp (disch := omega) only [go_sem, W, go_sem, hA, hQ, hN]; (repeat (refine ndI (by first | assumption | omega | rfl) ?_)); (first | apply eff_rd)))); (simp (disch := omega) only [St.eff, setO, hputs, go_sem, W])) | ((with_reducible refine evC_draw ?_ ?_ ?_ ?_); kernel_rfl; kernel_rfl; (first | kernel_rfl); intro R hR)))))
        all_goals rw [hrf]
        all_goals (refine ⟨by simp, ⟨_, ?_, AV.le_refl _⟩, leH_get (by simp [leH, hget])⟩; simp only [Tryz.results125, resL, ldA, oneOf, go_sem])
    · have k1 : (decide ((i : Int) < (l.length : Int))) = false := decide_eq_false (by omega)
      have hrt : r = true := by
        rw [← hr, decide_eq_true_iff]
        refine List.ext_getElem? fun j => ?_
        rcases Nat.lt_or_ge j l.length with h | h
        · exact hno j (by omega)
        · rw [List.getElem?_eq_none h, List.getElem?_eq_none (by omega)]
      (repeat (any_goals (first | ((with_reducible refine evL_one ?_ ?_); rfl; intro K hK; simp only [go_sem, k1]; ((repeat (refine ndI (by first | assumption) ?_)); refine hK _ ?_; clear hK K)) | (with_reducible first | (refine evL_nil ?_; refine hR _ ?_; clear hR R) | ((first | refine evC_seq ?_); intro Ψ hΨ hΨ') | (refine evC_region ?_; intro R hR) | (refine hΨ _ ?_; clear hΨ hΨ' Ψ) | refine evC_ret ?_ | refine evC_exit ?_) | ((with_reducible refine hΨ' _ _ ?_ ?_); (focus (simp; done)); clear hΨ hΨ' Ψ) | ((with_reducible apply evC_cond); rfl; rfl; all_goals (intro hc; first | (cases hc; done) | (try simp only at hc))))))
      all_goals rw [hrt]
      all_goals (refine ⟨by simp, ⟨_, ?_, AV.le_refl _⟩, leH_get (by simp [leH, hget])⟩; simp only [Tryz.results125, resL, ldA, oneOf, go_sem])
  · have k0 : ((l.length : Int) != (m.length : Int)) = true := by simp; omega
    have he : decide (l = m) = false := by rw [decide_eq_false_iff_not]; intro e; exact hlen (by rw [e])
    rw [he]
    (refine fn_of Tryz.func125 rfl (by rfl) ?_; simp only [Tryz.ntmps125, List.length_cons, List.length_nil, Nat.reduceAdd, Nat.reduceSub, List.replicate, List.cons_append, List.nil_append])
    (repeat (any_goals (first | ((with_reducible refine evL_one ?_ ?_); rfl; intro K hK; simp only [go_sem, k0]; ((repeat (refine ndI (by first | assumption) ?_)); refine hK _ ?_; clear hK K)) | (with_reducible first | (refine evL_nil ?_; refine hR _ ?_; clear hR R) | ((first | refine evC_seq ?_); intro Ψ hΨ hΨ') | (refine evC_region ?_; intro R hR) | (refine hΨ _ ?_; clear hΨ hΨ' Ψ) | refine evC_ret ?_) | ((with_reducible refine hΨ' _ _ ?_ ?_); (focus (simp; done)); clear hΨ hΨ' Ψ) | ((with_reducible apply evC_cond); rfl; rfl; all_goals (intro hc; first | (cases hc; done) | (try simp only at hc))))))
    all_goals (refine ⟨by simp, ⟨_, ?_, AV.le_refl _⟩, leH_get (by simp [leH, hget])⟩; simp only [Tryz.results125, resL, ldA, oneOf, go_sem])
theorem eqP_fn (e1 e2 : Bool) (l m : List Pg) (hl : l.length ≤ maxLen) (hm : m.length ≤ maxLen) (ol : ∀ p ∈ l, Pg.ok p) (om : ∀ p ∈ m, Pg.ok p) : Fn Tryz.prog 126 [pgl9 e1 l, pgl9 e2 m] [] (vb (decide (l = m))) [] := by
  by_cases hlen : l.length = m.length
  · have k0 : ((l.length : Int) != (m.length : Int)) = false := by rw [hlen]; simp
    have k8 : l.length < 9223372036854775808 := Nat.lt_succ_of_le hl
    obtain ⟨r, hr⟩ : ∃ r, decide (l = m) = r := ⟨_, rfl⟩
    rw [hr]
    (refine fn_of Tryz.func126 rfl (by rfl) ?_; simp only [Tryz.ntmps126, List.length_cons, List.length_nil, Nat.reduceAdd, Nat.reduceSub, List.replicate, List.cons_append, List.nil_append])
    (repeat (any_goals (first | ((with_reducible refine evL_one ?_ ?_); rfl; intro K hK; simp only [go_sem, k0]; ((repeat (refine ndI (by first | assumption) ?_)); refine hK _ ?_; clear hK K)) | (with_reducible first | (refine evL_nil ?_; refine hR _ ?_; clear hR R) | ((first | refine evC_seq ?_ | refine evC_block ?_); intro Ψ hΨ hΨ') | (refine evC_region ?_; intro R hR) | (refine hΨ _ ?_; clear hΨ hΨ' Ψ) | refine evC_skip ?_) | ((with_reducible apply evC_cond); rfl; rfl; all_goals (intro hc; first | (cases hc; done) | (try simp only at hc))))))
    refine evC_loop (α := { i : Nat // i ≤ l.length ∧ ∀ j, j < i → l[j]? = m[j]? }) (fun p => ⟨[pgl9 e1 l, pgl9 e2 m, .any, .any, .any, .any, .any, .any, .any, .any, .any, .any, vi .i64 l.length, vi .i64 p.1, .any, .any, .any, .any, .any, .any, .any, .any, .any, .any, .any, .any], []⟩) (fun p => l.length - p.1) ⟨0, Nat.zero_le _, fun j hj => by omega⟩ (St.le_of (by simp [leT]) (by simp [leH])) ?_
    rintro ⟨i, hi, hno⟩ Ψ hΨ hΨ'
    dsimp only at hi hΨ ⊢
    rcases Nat.lt_or_ge i l.length with hlt | hge
    · have k1 : (decide ((i : Int) < (l.length : Int))) = true := decide_eq_true (by omega)
      have k7 : (i : Int) + 1 = ((i + 1 : Nat) : Int) := by omega
      obtain ⟨x, hx⟩ : ∃ x, l[i]? = some x := ⟨_, List.getElem?_eq_getElem hlt⟩
      obtain ⟨y, hy⟩ : ∃ y, m[i]? = some y := ⟨_, List.getElem?_eq_getElem (by omega)⟩
      have hlm : i < m.length := by omega
      have k2 := pgl9_at hx
      have k3 := pgl9_at hy
      have k4 := pg_eq (ol x (List.mem_of_getElem? hx)) (om y (List.mem_of_getElem? hy))
      by_cases hxy : x = y
      · rw [decide_eq_true hxy] at k4
        (have W := ndI k1 (ndI k2 (ndI k3 (ndI k4 (ndI k7 @wrI)))); (repeat (any_goals (first | ((with_reducible refine evL_one ?_ ?_); rfl; intro K hK; simp (disch := omega) only [go_sem, W]; ((repeat (refine ndI (by first | assumption | rfl) ?_)); refine hK _ ?_; clear hK K)) | (with_reducible first | (refine evL_nil ?_; refine hR _ ?_; clear hR R) | ((first | refine evC_seq ?_ | refine evC_block ?_); intro Ψ hΨ hΨ') | (refine evC_region ?_; intro R hR) | (refine hΨ _ ?_; clear hΨ hΨ' Ψ) | refine evC_skip ?_) | ((with_reducible refine hΨ' _ _ ?_ ?_); (focus (simp; done)); clear hΨ hΨ' Ψ) | ((with_reducible apply evC_cond); rfl; rfl; all_goals (intro hc; first | (cases hc; done) | (try simp only at hc))) | ((with_reducible refine evD_nil ?_ ?_); kernel_rfl; (with_reducible refine hR _ ?_); clear hR R) | (((with_reducible apply evD_any); rfl; rfl; (simp (disch := omega) only [rdE, rdOf, go_sem, W]; rfl); (intro τ hA hQ hN; ((try simp only [agree, Op.operands, Call.operands, go_sem, W, go_sem, List.mem_cons, List.not_mem_nil, forall_eq_or_imp, forall_eq, List.append_toArray, Option.toArray] at hA); (try simp only [go_sem, W, List.mem_cons, List.not_mem_nil, forall_eq_or_imp, forall_eq] at hQ hN); (first | (revert hA; intro hA)); (first | (revert hQ; intro hQ)); (first | (revert hN; intro hN)); simp (disch := omega) only [go_sem, W, go_sem, hA, hQ, hN]; (repeat (refine ndI (by first | assumption | omega | rfl) ?_)); (first | apply eff_rd)))); (simp (disch := omega) only [St.eff, setO, hputs, go_sem, W])) | ((with_reducible refine evC_draw ?_ ?_ ?_ ?_); kernel_rfl; kernel_rfl; (first | kernel_rfl); intro R hR)))))
        all_goals exact hΨ _ ⟨i + 1, hlt, fun j hj => by
          rcases Nat.lt_or_ge j i with h' | h'
          · exact hno j h'
          · obtain rfl : j = i := by omega
            rw [hx, hy, hxy]⟩ (by simp only; omega) (St.le_of (by simp [leT]) (by simp [leH]))
      · rw [decide_eq_false hxy] at k4
        have hrf : r = false := by
          rw [← hr, decide_eq_false_iff_not]
          intro e; rw [e, hy] at hx; cases hx; exact hxy rfl
        (have W := ndI k1 (ndI k2 (ndI k3 (ndI k4 (ndI k7 @wrI)))); (repeat (any_goals (first | ((with_reducible refine evL_one ?_ ?_); rfl; intro K hK; simp (disch := omega) only [go_sem, W]; ((repeat (refine ndI (by first | assumption | rfl) ?_)); refine hK _ ?_; clear hK K)) | (with_reducible first | (refine evL_nil ?_; refine hR _ ?_; clear hR R) | ((first | refine evC_seq ?_ | refine evC_block ?_); intro Ψ hΨ hΨ') | (refine evC_region ?_; intro R hR) | (refine hΨ _ ?_; clear hΨ hΨ' Ψ) | refine evC_skip ?_ | refine evC_ret ?_) | ((with_reducible refine hΨ' _ _ ?_ ?_); (focus (simp; done)); clear hΨ hΨ' Ψ) | ((with_reducible apply evC_cond); rfl; rfl; all_goals (intro hc; first | (cases hc; done) | (try simp only at hc))) | ((with_reducible refine evD_nil ?_ ?_); kernel_rfl; (with_reducible refine hR _ ?_); clear hR R) | (((with_reducible apply evD_any); rfl; rfl; (simp (disch := omega) only [rdE, rdOf, go_sem, W]; rfl); (intro τ hA hQ hN; ((try simp only [agree, Op.operands, Call.operands, go_sem, W, go_sem, List.mem_cons, List.not_mem_nil, forall_eq_or_imp, forall_eq, List.append_toArray, Option.toArray] at hA); (try simp only [go_sem, W, List.mem_cons, List.not_mem_nil, forall_eq_or_imp, forall_eq] at hQ hN); (first | (revert hA; intro hA)); (first | (revert hQ; intro hQ)); (first | (revert hN; intro hN)); simp (disch := omega) only [go_sem, W, go_sem, hA, hQ, hN]; (repeat (refine ndI (by first | assumption | omega | rfl) ?_)); (first | apply eff_rd)))); (simp (disch := omega) only [St.eff, setO, hputs, go_sem, W])) | ((with_reducible refine evC_draw ?_ ?_ ?_ ?_); kernel_rfl; kernel_rfl; (first | kernel_rfl); intro R hR)))))
        all_goals rw [hrf]
        all_goals (refine ⟨by simp, ⟨_, ?_, AV.le_refl _⟩, leH_get (by simp [leH, hget])⟩; simp only [Tryz.results126, resL, ldA, oneOf, go_sem])
    · have k1 : (decide ((i : Int) < (l.length : Int))) = false := decide_eq_false (by omega)
      have hrt : r = true := by
        rw [← hr, decide_eq_true_iff]
        refine List.ext_getElem? fun j => ?_
        rcases Nat.lt_or_ge j l.length with h | h
        · exact hno j (by omega)
        · rw [List.getElem?_eq_none h, List.getElem?_eq_none (by omega)]
      (repeat (any_goals (first | ((with_reducible refine evL_one ?_ ?_); rfl; intro K hK; simp only [go_sem, k1]; ((repeat (refine ndI (by first | assumption) ?_)); refine hK _ ?_; clear hK K)) | (with_reducible first | (refine evL_nil ?_; refine hR _ ?_; clear hR R) | ((first | refine evC_seq ?_); intro Ψ hΨ hΨ') | (refine evC_region ?_; intro R hR) | (refine hΨ _ ?_; clear hΨ hΨ' Ψ) | refine evC_ret ?_ | refine evC_exit ?_) | ((with_reducible refine hΨ' _ _ ?_ ?_); (focus (simp; done)); clear hΨ hΨ' Ψ) | ((with_reducible apply evC_cond); rfl; rfl; all_goals (intro hc; first | (cases hc; done) | (try simp only at hc))))))
      all_goals rw [hrt]
      all_goals (refine ⟨by simp, ⟨_, ?_, AV.le_refl _⟩, leH_get (by simp [leH, hget])⟩; simp only [Tryz.results126, resL, ldA, oneOf, go_sem])
  · have k0 : ((l.length : Int) != (m.length : Int)) = true := by simp; omega
    have he : decide (l = m) = false := by rw [decide_eq_false_iff_not]; intro e; exact hlen (by rw [e])
    rw [he]
    (refine fn_of Tryz.func126 rfl (by rfl) ?_; simp only [Tryz.ntmps126, List.length_cons, List.length_nil, Nat.reduceAdd, Nat.reduceSub, List.replicate, List.cons_append, List.nil_append])
    (repeat (any_goals (first | ((with_reducible refine evL_one ?_ ?_); rfl; intro K hK; simp only [go_sem, k0]; ((repeat (refine ndI (by first | assumption) ?_)); refine hK _ ?_; clear hK K)) | (with_reducible first | (refine evL_nil ?_; refine hR _ ?_; clear hR R) | ((first | refine evC_seq ?_); intro Ψ hΨ hΨ') | (refine evC_region ?_; intro R hR) | (refine hΨ _ ?_; clear hΨ hΨ' Ψ) | refine evC_ret ?_) | ((with_reducible refine hΨ' _ _ ?_ ?_); (focus (simp; done)); clear hΨ hΨ' Ψ) | ((with_reducible apply evC_cond); rfl; rfl; all_goals (intro hc; first | (cases hc; done) | (try simp only at hc))))))
    all_goals (refine ⟨by simp, ⟨_, ?_, AV.le_refl _⟩, leH_get (by simp [leH, hget])⟩; simp only [Tryz.results126, resL, ldA, oneOf, go_sem])
end Go.Proofs.YtmidmaeihpldhaaGreat.ax
namespace Go.Proofs.YtmidmaeihpldhaaGreat.ax
open Go.RowKit
set_option maxRecDepth 20000
set_option maxHeartbeats 2000000
section
variable {α : Type} (key : α → Int)
def ltG (l : List α) (k : Int) (h : Nat) : Bool := match l[h]? with | some z => decide (key z < k) | none => false
def posG (l : List α) (k : Int) : Nat := bsr (ltG key l k) l.length 0 l.length
def atG (k : Int) : Option α → Bool
  | some z => decide (key z = k)
  | none => false
def isG (l : List α) (k : Int) : Bool := atG key k l[posG key l k]?
variable {key}
end
end Go.Proofs.YtmidmaeihpldhaaGreat.ax
namespace Go.Proofs.YtmidmaeihpldhaaGreat.ax
open Go.RowKit
set_option maxRecDepth 20000
set_option maxHeartbeats 2000000
section
variable {α : Type} (key : α → Int)
def putL (l : List α) (x : α) : List α × Bool × Int := if isG key l (key x) then (l, false, 0) else if 400 ≤ l.length then ([], false, 6) else (l.take (posG key l (key x)) ++ x :: l.drop (posG key l (key x)), true, 0)
end
theorem cloneA_row (ex : Bool) (l : List Int) (hl : l.length ≤ 1000000) : Fn Tryz.prog 15 [asl ex l] [] (.row 7 58 1 l.length) [(7, raA l)] := cloneA_fn ex l hl
theorem cloneA_val (ex : Bool) (l : List Int) (hl : l.length ≤ 1000000) : Fn Tryz.prog 15 [asl ex l] [] (asl false l) [] := by
  have h := Fn.frzG (cloneA_row ex l hl)
  have e : (l.flatMap apv).length = l.length * 1 := flat_length apv_len l
  simpa [-List.length_flatMap, AV.frz, AV.frzL, e] using h
theorem cloneS_row (ex : Bool) (l : List Sp) (hl : l.length ≤ 1000000) : Fn Tryz.prog 34 [spl5 ex l] [] (.row 7 92 5 l.length) [(7, raS l)] := cloneS_fn ex l hl
theorem cloneS_val (ex : Bool) (l : List Sp) (hl : l.length ≤ 1000000) : Fn Tryz.prog 34 [spl5 ex l] [] (spl5 false l) [] := by
  have h := Fn.frzG (cloneS_row ex l hl)
  have e : (l.flatMap Sp.pv).length = l.length * 5 := flat_length sp_len l
  simpa [-List.length_flatMap, AV.frz, AV.frzL, e] using h
theorem cloneP_row (ex : Bool) (l : List Pg) (hl : l.length ≤ 1000000) : Fn Tryz.prog 35 [pgl9 ex l] [] (.row 7 95 9 l.length) [(7, raP l)] := cloneP_fn ex l hl
theorem cloneP_val (ex : Bool) (l : List Pg) (hl : l.length ≤ 1000000) : Fn Tryz.prog 35 [pgl9 ex l] [] (pgl9 false l) [] := by
  have h := Fn.frzG (cloneP_row ex l hl)
  have e : (l.flatMap Pg.pv).length = l.length * 9 := flat_length pg_len l
  simpa [-List.length_flatMap, AV.frz, AV.frzL, e] using h
end Go.Proofs.YtmidmaeihpldhaaGreat.ax
namespace Go.Proofs.YtmidmaeihpldhaaGreat.ax
open Go.RowKit
open Nat (reduceBEq)
set_option maxRecDepth 20000
set_option maxHeartbeats 2000000
structure Xs where
  ad : List Int
  sp : List Sp
  pg : List Pg
abbrev xsA (x : Xs) : AV := .agg [asl false x.ad, spl5 false x.sp, pgl9 false x.pg]
def Xs.ok (x : Xs) : Prop := (∀ a ∈ x.ad, U a) ∧ (∀ s ∈ x.sp, s.ok) ∧ ∀ p ∈ x.pg, p.ok
def Xs.few (x : Xs) : Prop := x.ad.length ≤ 700 ∧ x.sp.length ≤ 700 ∧ x.pg.length ≤ 700
def zeroB (p : Pg) : Bool := decide (p.v = 0)
def okXs (x : Xs) : Bool := !x.pg.any zeroB && (okR aKey x.ad && (okR Sp.key x.sp && okR Pg.key x.pg))
theorem check1_fn (p : Pg) (hp : p.ok) : Fn Tryz.prog 111 [pgA p] [] (vb (zeroB p)) [] := by
  have e := wN_zero hp.2
  unfold zeroB
  generalize decide (p.v = 0) = q at e ⊢
  (refine fn_of Tryz.func111 rfl (by rfl) ?_; simp only [Tryz.ntmps111, List.length_cons, List.length_nil, Nat.reduceAdd, Nat.reduceSub, List.replicate, List.cons_append, List.nil_append])
  (repeat (any_goals (first | ((with_reducible refine evL_one ?_ ?_); rfl; intro K hK; simp only [go_sem, e]; ((repeat (refine ndI (by first | assumption) ?_)); refine hK _ ?_; clear hK K)) | (with_reducible first | (refine evL_nil ?_; refine hR _ ?_; clear hR R) | ((first | refine evC_seq ?_); intro Ψ hΨ hΨ') | (refine evC_region ?_; intro R hR) | (refine hΨ _ ?_; clear hΨ hΨ' Ψ) | refine evC_ret ?_))))
  all_goals (refine ⟨by simp, ⟨_, ?_, AV.le_refl _⟩, leH_get (by simp [leH, hget])⟩; simp only [Tryz.results111, resL, ldA, oneOf, go_sem])
theorem indexZ_fn (ex : Bool) (l : List Pg) (hl : l.length ≤ 1000000) (ok : ∀ p ∈ l, p.ok) : ∃ r : Int, decide (r ≥ 0) = l.any zeroB ∧ Fn Tryz.prog 135 [pgl9 ex l, .fn 111 []] [] (vi .i64 r) [] := by
  cases ha : l.any zeroB with
  | true =>
    obtain ⟨y0, hy0, hz0⟩ := List.any_eq_true.1 ha
    obtain ⟨i1, hi1⟩ := List.mem_iff_getElem?.1 hy0
    obtain ⟨i0, h0, h1, h2⟩ := first_out (L := fun j => !(match l[j]? with | some y => zeroB y | none => false)) (n := l.length) ⟨i1, (List.getElem?_eq_some_iff.1 hi1).1, by simp [hi1, hz0]⟩
    refine ⟨(i0 : Int), by simp, ?_⟩
    (refine fn_of Tryz.func135 rfl (by rfl) ?_; simp only [Tryz.ntmps135, List.length_cons, List.length_nil, Nat.reduceAdd, Nat.reduceSub, List.replicate, List.cons_append, List.nil_append])
    (repeat (any_goals (first | ((with_reducible refine evL_one ?_ ?_); rfl; intro K hK; simp only [go_sem]; ((repeat (refine ndI (by first | assumption) ?_)); refine hK _ ?_; clear hK K)) | (with_reducible first | (refine evL_nil ?_; refine hR _ ?_; clear hR R) | ((first | refine evC_seq ?_ | refine evC_block ?_); intro Ψ hΨ hΨ') | (refine evC_region ?_; intro R hR) | (refine hΨ _ ?_; clear hΨ hΨ' Ψ)))))
    refine evC_upto i0 (fun i => ⟨[pgl9 ex l, .fn 111 [], .any, .any, .any, .any, .any, vi .i64 l.length, vi .i64 (i : Int), .any, .any, .any, .any, .any, .any, .any, .any, .any, .any], []⟩) (St.le_of (by simp [leT]) (by simp [leH])) ?_
    intro i hi Ψ hΨ hΨ'
    (try dsimp only at hΨ ⊢)
    have hlt : i < l.length := by omega
    obtain ⟨x, hx⟩ : ∃ x, l[i]? = some x := ⟨_, List.getElem?_eq_getElem hlt⟩
    have k1 : (decide ((i : Int) < (l.length : Int))) = true := by simp; omega
    have k2 := pgl9_at hx
    have k7 : (i : Int) + 1 = ((i + 1 : Nat) : Int) := by omega
    have ck := check1_fn x (ok x (List.mem_of_getElem? hx))
    rcases Nat.lt_or_ge i i0 with hlt2 | hge
    · have hz : zeroB x = false := by have := h2 i hlt2; rw [hx] at this; simpa using this
      rw [hz] at ck
      (have W := ndI k1 (ndI k2 (ndI k7 @wrI)); (repeat (any_goals (first | ((with_reducible refine evL_call ?_ ?_ ?_); rfl; rfl; intro K hK; ((apply opA_callB (ck); rfl; rfl; rfl; rfl; exact Tryz.func111); kernel_rfl; rfl; (simp (disch := omega) only [go_sem, W]; rfl); (first | simp [AV.inNL, AV.inN])); (simp (disch := omega) only [go_sem, W]; refine hK _ ?_; clear hK K)) | ((with_reducible refine evL_one ?_ ?_); rfl; intro K hK; simp (disch := omega) only [go_sem, W]; ((repeat (refine ndI (by first | assumption | omega | rfl) ?_)); refine hK _ ?_; clear hK K)) | (with_reducible first | (refine evL_nil ?_; refine hR _ ?_; clear hR R) | ((first | refine evC_seq ?_ | refine evC_block ?_); intro Ψ hΨ hΨ') | (refine evC_region ?_; intro R hR) | (refine hΨ _ ?_; clear hΨ hΨ' Ψ) | refine evC_skip ?_) | ((with_reducible refine hΨ' _ _ ?_ ?_); (focus (simp; done)); clear hΨ hΨ' Ψ) | ((with_reducible apply evC_cond); rfl; rfl; all_goals (intro hc; first | (cases hc; done) | (try simp only at hc)))))))
      all_goals exact hΨ _ hlt2 (St.le_of (by simp [leT]) (by simp [leH]))
    · have e : i = i0 := by omega
      have hz : zeroB x = true := by rw [← e, hx] at h1; simpa using h1
      rw [hz] at ck
      rw [e] at k1 k2 ⊢
      (have W := ndI k1 (ndI k2 @wrI); (repeat (any_goals (first | ((with_reducible refine evL_call ?_ ?_ ?_); rfl; rfl; intro K hK; ((apply opA_callB (ck); rfl; rfl; rfl; rfl; exact Tryz.func111); kernel_rfl; rfl; (simp (disch := omega) only [go_sem, W]; rfl); (first | simp [AV.inNL, AV.inN])); (simp (disch := omega) only [go_sem, W]; refine hK _ ?_; clear hK K)) | ((with_reducible refine evL_one ?_ ?_); rfl; intro K hK; simp (disch := omega) only [go_sem, W]; ((repeat (refine ndI (by first | assumption | omega | rfl) ?_)); refine hK _ ?_; clear hK K)) | (with_reducible first | (refine evL_nil ?_; refine hR _ ?_; clear hR R) | ((first | refine evC_seq ?_ | refine evC_block ?_); intro Ψ hΨ hΨ') | (refine evC_region ?_; intro R hR) | (refine hΨ _ ?_; clear hΨ hΨ' Ψ) | refine evC_skip ?_ | refine evC_ret ?_) | ((with_reducible refine hΨ' _ _ ?_ ?_); (focus (simp; done)); clear hΨ hΨ' Ψ) | ((with_reducible apply evC_cond); rfl; rfl; all_goals (intro hc; first | (cases hc; done) | (try simp only at hc)))))))
      all_goals (refine ⟨by simp, ⟨_, ?_, AV.le_refl _⟩, leH_get (by simp [leH, hget])⟩; simp only [Tryz.results135, resL, ldA, oneOf, go_sem])
  | false =>
    refine ⟨-1, rfl, ?_⟩
    (refine fn_of Tryz.func135 rfl (by rfl) ?_; simp only [Tryz.ntmps135, List.length_cons, List.length_nil, Nat.reduceAdd, Nat.reduceSub, List.replicate, List.cons_append, List.nil_append])
    (repeat (any_goals (first | ((with_reducible refine evL_one ?_ ?_); rfl; intro K hK; simp only [go_sem]; ((repeat (refine ndI (by first | assumption) ?_)); refine hK _ ?_; clear hK K)) | (with_reducible first | (refine evL_nil ?_; refine hR _ ?_; clear hR R) | ((first | refine evC_seq ?_ | refine evC_block ?_); intro Ψ hΨ hΨ') | (refine evC_region ?_; intro R hR) | (refine hΨ _ ?_; clear hΨ hΨ' Ψ)))))
    refine evC_upto l.length (fun i => ⟨[pgl9 ex l, .fn 111 [], .any, .any, .any, .any, .any, vi .i64 l.length, vi .i64 (i : Int), .any, .any, .any, .any, .any, .any, .any, .any, .any, .any], []⟩) (St.le_of (by simp [leT]) (by simp [leH])) ?_
    intro i hi Ψ hΨ hΨ'
    (try dsimp only at hΨ ⊢)
    rcases Nat.lt_or_ge i l.length with hlt | hge
    · obtain ⟨x, hx⟩ : ∃ x, l[i]? = some x := ⟨_, List.getElem?_eq_getElem hlt⟩
      have k1 : (decide ((i : Int) < (l.length : Int))) = true := by simp; omega
      have k2 := pgl9_at hx
      have k7 : (i : Int) + 1 = ((i + 1 : Nat) : Int) := by omega
      have ck := check1_fn x (ok x (List.mem_of_getElem? hx))
      have hz : zeroB x = false := by
        cases h : zeroB x with
        | false => rfl
        | true => exact absurd (List.any_eq_true.2 ⟨x, List.mem_of_getElem? hx, h⟩) (by rw [ha]; decide)
      rw [hz] at ck
      (have W := ndI k1 (ndI k2 (ndI k7 @wrI)); (repeat (any_goals (first | ((with_reducible refine evL_call ?_ ?_ ?_); rfl; rfl; intro K hK; ((apply opA_callB (ck); rfl; rfl; rfl; rfl; exact Tryz.func111); kernel_rfl; rfl; (simp (disch := omega) only [go_sem, W]; rfl); (first | simp [AV.inNL, AV.inN])); (simp (disch := omega) only [go_sem, W]; refine hK _ ?_; clear hK K)) | ((with_reducible refine evL_one ?_ ?_); rfl; intro K hK; simp (disch := omega) only [go_sem, W]; ((repeat (refine ndI (by first | assumption | omega | rfl) ?_)); refine hK _ ?_; clear hK K)) | (with_reducible first | (refine evL_nil ?_; refine hR _ ?_; clear hR R) | ((first | refine evC_seq ?_ | refine evC_block ?_); intro Ψ hΨ hΨ') | (refine evC_region ?_; intro R hR) | (refine hΨ _ ?_; clear hΨ hΨ' Ψ) | refine evC_skip ?_) | ((with_reducible refine hΨ' _ _ ?_ ?_); (focus (simp; done)); clear hΨ hΨ' Ψ) | ((with_reducible apply evC_cond); rfl; rfl; all_goals (intro hc; first | (cases hc; done) | (try simp only at hc)))))))
      all_goals exact hΨ _ hlt (St.le_of (by simp [leT]) (by simp [leH]))
    · have k1 : (decide ((i : Int) < (l.length : Int))) = false := by simp; omega
      (repeat (any_goals (first | ((with_reducible refine evL_one ?_ ?_); rfl; intro K hK; simp only [go_sem, k1]; ((repeat (refine ndI (by first | assumption) ?_)); refine hK _ ?_; clear hK K)) | (with_reducible first | (refine evL_nil ?_; refine hR _ ?_; clear hR R) | ((first | refine evC_seq ?_); intro Ψ hΨ hΨ') | (refine evC_region ?_; intro R hR) | (refine hΨ _ ?_; clear hΨ hΨ' Ψ) | refine evC_ret ?_ | refine evC_exit ?_) | ((with_reducible refine hΨ' _ _ ?_ ?_); (focus (simp; done)); clear hΨ hΨ' Ψ) | ((with_reducible apply evC_cond); rfl; rfl; all_goals (intro hc; first | (cases hc; done) | (try simp only at hc))))))
      all_goals (refine ⟨by simp, ⟨_, ?_, AV.le_refl _⟩, leH_get (by simp [leH, hget])⟩; simp only [Tryz.results135, resL, ldA, oneOf, go_sem])
theorem anyZ_fn (ex : Bool) (l : List Pg) (hl : l.length ≤ 1000000) (ok : ∀ p ∈ l, p.ok) : Fn Tryz.prog 110 [pgl9 ex l, .fn 111 []] [] (vb (l.any zeroB)) [] := by
  obtain ⟨r, hr, h⟩ := indexZ_fn ex l hl ok
  generalize l.any zeroB = q at hr ⊢
  (refine fn_of Tryz.func110 rfl (by rfl) ?_; simp only [Tryz.ntmps110, List.length_cons, List.length_nil, Nat.reduceAdd, Nat.reduceSub, List.replicate, List.cons_append, List.nil_append])
  (repeat (any_goals (first | ((with_reducible refine evL_call ?_ ?_ ?_); rfl; rfl; intro K hK; ((apply opA_callB (h); rfl; rfl; rfl; rfl; exact Tryz.func135); kernel_rfl; rfl; (simp only [go_sem, hr]; rfl); (first | simp [AV.inNL, AV.inN])); (simp only [go_sem, hr]; refine hK _ ?_; clear hK K)) | ((with_reducible refine evL_one ?_ ?_); rfl; intro K hK; simp only [go_sem, hr]; ((repeat (refine ndI (by first | assumption) ?_)); refine hK _ ?_; clear hK K)) | (with_reducible first | (refine evL_nil ?_; refine hR _ ?_; clear hR R) | ((first | refine evC_seq ?_); intro Ψ hΨ hΨ') | (refine evC_region ?_; intro R hR) | (refine hΨ _ ?_; clear hΨ hΨ' Ψ) | refine evC_ret ?_))))
  all_goals (refine ⟨by simp, ⟨_, ?_, AV.le_refl _⟩, leH_get (by simp [leH, hget])⟩; simp only [Tryz.results110, resL, ldA, oneOf, go_sem])
theorem checkX_fn (x : Xs) (hx : x.ok) (hf : x.few) : Fn Tryz.prog 84 [xsA x] [] (vi .i64 (if okXs x then 0 else 190)) [] := by
  obtain ⟨A, S, P⟩ := x
  obtain ⟨oa, os, op⟩ := hx
  obtain ⟨fa, fs, fp⟩ := hf
  dsimp only at *
  have z := anyZ_fn false P (by omega) op
  have r1 := risesA_fn false A (by omega)
  have r2 := risesS_fn false S (by omega) os
  have r3 := risesP_fn false P (by omega) op
  unfold okXs
  dsimp only
  generalize P.any zeroB = q at z ⊢
  generalize okR aKey A = q1 at r1 ⊢
  generalize okR Sp.key S = q2 at r2 ⊢
  generalize okR Pg.key P = q3 at r3 ⊢
  (refine fn_of Tryz.func84 rfl (by rfl) ?_; simp only [Tryz.ntmps84, List.length_cons, List.length_nil, Nat.reduceAdd, Nat.reduceSub, List.replicate, List.cons_append, List.nil_append])
  cases q <;> cases q1 <;> cases q2 <;> cases q3
  all_goals (repeat (any_goals (first | ((with_reducible refine evL_call ?_ ?_ ?_); rfl; rfl; intro K hK; ((apply opA_callB (z); rfl; rfl; rfl; rfl; exact Tryz.func110); kernel_rfl; rfl; (simp only [go_sem]; rfl); (first | simp [AV.inNL, AV.inN])); (simp only [go_sem]; refine hK _ ?_; clear hK K)) | ((with_reducible refine evL_one ?_ ?_); rfl; intro K hK; simp only [go_sem]; ((repeat (refine ndI (by first | assumption) ?_)); refine hK _ ?_; clear hK K)) | (with_reducible first | (refine evL_nil ?_; refine hR _ ?_; clear hR R) | ((first | refine evC_seq ?_); intro Ψ hΨ hΨ') | (refine evC_region ?_; intro R hR) | (refine hΨ _ ?_; clear hΨ hΨ' Ψ) | refine evC_skip ?_ | refine evC_ret ?_) | ((with_reducible refine hΨ' _ _ ?_ ?_); (focus (simp; done)); clear hΨ hΨ' Ψ) | ((with_reducible apply evL_grd); rfl; rfl; rfl; all_goals (intro hb; first | (cases hb; done) | ((try simp only [Bool.not_true, Bool.not_false] at hb); (first | ((with_reducible intro K hK); (first | ((first | (apply opA_callB (r1); rfl; rfl; rfl; rfl; exact Tryz.func112) | (apply opA_callB (r2); rfl; rfl; rfl; rfl; exact Tryz.func114) | (apply opA_callB (r3); rfl; rfl; rfl; rfl; exact Tryz.func116)); kernel_rfl; rfl; (simp only [go_sem]; rfl); (first | simp [AV.inNL, AV.inN])) | skip); simp only [go_sem]; ((repeat (refine ndI (by first | assumption) ?_)); refine hK _ ?_; clear hK K)) | ((fail_if_success (with_reducible intro _)); simp only [go_sem]))))) | ((with_reducible apply evC_cond); rfl; rfl; all_goals (intro hc; first | (cases hc; done) | (try simp only at hc))))))
  all_goals (refine ⟨by simp, ⟨_, ?_, AV.le_refl _⟩, leH_get (by simp [leH, hget])⟩; simp only [Tryz.results84, resL, ldA, oneOf, go_sem])
  all_goals rfl
instance decXs : DecidableEq Xs := fun x y => decidable_of_iff (x.ad = y.ad ∧ x.sp = y.sp ∧ x.pg = y.pg) ⟨fun h => by cases x; cases y; simp_all, fun h => by rw [h]; exact ⟨rfl, rfl, rfl⟩⟩
theorem xs_dec (x y : Xs) : decide (x = y) = (decide (x.ad = y.ad) && (decide (x.sp = y.sp) && decide (x.pg = y.pg))) := by
  rw [← Bool.decide_and, ← Bool.decide_and]
  exact decide_eq_decide.2 ⟨fun h => by rw [h]; exact ⟨rfl, rfl, rfl⟩, fun h => by cases x; cases y; simp_all⟩
theorem few_max {n : Nat} (h : n ≤ 700) : n ≤ maxLen := by unfold maxLen; omega
theorem sameX_fn (x y : Xs) (hx : x.ok) (fx : x.few) (hy : y.ok) (fy : y.few) : Fn Tryz.prog 94 [xsA x, xsA y] [] (vb (decide (x = y))) [] := by
  have r1 := eqA_fn false false x.ad y.ad (few_max fx.1) (few_max fy.1)
  have r2 := eqS_fn false false x.sp y.sp (few_max fx.2.1) (few_max fy.2.1) hx.2.1 hy.2.1
  have r3 := eqP_fn false false x.pg y.pg (few_max fx.2.2) (few_max fy.2.2) hx.2.2 hy.2.2
  rw [xs_dec]
  generalize decide (x.ad = y.ad) = q1 at r1 ⊢
  generalize decide (x.sp = y.sp) = q2 at r2 ⊢
  generalize decide (x.pg = y.pg) = q3 at r3 ⊢
  obtain ⟨A, S, P⟩ := x
  obtain ⟨B, T, Q⟩ := y
  dsimp only at *
  (refine fn_of Tryz.func94 rfl (by rfl) ?_; simp only [Tryz.ntmps94, List.length_cons, List.length_nil, Nat.reduceAdd, Nat.reduceSub, List.replicate, List.cons_append, List.nil_append])
  cases q1 <;> cases q2 <;> cases q3
  all_goals (repeat (any_goals (first | ((with_reducible refine evL_call ?_ ?_ ?_); rfl; rfl; intro K hK; ((apply opA_callB (r1); rfl; rfl; rfl; rfl; exact Tryz.func124); kernel_rfl; rfl; (simp only [go_sem]; rfl); (first | simp [AV.inNL, AV.inN])); (simp only [go_sem]; refine hK _ ?_; clear hK K)) | ((with_reducible refine evL_one ?_ ?_); rfl; intro K hK; simp only [go_sem]; ((repeat (refine ndI (by first | assumption) ?_)); refine hK _ ?_; clear hK K)) | (with_reducible first | (refine evL_nil ?_; refine hR _ ?_; clear hR R) | ((first | refine evC_seq ?_); intro Ψ hΨ hΨ') | (refine evC_region ?_; intro R hR) | (refine hΨ _ ?_; clear hΨ hΨ' Ψ) | refine evC_ret ?_) | ((with_reducible apply evL_grd); rfl; rfl; rfl; all_goals (intro hb; first | (cases hb; done) | ((try simp only [Bool.not_true, Bool.not_false] at hb); (first | ((with_reducible intro K hK); (first | ((first | (apply opA_callB (r2); rfl; rfl; rfl; rfl; exact Tryz.func125) | (apply opA_callB (r3); rfl; rfl; rfl; rfl; exact Tryz.func126)); kernel_rfl; rfl; (simp only [go_sem]; rfl); (first | simp [AV.inNL, AV.inN])) | skip); simp only [go_sem]; ((repeat (refine ndI (by first | assumption) ?_)); refine hK _ ?_; clear hK K)) | ((fail_if_success (with_reducible intro _)); simp only [go_sem]))))))))
  all_goals (refine ⟨by simp, ⟨_, ?_, AV.le_refl _⟩, leH_get (by simp [leH, hget])⟩; simp only [Tryz.results94, resL, ldA, oneOf, go_sem])
  all_goals rfl
end Go.Proofs.YtmidmaeihpldhaaGreat.ax
namespace Go.Proofs.YtmidmaeihpldhaaGreat
open Go.RowKit
open Nat (reduceBEq)
set_option maxRecDepth 20000
set_option maxHeartbeats 2000000
theorem isNaN_fn (a : Int) : Fn Tryz.prog 136 [vi .u64 a] [] (vb false) [] := by
  (refine fn_of Tryz.func136 rfl (by rfl) ?_; simp only [Tryz.ntmps136, List.length_cons, List.length_nil, Nat.reduceAdd, Nat.reduceSub, List.replicate, List.cons_append, List.nil_append])
  (repeat (any_goals (first | ((with_reducible refine evL_one ?_ ?_); rfl; intro K hK; simp only [go_sem]; ((repeat (refine ndI (by first | assumption) ?_)); refine hK _ ?_; clear hK K)) | (with_reducible first | (refine evL_nil ?_; refine hR _ ?_; clear hR R) | ((first | refine evC_seq ?_); intro Ψ hΨ hΨ') | (refine evC_region ?_; intro R hR) | (refine hΨ _ ?_; clear hΨ hΨ' Ψ) | refine evC_ret ?_))))
  all_goals (refine ⟨by simp, ⟨_, ?_, AV.le_refl _⟩, leH_get (by simp [leH, hget])⟩; simp only [Tryz.results136, resL, ldA, oneOf, go_sem])
  all_goals simp
def cmpI (a b : Int) : Int := if a < b then -1 else if b < a then 1 else 0
theorem compare_fn (a b : Int) : Fn Tryz.prog 113 [vi .u64 a, vi .u64 b] [] (vi .i64 (cmpI a b)) [] := by
  (refine fn_of Tryz.func113 rfl (by rfl) ?_; simp only [Tryz.ntmps113, List.length_cons, List.length_nil, Nat.reduceAdd, Nat.reduceSub, List.replicate, List.cons_append, List.nil_append])
  (repeat (any_goals (first | ((with_reducible refine evL_call ?_ ?_ ?_); rfl; rfl; intro K hK; ((apply opA_callB (isNaN_fn _); rfl; rfl; rfl; rfl; exact Tryz.func136); kernel_rfl; rfl; (simp only [go_sem]; rfl); (first | rfl)); (simp only [go_sem]; refine hK _ ?_; clear hK K)) | ((with_reducible refine evL_one ?_ ?_); rfl; intro K hK; simp only [go_sem]; ((repeat (refine ndI (by first | assumption) ?_)); refine hK _ ?_; clear hK K)) | (with_reducible first | (refine evL_nil ?_; refine hR _ ?_; clear hR R) | ((first | refine evC_seq ?_); intro Ψ hΨ hΨ') | (refine evC_region ?_; intro R hR) | (refine hΨ _ ?_; clear hΨ hΨ' Ψ) | refine evC_skip ?_ | refine evC_ret ?_) | ((with_reducible refine hΨ' _ _ ?_ ?_); (focus (simp; done)); clear hΨ hΨ' Ψ) | ((with_reducible apply evC_cond); rfl; rfl; all_goals (intro hc; first | (cases hc; done) | (try simp only at hc))))))
  all_goals (refine ⟨by simp, ⟨_, ?_, AV.le_refl _⟩, leH_get (by simp [leH, hget])⟩; simp only [Tryz.results113, resL, ldA, oneOf, go_sem])
  all_goals simp_all [cmpI]
  all_goals omega
def cmpK (x y : Nat) : Int := if x < y then -1 else if y < x then 1 else 0
def ltA (L : List Ac) (a : Int) (h : Nat) : Bool := match L[h]? with | some z => decide (cmpI z.a a < 0) | none => false
def eqA (L : List Ac) (a : Int) (h : Nat) : Bool := match L[h]? with | some z => cmpI z.a a == 0 | none => false
def ltP (l : List Pr) (k : Nat) (h : Nat) : Bool := match l[h]? with | some z => decide (cmpK z.k k < 0) | none => false
def eqP (l : List Pr) (k : Nat) (h : Nat) : Bool := match l[h]? with | some z => cmpK z.k k == 0 | none => false
end Go.Proofs.YtmidmaeihpldhaaGreat
namespace Go.Proofs.YtmidmaeihpldhaaGreat
open Go.RowKit
open Nat (reduceBEq)
set_option maxRecDepth 20000
set_option maxHeartbeats 2000000
def rcB (l : List Nat) : List AV := (l.flatMap bpv).map .c
theorem rcB_len (l : List Nat) : (rcB l).length = l.length := by unfold rcB; rw [List.length_map, flat_length bpv_len, Nat.mul_one]
def rcP (l : List Pr) : List AV := (l.flatMap Pr.pv).map .c
theorem rcP_len (l : List Pr) : (rcP l).length = l.length * 8 := by unfold rcP; rw [List.length_map, flat_length pr_len]
theorem cloneB_fn (ex : Bool) (l : List Nat) (hl : l.length ≤ 1000000) : Fn Tryz.prog 30 [.c (.sl ex 1 l.length (l.flatMap bpv))] [] (.row 7 5 1 l.length) [(7, rcB l)] := by
  have e1 := rcB_len l
  unfold rcB at e1 ⊢
  (refine fn_of Tryz.func30 rfl (by rfl) ?_; simp only [Tryz.ntmps30, List.length_cons, List.length_nil, Nat.reduceAdd, Nat.reduceSub, List.replicate, List.cons_append, List.nil_append])
  (repeat (any_goals (first | ((have hz0 := hb0 hc); (with_reducible refine evL_op ?_ ?_); rfl; intro K hK; refine OpA.nilrow_after 2 7 5 1 (evO_sound ?_); (simp (disch := omega) only [go_sem, e1, refsL_map, Nat.mul_one]); (repeat (refine And.intro (by first | assumption | rfl) ?_)); refine hK _ ?_; clear hK K; clear hb0) | ((with_reducible refine evL_one ?_ ?_); rfl; intro K hK; simp (disch := omega) only [go_sem, e1, refsL_map, Nat.mul_one]; ((repeat (refine ndI (by first | assumption | omega | rfl) ?_)); refine hK _ ?_; clear hK K)) | ((with_reducible refine evL_one ?_ ?_); rfl; intro K hK; refine evO_isnil rfl rfl (by first | exact .inl rfl) ?_ rfl ?_; (focus (simp (disch := omega) only [go_sem]; try rfl)); (intro b hb0; simp (disch := omega) only [eq_self, go_sem, e1, refsL_map, Nat.mul_one]; (with_reducible refine hK _ ?_); clear hK K)) | (with_reducible first | (refine evL_nil ?_; refine hR _ ?_; clear hR R) | ((first | refine evC_seq ?_); intro Ψ hΨ hΨ') | (refine evC_region ?_; intro R hR) | (refine hΨ _ ?_; clear hΨ hΨ' Ψ) | refine evC_skip ?_ | refine evC_ret ?_) | ((with_reducible refine hΨ' _ _ ?_ ?_); (focus (simp; done)); clear hΨ hΨ' Ψ) | ((with_reducible apply evC_cond); rfl; rfl; all_goals (intro hc; first | (try simp only at hc))))))
  all_goals (try (obtain rfl := List.eq_nil_of_length_eq_zero hz0))
  all_goals exact ⟨by simp, ⟨_, rfl, AV.le_refl _⟩, leH_get (by simp [leH, hget])⟩
theorem cloneP_fn (ex : Bool) (l : List Pr) (hl : l.length ≤ 1000000) : Fn Tryz.prog 31 [.c (.sl ex 8 l.length (l.flatMap Pr.pv))] [] (.row 7 83 8 l.length) [(7, rcP l)] := by
  have e1 := rcP_len l
  unfold rcP at e1 ⊢
  (refine fn_of Tryz.func31 rfl (by rfl) ?_; simp only [Tryz.ntmps31, List.length_cons, List.length_nil, Nat.reduceAdd, Nat.reduceSub, List.replicate, List.cons_append, List.nil_append])
  (repeat (any_goals (first | ((have hz0 := hb0 hc); (with_reducible refine evL_op ?_ ?_); rfl; intro K hK; refine OpA.nilrow_after 2 7 83 8 (evO_sound ?_); (simp (disch := omega) only [go_sem, e1, refsL_map]); (repeat (refine And.intro (by first | assumption | rfl) ?_)); refine hK _ ?_; clear hK K; clear hb0) | ((with_reducible refine evL_one ?_ ?_); rfl; intro K hK; simp (disch := omega) only [go_sem, e1, refsL_map]; ((repeat (refine ndI (by first | assumption | omega | rfl) ?_)); refine hK _ ?_; clear hK K)) | ((with_reducible refine evL_one ?_ ?_); rfl; intro K hK; refine evO_isnil rfl rfl (by first | exact .inl rfl) ?_ rfl ?_; (focus (simp (disch := omega) only [go_sem]; try rfl)); (intro b hb0; simp (disch := omega) only [eq_self, go_sem, e1, refsL_map]; (with_reducible refine hK _ ?_); clear hK K)) | (with_reducible first | (refine evL_nil ?_; refine hR _ ?_; clear hR R) | ((first | refine evC_seq ?_); intro Ψ hΨ hΨ') | (refine evC_region ?_; intro R hR) | (refine hΨ _ ?_; clear hΨ hΨ' Ψ) | refine evC_skip ?_ | refine evC_ret ?_) | ((with_reducible refine hΨ' _ _ ?_ ?_); (focus (simp; done)); clear hΨ hΨ' Ψ) | ((with_reducible apply evC_cond); rfl; rfl; all_goals (intro hc; first | (try simp only at hc))))))
  all_goals (try (obtain rfl := List.eq_nil_of_length_eq_zero hz0))
  all_goals exact ⟨by simp, ⟨_, rfl, AV.le_refl _⟩, leH_get (by simp [leH, hget])⟩
theorem cloneA_fn (ex : Bool) (l : List Ac) (hl : l.length ≤ 1000000) : Fn Tryz.prog 29 [acS ex l] [] (.row 7 76 8 l.length) [(7, rcS l)] := by
  have e1 := rcS_len l
  unfold rcS at e1 ⊢
  (refine fn_of Tryz.func29 rfl (by rfl) ?_; simp only [Tryz.ntmps29, List.length_cons, List.length_nil, Nat.reduceAdd, Nat.reduceSub, List.replicate, List.cons_append, List.nil_append])
  (repeat (any_goals (first | ((have hz0 := hb0 hc); (with_reducible refine evL_op ?_ ?_); rfl; intro K hK; refine OpA.nilrow_after 2 7 76 8 (evO_sound ?_); (simp (disch := omega) only [go_sem, e1, refsL_map]); (repeat (refine And.intro (by first | assumption | rfl) ?_)); refine hK _ ?_; clear hK K; clear hb0) | ((with_reducible refine evL_one ?_ ?_); rfl; intro K hK; simp (disch := omega) only [go_sem, e1, refsL_map]; ((repeat (refine ndI (by first | assumption | omega | rfl) ?_)); refine hK _ ?_; clear hK K)) | ((with_reducible refine evL_one ?_ ?_); rfl; intro K hK; refine evO_isnil rfl rfl (by first | exact .inl rfl) ?_ rfl ?_; (focus (simp (disch := omega) only [go_sem]; try rfl)); (intro b hb0; simp (disch := omega) only [eq_self, go_sem, e1, refsL_map]; (with_reducible refine hK _ ?_); clear hK K)) | (with_reducible first | (refine evL_nil ?_; refine hR _ ?_; clear hR R) | ((first | refine evC_seq ?_); intro Ψ hΨ hΨ') | (refine evC_region ?_; intro R hR) | (refine hΨ _ ?_; clear hΨ hΨ' Ψ) | refine evC_skip ?_ | refine evC_ret ?_) | ((with_reducible refine hΨ' _ _ ?_ ?_); (focus (simp; done)); clear hΨ hΨ' Ψ) | ((with_reducible apply evC_cond); rfl; rfl; all_goals (intro hc; first | (try simp only at hc))))))
  all_goals (try (obtain rfl := List.eq_nil_of_length_eq_zero hz0))
  all_goals exact ⟨by simp, ⟨_, rfl, AV.le_refl _⟩, leH_get (by simp [leH, hget])⟩
abbrev raS (l : List Ac) : List AV := (l.flatMap Ac.pv).map .c
theorem raS_len (l : List Ac) : (raS l).length = l.length * 8 := by rw [List.length_map, flat_length ac_len]
abbrev raP (l : List Pr) : List AV := (l.flatMap Pr.pv).map .c
theorem raP_len (l : List Pr) : (raP l).length = l.length * 8 := by rw [List.length_map, flat_length pr_len]
end Go.Proofs.YtmidmaeihpldhaaGreat
namespace Go.Proofs.YtmidmaeihpldhaaGreat
open Go.RowKit
set_option maxRecDepth 20000
set_option maxHeartbeats 2000000
def posS (L : List Ac) (a : Int) : Nat := bsr (ltA L a) L.length 0 L.length
def isS (L : List Ac) (a : Int) : Bool := eqA L a (posS L a)
def ofS (L : List Ac) (a : Int) : Ac := if isS L a then (L[posS L a]?).getD ⟨a, 0, 0, [], []⟩ else ⟨a, 0, 0, [], []⟩
def roomS (L : List Ac) (a : Int) : Bool := decide (a ≠ 0) && (isS L a || (decide (a < 16) || decide (manyL L < 24)))
def laysL (L : List Ac) (x : Ac) : List Ac := if isS L x.a then (if emptyA x then L.take (posS L x.a) ++ L.drop (posS L x.a + 1) else L.take (posS L x.a) ++ x :: L.drop (posS L x.a + 1)) else if emptyA x then L else L.take (posS L x.a) ++ x :: L.drop (posS L x.a)
def Okl (L : List Ac) : Prop := L.length ≤ 800 ∧ ∀ x ∈ L, x.ok ∧ x.code.length ≤ 1000000 ∧ x.store.length ≤ 1000000
def putS (L : List Ac) (x : Ac) : List Ac × Int := if !okAc x then ([], 161) else if !emptyA x && !roomS L x.a then ([], 6) else if WW ≤ ((laysL L x).map Ac.b).sum then ([], 2) else (laysL L x, 0)
end Go.Proofs.YtmidmaeihpldhaaGreat
namespace Go.Proofs.YtmidmaeihpldhaaGreat
open Go.RowKit

theorem bytesOf_ints (l : List UInt8) : Lib.bytesOf (l.map fun b => (b.toNat : Int)) = l := by
  simp only [Lib.bytesOf, List.map_map]
  conv => rhs; rw [← List.map_id l]
  apply List.map_congr_left
  intro b _
  simp
theorem strOfNums_ints (l : List UInt8) : strOfNums (l.map fun b => (b.toNat : Int)) = ⟨l.toArray⟩ := by
  unfold strOfNums
  have := bytesOf_ints l
  unfold Lib.bytesOf at this
  rw [this]
theorem Sl.ints {w : World} {B n c : Nat} {b o : Nat} {l : List UInt8} (h : Sl w B 1 (some ⟨b, o, none⟩) n c (u8s l)) :
    ∀ i, i < n → w.cell? ⟨b, o + i, none⟩ = some (.int .u8 ((l.map fun b => (b.toNat : Int)).getD i 0)) := by
  intro i hi
  obtain ⟨b', o', x, hA, _, _, hx, hc⟩ := h.at8 hi
  simp only [Option.some.injEq, Addr.mk.injEq, and_true] at hA
  obtain ⟨rfl, rfl⟩ := hA
  rw [hc]
  simp [List.getD, hx]
theorem conv8 {P : Program} {w : World} {src dst e : TypeId} (hs : P.underlying src = some (.slice e)) (he : P.underlying e = some (.int .u8)) (hd : P.underlying dst = some .string)
    {B n c : Nat} {A : Option Addr} {l : List UInt8} (h : Sl w B 1 A n c (u8s l)) : (convert src dst (.slice A n c)).run P w = .ok (.string ⟨l.toArray⟩) w := by
  rcases Nat.eq_zero_or_pos n with h0 | h0
  · subst h0
    obtain rfl : l = [] := List.eq_nil_of_length_eq_zero h.len8
    rw [run_convert_bytes_string w src dst e _ 0 c hs he hd]
    cases A with
    | none => simp [Conv.bytesToString]; rfl
    | some a => rw [run_bytesToString w a 0 c [] (run_loadCells_list w a [] (by simp))]; rfl
  · obtain ⟨b, o, rfl, _, _⟩ := h.cells h0
    rw [run_convert_bytes_arg w src e hs he b o n c _ (by rw [List.length_map]; exact h.len8) h.ints dst hd, strOfNums_ints]
theorem str_eq (l r : List UInt8) : ((⟨l.toArray⟩ : ByteArray) = ⟨r.toArray⟩) ↔ l = r := by
  constructor
  · intro h
    have := congrArg (fun b : ByteArray => b.data.toList) h
    simpa using this
  · rintro rfl; rfl
end Go.Proofs.YtmidmaeihpldhaaGreat
namespace Go.Proofs.YtmidmaeihpldhaaGreat
open Go.RowKit
open Nat (reduceBEq)
set_option maxRecDepth 20000
set_option maxHeartbeats 2000000
abbrev bsl (ex : Bool) (l : List Nat) : AV := .c (.sl ex 1 l.length (l.flatMap bpv))
theorem bequal_any {A B : Option Addr} {n m c d N M : Nat} {xs ys : List UInt8} {w : World} (hx : Sl w N 1 A n c (u8s xs)) (hy : Sl w M 1 B m d (u8s ys)) :
    Calls Tryz.prog 97 #[.slice A n c, .slice B m d] w fun e w' => e = .returned (.bool (decide (xs = ys))) ∧ w = w' := by
  have h1 := conv8 Tryz.underlying73 Tryz.underlying5 Tryz.underlying9 hx
  have h2 := conv8 Tryz.underlying73 Tryz.underlying5 Tryz.underlying9 hy
  have h3 := str_eq xs ys
  have H3 := hide h3
  clear hx hy h3
  go_enter Tryz.func97, Tryz.ntmps97
  go_wp2
  go_ret
  exact ⟨by rw [← Bool.beq_eq_decide_eq] <;> rfl, rfl⟩

theorem RV.sl8 {S : Nat → Prop} {ι : Nat → Nat × Nat × Nat} {w : World} {v : Value} {ex : Bool} {l : List Nat} (hb : ∀ b ∈ l, b < 256) (h : RV S ι w v (bsl ex l)) : ∃ A c, v = .slice A l.length c ∧ Sl w w.heap.size 1 A l.length c (u8s (l.map UInt8.ofNat)) := by
  have hp := bpv_map l
  cases h with
  | c _ _ h =>
    cases h with
    | sl _ _ A _ c us _ h1 h2 h3 hx hl hn' h4 h5 =>
      have hus : us = u8s (l.map UInt8.ofNat) := by
        refine List.ext_getElem? fun j => ?_
        unfold u8s
        rw [List.map_map, List.getElem?_map]
        rcases Nat.lt_or_ge j l.length with hj | hj
        · have hju : j < us.length := by rw [hl, hp, List.length_map]; exact hj
          have hr := h5 j _ (.v (.int .u8 ((l[j] : Nat) : Int))) (List.getElem?_eq_getElem hju) (by rw [hp, List.getElem?_map, List.getElem?_eq_getElem hj]; rfl)
          rw [List.getElem?_eq_getElem hju, List.getElem?_eq_getElem hj]
          generalize us[j] = u at hr ⊢
          cases hr
          have := hb l[j] (List.getElem_mem hj)
          simp only [Option.map_some, Function.comp, Option.some.injEq]
          rw [UInt8.toNat_ofNat_of_lt' (by exact this)]
        · rw [List.getElem?_eq_none (by rw [hl, hp, List.length_map]; exact hj), List.getElem?_eq_none hj]
          rfl
      refine ⟨A, c, rfl, h1, h2, h3, by rw [← hus, hl, hn'], fun hne => ?_⟩
      rw [hus] at h4
      have hne' : u8s (l.map UInt8.ofNat) ≠ [] := fun e => by
        have := congrArg List.length e
        simp [u8s] at this
        subst this
        exact absurd hne (Nat.lt_irrefl _)
      obtain ⟨b, o, hA, hS, hc⟩ := h4 hne'
      obtain ⟨u0, rest, hu0⟩ := List.exists_cons_of_ne_nil hne'
      exact ⟨b, o, hA, block_lt_of_cell (hc 0 u0 (by rw [hu0]; rfl)), hc⟩
theorem Fn.ofBool {P : Program} {f : FuncId} {args : List AV} {b : Bool} (h : ∀ (S : Nat → Prop) (ι : Nat → Nat × Nat × Nat) (w : World) (vs : List Value), vs.length = args.length → (∀ (j : Nat) (v : Value) (x : AV), vs[j]? = some v → args[j]? = some x → RV S ι w v x) →
    Calls P f vs.toArray w fun e w' => e = .returned (.bool b) ∧ w = w') : Fn P f args [] (vb b) [] := by
  intro E vs hD hsep hH hlen hargs
  refine (h E.S E.ι E.w vs hlen hargs).mono ?_
  rintro e w' ⟨rfl, rfl⟩
  exact ⟨_, E.ι, rfl, .c _ _ (.v _ rfl), ⟨fun r cs hr => (by cases hr), fun r q cs ds hr => (by cases hr)⟩, ⟨rfl, rfl, rfl, Nat.le_refl _, fun _ _ _ => rfl, fun r cs hr => (by cases hr)⟩⟩
theorem bequal_fn (e1 e2 : Bool) (a b : List Nat) (ha : ∀ x ∈ a, x < 256) (hb : ∀ x ∈ b, x < 256) : Fn Tryz.prog 97 [bsl e1 a, bsl e2 b] [] (vb (decide (a = b))) [] := by
  refine Fn.ofBool fun S ι w vs hlen hargs => ?_
  match vs, hlen with
  | [v0, v1], _ =>
    obtain ⟨A, c, rfl, h0⟩ := RV.sl8 ha (hargs 0 v0 _ rfl rfl)
    obtain ⟨B, d, rfl, h1⟩ := RV.sl8 hb (hargs 1 v1 _ rfl rfl)
    refine (bequal_any h0 h1).mono ?_
    rintro e w' ⟨rfl, rfl⟩
    refine ⟨?_, rfl⟩
    have key : (a.map UInt8.ofNat = b.map UInt8.ofNat) ↔ a = b := by
      constructor
      · intro h
        have h2 := congrArg (List.map UInt8.toNat) h
        rw [List.map_map, List.map_map] at h2
        have e : ∀ l : List Nat, (∀ x ∈ l, x < 256) → l.map (UInt8.toNat ∘ UInt8.ofNat) = l := fun l hl => by
          conv => rhs; rw [← List.map_id l]
          exact List.map_congr_left fun x hx => UInt8.toNat_ofNat_of_lt' (hl x hx)
        rwa [e a ha, e b hb] at h2
      · intro h; rw [h]
    rw [decide_eq_decide.2 key]
instance decPr : DecidableEq Pr := fun p q => decidable_of_iff (p.k = q.k ∧ p.v = q.v) ⟨fun h => by cases p; cases q; simp_all, fun h => by rw [h]; exact ⟨rfl, rfl⟩⟩
theorem pr_eq {p q : Pr} (hp : p.ok) (hq : q.ok) : (l0 p.k == l0 q.k && (l1 p.k == l1 q.k && (l2 p.k == l2 q.k && (l3 p.k == l3 q.k && (l0 p.v == l0 q.v && (l1 p.v == l1 q.v && (l2 p.v == l2 q.v && l3 p.v == l3 q.v))))))) = decide (p = q) := by
  have h1 := wN_eq hp.1 hq.1
  have h2 := wN_eq hp.2 hq.2
  have e : (l0 p.k == l0 q.k && (l1 p.k == l1 q.k && (l2 p.k == l2 q.k && (l3 p.k == l3 q.k && (l0 p.v == l0 q.v && (l1 p.v == l1 q.v && (l2 p.v == l2 q.v && l3 p.v == l3 q.v))))))) = ((l0 p.k == l0 q.k && (l1 p.k == l1 q.k && (l2 p.k == l2 q.k && l3 p.k == l3 q.k))) && (l0 p.v == l0 q.v && (l1 p.v == l1 q.v && (l2 p.v == l2 q.v && l3 p.v == l3 q.v)))) := by simp only [Bool.and_assoc]
  rw [e, h1, h2, ← Bool.decide_and]
  exact decide_eq_decide.2 ⟨fun h => by cases p; cases q; simp_all, fun h => by rw [h]; exact ⟨rfl, rfl⟩⟩
theorem eqP_fn (e1 e2 : Bool) (l m : List Pr) (hl : l.length ≤ maxLen) (hm : m.length ≤ maxLen) (ol : ∀ p ∈ l, p.ok) (om : ∀ p ∈ m, p.ok) : Fn Tryz.prog 98 [.c (.sl e1 8 l.length (l.flatMap Pr.pv)), .c (.sl e2 8 m.length (m.flatMap Pr.pv))] [] (vb (decide (l = m))) [] := by
  by_cases hlen : l.length = m.length
  · have k0 : ((l.length : Int) != (m.length : Int)) = false := by rw [hlen]; simp
    have k8 : l.length < 9223372036854775808 := Nat.lt_succ_of_le hl
    obtain ⟨r, hr⟩ : ∃ r, decide (l = m) = r := ⟨_, rfl⟩
    rw [hr]
    (refine fn_of Tryz.func98 rfl (by rfl) ?_; simp only [Tryz.ntmps98, List.length_cons, List.length_nil, Nat.reduceAdd, Nat.reduceSub, List.replicate, List.cons_append, List.nil_append])
    (repeat (any_goals (first | ((with_reducible refine evL_one ?_ ?_); rfl; intro K hK; simp only [go_sem, k0]; ((repeat (refine ndI (by first | assumption) ?_)); refine hK _ ?_; clear hK K)) | (with_reducible first | (refine evL_nil ?_; refine hR _ ?_; clear hR R) | ((first | refine evC_seq ?_ | refine evC_block ?_); intro Ψ hΨ hΨ') | (refine evC_region ?_; intro R hR) | (refine hΨ _ ?_; clear hΨ hΨ' Ψ) | refine evC_skip ?_) | ((with_reducible apply evC_cond); rfl; rfl; all_goals (intro hc; first | (cases hc; done) | (try simp only at hc))))))
    refine evC_loop (α := { i : Nat // i ≤ l.length ∧ ∀ j, j < i → l[j]? = m[j]? }) (fun p => ⟨[.c (.sl e1 8 l.length (l.flatMap Pr.pv)), .c (.sl e2 8 m.length (m.flatMap Pr.pv)), .any, .any, .any, .any, .any, .any, .any, .any, .any, .any, vi .i64 l.length, vi .i64 p.1, .any, .any, .any, .any, .any, .any, .any, .any, .any, .any, .any, .any], []⟩) (fun p => l.length - p.1) ⟨0, Nat.zero_le _, fun j hj => by omega⟩ (St.le_of (by simp [leT]) (by simp [leH])) ?_
    rintro ⟨i, hi, hno⟩ Ψ hΨ hΨ'
    dsimp only at hi hΨ ⊢
    rcases Nat.lt_or_ge i l.length with hlt | hge
    · have k1 : (decide ((i : Int) < (l.length : Int))) = true := decide_eq_true (by omega)
      have k7 : (i : Int) + 1 = ((i + 1 : Nat) : Int) := by omega
      obtain ⟨x, hx⟩ : ∃ x, l[i]? = some x := ⟨_, List.getElem?_eq_getElem hlt⟩
      obtain ⟨y, hy⟩ : ∃ y, m[i]? = some y := ⟨_, List.getElem?_eq_getElem (by omega)⟩
      have hlm : i < m.length := by omega
      have k2 := ps_at hx
      have k3 := ps_at hy
      have k4 := pr_eq (ol x (List.mem_of_getElem? hx)) (om y (List.mem_of_getElem? hy))
      by_cases hxy : x = y
      · rw [decide_eq_true hxy] at k4
        (have W := ndI k1 (ndI k2 (ndI k3 (ndI k4 (ndI k7 @wrI)))); (repeat (any_goals (first | ((with_reducible refine evL_one ?_ ?_); rfl; intro K hK; simp (disch := omega) only [go_sem, W]; ((repeat (refine ndI (by first | assumption | rfl) ?_)); refine hK _ ?_; clear hK K)) | (with_reducible first | (refine evL_nil ?_; refine hR _ ?_; clear hR R) | ((first | refine evC_seq ?_ | refine evC_block ?_); intro Ψ hΨ hΨ') | (refine evC_region ?_; intro R hR) | (refine hΨ _ ?_; clear hΨ hΨ' Ψ) | refine evC_skip ?_) | ((with_reducible refine hΨ' _ _ ?_ ?_); (focus (simp; done)); clear hΨ hΨ' Ψ) | ((with_reducible apply evC_cond); rfl; rfl; all_goals (intro hc; first | (cases hc; done) | (try simp only at hc))) | ((with_reducible refine evD_nil ?_ ?_); kernel_rfl; (with_reducible refine hR _ ?_); clear hR R) | (((with_reducible apply evD_any); rfl; rfl; (simp (disch := omega) only [rdE, rdOf, go_sem, W]; rfl); (intro τ hA hQ hN; ((try simp only [agree, Op.operands, Call.operands, go_sem, W, go_sem, List.mem_cons, List.not_mem_nil, forall_eq_or_imp, forall_eq, List.append_toArray, Option.toArray] at hA); (try simp only [go_sem, W, List.mem_cons, List.not_mem_nil, forall_eq_or_imp, forall_eq] at hQ hN); (first | (revert hA; intro hA)); (first | (revert hQ; intro hQ)); (first | (revert hN; intro hN)); simp (disch := omega) only [go_sem, W, go_sem, hA, hQ, hN]; (repeat (refine ndI (by first | assumption | omega | rfl) ?_)); (first | apply eff_rd)))); (simp (disch := omega) only [St.eff, setO, hputs, go_sem, W])) | ((with_reducible refine evC_draw ?_ ?_ ?_ ?_); kernel_rfl; kernel_rfl; (first | kernel_rfl); intro R hR)))))
        all_goals exact hΨ _ ⟨i + 1, hlt, fun j hj => by
          rcases Nat.lt_or_ge j i with h' | h'
          · exact hno j h'
          · obtain rfl : j = i := by omega
            rw [hx, hy, hxy]⟩ (by simp only; omega) (St.le_of (by simp [leT]) (by simp [leH]))
      · rw [decide_eq_false hxy] at k4
        have hrf : r = false := by
          rw [← hr, decide_eq_false_iff_not]
          intro e; rw [e, hy] at hx; cases hx; exact hxy rfl
        (have W := ndI k1 (ndI k2 (ndI k3 (ndI k4 (ndI k7 @wrI)))); (repeat (any_goals (first | ((with_reducible refine evL_one ?_ ?_); rfl; intro K hK; simp (disch := omega) only [go_sem, W]; ((repeat (refine ndI (by first | assumption | rfl) ?_)); refine hK _ ?_; clear hK K)) | (with_reducible first | (refine evL_nil ?_; refine hR _ ?_; clear hR R) | ((first | refine evC_seq ?_ | refine evC_block ?_); intro Ψ hΨ hΨ') | (refine evC_region ?_; intro R hR) | (refine hΨ _ ?_; clear hΨ hΨ' Ψ) | refine evC_skip ?_ | refine evC_ret ?_) | ((with_reducible refine hΨ' _ _ ?_ ?_); (focus (simp; done)); clear hΨ hΨ' Ψ) | ((with_reducible apply evC_cond); rfl; rfl; all_goals (intro hc; first | (cases hc; done) | (try simp only at hc))) | ((with_reducible refine evD_nil ?_ ?_); kernel_rfl; (with_reducible refine hR _ ?_); clear hR R) | (((with_reducible apply evD_any); rfl; rfl; (simp (disch := omega) only [rdE, rdOf, go_sem, W]; rfl); (intro τ hA hQ hN; ((try simp only [agree, Op.operands, Call.operands, go_sem, W, go_sem, List.mem_cons, List.not_mem_nil, forall_eq_or_imp, forall_eq, List.append_toArray, Option.toArray] at hA); (try simp only [go_sem, W, List.mem_cons, List.not_mem_nil, forall_eq_or_imp, forall_eq] at hQ hN); (first | (revert hA; intro hA)); (first | (revert hQ; intro hQ)); (first | (revert hN; intro hN)); simp (disch := omega) only [go_sem, W, go_sem, hA, hQ, hN]; (repeat (refine ndI (by first | assumption | omega | rfl) ?_)); (first | apply eff_rd)))); (simp (disch := omega) only [St.eff, setO, hputs, go_sem, W])) | ((with_reducible refine evC_draw ?_ ?_ ?_ ?_); kernel_rfl; kernel_rfl; (first | kernel_rfl); intro R hR)))))
        all_goals rw [hrf]
        all_goals (refine ⟨by simp, ⟨_, ?_, AV.le_refl _⟩, leH_get (by simp [leH, hget])⟩; simp only [Tryz.results98, resL, ldA, oneOf, go_sem])
    · have k1 : (decide ((i : Int) < (l.length : Int))) = false := decide_eq_false (by omega)
      have hrt : r = true := by
        rw [← hr, decide_eq_true_iff]
        refine List.ext_getElem? fun j => ?_
        rcases Nat.lt_or_ge j l.length with h | h
        · exact hno j (by omega)
        · rw [List.getElem?_eq_none h, List.getElem?_eq_none (by omega)]
      (repeat (any_goals (first | ((with_reducible refine evL_one ?_ ?_); rfl; intro K hK; simp only [go_sem, k1]; ((repeat (refine ndI (by first | assumption) ?_)); refine hK _ ?_; clear hK K)) | (with_reducible first | (refine evL_nil ?_; refine hR _ ?_; clear hR R) | ((first | refine evC_seq ?_); intro Ψ hΨ hΨ') | (refine evC_region ?_; intro R hR) | (refine hΨ _ ?_; clear hΨ hΨ' Ψ) | refine evC_ret ?_ | refine evC_exit ?_) | ((with_reducible refine hΨ' _ _ ?_ ?_); (focus (simp; done)); clear hΨ hΨ' Ψ) | ((with_reducible apply evC_cond); rfl; rfl; all_goals (intro hc; first | (cases hc; done) | (try simp only at hc))))))
      all_goals rw [hrt]
      all_goals (refine ⟨by simp, ⟨_, ?_, AV.le_refl _⟩, leH_get (by simp [leH, hget])⟩; simp only [Tryz.results98, resL, ldA, oneOf, go_sem])
  · have k0 : ((l.length : Int) != (m.length : Int)) = true := by simp; omega
    have he : decide (l = m) = false := by rw [decide_eq_false_iff_not]; intro e; exact hlen (by rw [e])
    rw [he]
    (refine fn_of Tryz.func98 rfl (by rfl) ?_; simp only [Tryz.ntmps98, List.length_cons, List.length_nil, Nat.reduceAdd, Nat.reduceSub, List.replicate, List.cons_append, List.nil_append])
    (repeat (any_goals (first | ((with_reducible refine evL_one ?_ ?_); rfl; intro K hK; simp only [go_sem, k0]; ((repeat (refine ndI (by first | assumption) ?_)); refine hK _ ?_; clear hK K)) | (with_reducible first | (refine evL_nil ?_; refine hR _ ?_; clear hR R) | ((first | refine evC_seq ?_); intro Ψ hΨ hΨ') | (refine evC_region ?_; intro R hR) | (refine hΨ _ ?_; clear hΨ hΨ' Ψ) | refine evC_ret ?_) | ((with_reducible refine hΨ' _ _ ?_ ?_); (focus (simp; done)); clear hΨ hΨ' Ψ) | ((with_reducible apply evC_cond); rfl; rfl; all_goals (intro hc; first | (cases hc; done) | (try simp only at hc))))))
    all_goals (refine ⟨by simp, ⟨_, ?_, AV.le_refl _⟩, leH_get (by simp [leH, hget])⟩; simp only [Tryz.results98, resL, ldA, oneOf, go_sem])
end Go.Proofs.YtmidmaeihpldhaaGreat
