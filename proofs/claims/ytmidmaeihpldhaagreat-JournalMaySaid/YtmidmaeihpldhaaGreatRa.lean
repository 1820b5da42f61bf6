/-
  Words as the document has them, bit by bit; reckoned.
-/
import Derived.Test.YtmidmaeihpldhaaGreatTc
import Derived.Test.YtmidmaeihpldhaaGreatRows
import Derived.Test.YtmidmaeihpldhaaGreatAvI
import Derived.ProofKit
import Derived.OpenShut
import Derived.ChangeOld
import Derived.Deep.Slices
import Derived.Test.YtmidmaeihpldhaaGreatAvW
import Derived.Test.YtmidmaeihpldhaaGreatLc
set_option linter.unusedSimpArgs false
set_option linter.unusedVariables false
namespace Go.Proofs.YtmidmaeihpldhaaGreat
open Go.RowKit
open Nat (reduceBEq)
set_option maxRecDepth 20000
set_option maxHeartbeats 2000000
theorem ac_ext {x y : Ac} (h : x.a = y.a ∧ x.b = y.b ∧ x.n = y.n ∧ x.code = y.code ∧ x.store = y.store) : x = y := by
  obtain ⟨a, b, n, c, s⟩ := x
  obtain ⟨a', b', n', c', s'⟩ := y
  obtain ⟨h1, h2, h3, h4, h5⟩ := h
  dsimp only at h1 h2 h3 h4 h5
  subst h1 h2 h3 h4 h5
  rfl
instance decAc : DecidableEq Ac := fun x y => decidable_of_iff (x.a = y.a ∧ x.b = y.b ∧ x.n = y.n ∧ x.code = y.code ∧ x.store = y.store) ⟨ac_ext, fun h => by rw [h]; exact ⟨rfl, rfl, rfl, rfl, rfl⟩⟩
theorem same1_fn (x y : Ac) (hx : x.ok) (hy : y.ok) : Fn Tryz.prog 96 [acA x, acA y] [] (vb (decide (x = y))) [] := by
  have f2 := wN_eq hx.2.1 hy.2.1
  have f4 := bequal_fn false false x.code y.code hx.2.2.2.1.2 hy.2.2.2.1.2
  have f5 := eqP_fn false false x.store y.store hx.2.2.2.2.1 hy.2.2.2.2.1 hx.2.2.2.2.2 hy.2.2.2.2.2
  have e : decide (x = y) = ((x.a == y.a) && (decide (x.b = y.b) && ((x.n == y.n) && (decide (x.code = y.code) && decide (x.store = y.store))))) := by
    rw [Bool.eq_iff_iff]
    simp only [decide_eq_true_eq, Bool.and_eq_true, beq_iff_eq]
    exact ⟨fun h => by rw [h]; exact ⟨rfl, rfl, rfl, rfl, rfl⟩, ac_ext⟩
  rw [e]
  clear e
  generalize decide (x.b = y.b) = q2 at f2 ⊢
  generalize decide (x.code = y.code) = q4 at f4 ⊢
  generalize decide (x.store = y.store) = q5 at f5 ⊢
  obtain ⟨q1, f1⟩ : ∃ q, (x.a == y.a) = q := ⟨_, rfl⟩
  obtain ⟨q3, f3⟩ : ∃ q, (x.n == y.n) = q := ⟨_, rfl⟩
  rw [f1, f3]
  cases q1 <;> cases q2 <;> cases q3 <;> cases q4 <;> cases q5
  all_goals (refine fn_of Tryz.func96 rfl (by rfl) ?_; simp only [Tryz.ntmps96, List.length_cons, List.length_nil, Nat.reduceAdd, Nat.reduceSub, List.replicate, List.cons_append, List.nil_append])
  all_goals (have W := ndI f1 (ndI f2 f3); (repeat (any_goals (first | ((with_reducible refine evL_one ?_ ?_); rfl; intro K hK; simp only [go_sem, W]; ((repeat (refine ndI (by first | assumption) ?_)); refine hK _ ?_; clear hK K)) | (with_reducible first | (refine evL_nil ?_; refine hR _ ?_; clear hR R) | ((first | refine evC_seq ?_); intro Ψ hΨ hΨ') | (refine evC_region ?_; intro R hR) | (refine hΨ _ ?_; clear hΨ hΨ' Ψ) | refine evC_ret ?_) | ((with_reducible apply evL_grd); rfl; rfl; rfl; all_goals (intro hb; first | (cases hb; done) | ((try simp only [Bool.not_true, Bool.not_false] at hb); (first | ((with_reducible intro K hK); (first | ((first | (apply opA_callB (f4); rfl; rfl; rfl; rfl; exact Tryz.func97) | (apply opA_callB (f5); rfl; rfl; rfl; rfl; exact Tryz.func98)); kernel_rfl; rfl; (simp only [go_sem, W]; rfl); (first | simp [AV.inNL, AV.inN])) | skip); simp only [go_sem, W]; ((repeat (refine ndI (by first | assumption) ?_)); refine hK _ ?_; clear hK K)) | ((fail_if_success (with_reducible intro _)); simp only [go_sem, W])))))))))
  all_goals (refine ⟨by simp, ⟨_, ?_, AV.le_refl _⟩, leH_get (by simp [leH, hget])⟩; simp only [Tryz.results96, resL, ldA, oneOf, go_sem])
  all_goals rfl
theorem eqF_fn (e1 e2 : Bool) (l m : List Ac) (hl : l.length ≤ maxLen) (hm : m.length ≤ maxLen) (ol : ∀ p ∈ l, p.ok) (om : ∀ p ∈ m, p.ok) : Fn Tryz.prog 95 [.c (.sl e1 8 l.length (l.flatMap Ac.pv)), .c (.sl e2 8 m.length (m.flatMap Ac.pv)), .fn 96 []] [] (vb (decide (l = m))) [] := by
  by_cases hlen : l.length = m.length
  · have k0 : ((l.length : Int) != (m.length : Int)) = false := by rw [hlen]; simp
    have k8 : l.length < 9223372036854775808 := Nat.lt_succ_of_le hl
    obtain ⟨r, hr⟩ : ∃ r, decide (l = m) = r := ⟨_, rfl⟩
    rw [hr]
    (refine fn_of Tryz.func95 rfl (by rfl) ?_; simp only [Tryz.ntmps95, List.length_cons, List.length_nil, Nat.reduceAdd, Nat.reduceSub, List.replicate, List.cons_append, List.nil_append])
    (repeat (any_goals (first | ((with_reducible refine evL_one ?_ ?_); rfl; intro K hK; simp only [go_sem, k0]; ((repeat (refine ndI (by first | assumption) ?_)); refine hK _ ?_; clear hK K)) | (with_reducible first | (refine evL_nil ?_; refine hR _ ?_; clear hR R) | ((first | refine evC_seq ?_ | refine evC_block ?_); intro Ψ hΨ hΨ') | (refine evC_region ?_; intro R hR) | (refine hΨ _ ?_; clear hΨ hΨ' Ψ) | refine evC_skip ?_) | ((with_reducible apply evC_cond); rfl; rfl; all_goals (intro hc; first | (cases hc; done) | (try simp only at hc))))))
    refine evC_loop (α := { i : Nat // i ≤ l.length ∧ ∀ j, j < i → l[j]? = m[j]? }) (fun p => ⟨[.c (.sl e1 8 l.length (l.flatMap Ac.pv)), .c (.sl e2 8 m.length (m.flatMap Ac.pv)), .fn 96 [], .any, .any, .any, .any, .any, .any, .any, .any, .any, .any, .any, .any, .c (.sl e1 8 l.length (l.flatMap Ac.pv)), vi .i64 l.length, vi .i64 p.1, .any, .any, .any, .any, .any, .any, .any, .any, .any, .any, .any, .any, .any, .any], []⟩) (fun p => l.length - p.1) ⟨0, Nat.zero_le _, fun j hj => by omega⟩ (St.le_of (by simp [leT]) (by simp [leH])) ?_
    rintro ⟨i, hi, hno⟩ Ψ hΨ hΨ'
    dsimp only at hi hΨ ⊢
    rcases Nat.lt_or_ge i l.length with hlt | hge
    · have k1 : (decide ((i : Int) < (l.length : Int))) = true := decide_eq_true (by omega)
      have k7 : (i : Int) + 1 = ((i + 1 : Nat) : Int) := by omega
      obtain ⟨x, hx⟩ : ∃ x, l[i]? = some x := ⟨_, List.getElem?_eq_getElem hlt⟩
      obtain ⟨y, hy⟩ : ∃ y, m[i]? = some y := ⟨_, List.getElem?_eq_getElem (by omega)⟩
      have hlm : i < m.length := by omega
      have k2 := ac_at hx
      have k3 := ac_at hy
      have k4 := same1_fn x y (ol x (List.mem_of_getElem? hx)) (om y (List.mem_of_getElem? hy))
      by_cases hxy : x = y
      · rw [decide_eq_true hxy] at k4
        (have W := ndI k1 (ndI k2 (ndI k3 (ndI k7 @wrI))); (repeat (any_goals (first | ((with_reducible refine evL_call ?_ ?_ ?_); rfl; rfl; intro K hK; ((apply opA_callB (k4); rfl; rfl; rfl; rfl; exact Tryz.func96); kernel_rfl; rfl; (simp (disch := omega) only [go_sem, W]; rfl); (first | simp [AV.inNL, AV.inN])); (simp (disch := omega) only [go_sem, W]; refine hK _ ?_; clear hK K)) | ((with_reducible refine evL_one ?_ ?_); rfl; intro K hK; simp (disch := omega) only [go_sem, W]; ((repeat (refine ndI (by first | assumption | omega | rfl) ?_)); refine hK _ ?_; clear hK K)) | (with_reducible first | (refine evL_nil ?_; refine hR _ ?_; clear hR R) | ((first | refine evC_seq ?_ | refine evC_block ?_); intro Ψ hΨ hΨ') | (refine evC_region ?_; intro R hR) | (refine hΨ _ ?_; clear hΨ hΨ' Ψ) | refine evC_skip ?_) | ((with_reducible refine hΨ' _ _ ?_ ?_); (focus (simp; done)); clear hΨ hΨ' Ψ) | ((with_reducible apply evC_cond); rfl; rfl; all_goals (intro hc; first | (cases hc; done) | (try simp only at hc)))))))
        all_goals exact hΨ _ ⟨i + 1, hlt, fun j hj => by
          rcases Nat.lt_or_ge j i with h' | h'
          · exact hno j h'
          · obtain rfl : j = i := by omega
            rw [hx, hy, hxy]⟩ (by simp only; omega) (St.le_of (by simp [leT]) (by simp [leH]))
      · rw [decide_eq_false hxy] at k4
        have hrf : r = false := by
          rw [← hr, decide_eq_false_iff_not]
          intro e; rw [e, hy] at hx; cases hx; exact hxy rfl
        (have W := ndI k1 (ndI k2 (ndI k3 (ndI k7 @wrI))); (repeat (any_goals (first | ((with_reducible refine evL_call ?_ ?_ ?_); rfl; rfl; intro K hK; ((apply opA_callB (k4); rfl; rfl; rfl; rfl; exact Tryz.func96); kernel_rfl; rfl; (simp (disch := omega) only [go_sem, W]; rfl); (first | simp [AV.inNL, AV.inN])); (simp (disch := omega) only [go_sem, W]; refine hK _ ?_; clear hK K)) | ((with_reducible refine evL_one ?_ ?_); rfl; intro K hK; simp (disch := omega) only [go_sem, W]; ((repeat (refine ndI (by first | assumption | omega | rfl) ?_)); refine hK _ ?_; clear hK K)) | (with_reducible first | (refine evL_nil ?_; refine hR _ ?_; clear hR R) | ((first | refine evC_seq ?_ | refine evC_block ?_); intro Ψ hΨ hΨ') | (refine evC_region ?_; intro R hR) | (refine hΨ _ ?_; clear hΨ hΨ' Ψ) | refine evC_skip ?_ | refine evC_ret ?_) | ((with_reducible refine hΨ' _ _ ?_ ?_); (focus (simp; done)); clear hΨ hΨ' Ψ) | ((with_reducible apply evC_cond); rfl; rfl; all_goals (intro hc; first | (cases hc; done) | (try simp only at hc)))))))
        all_goals rw [hrf]
        all_goals (refine ⟨by simp, ⟨_, ?_, AV.le_refl _⟩, leH_get (by simp [leH, hget])⟩; simp only [Tryz.results95, resL, ldA, oneOf, go_sem])
    · have k1 : (decide ((i : Int) < (l.length : Int))) = false := decide_eq_false (by omega)
      have hrt : r = true := by
        rw [← hr, decide_eq_true_iff]
        refine List.ext_getElem? fun j => ?_
        rcases Nat.lt_or_ge j l.length with h | h
        · exact hno j (by omega)
        · rw [List.getElem?_eq_none h, List.getElem?_eq_none (by omega)]
      (repeat (any_goals (first | ((with_reducible refine evL_one ?_ ?_); rfl; intro K hK; simp only [go_sem, k1]; ((repeat (refine ndI (by first | assumption) ?_)); refine hK _ ?_; clear hK K)) | (with_reducible first | (refine evL_nil ?_; refine hR _ ?_; clear hR R) | ((first | refine evC_seq ?_); intro Ψ hΨ hΨ') | (refine evC_region ?_; intro R hR) | (refine hΨ _ ?_; clear hΨ hΨ' Ψ) | refine evC_ret ?_ | refine evC_exit ?_) | ((with_reducible refine hΨ' _ _ ?_ ?_); (focus (simp; done)); clear hΨ hΨ' Ψ) | ((with_reducible apply evC_cond); rfl; rfl; all_goals (intro hc; first | (cases hc; done) | (try simp only at hc))))))
      all_goals rw [hrt]
      all_goals (refine ⟨by simp, ⟨_, ?_, AV.le_refl _⟩, leH_get (by simp [leH, hget])⟩; simp only [Tryz.results95, resL, ldA, oneOf, go_sem])
  · have k0 : ((l.length : Int) != (m.length : Int)) = true := by simp; omega
    have he : decide (l = m) = false := by rw [decide_eq_false_iff_not]; intro e; exact hlen (by rw [e])
    rw [he]
    (refine fn_of Tryz.func95 rfl (by rfl) ?_; simp only [Tryz.ntmps95, List.length_cons, List.length_nil, Nat.reduceAdd, Nat.reduceSub, List.replicate, List.cons_append, List.nil_append])
    (repeat (any_goals (first | ((with_reducible refine evL_one ?_ ?_); rfl; intro K hK; simp only [go_sem, k0]; ((repeat (refine ndI (by first | assumption) ?_)); refine hK _ ?_; clear hK K)) | (with_reducible first | (refine evL_nil ?_; refine hR _ ?_; clear hR R) | ((first | refine evC_seq ?_); intro Ψ hΨ hΨ') | (refine evC_region ?_; intro R hR) | (refine hΨ _ ?_; clear hΨ hΨ' Ψ) | refine evC_ret ?_) | ((with_reducible refine hΨ' _ _ ?_ ?_); (focus (simp; done)); clear hΨ hΨ' Ψ) | ((with_reducible apply evC_cond); rfl; rfl; all_goals (intro hc; first | (cases hc; done) | (try simp only at hc))))))
    all_goals (refine ⟨by simp, ⟨_, ?_, AV.le_refl _⟩, leH_get (by simp [leH, hget])⟩; simp only [Tryz.results95, resL, ldA, oneOf, go_sem])
theorem sameS_fn (e1 e2 : Bool) (L M : List Ac) (hl : L.length ≤ maxLen) (hm : M.length ≤ maxLen) (ol : ∀ x ∈ L, x.ok) (om : ∀ x ∈ M, x.ok) : Fn Tryz.prog 56 [stA e1 L, stA e2 M] [] (vb (decide (L = M))) [] := by
  have eq := eqF_fn e1 e2 L M hl hm ol om
  generalize decide (L = M) = q at eq ⊢
  (refine fn_of Tryz.func56 rfl (by rfl) ?_; simp only [Tryz.ntmps56, List.length_cons, List.length_nil, Nat.reduceAdd, Nat.reduceSub, List.replicate, List.cons_append, List.nil_append])
  (repeat (any_goals (first | ((with_reducible refine evL_call ?_ ?_ ?_); rfl; rfl; intro K hK; ((apply opA_callB (eq); rfl; rfl; rfl; rfl; exact Tryz.func95); kernel_rfl; rfl; (simp only [go_sem]; rfl); (first | simp [AV.inNL, AV.inN])); (simp only [go_sem]; refine hK _ ?_; clear hK K)) | ((with_reducible refine evL_one ?_ ?_); rfl; intro K hK; simp only [go_sem]; ((repeat (refine ndI (by first | assumption) ?_)); refine hK _ ?_; clear hK K)) | (with_reducible first | (refine evL_nil ?_; refine hR _ ?_; clear hR R) | ((first | refine evC_seq ?_); intro Ψ hΨ hΨ') | (refine evC_region ?_; intro R hR) | (refine hΨ _ ?_; clear hΨ hΨ' Ψ) | refine evC_ret ?_))))
  all_goals (refine ⟨by simp, ⟨_, ?_, AV.le_refl _⟩, leH_get (by simp [leH, hget])⟩; simp only [Tryz.results56, resL, ldA, oneOf, go_sem])
end Go.Proofs.YtmidmaeihpldhaaGreat
namespace Go.Proofs.YtmidmaeihpldhaaGreat.lg
open Go.RowKit
set_option maxRecDepth 20000
set_option maxHeartbeats 2000000
def posA (l : List Hd) (a : Int) : Nat := l.findIdx fun h => decide (a ≤ h.a)
def isA (l : List Hd) (a : Int) : Bool := match l[posA l a]? with | some y => y.a == a | none => false
def findH (l : List Hd) (a : Int) : Hd := match l[posA l a]? with | some y => if y.a = a then y else ⟨a, 0, 0, 0, 0⟩ | none => ⟨a, 0, 0, 0, 0⟩
abbrev hA (h : Hd) : AV := h11 h.a h.p h.s h.d h.f
end Go.Proofs.YtmidmaeihpldhaaGreat.lg
namespace Go.Proofs.YtmidmaeihpldhaaGreat.lg
open Go.RowKit
set_option maxRecDepth 20000
set_option maxHeartbeats 2000000
def fitsE (l : List Hd) (a : Int) (n : Nat) : Int := if WW ≤ n + tot l then 171 else if (!isA l a && (!decide (n = 0) && decide (l.length = 24))) = true then 6 else 0
end Go.Proofs.YtmidmaeihpldhaaGreat.lg
namespace Go.Proofs.YtmidmaeihpldhaaGreat.lg
open Go.RowKit
set_option maxRecDepth 20000
set_option maxHeartbeats 2000000
def remL (l : List Hd) (a : Int) : List Hd := if isA l a = true then l.take (posA l a) ++ l.drop (posA l a + 1) else l
def putL (l : List Hd) (h : Hd) : List Hd := if (decide (h.p = 0) && decide (h.s = 0)) = true then remL l h.a else (remL l h.a).take (posA l h.a) ++ h :: (remL l h.a).drop (posA l h.a)
end Go.Proofs.YtmidmaeihpldhaaGreat.lg
namespace Go.Proofs.YtmidmaeihpldhaaGreat.lg
open Go.RowKit
set_option maxRecDepth 20000
set_option maxHeartbeats 2000000
abbrev cW (n : Nat) : List AV := [vi .u64 (l0 n), vi .u64 (l1 n), vi .u64 (l2 n), vi .u64 (l3 n)]
def dly (d delay : Int) : Bool := (delay == 0) || (decide (delay > 1073741824) || decide (delay < d))
end Go.Proofs.YtmidmaeihpldhaaGreat.lg
namespace Go.Proofs.YtmidmaeihpldhaaGreat.lg
open Go.RowKit
set_option maxRecDepth 20000
set_option maxHeartbeats 2000000
def gate (l : List Hd) (a e : Int) : Int := if okL l = false then 170 else if a = 0 then 2 else e
def depH (h : Hd) (n : Nat) : Hd := ⟨h.a, (h.p + n) % WW, h.s, h.d, h.f⟩
def wdrE (h : Hd) (n : Nat) : Int := if h.p < n then 162 else 0
def wdrH (h : Hd) (n : Nat) : Hd := ⟨h.a, h.p - n, h.s, h.d, h.f⟩
def bondE (l : List Hd) (a : Int) (h : Hd) (n : Nat) (delay : Int) : Int := if dly h.d delay = true then 2 else if (decide (h.s = 0) && decide (n = 0)) = true then 172 else fitsE l a n
def bondH (h : Hd) (n : Nat) (delay : Int) : Hd := ⟨h.a, h.p, (h.s + n) % WW, delay, 0⟩
def unlE (h : Hd) (now : Int) : Int := if now > 1099511627776 then 2 else if (!decide (h.s = 0) && (h.f == 0)) = false then 172 else 0
def unlH (h : Hd) (now : Int) : Hd := ⟨h.a, h.p, h.s, h.d, now + h.d⟩
def relE (h : Hd) (now : Int) : Int := if now > 1099511627776 then 2 else if h.s = 0 then 172 else if h.f = 0 ∨ now < h.f then 173 else 0
def relH (h : Hd) : Hd := ⟨h.a, h.p, 0, 0, 0⟩
end Go.Proofs.YtmidmaeihpldhaaGreat.lg
namespace Go.Proofs.YtmidmaeihpldhaaGreat.lg
open Go.RowKit
set_option maxRecDepth 20000
set_option maxHeartbeats 2000000
theorem Fn.res {P : Program} {f : FuncId} {args : List AV} {H0 H1 : List (Nat × List AV)} {res res' : AV} (h : Fn P f args H0 res H1) (hr : ∀ S ι w v, RV S ι w v res → RV S ι w v res') : Fn P f args H0 res' H1 := by
  intro E vs hD hS hH hlen hargs
  refine (h E vs hD hS hH hlen hargs).mono fun e w' => ?_
  rintro ⟨v, ι', rfl, hres, hc, hk⟩
  exact ⟨v, ι', rfl, hr _ _ _ _ hres, hc, hk⟩
structure Dd where
  k : Int
  a : Int
  n : Nat
  y : Int
  t : Int
def Dd.ok (D : Dd) : Prop := U D.a ∧ D.n < WW ∧ U D.y ∧ U D.t
def Dd.q (D : Dd) : Int := (IntKind.u64.wrap D.k).tmod 5
def Dd.er (D : Dd) (l : List Hd) (h : Hd) : Int := if D.q = 0 then fitsE l D.a D.n else if D.q = 1 then wdrE h D.n else if D.q = 2 then bondE l D.a h D.n D.y else if D.q = 3 then unlE h D.t else relE h D.t
def Dd.row (D : Dd) (h : Hd) : Hd := if D.q = 0 then depH h D.n else if D.q = 1 then wdrH h D.n else if D.q = 2 then bondH h D.n D.y else if D.q = 3 then unlH h D.t else relH h
def Dd.E (D : Dd) (l : List Hd) : Int := gate l D.a (D.er l (findH l D.a))
def Dd.M (D : Dd) (l : List Hd) : List Hd := if D.E l = 0 then putL l (D.row (findH l D.a)) else []
def Dd.W (D : Dd) (l : List Hd) : Nat := if D.q = 0 ∨ D.q = 1 ∨ D.q = 2 ∨ D.q = 3 then 0 else if D.E l = 0 then (findH l D.a).s else 0
end Go.Proofs.YtmidmaeihpldhaaGreat.lg
namespace Go.Proofs.YtmidmaeihpldhaaGreat.lg
open Go.RowKit
set_option maxRecDepth 20000
set_option maxHeartbeats 2000000
instance decHd : DecidableEq Hd := fun y z => decidable_of_iff (y.a = z.a ∧ y.p = z.p ∧ y.s = z.s ∧ y.d = z.d ∧ y.f = z.f) (by cases y; cases z; simp)
def m1 : List Hd := [⟨20, 7, 0, 0, 0⟩]
def m2 : List Hd := [⟨20, 7, 5, 100, 0⟩]
theorem u0 {x : Int} (h0 : 0 ≤ x) (h : x ≤ 18446744073709551615) : U x := ⟨h0, h⟩
end Go.Proofs.YtmidmaeihpldhaaGreat.lg
namespace Go.Proofs.YtmidmaeihpldhaaGreat.lg
open Go.RowKit
open Nat (reduceBEq)
set_option maxRecDepth 20000
set_option maxHeartbeats 2000000
theorem hd_eq {y z : Hd} (hy : y.ok) (hz : z.ok) : y = z ↔ (y.a = z.a ∧ l0 y.p = l0 z.p ∧ l1 y.p = l1 z.p ∧ l2 y.p = l2 z.p ∧ l3 y.p = l3 z.p ∧ l0 y.s = l0 z.s ∧ l1 y.s = l1 z.s ∧ l2 y.s = l2 z.s ∧ l3 y.s = l3 z.s ∧ y.d = z.d ∧ y.f = z.f) := by
  constructor
  · rintro rfl
    simp
  · rintro ⟨h0, h1, h2, h3, h4, h5, h6, h7, h8, h9, h10⟩
    have e1 := wN_inj hy.2.1 hz.2.1 h1 h2 h3 h4
    have e2 := wN_inj hy.2.2.1 hz.2.2.1 h5 h6 h7 h8
    cases y; cases z
    simp_all
theorem heq_fn (ex ex' : Bool) (l m : List Hd) (hl : l.length ≤ 4611686018427387904) (okl : ∀ h ∈ l, h.ok) (okm : ∀ h ∈ m, h.ok) : Fn Tryz.prog 99 [hsl ex l, hsl ex' m] [] (vb (decide (l = m))) [] := by
  by_cases hlen : l.length = m.length
  · have e0 : ((l.length : Int) != (m.length : Int)) = false := by simp [hlen]
    (refine fn_of Tryz.func99 rfl (by rfl) ?_; simp only [Tryz.ntmps99, List.length_cons, List.length_nil, Nat.reduceAdd, Nat.reduceSub, List.replicate, List.cons_append, List.nil_append])
    (repeat (any_goals (first | ((with_reducible refine evL_one ?_ ?_); rfl; intro K hK; simp only [go_sem, e0]; ((repeat (refine ndI (by first | assumption) ?_)); refine hK _ ?_; clear hK K)) | (with_reducible first | (refine evL_nil ?_; refine hR _ ?_; clear hR R) | ((first | refine evC_seq ?_ | refine evC_block ?_); intro Ψ hΨ hΨ') | (refine evC_region ?_; intro R hR) | (refine hΨ _ ?_; clear hΨ hΨ' Ψ) | refine evC_skip ?_) | ((with_reducible apply evC_cond); rfl; rfl; all_goals (intro hc; first | (cases hc; done) | (try simp only at hc))))))
    refine evC_loop (α := { i : Nat // i ≤ l.length ∧ ∀ j, j < i → l[j]? = m[j]? }) (fun p => ⟨[hsl ex l, hsl ex' m, .any, .any, .any, .any, .any, .any, .any, .any, .any, hsl ex l, vi .i64 l.length, vi .i64 p.1, .any, .any, .any, .any, .any, .any, .any, .any, .any, .any, .any, .any], []⟩) (fun p => l.length - p.1) ⟨0, Nat.zero_le _, fun j hj => by omega⟩ (St.le_of (by simp [leT]) (by simp [leH, hget])) ?_
    rintro ⟨i, hi, hno⟩ Ψ hΨ hΨ'
    dsimp only at hΨ ⊢
    rcases Nat.lt_or_ge i l.length with hlt | hge
    · obtain ⟨y, hy⟩ : ∃ y, l[i]? = some y := ⟨l[i], List.getElem?_eq_getElem hlt⟩
      obtain ⟨z, hz⟩ : ∃ z, m[i]? = some z := ⟨m[i]'(by omega), List.getElem?_eq_getElem (by omega)⟩
      have e1 : (decide ((i : Int) < (l.length : Int))) = true := by simpa using hlt
      have e2 := hsl_at hy
      have e3 := hsl_at hz
      have e5 : i < m.length := by omega
      have e7 : (i : Int) + 1 = ((i + 1 : Nat) : Int) := by omega
      have hnx : y = z → ∀ j, j < i + 1 → l[j]? = m[j]? := fun h j hj => by
        rcases Nat.lt_or_ge j i with h' | h'
        · exact hno j h'
        · obtain rfl : j = i := by omega
          rw [hy, hz, h]
      have hne : y ≠ z → decide (l = m) = false := fun h => by
        rw [decide_eq_false_iff_not]
        intro e
        rw [e, hz] at hy
        cases hy; exact h rfl
      have hyz := hd_eq (okl y (List.mem_of_getElem? hy)) (okm z (List.mem_of_getElem? hz))
      (have W := ndI e1 (ndI e2 (ndI e3 (ndI e7 @wrI))); (repeat (any_goals (first | ((with_reducible refine evL_one ?_ ?_); rfl; intro K hK; simp (disch := omega) only [go_sem, W]; ((repeat (refine ndI (by first | assumption | rfl) ?_)); refine hK _ ?_; clear hK K)) | (with_reducible first | (refine evL_nil ?_; refine hR _ ?_; clear hR R) | ((first | refine evC_seq ?_ | refine evC_block ?_); intro Ψ hΨ hΨ') | (refine evC_region ?_; intro R hR) | (refine hΨ _ ?_; clear hΨ hΨ' Ψ) | refine evC_skip ?_ | refine evC_ret ?_) | ((with_reducible refine hΨ' _ _ ?_ ?_); (focus (simp; done)); clear hΨ hΨ' Ψ) | ((with_reducible apply evC_cond); rfl; rfl; all_goals (intro hc; first | (cases hc; done) | (try simp only at hc))) | ((with_reducible refine evD_nil ?_ ?_); kernel_rfl; (with_reducible refine hR _ ?_); clear hR R) | (((with_reducible apply evD_any); rfl; rfl; (simp (disch := omega) only [rdE, rdOf, go_sem, W]; rfl); (intro τ hA hQ hN; ((try simp only [agree, Op.operands, Call.operands, go_sem, W, go_sem, List.mem_cons, List.not_mem_nil, forall_eq_or_imp, forall_eq, List.append_toArray, Option.toArray] at hA); (try simp only [go_sem, W, List.mem_cons, List.not_mem_nil, forall_eq_or_imp, forall_eq] at hQ hN); (first | (revert hA; intro hA)); (first | (revert hQ; intro hQ)); (first | (revert hN; intro hN)); simp (disch := omega) only [go_sem, W, go_sem, hA, hQ, hN]; (repeat (refine ndI (by first | assumption | omega | rfl) ?_)); (first | apply eff_rd)))); (simp (disch := omega) only [St.eff, setO, hputs, go_sem, W])) | ((with_reducible refine evC_draw ?_ ?_ ?_ ?_); kernel_rfl; kernel_rfl; (first | kernel_rfl); intro R hR)))))
      · (refine ⟨by simp, ⟨_, ?_, AV.le_refl _⟩, leH_get (by simp [leH, hget])⟩; simp only [Tryz.results99, resL, ldA, oneOf, go_sem])
        rw [hne]
        rw [Ne, hyz]
        rintro ⟨m1, m2, m3, m4, m5, m6, m7, m8, m9, m10, m11⟩
        simp [m1, m2, m3, m4, m5, m6, m7, m8, m9, m10, m11] at hc
      · refine hΨ _ ⟨i + 1, hlt, hnx ?_⟩ (by simp only; omega) (St.le_of (by simp [leT]) (by simp [leH, hget]))
        rw [hyz]
        clear hyz hne hnx hno hΨ
        simpa using hc
    · have e1 : (decide ((i : Int) < (l.length : Int))) = false := by simpa using hge
      have he : decide (l = m) = true := by
        rw [decide_eq_true_iff]
        refine List.ext_getElem? fun j => ?_
        rcases Nat.lt_or_ge j l.length with h | h
        · exact hno j (by omega)
        · rw [List.getElem?_eq_none h, List.getElem?_eq_none (by omega)]
      (repeat (any_goals (first | ((with_reducible refine evL_one ?_ ?_); rfl; intro K hK; simp only [go_sem, e1]; ((repeat (refine ndI (by first | assumption) ?_)); refine hK _ ?_; clear hK K)) | (with_reducible first | (refine evL_nil ?_; refine hR _ ?_; clear hR R) | ((first | refine evC_seq ?_); intro Ψ hΨ hΨ') | (refine evC_region ?_; intro R hR) | (refine hΨ _ ?_; clear hΨ hΨ' Ψ) | refine evC_ret ?_ | refine evC_exit ?_) | ((with_reducible refine hΨ' _ _ ?_ ?_); (focus (simp; done)); clear hΨ hΨ' Ψ) | ((with_reducible apply evC_cond); rfl; rfl; all_goals (intro hc; first | (cases hc; done) | (try simp only at hc))))))
      all_goals (refine ⟨by simp, ⟨_, ?_, AV.le_refl _⟩, leH_get (by simp [leH, hget])⟩; simp only [Tryz.results99, resL, ldA, oneOf, go_sem])
      all_goals rw [he]
  · have e0 : ((l.length : Int) != (m.length : Int)) = true := by simp; omega
    have he : decide (l = m) = false := by rw [decide_eq_false_iff_not]; intro e; exact hlen (by rw [e])
    (refine fn_of Tryz.func99 rfl (by rfl) ?_; simp only [Tryz.ntmps99, List.length_cons, List.length_nil, Nat.reduceAdd, Nat.reduceSub, List.replicate, List.cons_append, List.nil_append])
    (repeat (any_goals (first | ((with_reducible refine evL_one ?_ ?_); rfl; intro K hK; simp only [go_sem, e0]; ((repeat (refine ndI (by first | assumption) ?_)); refine hK _ ?_; clear hK K)) | (with_reducible first | (refine evL_nil ?_; refine hR _ ?_; clear hR R) | ((first | refine evC_seq ?_); intro Ψ hΨ hΨ') | (refine evC_region ?_; intro R hR) | (refine hΨ _ ?_; clear hΨ hΨ' Ψ) | refine evC_ret ?_) | ((with_reducible refine hΨ' _ _ ?_ ?_); (focus (simp; done)); clear hΨ hΨ' Ψ) | ((with_reducible apply evC_cond); rfl; rfl; all_goals (intro hc; first | (cases hc; done) | (try simp only at hc))))))
    all_goals (refine ⟨by simp, ⟨_, ?_, AV.le_refl _⟩, leH_get (by simp [leH, hget])⟩; simp only [Tryz.results99, resL, ldA, oneOf, go_sem])
    all_goals rw [he]
theorem same_fn (ex ex' : Bool) (l m : List Hd) (hl : l.length ≤ 4611686018427387904) (okl : ∀ h ∈ l, h.ok) (okm : ∀ h ∈ m, h.ok) : Fn Tryz.prog 57 [lg ex l, lg ex' m] [] (vb (decide (l = m))) [] := by
  (refine fn_of Tryz.func57 rfl (by rfl) ?_; simp only [Tryz.ntmps57, List.length_cons, List.length_nil, Nat.reduceAdd, Nat.reduceSub, List.replicate, List.cons_append, List.nil_append])
  (repeat (any_goals (first | ((with_reducible refine evL_call ?_ ?_ ?_); rfl; rfl; intro K hK; ((apply opA_callB (heq_fn ex ex' l m hl okl okm); rfl; rfl; rfl; rfl; exact Tryz.func99); kernel_rfl; rfl; (simp only [go_sem]; rfl); (first | simp [AV.inNL, AV.inN])); (simp only [go_sem]; refine hK _ ?_; clear hK K)) | ((with_reducible refine evL_one ?_ ?_); rfl; intro K hK; simp only [go_sem]; ((repeat (refine ndI (by first | assumption) ?_)); refine hK _ ?_; clear hK K)) | (with_reducible first | (refine evL_nil ?_; refine hR _ ?_; clear hR R) | ((first | refine evC_seq ?_); intro Ψ hΨ hΨ') | (refine evC_region ?_; intro R hR) | (refine hΨ _ ?_; clear hΨ hΨ' Ψ) | refine evC_ret ?_))))
  all_goals (refine ⟨by simp, ⟨_, ?_, AV.le_refl _⟩, leH_get (by simp [leH, hget])⟩; simp only [Tryz.results57, resL, ldA, oneOf, go_sem])
end Go.Proofs.YtmidmaeihpldhaaGreat.lg
namespace Go.Proofs.YtmidmaeihpldhaaGreat.nz
open Go.RowKit
open Nat (reduceBEq)
set_option maxRecDepth 20000
set_option maxHeartbeats 1000000
theorem okTo_iff (l : List N6) : ∀ n, okTo l n = true ↔ (l.length : Int) ≤ 48 ∧ ∀ j, j < n → okS l j = true
  | 0 => by simp [okTo]
  | n + 1 => by
    simp only [okTo, Bool.and_eq_true, okTo_iff l n]
    constructor
    · rintro ⟨⟨h1, h2⟩, h3⟩
      refine ⟨h1, fun j hj => ?_⟩
      rcases Nat.lt_or_ge j n with h | h
      · exact h2 j h
      · obtain rfl : j = n := by omega
        exact h3
    · rintro ⟨h1, h2⟩
      exact ⟨⟨h1, fun j hj => h2 j (by omega)⟩, h2 n (by omega)⟩
theorem okS_no {l : List N6} {i : Nat} (hi : i < l.length) (h : okS l i = false) : okTo l l.length = false := by
  cases hh : okTo l l.length with
  | false => rfl
  | true => have := ((okTo_iff l _).1 hh).2 i hi; rw [h] at this; cases this
theorem refright_fn (ex : Bool) (l : List N6) (hl : l.length ≤ 4611686018427387904) (ok : ∀ n ∈ l, n.ok) : Fn Tryz.prog 47 [nsl ex l] [] (vb (okTo l l.length)) [] := by
  (refine fn_of Tryz.func47 rfl (by rfl) ?_; simp only [Tryz.ntmps47, List.length_cons, List.length_nil, Nat.reduceAdd, Nat.reduceSub, List.replicate, List.cons_append, List.nil_append])
  (repeat (any_goals (first | ((with_reducible refine evL_one ?_ ?_); rfl; intro K hK; simp only [go_sem]; ((repeat (refine ndI (by first | assumption) ?_)); refine hK _ ?_; clear hK K)) | (with_reducible first | (refine evL_nil ?_; refine hR _ ?_; clear hR R) | ((first | refine evC_seq ?_ | refine evC_block ?_); intro Ψ hΨ hΨ') | (refine evC_region ?_; intro R hR) | (refine hΨ _ ?_; clear hΨ hΨ' Ψ)))))
  refine evC_loop (α := { i : Nat // i ≤ l.length ∧ ∀ j, j < i → okS l j = true }) (fun p => ⟨[nsl ex l, .any, .any, .any, .any, nsl ex l, vi .i64 l.length, vi .i64 p.1, .any, .any, .any, .any, .any, .any, .any, .any, .any, .any, .any, .any, .any, .any, .any, .any, .any, .any, .any, .any, .any, .any, .any, .any, .any, .any, .any, .any, .any, .any, .any, .any, .any, .any, .any, .any], []⟩) (fun p => l.length - p.1) ⟨0, Nat.zero_le _, fun j hj => by omega⟩ (St.le_of (by simp [leT]) (by simp [leH])) ?_
  rintro ⟨i, hi, hok⟩ Ψ hΨ hΨ'
  dsimp only at hΨ ⊢
  rcases Nat.lt_or_ge i l.length with hlt | hge
  · obtain ⟨y, hy⟩ : ∃ y, l[i]? = some y := ⟨l[i], List.getElem?_eq_getElem hlt⟩
    have e1 : (decide ((i : Int) < (l.length : Int))) = true := by simpa using hlt
    have e2 := nsl_at hy
    have oy := ok y (List.mem_of_getElem? hy)
    have hnx : okS l i = true → ∀ j, j < i + 1 → okS l j = true := fun h j hj => by
      rcases Nat.lt_or_ge j i with h' | h'
      · exact hok j h'
      · obtain rfl : j = i := by omega
        exact h
    have hx : U y.x := oy.2.2.2.2.2
    have hx2 : decide (y.x > 0) = !(y.x == 0) := by
      have := hx.1
      by_cases h0 : y.x = 0
      · simp [h0]
      · have : y.x > 0 := by omega
        simp [h0, this]
    rcases i with _ | j
    · simp only [Nat.zero_mul, List.drop_zero] at e2
      have hk : okS l 0 = ((y.a != 0) && (y.e == 0) && !(y.x == 0)) := by simp [okS, hy, hx2]
      have e4 : (decide (((0 : Nat) : Int) > 0)) = false := by decide
      have e7 : ((0 : Nat) : Int) + 1 = ((0 + 1 : Nat) : Int) := by omega
      (have W := ndI e1 (ndI e2 (ndI e4 (ndI e7 @wrI))); (repeat (any_goals (first | ((with_reducible refine evL_one ?_ ?_); rfl; intro K hK; simp (disch := omega) only [go_sem, W]; ((repeat (refine ndI (by first | assumption | omega | rfl) ?_)); refine hK _ ?_; clear hK K)) | (with_reducible first | (refine evL_nil ?_; refine hR _ ?_; clear hR R) | ((first | refine evC_seq ?_ | refine evC_block ?_); intro Ψ hΨ hΨ') | (refine evC_region ?_; intro R hR) | (refine hΨ _ ?_; clear hΨ hΨ' Ψ) | refine evC_skip ?_ | refine evC_ret ?_) | ((with_reducible refine hΨ' _ _ ?_ ?_); (focus (simp; done)); clear hΨ hΨ' Ψ) | ((with_reducible apply evC_cond); rfl; rfl; all_goals (intro hc; first | (cases hc; done) | (try simp only at hc))) | ((with_reducible refine evD_nil ?_ ?_); kernel_rfl; (with_reducible refine hR _ ?_); clear hR R) | ((first | ((with_reducible apply evD_skip); rfl; rfl; rfl; rfl) | ((with_reducible apply evD_unmet); rfl; rfl; rfl) | ((first | ((with_reducible apply evD_gcall); rfl; rfl; rfl; rfl; rfl)); ((apply opF_callB (refkey_fn _ _ _ _); rfl; rfl; rfl; rfl; exact Tryz.func82); kernel_rfl; rfl; (simp (disch := omega) only [go_sem, W]; rfl); (first | rfl))) | ((first | ((with_reducible apply evD_any); rfl; rfl) | ((with_reducible apply evD_gany); rfl; rfl; rfl; rfl; rfl)); (simp (disch := omega) only [rdE, rdOf, go_sem, W]; rfl); (intro τ hA hQ hN; ((try simp only [agree, Op.operands, Call.operands, go_sem, W, go_sem, List.mem_cons, List.not_mem_nil, forall_eq_or_imp, forall_eq, List.append_toArray, Option.toArray] at hA); (try simp only [go_sem, W, List.mem_cons, List.not_mem_nil, forall_eq_or_imp, forall_eq] at hQ hN); (first | (revert hA; intro hA)); (first | (revert hQ; intro hQ)); (first | (revert hN; intro hN)); simp (disch := omega) only [go_sem, W, go_sem, hA, hQ, hN]; (repeat (refine ndI (by first | assumption | rfl) ?_)); (first | apply eff_rd))))); (simp (disch := omega) only [St.eff, setO, hputs, go_sem, W])) | ((with_reducible apply evD_split); rfl; rfl; rfl; all_goals intro hb; all_goals (simp (disch := omega) only [St.eff, setO, hputs, go_sem, W])) | ((with_reducible refine evC_draw ?_ ?_ ?_ ?_); kernel_rfl; kernel_rfl; (first | kernel_rfl); intro R hR)))))
      rotate_left 3
      · refine hΨ _ ⟨_, hlt, hnx ?_⟩ (by simp only; omega) (St.le_of ?_ ?_)
        · rw [hk]; clear hΨ hk hx2 e2 hy ok oy hx hnx hok; simp_all
        · simp [leT]
        · simp [leH]
      all_goals have hno : okTo l l.length = false := (by
        refine okS_no hlt ?_
        rw [hk]
        clear hk hx2 e2 hy ok oy hx hnx hok
        simp_all)
      all_goals (refine ⟨by simp, ⟨_, ?_, AV.le_refl _⟩, leH_get (by simp [leH, hget])⟩; simp only [Tryz.results47, resL, ldA, oneOf, go_sem])
      all_goals rw [hno]
    · obtain ⟨z, hz⟩ : ∃ z, l[j]? = some z := ⟨l[j], List.getElem?_eq_getElem (by omega)⟩
      have oz := ok z (List.mem_of_getElem? hz)
      have e3 := nsl_at hz
      have e4 : (decide (((j + 1 : Nat) : Int) > 0)) = true := by simp
      have e5 : ((j + 1 : Nat) : Int) - 1 = (j : Int) := by omega
      have e7 : ((j + 1 : Nat) : Int) + 1 = ((j + 1 + 1 : Nat) : Int) := by omega
      have hbf := before_fn z.a z.b z.c z.d z.e z.x y.a y.b y.c y.d y.e y.x oz oy
      obtain ⟨q, hq⟩ : ∃ q, decide (rk z.a z.b z.c z.d z.e < rk y.a y.b y.c y.d y.e) = q := ⟨_, rfl⟩
      rw [hq] at hbf
      have hk : okS l (j + 1) = ((y.a != 0) && (y.e == 0) && !(y.x == 0) && decide (z.rk < y.rk)) := by
        simp only [okS, hy, Nat.add_sub_cancel, hz, hx2, cN_rk oz oy, cmpN_neg]; simp
      rw [show decide (z.rk < y.rk) = q from hq] at hk
      clear hq
      (have W := ndI e1 (ndI e2 (ndI e3 (ndI e4 (ndI e5 (ndI e7 @wrI))))); (repeat (any_goals (first | ((with_reducible refine evL_one ?_ ?_); rfl; intro K hK; simp (disch := omega) only [go_sem, W]; ((repeat (refine ndI (by first | assumption | omega | rfl) ?_)); refine hK _ ?_; clear hK K)) | (with_reducible first | (refine evL_nil ?_; refine hR _ ?_; clear hR R) | ((first | refine evC_seq ?_ | refine evC_block ?_); intro Ψ hΨ hΨ') | (refine evC_region ?_; intro R hR) | (refine hΨ _ ?_; clear hΨ hΨ' Ψ) | refine evC_skip ?_ | refine evC_ret ?_) | ((with_reducible refine hΨ' _ _ ?_ ?_); (focus (simp; done)); clear hΨ hΨ' Ψ) | ((with_reducible apply evC_cond); rfl; rfl; all_goals (intro hc; first | (cases hc; done) | (try simp only at hc))) | ((with_reducible refine evD_nil ?_ ?_); kernel_rfl; (with_reducible refine hR _ ?_); clear hR R) | ((first | ((with_reducible apply evD_skip); rfl; rfl; rfl; rfl) | ((with_reducible apply evD_unmet); rfl; rfl; rfl) | ((first | ((with_reducible apply evD_gcall); rfl; rfl; rfl; rfl; rfl)); ((first | (apply opF_callB (refkey_fn _ _ _ _); rfl; rfl; rfl; rfl; exact Tryz.func82) | (apply opF_callB (hbf); rfl; rfl; rfl; rfl; exact Tryz.func83)); kernel_rfl; rfl; (simp (disch := omega) only [go_sem, W]; rfl); (first | rfl | simp [AV.inNL, AV.inN]))) | ((first | ((with_reducible apply evD_any); rfl; rfl) | ((with_reducible apply evD_gany); rfl; rfl; rfl; rfl; rfl)); (simp (disch := omega) only [rdE, rdOf, go_sem, W]; rfl); (intro τ hA hQ hN; ((try simp only [agree, Op.operands, Call.operands, go_sem, W, go_sem, List.mem_cons, List.not_mem_nil, forall_eq_or_imp, forall_eq, List.append_toArray, Option.toArray] at hA); (try simp only [go_sem, W, List.mem_cons, List.not_mem_nil, forall_eq_or_imp, forall_eq] at hQ hN); (first | (revert hA; intro hA)); (first | (revert hQ; intro hQ)); (first | (revert hN; intro hN)); simp (disch := omega) only [go_sem, W, go_sem, hA, hQ, hN]; (repeat (refine ndI (by first | assumption | omega | rfl) ?_)); (first | apply eff_rd))))); (simp (disch := omega) only [St.eff, setO, hputs, go_sem, W])) | ((with_reducible apply evD_split); rfl; rfl; rfl; all_goals intro hb; all_goals (simp (disch := omega) only [St.eff, setO, hputs, go_sem, W])) | ((with_reducible refine evC_draw ?_ ?_ ?_ ?_); kernel_rfl; kernel_rfl; (first | kernel_rfl); intro R hR)))))
      rotate_left 4
      · refine hΨ _ ⟨_, hlt, hnx ?_⟩ (by simp only; omega) (St.le_of ?_ ?_)
        · rw [hk]; clear hΨ hk hx2 e2 hy ok oy hx hnx hok; simp_all
        · simp [leT]
        · simp [leH]
      all_goals have hno : okTo l l.length = false := (by
        refine okS_no hlt ?_
        rw [hk]
        clear hk hx2 e2 hy ok oy hx hnx hok
        simp_all)
      all_goals (refine ⟨by simp, ⟨_, ?_, AV.le_refl _⟩, leH_get (by simp [leH, hget])⟩; simp only [Tryz.results47, resL, ldA, oneOf, go_sem])
      all_goals rw [hno]
  · have e1 : (decide ((i : Int) < (l.length : Int))) = false := by simpa using hge
    obtain rfl : i = l.length := by omega
    have e8 : decide ((l.length : Int) ≤ 48) = okTo l l.length := by
      rw [Bool.eq_iff_iff, okTo_iff]; simp; exact fun _ => hok
    (repeat (any_goals (first | ((with_reducible refine evL_one ?_ ?_); rfl; intro K hK; simp only [go_sem, e1, e8]; ((repeat (refine ndI (by first | assumption) ?_)); refine hK _ ?_; clear hK K)) | (with_reducible first | (refine evL_nil ?_; refine hR _ ?_; clear hR R) | ((first | refine evC_seq ?_); intro Ψ hΨ hΨ') | (refine evC_region ?_; intro R hR) | (refine hΨ _ ?_; clear hΨ hΨ' Ψ) | refine evC_ret ?_ | refine evC_exit ?_) | ((with_reducible refine hΨ' _ _ ?_ ?_); (focus (simp; done)); clear hΨ hΨ' Ψ) | ((with_reducible apply evC_cond); rfl; rfl; all_goals (intro hc; first | (cases hc; done) | (try simp only at hc))))))
    all_goals (refine ⟨by simp, ⟨_, ?_, AV.le_refl _⟩, leH_get (by simp [leH, hget])⟩; simp only [Tryz.results47, resL, ldA, oneOf, go_sem])
end Go.Proofs.YtmidmaeihpldhaaGreat.nz
namespace Go.Proofs.YtmidmaeihpldhaaGreat.nz
open Go.RowKit
open Nat (reduceBEq)
set_option maxRecDepth 20000
set_option maxHeartbeats 1000000
def mtK (a b c d e : Int) (n : N6) : Prop := n.a = a ∧ n.b = b ∧ n.c = c ∧ n.d = d ∧ n.e = e
instance (a b c d e : Int) (n : N6) : Decidable (mtK a b c d e n) := by unfold mtK; infer_instance
instance : DecidableEq N6 := fun y z => decidable_of_iff (y.a = z.a ∧ y.b = z.b ∧ y.c = z.c ∧ y.d = z.d ∧ y.e = z.e ∧ y.x = z.x) (by cases y; cases z; simp)
theorem same_fn (ex ex' : Bool) (l m : List N6) (hl : l.length ≤ 4611686018427387904) : Fn Tryz.prog 61 [nsl ex l, nsl ex' m] [] (vb (decide (l = m))) [] := by
  by_cases hlen : l.length = m.length
  · have e0 : ((l.length : Int) != (m.length : Int)) = false := by simp [hlen]
    (refine fn_of Tryz.func61 rfl (by rfl) ?_; simp only [Tryz.ntmps61, List.length_cons, List.length_nil, Nat.reduceAdd, Nat.reduceSub, List.replicate, List.cons_append, List.nil_append])
    (repeat (any_goals (first | ((with_reducible refine evL_one ?_ ?_); rfl; intro K hK; simp only [go_sem, e0]; ((repeat (refine ndI (by first | assumption) ?_)); refine hK _ ?_; clear hK K)) | (with_reducible first | (refine evL_nil ?_; refine hR _ ?_; clear hR R) | ((first | refine evC_seq ?_ | refine evC_block ?_); intro Ψ hΨ hΨ') | (refine evC_region ?_; intro R hR) | (refine hΨ _ ?_; clear hΨ hΨ' Ψ) | refine evC_skip ?_) | ((with_reducible apply evC_cond); rfl; rfl; all_goals (intro hc; first | (cases hc; done) | (try simp only at hc))))))
    refine evC_loop (α := { i : Nat // i ≤ l.length ∧ ∀ j, j < i → l[j]? = m[j]? }) (fun p => ⟨[nsl ex l, nsl ex' m, .any, .any, .any, .any, .any, .any, .any, .any, .any, nsl ex l, vi .i64 l.length, vi .i64 p.1, .any, .any, .any, .any, .any, .any, .any, .any, .any, .any, .any, .any], []⟩) (fun p => l.length - p.1) ⟨0, Nat.zero_le _, fun j hj => by omega⟩ (St.le_of (by simp [leT]) (by simp [leH, hget])) ?_
    rintro ⟨i, hi, hno⟩ Ψ hΨ hΨ'
    dsimp only at hΨ ⊢
    rcases Nat.lt_or_ge i l.length with hlt | hge
    · obtain ⟨y, hy⟩ : ∃ y, l[i]? = some y := ⟨l[i], List.getElem?_eq_getElem hlt⟩
      obtain ⟨z, hz⟩ : ∃ z, m[i]? = some z := ⟨m[i]'(by omega), List.getElem?_eq_getElem (by omega)⟩
      have e1 : (decide ((i : Int) < (l.length : Int))) = true := by simpa using hlt
      have e2 := nsl_at hy
      have e3 := nsl_at hz
      have e5 : i < m.length := by omega
      have e7 : (i : Int) + 1 = ((i + 1 : Nat) : Int) := by omega
      have hnx : y = z → ∀ j, j < i + 1 → l[j]? = m[j]? := fun h j hj => by
        rcases Nat.lt_or_ge j i with h' | h'
        · exact hno j h'
        · obtain rfl : j = i := by omega
          rw [hy, hz, h]
      have hne : y ≠ z → decide (l = m) = false := fun h => by
        rw [decide_eq_false_iff_not]
        intro e
        rw [e, hz] at hy
        cases hy; exact h rfl
      have hyz : y = z ↔ (y.a = z.a ∧ y.b = z.b ∧ y.c = z.c ∧ y.d = z.d ∧ y.e = z.e ∧ y.x = z.x) := by
        cases y; cases z; simp
      (repeat (any_goals (first | ((with_reducible refine evL_one ?_ ?_); rfl; intro K hK; simp (disch := omega) only [go_sem, e1, e2, e3, e7, wrI]; ((repeat (refine ndI (by first | assumption | rfl) ?_)); refine hK _ ?_; clear hK K)) | (with_reducible first | (refine evL_nil ?_; refine hR _ ?_; clear hR R) | ((first | refine evC_seq ?_ | refine evC_block ?_); intro Ψ hΨ hΨ') | (refine evC_region ?_; intro R hR) | (refine hΨ _ ?_; clear hΨ hΨ' Ψ) | refine evC_skip ?_ | refine evC_ret ?_) | ((with_reducible refine hΨ' _ _ ?_ ?_); (focus (simp; done)); clear hΨ hΨ' Ψ) | ((with_reducible apply evC_cond); rfl; rfl; all_goals (intro hc; first | (cases hc; done) | (try simp only at hc))) | ((with_reducible refine evD_nil ?_ ?_); kernel_rfl; (with_reducible refine hR _ ?_); clear hR R) | (((with_reducible apply evD_any); rfl; rfl; (simp (disch := omega) only [rdE, rdOf, go_sem, e1, e2, e3, e7, wrI]; rfl); (intro τ hA hQ hN; ((try simp only [agree, Op.operands, Call.operands, go_sem, e1, e2, e3, e7, wrI, go_sem, List.mem_cons, List.not_mem_nil, forall_eq_or_imp, forall_eq, List.append_toArray, Option.toArray] at hA); (try simp only [go_sem, e1, e2, e3, e7, wrI, List.mem_cons, List.not_mem_nil, forall_eq_or_imp, forall_eq] at hQ hN); (first | (revert hA; intro hA)); (first | (revert hQ; intro hQ)); (first | (revert hN; intro hN)); simp (disch := omega) only [go_sem, e1, e2, e3, e7, wrI, go_sem, hA, hQ, hN]; (repeat (refine ndI (by first | assumption | omega | rfl) ?_)); (first | apply eff_rd)))); (simp (disch := omega) only [St.eff, setO, hputs, go_sem, e1, e2, e3, e7, wrI])) | ((with_reducible refine evC_draw ?_ ?_ ?_ ?_); kernel_rfl; kernel_rfl; (first | kernel_rfl); intro R hR))))
      · (refine ⟨by simp, ⟨_, ?_, AV.le_refl _⟩, leH_get (by simp [leH, hget])⟩; simp only [Tryz.results61, resL, ldA, oneOf, go_sem])
        rw [hne]
        rw [Ne, hyz]
        rintro ⟨m1, m2, m3, m4, m5, m6⟩
        simp [m1, m2, m3, m4, m5, m6] at hc
      · refine hΨ _ ⟨i + 1, hlt, hnx ?_⟩ (by simp only; omega) (St.le_of (by simp [leT]) (by simp [leH, hget]))
        rw [hyz]
        clear hyz hne hnx hno hΨ
        simp_all
    · have e1 : (decide ((i : Int) < (l.length : Int))) = false := by simpa using hge
      have he : decide (l = m) = true := by
        rw [decide_eq_true_iff]
        refine List.ext_getElem? fun j => ?_
        rcases Nat.lt_or_ge j l.length with h | h
        · exact hno j (by omega)
        · rw [List.getElem?_eq_none h, List.getElem?_eq_none (by omega)]
      (repeat (any_goals (first | ((with_reducible refine evL_one ?_ ?_); rfl; intro K hK; simp only [go_sem, e1]; ((repeat (refine ndI (by first | assumption) ?_)); refine hK _ ?_; clear hK K)) | (with_reducible first | (refine evL_nil ?_; refine hR _ ?_; clear hR R) | ((first | refine evC_seq ?_); intro Ψ hΨ hΨ') | (refine evC_region ?_; intro R hR) | (refine hΨ _ ?_; clear hΨ hΨ' Ψ) | refine evC_ret ?_ | refine evC_exit ?_) | ((with_reducible refine hΨ' _ _ ?_ ?_); (focus (simp; done)); clear hΨ hΨ' Ψ) | ((with_reducible apply evC_cond); rfl; rfl; all_goals (intro hc; first | (cases hc; done) | (try simp only at hc))))))
      all_goals (refine ⟨by simp, ⟨_, ?_, AV.le_refl _⟩, leH_get (by simp [leH, hget])⟩; simp only [Tryz.results61, resL, ldA, oneOf, go_sem])
      all_goals rw [he]
  · have e0 : ((l.length : Int) != (m.length : Int)) = true := by simp; omega
    have he : decide (l = m) = false := by rw [decide_eq_false_iff_not]; intro e; exact hlen (by rw [e])
    (refine fn_of Tryz.func61 rfl (by rfl) ?_; simp only [Tryz.ntmps61, List.length_cons, List.length_nil, Nat.reduceAdd, Nat.reduceSub, List.replicate, List.cons_append, List.nil_append])
    (repeat (any_goals (first | ((with_reducible refine evL_one ?_ ?_); rfl; intro K hK; simp only [go_sem, e0]; ((repeat (refine ndI (by first | assumption) ?_)); refine hK _ ?_; clear hK K)) | (with_reducible first | (refine evL_nil ?_; refine hR _ ?_; clear hR R) | ((first | refine evC_seq ?_); intro Ψ hΨ hΨ') | (refine evC_region ?_; intro R hR) | (refine hΨ _ ?_; clear hΨ hΨ' Ψ) | refine evC_ret ?_) | ((with_reducible refine hΨ' _ _ ?_ ?_); (focus (simp; done)); clear hΨ hΨ' Ψ) | ((with_reducible apply evC_cond); rfl; rfl; all_goals (intro hc; first | (cases hc; done) | (try simp only at hc))))))
    all_goals (refine ⟨by simp, ⟨_, ?_, AV.le_refl _⟩, leH_get (by simp [leH, hget])⟩; simp only [Tryz.results61, resL, ldA, oneOf, go_sem])
    all_goals rw [he]
end Go.Proofs.YtmidmaeihpldhaaGreat.nz
namespace Go.Proofs.YtmidmaeihpldhaaGreat.nz
open Go.RowKit
set_option maxRecDepth 20000
set_option maxHeartbeats 1000000
def Rises (l : List N6) : Prop := ∀ (j k : Nat) (y z : N6), j < k → l[j]? = some y → l[k]? = some z → y.rk < z.rk
section
variable {l : List N6} (ok : ∀ n ∈ l, n.ok) (hr : Rises l) {a b c d : Int} (u0 : U a) (u1 : U b) (u2 : U c) (u3 : U d)
include ok hr u0 u1 u2 u3
end
structure A5 where
  a : Int
  s : Int
  b : Int
  c : Int
  d : Int
def A5.pv (n : A5) : List PV := [.v (.int .u64 n.a), .v (.int .u64 n.s), .v (.int .u64 n.b), .v (.int .u64 n.c), .v (.int .u64 n.d)]
def A5.ok (n : A5) : Prop := U n.a ∧ U n.s ∧ U n.b ∧ U n.c ∧ U n.d
abbrev asl (ex : Bool) (l : List A5) : AV := .c (.sl ex 5 l.length (l.flatMap A5.pv))
theorem asl_at {l : List A5} {i : Nat} {y : A5} (h : l[i]? = some y) : ((l.flatMap A5.pv).drop (i * 5)).take 5 = [.v (.int .u64 y.a), .v (.int .u64 y.s), .v (.int .u64 y.b), .v (.int .u64 y.c), .v (.int .u64 y.d)] := flat_at (f := A5.pv) (fun _ => rfl) h
end Go.Proofs.YtmidmaeihpldhaaGreat.nz
namespace Go.Proofs.YtmidmaeihpldhaaGreat.nz
open Go.RowKit
set_option maxRecDepth 20000
set_option maxHeartbeats 1000000
def n0 : N6 := ⟨20, 0, 0, 0, 0, 1⟩
end Go.Proofs.YtmidmaeihpldhaaGreat.nz
namespace Go.Proofs.YtmidmaeihpldhaaGreat
open Go.RowKit Go.ChangeShapes Go.WideShapes Go.ChangeAt Go.Deep

section
variable {H : Type} {enc : TypeId × Value → H} {P : Program}

def Dec {α : Type} (P : Program) (t : TypeId) (sz : Nat) (f : α → List Value) (Good : α → Prop) : Prop :=
  P.cellsOf t = sz ∧ ∀ (H : Type) (enc : TypeId × Value → H) (w : World) (base : Nat) (spare : Nat → Bool) (held : Bool) (fuel : Nat) (cs : List Value) (x : DataW H × List MemPlace),
    DataW.trod enc P w base spare held fuel t cs = some x → ∃ a, cs = f a ∧ Good a

theorem dec_int {t : TypeId} {k : IntKind} (ht : P.underlying t = some (.int k)) (hc : P.cellsOf t = 1) : Dec P t 1 (fun n : Int => [.int k n]) (fun n => (Lit.int k n).wf = true) :=
  ⟨hc, fun H enc w base spare held fuel cs x h => by
    obtain ⟨n, rfl, _, hw⟩ := DataW.trod_int ht h
    exact ⟨n, rfl, hw⟩⟩
theorem dec_map {α β : Type} {t : TypeId} {sz : Nat} {f : α → List Value} {G : α → Prop} (h : Dec P t sz f G) {f' : β → List Value} {G' : β → Prop} (hg : ∀ a, G a → ∃ b, f a = f' b ∧ G' b) : Dec P t sz f' G' :=
  ⟨h.1, fun H enc w base spare held fuel cs x hx => by
    obtain ⟨a, e, g⟩ := h.2 H enc w base spare held fuel cs x hx
    obtain ⟨b, e', g'⟩ := hg a g
    exact ⟨b, e.trans e', g'⟩⟩
theorem wf_u64 {n : Int} (h : (Lit.int .u64 n).wf = true) : 0 ≤ n ∧ n < 18446744073709551616 := by
  simp [Lit.wf, IntKind.min, IntKind.max, IntKind.signed, IntKind.bits] at h; omega
theorem wf_u8 {n : Int} (h : (Lit.int .u8 n).wf = true) : 0 ≤ n ∧ n < 256 := by
  simp [Lit.wf, IntKind.min, IntKind.max, IntKind.signed, IntKind.bits] at h; omega
theorem dec_u64 {t : TypeId} (ht : P.underlying t = some (.int .u64)) (hc : P.cellsOf t = 1) : Dec P t 1 (fun n : Nat => [.int .u64 (n : Int)]) (fun n => n < 18446744073709551616) :=
  dec_map (dec_int ht hc) fun n h => ⟨n.toNat, by have := wf_u64 h; rw [Int.toNat_of_nonneg (by omega)], by have := wf_u64 h; omega⟩
theorem choose_list {α : Type} {p : Nat → α → Prop} (n : Nat) (h : ∀ i, i < n → ∃ b, p i b) : ∃ l : List α, l.length = n ∧ ∀ i b, l[i]? = some b → p i b := by
  induction n with
  | zero => exact ⟨[], rfl, by simp⟩
  | succ k ih =>
    obtain ⟨l, hl, hp⟩ := ih fun i hi => h i (by omega)
    obtain ⟨b, hb⟩ := h k (by omega)
    refine ⟨l ++ [b], by simp [hl], fun i b' hib => ?_⟩
    rw [List.getElem?_append] at hib
    split at hib
    · exact hp i b' hib
    · have hi0 : i = k := by
        have := (List.getElem?_eq_some_iff.1 hib).1
        simp at this; omega
      subst hi0
      rw [hl, Nat.sub_self] at hib
      simp at hib
      subst hib
      exact hb
theorem dec_arr {α : Type} {t e : TypeId} {n sz : Nat} {f : α → List Value} {G : α → Prop} (ht : P.underlying t = some (.array n e)) (hc : P.cellsOf t = n * sz) (hs : 0 < sz)
    (he : Dec P e sz f G) (hf : ∀ a, (f a).length = sz) : Dec P t (n * sz) (sts f) (fun l => l.length = n ∧ ∀ a ∈ l, G a) :=
  ⟨hc, fun H enc w base spare held fuel cs x hx => by
    obtain ⟨xs, m, _, _, hlen, hxl, hi⟩ := DataW.trod_array ht hx
    rw [hc] at hlen
    obtain ⟨l, hl, hp⟩ := choose_list (p := fun i b => G b ∧ (cs.drop (i * sz)).take sz = f b) n fun i hin => by
      have h1 := hi i hin
      rw [he.1, List.getElem?_eq_getElem (by omega)] at h1
      obtain ⟨b, hb, hg⟩ := he.2 H enc w base spare held m _ _ h1
      exact ⟨b, hg, hb⟩
    refine ⟨l, ?_, hl, fun a ha => ?_⟩
    · apply List.ext_getElem?
      intro j
      by_cases hj : j < n * sz
      · have hq : j / sz < n := Nat.div_lt_of_lt_mul (by rw [Nat.mul_comm]; exact hj)
        have hr : j % sz < sz := Nat.mod_lt _ hs
        have hje : j = j / sz * sz + j % sz := by rw [Nat.mul_comm]; exact (Nat.div_add_mod j sz).symm
        have hk : l[j / sz]? = some (l[j / sz]'(by omega)) := List.getElem?_eq_getElem (by omega)
        have h1 := sts_get hf hk hr
        rw [← hje] at h1
        rw [h1, ← (hp _ _ hk).2, List.getElem?_take, if_pos hr, List.getElem?_drop, ← hje]
      · rw [List.getElem?_eq_none (by omega), List.getElem?_eq_none (by rw [sts_length f sz hf, hl]; omega)]
    · obtain ⟨i, hi'⟩ := List.mem_iff_getElem?.1 ha
      exact (hp i a hi').1⟩
theorem trodAll_stays (hl : laidOutB P = true) {W W' : World} (hb : Below W.heap.size W W') : ∀ {ts : List TypeId} {vs : List Value} {ds : List (DataW H)} {ps : List MemPlace},
    (∀ t ∈ ts, P.readableRec t = true ∧ t < P.types.size) → DataW.TrodAll enc P W 0 (fun _ => true) true ts vs ds ps → DataW.TrodAll enc P W' 0 (fun b => decide (b < W.heap.size)) true ts vs ds ps
  | [], [], [], _, _, h => h
  | t :: ts, v :: vs, d :: ds, ps, hr, h => by
    obtain ⟨p, q, ⟨m, hm⟩, hq, rfl⟩ := h
    have h1 := hr t (List.mem_cons_self ..)
    exact ⟨p, q, Below.trod hl h1.1 h1.2 ⟨m, hm⟩ hb (fun x hx => DataW.trod_lt m _ _ _ hm x hx), trodAll_stays hl hb (fun t ht => hr t (List.mem_cons_of_mem _ ht)) hq, rfl⟩
  | [], _ :: _, _, _, _, h => h.elim
  | [], [], _ :: _, _, _, h => h.elim
  | _ :: _, [], _, _, _, h => h.elim
  | _ :: _, _ :: _, [], _, _, h => h.elim

theorem trodAll_size : ∀ {w : World} {base : Nat} {spare : Nat → Bool} {held : Bool} {ts : List TypeId} {vs : List Value} {ds : List (DataW H)} {ps : List MemPlace}, DataW.TrodAll enc P w base spare held ts vs ds ps → ds.length = ts.length
  | _, _, _, _, [], [], [], _, _ => rfl
  | _, _, _, _, t :: ts, v :: vs, d :: ds, _, h => by
    obtain ⟨p, q, _, hq, _⟩ := h
    simp [trodAll_size hq]
  | _, _, _, _, [], _ :: _, _, _, h => h.elim
  | _, _, _, _, [], [], _ :: _, _, h => h.elim
  | _, _, _, _, _ :: _, [], _, _, h => h.elim
  | _, _, _, _, _ :: _, _ :: _, [], _, h => h.elim

theorem law_post {W : World} {args : Array Value} {ds gs : List (DataW H)} {before : List MemPlace} {fn : Func} {s : ChangeSpec} {f : Nat} {tb : TypeId} (hl : laidOutB P = true) (hvars : s.vars = []) (htb : P.underlying tb = some .bool) (hrt : fn.resultTypes = #[tb])
    (hr : ∀ t ∈ fn.params.toList, P.readableRec t = true ∧ t < P.types.size) (hfn : ∀ ds : List (DataW H), ds.length = fn.params.toList.length → s.fn H ds = { results := [.lit (.bool true)], args := ds })
    (hW : DataW.Whole enc P fn.params.toList s.vars false W args.toList ds gs before) (hc : Calls P f args W (RetT W true)) :
    Calls P f args W fun e W' => ∃ v, e = .returned v ∧ s.post enc P fn false true false false W args v W' := by
  refine hc.mono fun e W' h => ?_
  obtain ⟨he, bel⟩ := h
  subst he
  have hW' := hW
  obtain ⟨p, q, hA, hV, rfl, hfz, hnd⟩ := hW
  rw [hvars] at hV
  obtain ⟨rfl, rfl⟩ := trodVars_none hV
  have hfd := hfn ds (trodAll_size hA)
  refine ⟨_, rfl, ds, [], p ++ [], [], p, [], hW', ?_, ?_, ?_, bel.frame _, fun h => by cases h⟩
  · rw [hrt, List.append_nil, hfd]
    exact trodAll_mk1 (shut_bool htb _)
  · rw [List.append_nil, hfd]
    exact trodAll_stays hl bel hr hA
  · rw [hvars, List.append_nil, hfd]
    rfl
end
end Go.Proofs.YtmidmaeihpldhaaGreat
namespace Go.Proofs.YtmidmaeihpldhaaGreat
open Go.RowKit Go.ChangeShapes Go.WideShapes Go.ChangeAt Go.Deep
def DecV {α : Type} (P : Program) (t : TypeId) (sz : Nat) (g : α → List PV) (Good : α → Prop) : Prop :=
  P.cellsOf t = sz ∧ ∀ (H : Type) (enc : TypeId × Value → H) (w : World) (base : Nat) (spare : Nat → Bool) (held : Bool) (fuel : Nat) (cs : List Value) (x : DataW H × List MemPlace),
    DataW.trod enc P w base spare held fuel t cs = some x → ∃ a, cs.length = sz ∧ (g a).length = sz ∧ (∀ (j : Nat) (u : Value) (y : PV), cs[j]? = some u → (g a)[j]? = some y → RVp (fun _ => True) w u y) ∧ Good a
theorem Dec.toV {α : Type} {P : Program} {t : TypeId} {sz : Nat} {f : α → List Value} {G : α → Prop} (h : Dec P t sz f G) (hf : ∀ a, (f a).length = sz) (ho : ∀ a, ∀ u ∈ f a, u.oneCell' = true) : DecV P t sz (fun a => (f a).map .v) G :=
  ⟨h.1, fun H enc w base spare held fuel cs x hx => by
    obtain ⟨a, rfl, ga⟩ := h.2 H enc w base spare held fuel cs x hx
    refine ⟨a, hf a, by simp [hf], fun j u y hu hy => ?_, ga⟩
    rw [List.getElem?_map, hu] at hy
    cases hy
    exact .v u (ho a u (List.mem_of_getElem? hu))⟩
theorem DecV.map {α β : Type} {P : Program} {t : TypeId} {sz : Nat} {g : α → List PV} {G : α → Prop} (h : DecV P t sz g G) {g' : β → List PV} {G' : β → Prop} (hg : ∀ a, G a → ∃ b, g a = g' b ∧ G' b) : DecV P t sz g' G' :=
  ⟨h.1, fun H enc w base spare held fuel cs x hx => by
    obtain ⟨a, h1, h2, h3, ga⟩ := h.2 H enc w base spare held fuel cs x hx
    obtain ⟨b, e, gb⟩ := hg a ga
    exact ⟨b, h1, by rw [← e]; exact h2, by rw [← e]; exact h3, gb⟩⟩
theorem decV_slice {α : Type} {P : Program} {t e : TypeId} {sz : Nat} {g : α → List PV} {G : α → Prop} (ht : P.underlying t = some (.slice e)) (hc : P.cellsOf t = 1) (he : DecV P e sz g G) (hs : 0 < sz) (hgl : ∀ a, (g a).length = sz) :
    DecV P t 1 (fun l : List α => [PV.sl false sz l.length (l.flatMap g)]) (fun l => l.length ≤ maxLen ∧ ∀ a ∈ l, G a) :=
  ⟨hc, fun H enc w base spare held fuel cs x hx => by
    rcases DataW.trod_slice ht hx with ⟨rfl, _⟩ | ⟨a, n, c, elems, rest, m, _, rfl, _, _, hl, hm, hel, hi, _, _⟩
    · refine ⟨[], rfl, rfl, fun j u y hu hy => ?_, Nat.zero_le _, by simp⟩
      cases j with
      | zero =>
        simp only [List.getElem?_cons_zero, Option.some.injEq] at hu hy
        subst hu hy
        exact .sl false sz none 0 0 [] [] (Nat.le_refl _) (Nat.zero_le _) (fun _ => rfl) (fun h => by cases h) rfl (by simp) (fun h => absurd rfl h) fun j u x hu => by cases hu
      | succ j => simp at hu
    · have key : ∀ i, i < n → ∃ b : α, G b ∧ ∃ us : List Value, us.length = sz ∧ (∀ j, j < sz → w.cell? (a.add (i * sz + j)) = us[j]?) ∧ ∀ (j : Nat) (u : Value) (y : PV), us[j]? = some u → (g b)[j]? = some y → RVp (fun _ => True) w u y := by
        intro i hin
        have h1 := hi i hin
        rw [List.getElem?_eq_getElem (by omega)] at h1
        obtain ⟨us, hcs, htr⟩ := Option.bind_eq_some_iff.1 h1
        rw [he.1] at hcs
        obtain ⟨b, hb1, hb2, hb3, hG⟩ := he.2 H enc w base spare held m us _ htr
        obtain ⟨_, hcl, hat⟩ := World.cells?_some hcs
        refine ⟨b, hG, us, hb1, fun j hj => ?_, hb3⟩
        rw [← Go.Deep.add_add, hat j hj]
      have key2 : ∃ l : List α, l.length = n ∧ ∀ i b, l[i]? = some b → G b ∧ ∃ us : List Value, us.length = sz ∧ (∀ j, j < sz → w.cell? (a.add (i * sz + j)) = us[j]?) ∧ ∀ (j : Nat) (u : Value) (y : PV), us[j]? = some u → (g b)[j]? = some y → RVp (fun _ => True) w u y :=
        choose_list (p := fun i b => G b ∧ ∃ us : List Value, us.length = sz ∧ (∀ j, j < sz → w.cell? (a.add (i * sz + j)) = us[j]?) ∧ ∀ (j : Nat) (u : Value) (y : PV), us[j]? = some u → (g b)[j]? = some y → RVp (fun _ => True) w u y) n key
      obtain ⟨l, hll, hp⟩ := key2
      have hcell : ∀ j, j < n * sz → ∃ u, w.cell? (a.add j) = some u ∧ ∀ y, (l.flatMap g)[j]? = some y → RVp (fun _ => True) w u y := fun j hjl => by
        have hq : j / sz < n := Nat.div_lt_of_lt_mul (by rw [Nat.mul_comm]; exact hjl)
        have hr : j % sz < sz := Nat.mod_lt _ hs
        have hj : j = j / sz * sz + j % sz := by rw [Nat.mul_comm]; exact (Nat.div_add_mod j sz).symm
        have hk : l[j / sz]? = some (l[j / sz]'(by omega)) := List.getElem?_eq_getElem (by omega)
        obtain ⟨_, us, hul, hc1, hrv⟩ := hp _ _ hk
        have h1 := hc1 _ hr
        rw [← hj, List.getElem?_eq_getElem (by omega)] at h1
        refine ⟨_, h1, fun y hy => hrv (j % sz) _ y (List.getElem?_eq_getElem (by omega)) ?_⟩
        have h2 := flat_at hgl hk
        have h3 : ((l.flatMap g).drop (j / sz * sz)).take sz = g (l[j / sz]'(by omega)) := h2
        rw [← h3, List.getElem?_take, if_pos hr, List.getElem?_drop, ← hj]
        exact hy
      have hus : ∃ us : List Value, us.length = n * sz ∧ ∀ j u, us[j]? = some u → w.cell? (a.add j) = some u ∧ ∀ y, (l.flatMap g)[j]? = some y → RVp (fun _ => True) w u y :=
        choose_list (p := fun j u => w.cell? (a.add j) = some u ∧ ∀ y, (l.flatMap g)[j]? = some y → RVp (fun _ => True) w u y) (n * sz) hcell
      obtain ⟨us, husl, hu⟩ := hus
      have hfl : (l.flatMap g).length = n * sz := by rw [flat_length hgl, hll]
      refine ⟨l, rfl, rfl, fun j u y hu0 hy => ?_, by omega, fun b hb => ?_⟩
      · cases j with
        | zero =>
          simp only [List.getElem?_cons_zero, Option.some.injEq] at hu0 hy
          subst hu0 hy
          rw [hll]
          refine .sl false sz (some a) n c us _ hl hm (fun h => by cases h) (fun h => by cases h) (by rw [husl, hfl]) hfl (fun hne => ?_) fun j u x hj hx => (hu j u hj).2 x hx
          obtain ⟨u0, rest0, hu0⟩ := List.exists_cons_of_ne_nil hne
          have hc0 := (hu 0 u0 (by rw [hu0]; rfl)).1
          rw [add_zero'] at hc0
          have hspot := World.cell?_spot hc0
          obtain ⟨ab, ao, asp⟩ := a
          simp only at hspot
          subst hspot
          exact ⟨ab, ao, rfl, trivial, fun j u hj => by have := (hu j u hj).1; rwa [add_none] at this⟩
        | succ j => simp at hu0
      · obtain ⟨i, hi'⟩ := List.mem_iff_getElem?.1 hb
        exact (hp i b hi').1⟩
theorem open_V {H : Type} {enc : TypeId × Value → H} {α : Type} {P : Program} {t : TypeId} {g : α → PV} {G : α → Prop} {w : World} {base : Nat} {spare : Nat → Bool} {held : Bool} {v : Value} {d : DataW H} {ps : List MemPlace} (h : DecV P t 1 (fun a => [g a]) G) (hv : v.cells.toList = [v]) (ht : DataW.Trod enc P w base spare held t v d ps) (ι : Nat → Nat × Nat × Nat) :
    ∃ a, RV (fun _ => True) ι w v (.c (g a)) ∧ G a := by
  obtain ⟨fuel, ht⟩ := ht
  obtain ⟨a, _, _, h3, ga⟩ := h.2 H enc w base spare held fuel _ _ ht
  exact ⟨a, .c _ _ (h3 0 v (g a) (by rw [hv]; rfl) rfl), ga⟩
theorem decV_triple {α β γ : Type} {P : Program} {t : TypeId} {f0 f1 f2 : Field} {s0 s1 s2 : Nat} {f : α → List PV} {g : β → List PV} {h : γ → List PV} {G : α → Prop} {G' : β → Prop} {G2 : γ → Prop} (ht : P.underlying t = some (.struct #[f0, f1, f2])) (hc : P.cellsOf t = s0 + (s1 + s2))
    (h0 : DecV P f0.type s0 f G) (h1 : DecV P f1.type s1 g G') (h2 : DecV P f2.type s2 h G2) (o0 : f0.offset = 0) (o1 : f1.offset = s0) (o2 : f2.offset = s0 + s1) : DecV P t (s0 + (s1 + s2)) (fun x : α × β × γ => f x.1 ++ (g x.2.1 ++ h x.2.2)) (fun x => G x.1 ∧ G' x.2.1 ∧ G2 x.2.2) :=
  ⟨hc, fun H enc w base spare held fuel cs x hx => by
    obtain ⟨xs, n, _, _, hlen, hxl, hf⟩ := DataW.trod_struct ht hx
    have e0 := hf 0 f0 rfl
    have e1 := hf 1 f1 rfl
    have e2 := hf 2 f2 rfl
    have hxl' : xs.length = 3 := hxl
    rw [o0, h0.1, List.drop_zero, List.getElem?_eq_getElem (by omega)] at e0
    rw [o1, h1.1, List.getElem?_eq_getElem (by omega)] at e1
    rw [o2, h2.1, List.getElem?_eq_getElem (by omega)] at e2
    obtain ⟨a, a1, a2, a3, ga⟩ := h0.2 H enc w base spare held n _ _ e0
    obtain ⟨b, b1, b2, b3, gb⟩ := h1.2 H enc w base spare held n _ _ e1
    obtain ⟨c, c1, c2, c3, gc⟩ := h2.2 H enc w base spare held n _ _ e2
    rw [hc] at hlen
    refine ⟨(a, b, c), hlen, by simp [a2, b2, c2], fun j u y hu hy => ?_, ga, gb, gc⟩
    dsimp only at hy
    rw [List.getElem?_append] at hy
    split at hy
    · exact a3 j u y (by rw [List.getElem?_take, if_pos (by omega)]; exact hu) hy
    · rw [List.getElem?_append] at hy
      split at hy
      · refine b3 (j - (f a).length) u y ?_ hy
        rw [List.getElem?_take, if_pos (by omega), List.getElem?_drop, a2, show s0 + (j - s0) = j by omega]; exact hu
      · have hjl := (List.getElem?_eq_some_iff.1 hy).1
        refine c3 (j - (f a).length - (g b).length) u y ?_ hy
        rw [List.getElem?_take, if_pos (by omega), List.getElem?_drop, a2, b2, show s0 + s1 + (j - s0 - s1) = j by omega]; exact hu⟩
theorem decV_int {P : Program} {t : TypeId} {k : IntKind} (ht : P.underlying t = some (.int k)) (hc : P.cellsOf t = 1) : DecV P t 1 (fun n : Int => [PV.v (.int k n)]) (fun n => (Lit.int k n).wf = true) :=
  ((dec_int ht hc).toV (fun _ => rfl) (fun a u hu => by simp at hu; subst hu; rfl)).map fun a ga => ⟨a, rfl, ga⟩
theorem decV_u64 {P : Program} {t : TypeId} (ht : P.underlying t = some (.int .u64)) (hc : P.cellsOf t = 1) : DecV P t 1 (fun n : Int => [PV.v (.int .u64 n)]) (fun n => 0 ≤ n ∧ n ≤ 18446744073709551615) :=
  (decV_int ht hc).map fun a ga => ⟨a, rfl, by have := wf_u64 ga; omega⟩
theorem decV_w4 {P : Program} {t e : TypeId} (ht : P.underlying t = some (.array 4 e)) (hc : P.cellsOf t = 4 * 1) (he : P.underlying e = some (.int .u64)) (hce : P.cellsOf e = 1) :
    DecV P t 4 (fun x : Int × Int × Int × Int => [PV.v (.int .u64 x.1), .v (.int .u64 x.2.1), .v (.int .u64 x.2.2.1), .v (.int .u64 x.2.2.2)]) (fun x => (0 ≤ x.1 ∧ x.1 ≤ 18446744073709551615) ∧ (0 ≤ x.2.1 ∧ x.2.1 ≤ 18446744073709551615) ∧ (0 ≤ x.2.2.1 ∧ x.2.2.1 ≤ 18446744073709551615) ∧ (0 ≤ x.2.2.2 ∧ x.2.2.2 ≤ 18446744073709551615)) :=
  ((dec_map (f' := fun x : Int × Int × Int × Int => [.int .u64 x.1, .int .u64 x.2.1, .int .u64 x.2.2.1, .int .u64 x.2.2.2]) (G' := fun x => (0 ≤ x.1 ∧ x.1 ≤ 18446744073709551615) ∧ (0 ≤ x.2.1 ∧ x.2.1 ≤ 18446744073709551615) ∧ (0 ≤ x.2.2.1 ∧ x.2.2.1 ≤ 18446744073709551615) ∧ (0 ≤ x.2.2.2 ∧ x.2.2.2 ≤ 18446744073709551615)) (dec_arr (n := 4) ht hc (by omega) (dec_u64 he hce) (fun _ => rfl)) fun l ⟨hl, hg⟩ => by
    match l, hl with
    | [x, y, z, u], _ =>
      have h1 := hg x (by simp)
      have h2 := hg y (by simp)
      have h3 := hg z (by simp)
      have h4 := hg u (by simp)
      exact ⟨(x, y, z, u), by simp [sts], ⟨by simp only; omega, by simp only; omega⟩, ⟨by simp only; omega, by simp only; omega⟩, ⟨by simp only; omega, by simp only; omega⟩, ⟨by simp only; omega, by simp only; omega⟩⟩).toV (fun _ => rfl) (fun a u hu => by simp at hu; rcases hu with rfl | rfl | rfl | rfl <;> rfl)).map fun a ga => ⟨a, rfl, ga⟩
open Go.RowKit Go.ChangeShapes Go.WideShapes Go.ChangeAt Go.Deep
def DecF {α : Type} (P : Program) (fs : List Field) (o sz : Nat) (g : α → List PV) (Good : α → Prop) : Prop :=
  ∀ (H : Type) (enc : TypeId × Value → H) (w : World) (base : Nat) (spare : Nat → Bool) (held : Bool) (fuel : Nat) (cs : List Value), o + sz ≤ cs.length →
    (∀ f ∈ fs, ∃ x : DataW H × List MemPlace, DataW.trod enc P w base spare held fuel f.type ((cs.drop f.offset).take (P.cellsOf f.type)) = some x) →
    ∃ a, (g a).length = sz ∧ (∀ (j : Nat) (u : Value) (y : PV), cs[o + j]? = some u → (g a)[j]? = some y → RVp (fun _ => True) w u y) ∧ Good a
theorem decF_one {α : Type} {P : Program} {f : Field} {o sz : Nat} {g : α → List PV} {G : α → Prop} (h : DecV P f.type sz g G) (ho : f.offset = o) : DecF P [f] o sz g G := by
  intro H enc w base spare held fuel cs hlen hf
  obtain ⟨x, hx⟩ := hf f (by simp)
  rw [ho, h.1] at hx
  obtain ⟨a, a1, a2, a3, ga⟩ := h.2 H enc w base spare held fuel _ _ hx
  refine ⟨a, a2, fun j u y hu hy => a3 j u y ?_ hy, ga⟩
  have hj := (List.getElem?_eq_some_iff.1 hy).1
  rw [List.getElem?_take, if_pos (by omega), List.getElem?_drop]
  exact hu
theorem decF_cons {α β : Type} {P : Program} {f : Field} {fs : List Field} {o s0 s1 : Nat} {g : α → List PV} {g' : β → List PV} {G : α → Prop} {G' : β → Prop} (h : DecV P f.type s0 g G) (ho : f.offset = o) (hr : DecF P fs (o + s0) s1 g' G') :
    DecF P (f :: fs) o (s0 + s1) (fun x : α × β => g x.1 ++ g' x.2) (fun x => G x.1 ∧ G' x.2) := by
  intro H enc w base spare held fuel cs hlen hf
  obtain ⟨a, a2, a3, ga⟩ := decF_one h ho H enc w base spare held fuel cs (by omega) (fun f' hf' => hf f' (by simp at hf'; simp [hf']))
  obtain ⟨b, b2, b3, gb⟩ := hr H enc w base spare held fuel cs (by omega) (fun f' hf' => hf f' (by simp [hf']))
  refine ⟨(a, b), by simp [a2, b2], fun j u y hu hy => ?_, ga, gb⟩
  dsimp only at hy
  rw [List.getElem?_append] at hy
  split at hy
  · exact a3 j u y hu hy
  · exact b3 (j - (g a).length) u y (by rw [a2, show o + s0 + (j - s0) = o + j by omega]; exact hu) hy
theorem decV_struct {α : Type} {P : Program} {t : TypeId} {fs : Array Field} {sz : Nat} {g : α → List PV} {G : α → Prop} (ht : P.underlying t = some (.struct fs)) (hc : P.cellsOf t = sz) (h : DecF P fs.toList 0 sz g G) : DecV P t sz g G :=
  ⟨hc, fun H enc w base spare held fuel cs x hx => by
    obtain ⟨xs, n, _, _, hlen, hxl, hf⟩ := DataW.trod_struct ht hx
    rw [hc] at hlen
    obtain ⟨a, a2, a3, ga⟩ := h H enc w base spare held n cs (by omega) (fun f hf' => by
      obtain ⟨k, hk⟩ := List.mem_iff_getElem?.1 hf'
      have hk' : fs[k]? = some f := by rw [← Array.getElem?_toList]; exact hk
      have h1 := hf k f hk'
      have hlt := (Array.getElem?_eq_some_iff.1 hk').1
      rw [List.getElem?_eq_getElem (by omega)] at h1
      exact ⟨_, h1⟩)
    exact ⟨a, hlen, a2, fun j u y hu hy => a3 j u y (by rw [Nat.zero_add]; exact hu) hy, ga⟩⟩
theorem open_VA {H : Type} {enc : TypeId × Value → H} {α : Type} {P : Program} {t : TypeId} {sz : Nat} {g : α → List PV} {G : α → Prop} {w : World} {base : Nat} {spare : Nat → Bool} {held : Bool} {cs : Array Value} {d : DataW H} {ps : List MemPlace} (h : DecV P t sz g G) (ht : DataW.Trod enc P w base spare held t (.agg cs) d ps) (ι : Nat → Nat × Nat × Nat) :
    ∃ a, RV (fun _ => True) ι w (.agg cs) (.agg ((g a).map .c)) ∧ G a := by
  obtain ⟨fuel, ht⟩ := ht
  obtain ⟨a, a1, a2, a3, ga⟩ := h.2 H enc w base spare held fuel _ _ ht
  have e : (Value.agg cs).cells.toList = cs.toList := rfl
  rw [e] at a1 a3
  refine ⟨a, ?_, ga⟩
  have hc : cs = cs.toList.toArray := by simp
  rw [hc]
  have key : ∀ (j : Nat) (u : Value) (y : PV), cs.toList[j]? = some u → (g a)[j]? = some y → RVp (fun _ => True) w u y := a3
  refine .agg cs.toList _ (by rw [List.length_map, a1, a2]) (fun u hu => ?_) fun j u x hu hx => ?_
  · obtain ⟨j, hj⟩ := List.mem_iff_getElem?.1 hu
    have hlt := (List.getElem?_eq_some_iff.1 hj).1
    exact (key j u _ hj (List.getElem?_eq_getElem (by omega))).one
  · rw [List.getElem?_map, Option.map_eq_some_iff] at hx
    obtain ⟨y, hy, rfl⟩ := hx
    exact .c _ _ (key j u y hu hy)
theorem okWide_struct {P : Program} {w : World} {r : Reach} {base : Nat} {t : TypeId} {fs : Array Field} {v : Value} (ht : P.underlying t = some (.struct fs)) (h : Value.okWide P w r base t v) : ∃ cs, v = .agg cs := by
  simp only [Value.okWide, ht] at h
  obtain ⟨cs, h1, _⟩ := h
  exact ⟨cs, h1⟩
end Go.Proofs.YtmidmaeihpldhaaGreat
namespace Go.Proofs.YtmidmaeihpldhaaGreat.nz
open Go.RowKit
open Nat (reduceBEq)
set_option maxRecDepth 20000
set_option maxHeartbeats 2000000
section
variable (ex : Bool) (l : List N6) (hl : l.length ≤ 1000000) (a b c d e : Int)
include hl
end
theorem neq_fn (ex ex' : Bool) (l m : List N6) (hl : l.length ≤ 4611686018427387904) : Fn Tryz.prog 100 [nsl ex l, nsl ex' m] [] (vb (decide (l = m))) [] := by
  by_cases hlen : l.length = m.length
  · have e0 : ((l.length : Int) != (m.length : Int)) = false := by simp [hlen]
    (refine fn_of Tryz.func100 rfl (by rfl) ?_; simp only [Tryz.ntmps100, List.length_cons, List.length_nil, Nat.reduceAdd, Nat.reduceSub, List.replicate, List.cons_append, List.nil_append])
    (repeat (any_goals (first | ((with_reducible refine evL_one ?_ ?_); rfl; intro K hK; simp only [go_sem, e0]; ((repeat (refine ndI (by first | assumption) ?_)); refine hK _ ?_; clear hK K)) | (with_reducible first | (refine evL_nil ?_; refine hR _ ?_; clear hR R) | ((first | refine evC_seq ?_ | refine evC_block ?_); intro Ψ hΨ hΨ') | (refine evC_region ?_; intro R hR) | (refine hΨ _ ?_; clear hΨ hΨ' Ψ) | refine evC_skip ?_) | ((with_reducible apply evC_cond); rfl; rfl; all_goals (intro hc; first | (cases hc; done) | (try simp only at hc))))))
    refine evC_loop (α := { i : Nat // i ≤ l.length ∧ ∀ j, j < i → l[j]? = m[j]? }) (fun p => ⟨[nsl ex l, nsl ex' m, .any, .any, .any, .any, .any, .any, .any, .any, .any, nsl ex l, vi .i64 l.length, vi .i64 p.1, .any, .any, .any, .any, .any, .any, .any, .any, .any, .any, .any, .any], []⟩) (fun p => l.length - p.1) ⟨0, Nat.zero_le _, fun j hj => by omega⟩ (St.le_of (by simp [leT]) (by simp [leH, hget])) ?_
    rintro ⟨i, hi, hno⟩ Ψ hΨ hΨ'
    dsimp only at hΨ ⊢
    rcases Nat.lt_or_ge i l.length with hlt | hge
    · obtain ⟨y, hy⟩ : ∃ y, l[i]? = some y := ⟨l[i], List.getElem?_eq_getElem hlt⟩
      obtain ⟨z, hz⟩ : ∃ z, m[i]? = some z := ⟨m[i]'(by omega), List.getElem?_eq_getElem (by omega)⟩
      have e1 : (decide ((i : Int) < (l.length : Int))) = true := by simpa using hlt
      have e2 := nsl_at hy
      have e3 := nsl_at hz
      have e5 : i < m.length := by omega
      have e7 : (i : Int) + 1 = ((i + 1 : Nat) : Int) := by omega
      have hnx : y = z → ∀ j, j < i + 1 → l[j]? = m[j]? := fun h j hj => by
        rcases Nat.lt_or_ge j i with h' | h'
        · exact hno j h'
        · obtain rfl : j = i := by omega
          rw [hy, hz, h]
      have hne : y ≠ z → decide (l = m) = false := fun h => by
        rw [decide_eq_false_iff_not]
        intro e
        rw [e, hz] at hy
        cases hy; exact h rfl
      have hyz : y = z ↔ (y.a = z.a ∧ y.b = z.b ∧ y.c = z.c ∧ y.d = z.d ∧ y.e = z.e ∧ y.x = z.x) := by
        cases y; cases z; simp
      (repeat (any_goals (first | ((with_reducible refine evL_one ?_ ?_); rfl; intro K hK; simp (disch := omega) only [go_sem, e1, e2, e3, e7, wrI]; ((repeat (refine ndI (by first | assumption | rfl) ?_)); refine hK _ ?_; clear hK K)) | (with_reducible first | (refine evL_nil ?_; refine hR _ ?_; clear hR R) | ((first | refine evC_seq ?_ | refine evC_block ?_); intro Ψ hΨ hΨ') | (refine evC_region ?_; intro R hR) | (refine hΨ _ ?_; clear hΨ hΨ' Ψ) | refine evC_skip ?_ | refine evC_ret ?_) | ((with_reducible refine hΨ' _ _ ?_ ?_); (focus (simp; done)); clear hΨ hΨ' Ψ) | ((with_reducible apply evC_cond); rfl; rfl; all_goals (intro hc; first | (cases hc; done) | (try simp only at hc))) | ((with_reducible refine evD_nil ?_ ?_); kernel_rfl; (with_reducible refine hR _ ?_); clear hR R) | (((with_reducible apply evD_any); rfl; rfl; (simp (disch := omega) only [rdE, rdOf, go_sem, e1, e2, e3, e7, wrI]; rfl); (intro τ hA hQ hN; ((try simp only [agree, Op.operands, Call.operands, go_sem, e1, e2, e3, e7, wrI, go_sem, List.mem_cons, List.not_mem_nil, forall_eq_or_imp, forall_eq, List.append_toArray, Option.toArray] at hA); (try simp only [go_sem, e1, e2, e3, e7, wrI, List.mem_cons, List.not_mem_nil, forall_eq_or_imp, forall_eq] at hQ hN); (first | (revert hA; intro hA)); (first | (revert hQ; intro hQ)); (first | (revert hN; intro hN)); simp (disch := omega) only [go_sem, e1, e2, e3, e7, wrI, go_sem, hA, hQ, hN]; (repeat (refine ndI (by first | assumption | omega | rfl) ?_)); (first | apply eff_rd)))); (simp (disch := omega) only [St.eff, setO, hputs, go_sem, e1, e2, e3, e7, wrI])) | ((with_reducible refine evC_draw ?_ ?_ ?_ ?_); kernel_rfl; kernel_rfl; (first | kernel_rfl); intro R hR))))
      · (refine ⟨by simp, ⟨_, ?_, AV.le_refl _⟩, leH_get (by simp [leH, hget])⟩; simp only [Tryz.results100, resL, ldA, oneOf, go_sem])
        rw [hne]
        rw [Ne, hyz]
        rintro ⟨m1, m2, m3, m4, m5, m6⟩
        simp [m1, m2, m3, m4, m5, m6] at hc
      · refine hΨ _ ⟨i + 1, hlt, hnx ?_⟩ (by simp only; omega) (St.le_of (by simp [leT]) (by simp [leH, hget]))
        rw [hyz]
        clear hyz hne hnx hno hΨ
        simp_all
    · have e1 : (decide ((i : Int) < (l.length : Int))) = false := by simpa using hge
      have he : decide (l = m) = true := by
        rw [decide_eq_true_iff]
        refine List.ext_getElem? fun j => ?_
        rcases Nat.lt_or_ge j l.length with h | h
        · exact hno j (by omega)
        · rw [List.getElem?_eq_none h, List.getElem?_eq_none (by omega)]
      (repeat (any_goals (first | ((with_reducible refine evL_one ?_ ?_); rfl; intro K hK; simp only [go_sem, e1]; ((repeat (refine ndI (by first | assumption) ?_)); refine hK _ ?_; clear hK K)) | (with_reducible first | (refine evL_nil ?_; refine hR _ ?_; clear hR R) | ((first | refine evC_seq ?_); intro Ψ hΨ hΨ') | (refine evC_region ?_; intro R hR) | (refine hΨ _ ?_; clear hΨ hΨ' Ψ) | refine evC_ret ?_ | refine evC_exit ?_) | ((with_reducible refine hΨ' _ _ ?_ ?_); (focus (simp; done)); clear hΨ hΨ' Ψ) | ((with_reducible apply evC_cond); rfl; rfl; all_goals (intro hc; first | (cases hc; done) | (try simp only at hc))))))
      all_goals (refine ⟨by simp, ⟨_, ?_, AV.le_refl _⟩, leH_get (by simp [leH, hget])⟩; simp only [Tryz.results100, resL, ldA, oneOf, go_sem])
      all_goals rw [he]
  · have e0 : ((l.length : Int) != (m.length : Int)) = true := by simp; omega
    have he : decide (l = m) = false := by rw [decide_eq_false_iff_not]; intro e; exact hlen (by rw [e])
    (refine fn_of Tryz.func100 rfl (by rfl) ?_; simp only [Tryz.ntmps100, List.length_cons, List.length_nil, Nat.reduceAdd, Nat.reduceSub, List.replicate, List.cons_append, List.nil_append])
    (repeat (any_goals (first | ((with_reducible refine evL_one ?_ ?_); rfl; intro K hK; simp only [go_sem, e0]; ((repeat (refine ndI (by first | assumption) ?_)); refine hK _ ?_; clear hK K)) | (with_reducible first | (refine evL_nil ?_; refine hR _ ?_; clear hR R) | ((first | refine evC_seq ?_); intro Ψ hΨ hΨ') | (refine evC_region ?_; intro R hR) | (refine hΨ _ ?_; clear hΨ hΨ' Ψ) | refine evC_ret ?_) | ((with_reducible refine hΨ' _ _ ?_ ?_); (focus (simp; done)); clear hΨ hΨ' Ψ) | ((with_reducible apply evC_cond); rfl; rfl; all_goals (intro hc; first | (cases hc; done) | (try simp only at hc))))))
    all_goals (refine ⟨by simp, ⟨_, ?_, AV.le_refl _⟩, leH_get (by simp [leH, hget])⟩; simp only [Tryz.results100, resL, ldA, oneOf, go_sem])
    all_goals rw [he]
theorem nsame_fn (ex ex' : Bool) (l m : List N6) (hl : l.length ≤ 4611686018427387904) : Fn Tryz.prog 58 [nsl ex l, nsl ex' m] [] (vb (decide (l = m))) [] := by
  (refine fn_of Tryz.func58 rfl (by rfl) ?_; simp only [Tryz.ntmps58, List.length_cons, List.length_nil, Nat.reduceAdd, Nat.reduceSub, List.replicate, List.cons_append, List.nil_append])
  (repeat (any_goals (first | ((with_reducible refine evL_call ?_ ?_ ?_); rfl; rfl; intro K hK; ((apply opA_callB (neq_fn ex ex' l m hl); rfl; rfl; rfl; rfl; exact Tryz.func100); kernel_rfl; rfl; (simp only [go_sem]; rfl); (first | simp [AV.inNL, AV.inN])); (simp only [go_sem]; refine hK _ ?_; clear hK K)) | ((with_reducible refine evL_one ?_ ?_); rfl; intro K hK; simp only [go_sem]; ((repeat (refine ndI (by first | assumption) ?_)); refine hK _ ?_; clear hK K)) | (with_reducible first | (refine evL_nil ?_; refine hR _ ?_; clear hR R) | ((first | refine evC_seq ?_); intro Ψ hΨ hΨ') | (refine evC_region ?_; intro R hR) | (refine hΨ _ ?_; clear hΨ hΨ' Ψ) | refine evC_ret ?_))))
  all_goals (refine ⟨by simp, ⟨_, ?_, AV.le_refl _⟩, leH_get (by simp [leH, hget])⟩; simp only [Tryz.results58, resL, ldA, oneOf, go_sem])
def wo (y : N6) : List PV := [.v (.int .u64 y.x), .v (.int .u64 y.b), .v (.int .u64 y.c), .v (.int .u64 y.d)]
def rcO (l : List N6) : List AV := (l.flatMap wo).map .c
end Go.Proofs.YtmidmaeihpldhaaGreat.nz
namespace Go.Proofs.YtmidmaeihpldhaaGreat.nz
open Go.RowKit
set_option maxRecDepth 20000
set_option maxHeartbeats 2000000
theorem renL_rcO (ρ : Nat → Nat) (l : List N6) : AV.renL ρ (rcO l) = rcO l := renL_map _ _
theorem inNL_rcO (N : List Nat) (l : List N6) : AV.inNL N (rcO l) = true := inNL_map _ _
abbrev stO (ex : Bool) (l : List N6) (a : Int) (r : Nat) (out : List N6) (i : Nat) : St := ⟨[nsl ex l, vi .u64 a, .any, .any, .any, .row r 72 4 out.length, .any, .any, nsl ex l, vi .i64 l.length, vi .i64 i, .any, .any, .any, .any, .any, .any, .any, .any, .any, .any, .any, .any, .any, .any, .any, .any, .any], [(r, rcO out)]⟩
theorem stO_rn (ex : Bool) (l : List N6) (a : Int) (out : List N6) (i : Nat) : (stO ex l a 25 out i).to (stO ex l a 500 out i) := by
  have h := St.to.rn (σ := stO ex l a 25 out i) (fun r => if r = 25 then 500 else r) (fun r => if r = 500 then 25 else r) [25] (by simp [AV.inNL, AV.inN]) (by simp) (by simp [inH, AV.inNL, AV.inN, inNL_rcO]) (by simp) (by simp)
  simpa [AV.renL, AV.ren, renH, renL_rcO] using h
end Go.Proofs.YtmidmaeihpldhaaGreat.nz
namespace Go.Proofs.YtmidmaeihpldhaaGreat.nz
open Go.RowKit
set_option maxRecDepth 20000
set_option maxHeartbeats 2000000
end Go.Proofs.YtmidmaeihpldhaaGreat.nz
namespace Go.Proofs.YtmidmaeihpldhaaGreat
open Go.RowKit
open Nat (reduceBEq)
set_option maxRecDepth 20000
set_option maxHeartbeats 4000000
instance decWl : DecidableEq Wl := fun x y => decidable_of_iff (x.S = y.S ∧ x.L = y.L ∧ x.N = y.N) (by cases x; cases y; simp)
theorem samew_fn (w v : Wl) (hw : w.ok) (hv : v.ok) : Fn Tryz.prog 20 [wlA w, wlA v] [] (vb (decide (w = v))) [] := by
  have b1 : w.S.length ≤ maxLen := Nat.le_trans hw.s.1 (by decide)
  have b2 : v.S.length ≤ maxLen := Nat.le_trans hv.s.1 (by decide)
  have f1 := sameS_fn false false w.S v.S b1 b2 (fun x hx => (hw.s.2 x hx).1) (fun x hx => (hv.s.2 x hx).1)
  have f2 := lg.same_fn false false w.L v.L (Nat.le_trans hw.l.1 (by decide)) hw.l.2 hv.l.2
  have f3 := nz.nsame_fn false false w.N v.N (Nat.le_trans hw.n.1 (by decide))
  have e : decide (w = v) = (decide (w.S = v.S) && (decide (w.L = v.L) && decide (w.N = v.N))) := by
    obtain ⟨a, b, c⟩ := w
    obtain ⟨a', b', c'⟩ := v
    by_cases h1 : a = a' <;> by_cases h2 : b = b' <;> by_cases h3 : c = c' <;> simp [h1, h2, h3]
  rw [e]
  generalize decide (w.S = v.S) = q1 at *
  generalize decide (w.L = v.L) = q2 at *
  generalize decide (w.N = v.N) = q3 at *
  cases q1 <;> cases q2 <;> cases q3
  all_goals (refine fn_of Tryz.func20 rfl (by rfl) ?_; simp only [Tryz.ntmps20, List.length_cons, List.length_nil, Nat.reduceAdd, Nat.reduceSub, List.replicate, List.cons_append, List.nil_append])
  all_goals (repeat (any_goals (first | ((with_reducible refine evL_call ?_ ?_ ?_); rfl; rfl; intro K hK; ((apply opA_callB (f1); rfl; rfl; rfl; rfl; exact Tryz.func56); kernel_rfl; rfl; (simp only [go_sem]; rfl); (first | simp [AV.inNL, AV.inN])); (simp only [go_sem]; refine hK _ ?_; clear hK K)) | ((with_reducible refine evL_one ?_ ?_); rfl; intro K hK; simp only [go_sem]; ((repeat (refine ndI (by first | assumption) ?_)); refine hK _ ?_; clear hK K)) | (with_reducible first | (refine evL_nil ?_; refine hR _ ?_; clear hR R) | ((first | refine evC_seq ?_); intro Ψ hΨ hΨ') | (refine evC_region ?_; intro R hR) | (refine hΨ _ ?_; clear hΨ hΨ' Ψ) | refine evC_ret ?_) | ((with_reducible apply evL_grd); rfl; rfl; rfl; all_goals (intro hb; first | (cases hb; done) | ((try simp only [Bool.not_true, Bool.not_false] at hb); (first | ((with_reducible intro K hK); (first | ((first | (apply opA_callB (f2); rfl; rfl; rfl; rfl; exact Tryz.func57) | (apply opA_callB (f3); rfl; rfl; rfl; rfl; exact Tryz.func58)); kernel_rfl; rfl; (simp only [go_sem]; rfl); (first | simp [AV.inNL, AV.inN])) | skip); simp only [go_sem]; ((repeat (refine ndI (by first | assumption) ?_)); refine hK _ ?_; clear hK K)) | ((fail_if_success (with_reducible intro _)); simp only [go_sem]))))))))
  all_goals (refine ⟨by simp, ⟨_, ?_, AV.le_refl _⟩, leH_get (by simp [leH, hget])⟩; simp only [Tryz.results20, resL, ldA, oneOf, go_sem])
  all_goals rfl
structure Pt where
  w : Wl
  x : ax.Xs
abbrev adV (l : List Int) : PV := .sl false 1 l.length (l.flatMap ax.apv)
abbrev spV (l : List ax.Sp) : PV := .sl false 5 l.length (l.flatMap ax.Sp.pv)
abbrev pgV (l : List ax.Pg) : PV := .sl false 9 l.length (l.flatMap ax.Pg.pv)
def Pt.pv (p : Pt) : List PV := [acV p.w.S, hdV p.w.L, noV p.w.N, adV p.x.ad, spV p.x.sp, pgV p.x.pg]
theorem pt_len (p : Pt) : p.pv.length = 6 := rfl
abbrev xxA (x : ax.Xs) : AV := .agg [.c (adV x.ad), .c (spV x.sp), .c (pgV x.pg)]
abbrev ptA (p : Pt) : AV := .agg [.c (acV p.w.S), .c (hdV p.w.L), .c (noV p.w.N), .c (adV p.x.ad), .c (spV p.x.sp), .c (pgV p.x.pg)]
abbrev ptV (l : List Pt) : PV := .sl false 6 l.length (l.flatMap Pt.pv)
abbrev psl (ex : Bool) (l : List Pt) : AV := .c (.sl ex 6 l.length (l.flatMap Pt.pv))
theorem pt_at {l : List Pt} {i : Nat} {y : Pt} (h : l[i]? = some y) : ((l.flatMap Pt.pv).drop (i * 6)).take 6 = [acV y.w.S, hdV y.w.L, noV y.w.N, adV y.x.ad, spV y.x.sp, pgV y.x.pg] := flat_at (f := Pt.pv) pt_len h
structure Pt.ok (p : Pt) : Prop where
  w : p.w.ok
  x : p.x.ok
  f : p.x.few
def okPt (p : Pt) : Bool := rightW p.w && ax.okXs p.x
instance decSp : DecidableEq ax.Sp := fun x y => decidable_of_iff (x.a = y.a ∧ x.k = y.k) (by cases x; cases y; simp)
theorem mayp_fn (p : Pt) (hp : p.ok) : Fn Tryz.prog 49 [ptA p] [] (vb (okPt p)) [] := by
  have f1 := checkW_fn p.w hp.w
  have f2 := ax.checkX_fn p.x hp.x hp.f
  unfold okPt
  cases e1 : rightW p.w <;> cases e2 : ax.okXs p.x <;> simp only [e1, e2, if_true, if_false, Bool.false_eq_true] at f1 f2 ⊢
  all_goals (refine fn_of Tryz.func49 rfl (by rfl) ?_; simp only [Tryz.ntmps49, List.length_cons, List.length_nil, Nat.reduceAdd, Nat.reduceSub, List.replicate, List.cons_append, List.nil_append])
  all_goals (repeat (any_goals (first | ((with_reducible refine evL_call ?_ ?_ ?_); rfl; rfl; intro K hK; ((apply opA_callB (f1); rfl; rfl; rfl; rfl; exact Tryz.func18); kernel_rfl; rfl; (simp only [go_sem]; rfl); (first | simp [AV.inNL, AV.inN])); (simp only [go_sem]; refine hK _ ?_; clear hK K)) | ((with_reducible refine evL_one ?_ ?_); rfl; intro K hK; simp only [go_sem]; ((repeat (refine ndI (by first | assumption) ?_)); refine hK _ ?_; clear hK K)) | (with_reducible first | (refine evL_nil ?_; refine hR _ ?_; clear hR R) | ((first | refine evC_seq ?_); intro Ψ hΨ hΨ') | (refine evC_region ?_; intro R hR) | (refine hΨ _ ?_; clear hΨ hΨ' Ψ) | refine evC_ret ?_) | ((with_reducible apply evL_grd); rfl; rfl; rfl; all_goals (intro hb; first | (cases hb; done) | ((try simp only [Bool.not_true, Bool.not_false] at hb); (first | ((with_reducible intro K hK); (first | ((apply opA_callB (f2); rfl; rfl; rfl; rfl; exact Tryz.func84); kernel_rfl; rfl; (simp only [go_sem]; rfl); (first | simp [AV.inNL, AV.inN])) | skip); simp only [go_sem]; ((repeat (refine ndI (by first | assumption) ?_)); refine hK _ ?_; clear hK K)) | ((fail_if_success (with_reducible intro _)); simp only [go_sem]))))))))
  all_goals (refine ⟨by simp, ⟨_, ?_, AV.le_refl _⟩, leH_get (by simp [leH, hget])⟩; simp only [Tryz.results49, resL, ldA, oneOf, go_sem])
  all_goals rfl
end Go.Proofs.YtmidmaeihpldhaaGreat
namespace Go.Proofs.YtmidmaeihpldhaaGreat
open Go.RowKit
open Nat (reduceBEq)
set_option maxRecDepth 20000
set_option maxHeartbeats 4000000
structure Jn where
  p : Pt
  m : List Pt
def Jn.pv (j : Jn) : List PV := [acV j.p.w.S, hdV j.p.w.L, noV j.p.w.N, adV j.p.x.ad, spV j.p.x.sp, pgV j.p.x.pg, ptV j.m]
abbrev jnA (j : Jn) : AV := .agg [.c (acV j.p.w.S), .c (hdV j.p.w.L), .c (noV j.p.w.N), .c (adV j.p.x.ad), .c (spV j.p.x.sp), .c (pgV j.p.x.pg), .c (ptV j.m)]
structure Jn.ok (j : Jn) : Prop where
  p : j.p.ok
  m : j.m.length ≤ 100 ∧ ∀ p ∈ j.m, p.ok
def okJ (j : Jn) : Bool := decide (j.m.length ≤ 16) && (okPt j.p && j.m.all okPt)
theorem wrong_fn (p : Pt) (hp : p.ok) : Fn Tryz.prog 48 [ptA p] [] (vb (!okPt p)) [] := by
  have f := mayp_fn p hp
  generalize okPt p = q at f ⊢
  (refine fn_of Tryz.func48 rfl (by rfl) ?_; simp only [Tryz.ntmps48, List.length_cons, List.length_nil, Nat.reduceAdd, Nat.reduceSub, List.replicate, List.cons_append, List.nil_append])
  (repeat (any_goals (first | ((with_reducible refine evL_call ?_ ?_ ?_); rfl; rfl; intro K hK; ((apply opA_callB (f); rfl; rfl; rfl; rfl; exact Tryz.func49); kernel_rfl; rfl; (simp only [go_sem]; rfl); (first | simp [AV.inNL, AV.inN])); (simp only [go_sem]; refine hK _ ?_; clear hK K)) | ((with_reducible refine evL_one ?_ ?_); rfl; intro K hK; simp only [go_sem]; ((repeat (refine ndI (by first | assumption) ?_)); refine hK _ ?_; clear hK K)) | (with_reducible first | (refine evL_nil ?_; refine hR _ ?_; clear hR R) | ((first | refine evC_seq ?_); intro Ψ hΨ hΨ') | (refine evC_region ?_; intro R hR) | (refine hΨ _ ?_; clear hΨ hΨ' Ψ) | refine evC_ret ?_))))
  all_goals (refine ⟨by simp, ⟨_, ?_, AV.le_refl _⟩, leH_get (by simp [leH, hget])⟩; simp only [Tryz.results48, resL, ldA, oneOf, go_sem])
def ixB {α : Type} (p : α → Bool) (l : List α) : Int := match l.findIdx? p with | some i => (i : Int) | none => -1
theorem ixB_at {α : Type} {p : α → Bool} {l : List α} {i : Nat} {y : α} (hno : ∀ j, j < i → ∀ n, l[j]? = some n → p n = false) (hy : l[i]? = some y) (hp : p y = true) : ixB p l = (i : Int) := by
  have h : l.findIdx? p = some i := by
    rw [List.findIdx?_eq_some_iff_getElem]
    obtain ⟨hi, e⟩ := List.getElem?_eq_some_iff.1 hy
    refine ⟨hi, by rw [e]; exact hp, fun j hj => ?_⟩
    rw [hno j hj _ (List.getElem?_eq_getElem (by omega))]
    decide
  unfold ixB
  rw [h]
theorem ixB_none {α : Type} {p : α → Bool} {l : List α} (hno : ∀ j, j < l.length → ∀ n, l[j]? = some n → p n = false) : ixB p l = -1 := by
  have h : l.findIdx? p = none := by
    rw [List.findIdx?_eq_none_iff]
    intro x hx
    obtain ⟨j, hj⟩ := List.getElem?_of_mem hx
    exact hno j (List.getElem?_eq_some_iff.1 hj).1 x hj
  unfold ixB
  rw [h]
theorem ixB_any {α : Type} (p : α → Bool) (l : List α) : decide (ixB p l ≥ 0) = l.any p := by
  unfold ixB
  cases h : l.findIdx? p with
  | none =>
    rw [List.findIdx?_eq_none_iff] at h
    have : l.any p = false := by
      rw [List.any_eq_false]
      intro x hx
      rw [h x hx]; decide
    rw [this]; rfl
  | some i =>
    rw [List.findIdx?_eq_some_iff_getElem] at h
    obtain ⟨hi, hp, _⟩ := h
    have : l.any p = true := by
      rw [List.any_eq_true]
      exact ⟨_, List.getElem_mem hi, hp⟩
    rw [this]
    simp
theorem indexP_fn (ex : Bool) (l : List Pt) (hl : l.length ≤ 1000) (ok : ∀ w ∈ l, w.ok) : Fn Tryz.prog 85 [psl ex l, .fn 48 []] [] (vi .i64 (ixB (fun p => !okPt p) l)) [] := by
  obtain ⟨tr, htr⟩ : ∃ r : Int, ixB (fun w => !okPt w) l = r := ⟨_, rfl⟩
  rw [htr]
  (refine fn_of Tryz.func85 rfl (by rfl) ?_; simp only [Tryz.ntmps85, List.length_cons, List.length_nil, Nat.reduceAdd, Nat.reduceSub, List.replicate, List.cons_append, List.nil_append])
  (repeat (any_goals (first | ((with_reducible refine evL_one ?_ ?_); rfl; intro K hK; simp only [go_sem]; ((repeat (refine ndI (by first | assumption) ?_)); refine hK _ ?_; clear hK K)) | (with_reducible first | (refine evL_nil ?_; refine hR _ ?_; clear hR R) | ((first | refine evC_seq ?_ | refine evC_block ?_); intro Ψ hΨ hΨ') | (refine evC_region ?_; intro R hR) | (refine hΨ _ ?_; clear hΨ hΨ' Ψ)))))
  refine evC_loop (α := { i : Nat // i ≤ l.length ∧ ∀ j, j < i → ∀ n, l[j]? = some n → (!okPt n) = false }) (fun p => ⟨[psl ex l, .fn 48 [], .any, .any, .any, .any, psl ex l, vi .i64 l.length, vi .i64 p.1, .any, .any, .any, .any, .any, .any, .any, .any, .any, .any], []⟩) (fun p => l.length - p.1) ⟨0, Nat.zero_le _, fun j hj => by omega⟩ (St.le_of (by simp [leT]) (by simp [leH, hget])) ?_
  rintro ⟨i, hi, hno⟩ Ψ hΨ hΨ'
  dsimp only at hi hΨ ⊢
  rcases Nat.lt_or_ge i l.length with hlt | hge
  · obtain ⟨y, hy⟩ : ∃ y, l[i]? = some y := ⟨l[i], List.getElem?_eq_getElem hlt⟩
    have k1 : (decide ((i : Int) < (l.length : Int))) = true := by simpa using hlt
    have k2 := pt_at hy
    have k7 : (i : Int) + 1 = ((i + 1 : Nat) : Int) := by omega
    have pl := wrong_fn y (ok y (List.mem_of_getElem? hy))
    cases hm : (!okPt y)
    · rw [hm] at pl
      (have W := ndI k1 (ndI k2 (ndI k7 @wrI)); (repeat (any_goals (first | ((with_reducible refine evL_call ?_ ?_ ?_); rfl; rfl; intro K hK; ((apply opA_callB (pl); rfl; rfl; rfl; rfl; exact Tryz.func48); kernel_rfl; rfl; (simp (disch := omega) only [go_sem, W]; rfl); (first | simp [AV.inNL, AV.inN])); (simp (disch := omega) only [go_sem, W]; refine hK _ ?_; clear hK K)) | ((with_reducible refine evL_one ?_ ?_); rfl; intro K hK; simp (disch := omega) only [go_sem, W]; ((repeat (refine ndI (by first | assumption | omega | rfl) ?_)); refine hK _ ?_; clear hK K)) | (with_reducible first | (refine evL_nil ?_; refine hR _ ?_; clear hR R) | ((first | refine evC_seq ?_ | refine evC_block ?_); intro Ψ hΨ hΨ') | (refine evC_region ?_; intro R hR) | (refine hΨ _ ?_; clear hΨ hΨ' Ψ) | refine evC_skip ?_) | ((with_reducible refine hΨ' _ _ ?_ ?_); (focus (simp; done)); clear hΨ hΨ' Ψ) | ((with_reducible apply evC_cond); rfl; rfl; all_goals (intro hc; first | (cases hc; done) | (try simp only at hc)))))))
      refine hΨ _ ⟨i + 1, hlt, fun j hj n hn => ?_⟩ (by simp only; omega) (St.le_of (by simp [leT]) (by simp [leH, hget]))
      rcases Nat.lt_or_ge j i with h' | h'
      · exact hno j h' n hn
      · obtain rfl : j = i := by omega
        rw [hy] at hn; cases hn; exact hm
    · rw [hm] at pl
      have hp := ixB_at (p := fun w => !okPt w) hno hy hm
      rw [hp] at htr
      (have W := ndI k1 (ndI k2 (ndI k7 @wrI)); (repeat (any_goals (first | ((with_reducible refine evL_call ?_ ?_ ?_); rfl; rfl; intro K hK; ((apply opA_callB (pl); rfl; rfl; rfl; rfl; exact Tryz.func48); kernel_rfl; rfl; (simp (disch := omega) only [go_sem, W]; rfl); (first | simp [AV.inNL, AV.inN])); (simp (disch := omega) only [go_sem, W]; refine hK _ ?_; clear hK K)) | ((with_reducible refine evL_one ?_ ?_); rfl; intro K hK; simp (disch := omega) only [go_sem, W]; ((repeat (refine ndI (by first | assumption | omega | rfl) ?_)); refine hK _ ?_; clear hK K)) | (with_reducible first | (refine evL_nil ?_; refine hR _ ?_; clear hR R) | ((first | refine evC_seq ?_ | refine evC_block ?_); intro Ψ hΨ hΨ') | (refine evC_region ?_; intro R hR) | (refine hΨ _ ?_; clear hΨ hΨ' Ψ) | refine evC_skip ?_ | refine evC_ret ?_) | ((with_reducible refine hΨ' _ _ ?_ ?_); (focus (simp; done)); clear hΨ hΨ' Ψ) | ((with_reducible apply evC_cond); rfl; rfl; all_goals (intro hc; first | (cases hc; done) | (try simp only at hc)))))))
      all_goals (refine ⟨by simp, ⟨_, ?_, AV.le_refl _⟩, leH_get (by simp [leH, hget])⟩; simp only [Tryz.results85, resL, ldA, oneOf, go_sem])
      all_goals rw [htr]
  · have k1 : (decide ((i : Int) < (l.length : Int))) = false := by simpa using hge
    have hp := ixB_none (p := fun w => !okPt w) (l := l) fun j hj => hno j (by omega)
    rw [hp] at htr
    (repeat (any_goals (first | ((with_reducible refine evL_one ?_ ?_); rfl; intro K hK; simp only [go_sem, k1]; ((repeat (refine ndI (by first | assumption) ?_)); refine hK _ ?_; clear hK K)) | (with_reducible first | (refine evL_nil ?_; refine hR _ ?_; clear hR R) | ((first | refine evC_seq ?_); intro Ψ hΨ hΨ') | (refine evC_region ?_; intro R hR) | (refine hΨ _ ?_; clear hΨ hΨ' Ψ) | refine evC_ret ?_ | refine evC_exit ?_) | ((with_reducible refine hΨ' _ _ ?_ ?_); (focus (simp; done)); clear hΨ hΨ' Ψ) | ((with_reducible apply evC_cond); rfl; rfl; all_goals (intro hc; first | (cases hc; done) | (try simp only at hc))))))
    all_goals (refine ⟨by simp, ⟨_, ?_, AV.le_refl _⟩, leH_get (by simp [leH, hget])⟩; simp only [Tryz.results85, resL, ldA, oneOf, go_sem])
    all_goals rw [← htr]
theorem containsP_fn (ex : Bool) (l : List Pt) (hl : l.length ≤ 1000) (ok : ∀ w ∈ l, w.ok) : Fn Tryz.prog 50 [psl ex l, .fn 48 []] [] (vb (!l.all okPt)) [] := by
  have f := indexP_fn ex l hl ok
  have e := ixB_any (fun w => !okPt w) l
  have e2 : (l.any fun w => !okPt w) = !l.all okPt := by rw [List.not_all_eq_any_not]
  rw [e2] at e
  (refine fn_of Tryz.func50 rfl (by rfl) ?_; simp only [Tryz.ntmps50, List.length_cons, List.length_nil, Nat.reduceAdd, Nat.reduceSub, List.replicate, List.cons_append, List.nil_append])
  (repeat (any_goals (first | ((with_reducible refine evL_call ?_ ?_ ?_); rfl; rfl; intro K hK; ((apply opA_callB (f); rfl; rfl; rfl; rfl; exact Tryz.func85); kernel_rfl; rfl; (simp only [go_sem, e]; rfl); (first | simp [AV.inNL, AV.inN])); (simp only [go_sem, e]; refine hK _ ?_; clear hK K)) | ((with_reducible refine evL_one ?_ ?_); rfl; intro K hK; simp only [go_sem, e]; ((repeat (refine ndI (by first | assumption) ?_)); refine hK _ ?_; clear hK K)) | (with_reducible first | (refine evL_nil ?_; refine hR _ ?_; clear hR R) | ((first | refine evC_seq ?_); intro Ψ hΨ hΨ') | (refine evC_region ?_; intro R hR) | (refine hΨ _ ?_; clear hΨ hΨ' Ψ) | refine evC_ret ?_))))
  all_goals (refine ⟨by simp, ⟨_, ?_, AV.le_refl _⟩, leH_get (by simp [leH, hget])⟩; simp only [Tryz.results50, resL, ldA, oneOf, go_sem])
theorem checkJ_fn (j : Jn) (hj : j.ok) : Fn Tryz.prog 17 [jnA j] [] (vi .i64 (if okJ j then 0 else 200)) [] := by
  have f1 := wrong_fn j.p hj.p
  have f2 := containsP_fn false j.m (Nat.le_trans hj.m.1 (by decide)) hj.m.2
  unfold okJ
  have h8 : j.m.length < 9223372036854775808 := by have := hj.m.1; omega
  have e : decide ((j.m.length : Int) > 16) = !decide (j.m.length ≤ 16) := by
    by_cases h : j.m.length ≤ 16
    · rw [decide_eq_true h]; simp; omega
    · rw [decide_eq_false h]; simp; omega
  generalize decide (j.m.length ≤ 16) = q1 at *
  generalize okPt j.p = q2 at *
  generalize j.m.all okPt = q3 at *
  cases q1 <;> cases q2 <;> cases q3
  all_goals simp only [Bool.false_eq_true, if_true, if_false, Bool.and_true, Bool.and_false, Bool.false_and, Bool.not_false, Bool.not_true] at f1 f2 e ⊢
  all_goals (refine fn_of Tryz.func17 rfl (by rfl) ?_; simp only [Tryz.ntmps17, List.length_cons, List.length_nil, Nat.reduceAdd, Nat.reduceSub, List.replicate, List.cons_append, List.nil_append])
  all_goals (repeat (any_goals (first | ((with_reducible refine evL_one ?_ ?_); rfl; intro K hK; simp (disch := omega) only [go_sem, e]; ((repeat (refine ndI (by first | assumption | rfl) ?_)); refine hK _ ?_; clear hK K)) | (with_reducible first | (refine evL_nil ?_; refine hR _ ?_; clear hR R) | ((first | refine evC_seq ?_); intro Ψ hΨ hΨ') | (refine evC_region ?_; intro R hR) | (refine hΨ _ ?_; clear hΨ hΨ' Ψ) | refine evC_skip ?_ | refine evC_ret ?_) | ((with_reducible refine hΨ' _ _ ?_ ?_); (focus (simp; done)); clear hΨ hΨ' Ψ) | ((with_reducible apply evL_grd); rfl; rfl; rfl; all_goals (intro hb; first | (cases hb; done) | ((try simp only [Bool.not_true, Bool.not_false] at hb); (first | ((with_reducible intro K hK); (first | ((first | (apply opA_callB (f1); rfl; rfl; rfl; rfl; exact Tryz.func48) | (apply opA_callB (f2); rfl; rfl; rfl; rfl; exact Tryz.func50)); kernel_rfl; rfl; (simp (disch := omega) only [go_sem, e]; rfl); (first | simp [AV.inNL, AV.inN])) | skip); simp (disch := omega) only [go_sem, e]; ((repeat (refine ndI (by first | assumption | rfl) ?_)); refine hK _ ?_; clear hK K)) | ((fail_if_success (with_reducible intro _)); simp (disch := omega) only [go_sem, e]))))) | ((with_reducible apply evC_cond); rfl; rfl; all_goals (intro hc; first | (cases hc; done) | (try simp only at hc))))))
  all_goals (refine ⟨by simp, ⟨_, ?_, AV.le_refl _⟩, leH_get (by simp [leH, hget])⟩; simp only [Tryz.results17, resL, ldA, oneOf, go_sem])
instance decPt : DecidableEq Pt := fun x y => decidable_of_iff (x.w = y.w ∧ x.x = y.x) (by cases x; cases y; simp)
instance decJn : DecidableEq Jn := fun x y => decidable_of_iff (x.p = y.p ∧ x.m = y.m) (by cases x; cases y; simp)
theorem samep_fn (p q : Pt) (hp : p.ok) (hq : q.ok) : Fn Tryz.prog 54 [ptA p, ptA q] [] (vb (decide (p = q))) [] := by
  have f1 := samew_fn p.w q.w hp.w hq.w
  have f2 := ax.sameX_fn p.x q.x hp.x hp.f hq.x hq.f
  have e : decide (p = q) = (decide (p.w = q.w) && decide (p.x = q.x)) := by
    obtain ⟨a, b⟩ := p
    obtain ⟨a', b'⟩ := q
    by_cases h1 : a = a' <;> by_cases h2 : b = b' <;> simp [h1, h2]
  rw [e]
  generalize decide (p.w = q.w) = q1 at *
  generalize decide (p.x = q.x) = q2 at *
  cases q1 <;> cases q2
  all_goals (refine fn_of Tryz.func54 rfl (by rfl) ?_; simp only [Tryz.ntmps54, List.length_cons, List.length_nil, Nat.reduceAdd, Nat.reduceSub, List.replicate, List.cons_append, List.nil_append])
  all_goals (repeat (any_goals (first | ((with_reducible refine evL_call ?_ ?_ ?_); rfl; rfl; intro K hK; ((apply opA_callB (f1); rfl; rfl; rfl; rfl; exact Tryz.func20); kernel_rfl; rfl; (simp only [go_sem]; rfl); (first | simp [AV.inNL, AV.inN])); (simp only [go_sem]; refine hK _ ?_; clear hK K)) | ((with_reducible refine evL_one ?_ ?_); rfl; intro K hK; simp only [go_sem]; ((repeat (refine ndI (by first | assumption) ?_)); refine hK _ ?_; clear hK K)) | (with_reducible first | (refine evL_nil ?_; refine hR _ ?_; clear hR R) | ((first | refine evC_seq ?_); intro Ψ hΨ hΨ') | (refine evC_region ?_; intro R hR) | (refine hΨ _ ?_; clear hΨ hΨ' Ψ) | refine evC_ret ?_) | ((with_reducible apply evL_grd); rfl; rfl; rfl; all_goals (intro hb; first | (cases hb; done) | ((try simp only [Bool.not_true, Bool.not_false] at hb); (first | ((with_reducible intro K hK); (first | ((apply opA_callB (f2); rfl; rfl; rfl; rfl; exact Tryz.func94); kernel_rfl; rfl; (simp only [go_sem]; rfl); (first | simp [AV.inNL, AV.inN])) | skip); simp only [go_sem]; ((repeat (refine ndI (by first | assumption) ?_)); refine hK _ ?_; clear hK K)) | ((fail_if_success (with_reducible intro _)); simp only [go_sem]))))))))
  all_goals (refine ⟨by simp, ⟨_, ?_, AV.le_refl _⟩, leH_get (by simp [leH, hget])⟩; simp only [Tryz.results54, resL, ldA, oneOf, go_sem])
  all_goals rfl
theorem eqp_fn (l m : List Pt) (hl : l.length ≤ 1000) (hm : m.length ≤ 1000) (ol : ∀ p ∈ l, p.ok) (om : ∀ p ∈ m, p.ok) : Fn Tryz.prog 55 [psl false l, psl false m, .fn 54 []] [] (vb (decide (l = m))) [] := by
  have l8 : l.length < 9223372036854775808 := by omega
  have m8 : m.length < 9223372036854775808 := by omega
  obtain ⟨r, hr⟩ : ∃ r, decide (l = m) = r := ⟨_, rfl⟩
  rw [hr]
  by_cases hlen : l.length = m.length
  case neg =>
    have k0 : ((l.length : Int) != (m.length : Int)) = true := by simp; omega
    have : decide (l = m) = false := decide_eq_false fun h => hlen (by rw [h])
    rw [this] at hr
    (refine fn_of Tryz.func55 rfl (by rfl) ?_; simp only [Tryz.ntmps55, List.length_cons, List.length_nil, Nat.reduceAdd, Nat.reduceSub, List.replicate, List.cons_append, List.nil_append])
    (repeat (any_goals (first | ((with_reducible refine evL_one ?_ ?_); rfl; intro K hK; simp only [go_sem, k0]; ((repeat (refine ndI (by first | assumption) ?_)); refine hK _ ?_; clear hK K)) | (with_reducible first | (refine evL_nil ?_; refine hR _ ?_; clear hR R) | ((first | refine evC_seq ?_); intro Ψ hΨ hΨ') | (refine evC_region ?_; intro R hR) | (refine hΨ _ ?_; clear hΨ hΨ' Ψ) | refine evC_ret ?_) | ((with_reducible refine hΨ' _ _ ?_ ?_); (focus (simp; done)); clear hΨ hΨ' Ψ) | ((with_reducible apply evC_cond); rfl; rfl; all_goals (intro hc; first | (cases hc; done) | (try simp only at hc))))))
    all_goals (refine ⟨by simp, ⟨_, ?_, AV.le_refl _⟩, leH_get (by simp [leH, hget])⟩; simp only [Tryz.results55, resL, ldA, oneOf, go_sem])
    all_goals rw [← hr]
  have k0 : ((l.length : Int) != (m.length : Int)) = false := by simp; omega
  (refine fn_of Tryz.func55 rfl (by rfl) ?_; simp only [Tryz.ntmps55, List.length_cons, List.length_nil, Nat.reduceAdd, Nat.reduceSub, List.replicate, List.cons_append, List.nil_append])
  (repeat (any_goals (first | ((with_reducible refine evL_one ?_ ?_); rfl; intro K hK; simp only [go_sem, k0]; ((repeat (refine ndI (by first | assumption) ?_)); refine hK _ ?_; clear hK K)) | (with_reducible first | (refine evL_nil ?_; refine hR _ ?_; clear hR R) | ((first | refine evC_seq ?_ | refine evC_block ?_); intro Ψ hΨ hΨ') | (refine evC_region ?_; intro R hR) | (refine hΨ _ ?_; clear hΨ hΨ' Ψ) | refine evC_skip ?_) | ((with_reducible apply evC_cond); rfl; rfl; all_goals (intro hc; first | (cases hc; done) | (try simp only at hc))))))
  refine evC_loop (α := { i : Nat // i ≤ l.length ∧ l.take i = m.take i }) (fun p => ⟨[psl false l, psl false m, .fn 54 [], .any, .any, .any, .any, .any, .any, .any, .any, .any, .any, .any, .any, psl false l, vi .i64 l.length, vi .i64 p.1, .any, .any, .any, .any, .any, .any, .any, .any, .any, .any, .any, .any, .any, .any], []⟩) (fun p => l.length - p.1) ⟨0, Nat.zero_le _, rfl⟩ (St.le_of (by simp [leT]) (by simp [leH, hget])) ?_
  rintro ⟨i, hi, hno⟩ Ψ hΨ hΨ'
  dsimp only at hi hΨ ⊢
  rcases Nat.lt_or_ge i l.length with hlt | hge
  · obtain ⟨y, hy⟩ : ∃ y, l[i]? = some y := ⟨l[i], List.getElem?_eq_getElem hlt⟩
    obtain ⟨z, hz⟩ : ∃ y, m[i]? = some y := ⟨m[i]'(by omega), List.getElem?_eq_getElem (by omega)⟩
    have k1 : (decide ((i : Int) < (l.length : Int))) = true := by simpa using hlt
    have k2 := pt_at hy
    have k3 := pt_at hz
    have k7 : (i : Int) + 1 = ((i + 1 : Nat) : Int) := by omega
    have sm := samep_fn y z (ol y (List.mem_of_getElem? hy)) (om z (List.mem_of_getElem? hz))
    by_cases he : y = z
    · rw [decide_eq_true he] at sm
      (have W := ndI k1 (ndI k2 (ndI k3 (ndI k7 @wrI))); (repeat (any_goals (first | ((with_reducible refine evL_call ?_ ?_ ?_); rfl; rfl; intro K hK; ((apply opA_callB (sm); rfl; rfl; rfl; rfl; exact Tryz.func54); kernel_rfl; rfl; (simp (disch := omega) only [go_sem, W]; rfl); (first | simp [AV.inNL, AV.inN])); (simp (disch := omega) only [go_sem, W]; refine hK _ ?_; clear hK K)) | ((with_reducible refine evL_one ?_ ?_); rfl; intro K hK; simp (disch := omega) only [go_sem, W]; ((repeat (refine ndI (by first | assumption | omega | rfl) ?_)); refine hK _ ?_; clear hK K)) | (with_reducible first | (refine evL_nil ?_; refine hR _ ?_; clear hR R) | ((first | refine evC_seq ?_ | refine evC_block ?_); intro Ψ hΨ hΨ') | (refine evC_region ?_; intro R hR) | (refine hΨ _ ?_; clear hΨ hΨ' Ψ) | refine evC_skip ?_) | ((with_reducible refine hΨ' _ _ ?_ ?_); (focus (simp; done)); clear hΨ hΨ' Ψ) | ((with_reducible apply evC_cond); rfl; rfl; all_goals (intro hc; first | (cases hc; done) | (try simp only at hc)))))))
      refine hΨ _ ⟨i + 1, hlt, ?_⟩ (by simp only; omega) (St.le_of (by simp [leT]) (by simp [leH, hget]))
      rw [List.take_add_one, List.take_add_one, hno, hy, hz, he]
    · rw [decide_eq_false he] at sm
      have : decide (l = m) = false := decide_eq_false fun h => he (by rw [h, hz] at hy; exact (Option.some.inj hy).symm)
      rw [this] at hr
      (have W := ndI k1 (ndI k2 (ndI k3 (ndI k7 @wrI))); (repeat (any_goals (first | ((with_reducible refine evL_call ?_ ?_ ?_); rfl; rfl; intro K hK; ((apply opA_callB (sm); rfl; rfl; rfl; rfl; exact Tryz.func54); kernel_rfl; rfl; (simp (disch := omega) only [go_sem, W]; rfl); (first | simp [AV.inNL, AV.inN])); (simp (disch := omega) only [go_sem, W]; refine hK _ ?_; clear hK K)) | ((with_reducible refine evL_one ?_ ?_); rfl; intro K hK; simp (disch := omega) only [go_sem, W]; ((repeat (refine ndI (by first | assumption | omega | rfl) ?_)); refine hK _ ?_; clear hK K)) | (with_reducible first | (refine evL_nil ?_; refine hR _ ?_; clear hR R) | ((first | refine evC_seq ?_ | refine evC_block ?_); intro Ψ hΨ hΨ') | (refine evC_region ?_; intro R hR) | (refine hΨ _ ?_; clear hΨ hΨ' Ψ) | refine evC_skip ?_ | refine evC_ret ?_) | ((with_reducible refine hΨ' _ _ ?_ ?_); (focus (simp; done)); clear hΨ hΨ' Ψ) | ((with_reducible apply evC_cond); rfl; rfl; all_goals (intro hc; first | (cases hc; done) | (try simp only at hc)))))))
      all_goals (refine ⟨by simp, ⟨_, ?_, AV.le_refl _⟩, leH_get (by simp [leH, hget])⟩; simp only [Tryz.results55, resL, ldA, oneOf, go_sem])
      all_goals rw [← hr]
  · have k1 : (decide ((i : Int) < (l.length : Int))) = false := by simpa using hge
    have : decide (l = m) = true := decide_eq_true (by rw [List.take_of_length_le hge, List.take_of_length_le (by omega)] at hno; exact hno)
    rw [this] at hr
    (repeat (any_goals (first | ((with_reducible refine evL_one ?_ ?_); rfl; intro K hK; simp only [go_sem, k1]; ((repeat (refine ndI (by first | assumption) ?_)); refine hK _ ?_; clear hK K)) | (with_reducible first | (refine evL_nil ?_; refine hR _ ?_; clear hR R) | ((first | refine evC_seq ?_); intro Ψ hΨ hΨ') | (refine evC_region ?_; intro R hR) | (refine hΨ _ ?_; clear hΨ hΨ' Ψ) | refine evC_ret ?_ | refine evC_exit ?_) | ((with_reducible refine hΨ' _ _ ?_ ?_); (focus (simp; done)); clear hΨ hΨ' Ψ) | ((with_reducible apply evC_cond); rfl; rfl; all_goals (intro hc; first | (cases hc; done) | (try simp only at hc))))))
    all_goals (refine ⟨by simp, ⟨_, ?_, AV.le_refl _⟩, leH_get (by simp [leH, hget])⟩; simp only [Tryz.results55, resL, ldA, oneOf, go_sem])
    all_goals rw [← hr]
theorem sameJ_fn (j k : Jn) (hj : j.ok) (hk : k.ok) : Fn Tryz.prog 19 [jnA j, jnA k] [] (vb (decide (j = k))) [] := by
  have f1 := samep_fn j.p k.p hj.p hk.p
  have f2 := eqp_fn j.m k.m (Nat.le_trans hj.m.1 (by decide)) (Nat.le_trans hk.m.1 (by decide)) hj.m.2 hk.m.2
  have e : decide (j = k) = (decide (j.p = k.p) && decide (j.m = k.m)) := by
    obtain ⟨a, b⟩ := j
    obtain ⟨a', b'⟩ := k
    by_cases h1 : a = a' <;> by_cases h2 : b = b' <;> simp [h1, h2]
  rw [e]
  generalize decide (j.p = k.p) = q1 at *
  generalize decide (j.m = k.m) = q2 at *
  cases q1 <;> cases q2
  all_goals (refine fn_of Tryz.func19 rfl (by rfl) ?_; simp only [Tryz.ntmps19, List.length_cons, List.length_nil, Nat.reduceAdd, Nat.reduceSub, List.replicate, List.cons_append, List.nil_append])
  all_goals (repeat (any_goals (first | ((with_reducible refine evL_call ?_ ?_ ?_); rfl; rfl; intro K hK; ((apply opA_callB (f1); rfl; rfl; rfl; rfl; exact Tryz.func54); kernel_rfl; rfl; (simp only [go_sem]; rfl); (first | simp [AV.inNL, AV.inN])); (simp only [go_sem]; refine hK _ ?_; clear hK K)) | ((with_reducible refine evL_one ?_ ?_); rfl; intro K hK; simp only [go_sem]; ((repeat (refine ndI (by first | assumption) ?_)); refine hK _ ?_; clear hK K)) | (with_reducible first | (refine evL_nil ?_; refine hR _ ?_; clear hR R) | ((first | refine evC_seq ?_); intro Ψ hΨ hΨ') | (refine evC_region ?_; intro R hR) | (refine hΨ _ ?_; clear hΨ hΨ' Ψ) | refine evC_ret ?_) | ((with_reducible apply evL_grd); rfl; rfl; rfl; all_goals (intro hb; first | (cases hb; done) | ((try simp only [Bool.not_true, Bool.not_false] at hb); (first | ((with_reducible intro K hK); (first | ((apply opA_callB (f2); rfl; rfl; rfl; rfl; exact Tryz.func55); kernel_rfl; rfl; (simp only [go_sem]; rfl); (first | simp [AV.inNL, AV.inN])) | skip); simp only [go_sem]; ((repeat (refine ndI (by first | assumption) ?_)); refine hK _ ?_; clear hK K)) | ((fail_if_success (with_reducible intro _)); simp only [go_sem]))))))))
  all_goals (refine ⟨by simp, ⟨_, ?_, AV.le_refl _⟩, leH_get (by simp [leH, hget])⟩; simp only [Tryz.results19, resL, ldA, oneOf, go_sem])
  all_goals rfl
end Go.Proofs.YtmidmaeihpldhaaGreat
namespace Go.Proofs.YtmidmaeihpldhaaGreat.nz
open Go.RowKit
set_option maxRecDepth 20000
set_option maxHeartbeats 1000000
abbrev rcN (l : List N6) : List AV := (l.flatMap N6.pv).map .c
theorem rcN_len (l : List N6) : (rcN l).length = l.length * 6 := by rw [List.length_map, flat_length pv_len]
end Go.Proofs.YtmidmaeihpldhaaGreat.nz
namespace Go.Proofs.YtmidmaeihpldhaaGreat.nz
open Go.RowKit
open Nat (reduceBEq)
set_option maxRecDepth 20000
set_option maxHeartbeats 1000000
theorem cloneN_fn (ex : Bool) (l : List N6) (hl : l.length ≤ 1000000) : Fn Tryz.prog 33 [nsl ex l] [] (.row 7 89 6 l.length) [(7, rcN l)] := by
  have e1 := rcN_len l
  (refine fn_of Tryz.func33 rfl (by rfl) ?_; simp only [Tryz.ntmps33, List.length_cons, List.length_nil, Nat.reduceAdd, Nat.reduceSub, List.replicate, List.cons_append, List.nil_append])
  (repeat (any_goals (first | ((have hz0 := hb0 hc); (with_reducible refine evL_op ?_ ?_); rfl; intro K hK; refine OpA.nilrow_after 2 7 89 6 (evO_sound ?_); (simp (disch := omega) only [go_sem, e1, refsL_map]); (repeat (refine And.intro (by first | assumption | rfl) ?_)); refine hK _ ?_; clear hK K; clear hb0) | ((with_reducible refine evL_one ?_ ?_); rfl; intro K hK; simp (disch := omega) only [go_sem, e1, refsL_map]; ((repeat (refine ndI (by first | assumption | omega | rfl) ?_)); refine hK _ ?_; clear hK K)) | ((with_reducible refine evL_one ?_ ?_); rfl; intro K hK; refine evO_isnil rfl rfl (by first | exact .inl rfl) ?_ rfl ?_; (focus (simp (disch := omega) only [go_sem]; try rfl)); (intro b hb0; simp (disch := omega) only [eq_self, go_sem, e1, refsL_map]; (with_reducible refine hK _ ?_); clear hK K)) | (with_reducible first | (refine evL_nil ?_; refine hR _ ?_; clear hR R) | ((first | refine evC_seq ?_); intro Ψ hΨ hΨ') | (refine evC_region ?_; intro R hR) | (refine hΨ _ ?_; clear hΨ hΨ' Ψ) | refine evC_skip ?_ | refine evC_ret ?_) | ((with_reducible refine hΨ' _ _ ?_ ?_); (focus (simp; done)); clear hΨ hΨ' Ψ) | ((with_reducible apply evC_cond); rfl; rfl; all_goals (intro hc; first | (try simp only at hc))))))
  all_goals (try (obtain rfl := List.eq_nil_of_length_eq_zero hz0))
  all_goals exact ⟨by simp, ⟨_, rfl, AV.le_refl _⟩, leH_get (by simp [leH, hget])⟩
end Go.Proofs.YtmidmaeihpldhaaGreat.nz
namespace Go.Proofs.YtmidmaeihpldhaaGreat
open Go.RowKit
set_option maxRecDepth 20000
set_option maxHeartbeats 4000000
theorem take_min {α : Type} (l : List α) (k : Nat) : l.take (min l.length k) = l.take k := by
  rw [List.take_eq_take_iff, Nat.min_comm l.length k, Nat.min_assoc, Nat.min_self]
theorem cloneBv (ex : Bool) (l : List Nat) (hl : l.length ≤ 1000000) : Fn Tryz.prog 30 [.c (.sl ex 1 l.length (l.flatMap bpv))] [] (.c (bsV l)) [] := by
  have k := (cloneB_fn ex l hl).frzN (d := 7) (pcs := l.flatMap bpv) rfl
  have e1 : (l.flatMap bpv).length = l.length * 1 := flat_length bpv_len _
  simpa [-List.length_flatMap, e1, AV.frz, AV.frzL, frzH] using k
theorem clonePv (ex : Bool) (l : List Pr) (hl : l.length ≤ 1000000) : Fn Tryz.prog 31 [.c (.sl ex 8 l.length (l.flatMap Pr.pv))] [] (.c (psV l)) [] := by
  have k := (cloneP_fn ex l hl).frzN (d := 7) (pcs := l.flatMap Pr.pv) rfl
  have e1 : (l.flatMap Pr.pv).length = l.length * 8 := flat_length pr_len _
  simpa [-List.length_flatMap, e1, AV.frz, AV.frzL, frzH] using k
theorem cloneHv (ex : Bool) (l : List lg.Hd) (hl : l.length ≤ 100) : Fn Tryz.prog 32 [.c (.sl ex 11 l.length (l.flatMap lg.Hd.pv))] [] (.c (hdV l)) [] := by
  have k := (lg.cloneH_fn ex l (by omega)).frzN (d := 7) (pcs := l.flatMap lg.Hd.pv) rfl
  have e1 : (l.flatMap lg.Hd.pv).length = l.length * 11 := flat_length lg.hd_len _
  simpa [-List.length_flatMap, e1, AV.frz, AV.frzL, frzH] using k
theorem cloneNv (ex : Bool) (l : List nz.N6) (hl : l.length ≤ 100) : Fn Tryz.prog 33 [.c (.sl ex 6 l.length (l.flatMap nz.N6.pv))] [] (.c (noV l)) [] := by
  have k := (nz.cloneN_fn ex l (by omega)).frzN (d := 7) (pcs := l.flatMap nz.N6.pv) rfl
  have e1 : (l.flatMap nz.N6.pv).length = l.length * 6 := flat_length nz.pv_len _
  simpa [-List.length_flatMap, e1, AV.frz, AV.frzL, frzH] using k
def cutA (x : Ac) : Ac := ⟨x.a, x.b, x.n, x.code.take 300, x.store.take 40⟩
def cutW (w : Wl) : Wl := ⟨(w.S.take 45).map cutA, w.L.take 40, w.N.take 70⟩
structure Wl.raw (w : Wl) : Prop where
  s : w.S.length ≤ maxLen ∧ ∀ x ∈ w.S, x.ok
  l : w.L.length ≤ maxLen ∧ ∀ h ∈ w.L, h.ok
  n : w.N.length ≤ maxLen ∧ ∀ x ∈ w.N, x.ok
theorem cutW_ok {w : Wl} (h : w.raw) : (cutW w).ok := by
  refine ⟨⟨?_, fun y hy => ?_⟩, ⟨?_, fun y hy => h.l.2 y (List.mem_of_mem_take hy)⟩, ⟨?_, fun y hy => h.n.2 y (List.mem_of_mem_take hy)⟩⟩
  · show ((w.S.take 45).map cutA).length ≤ 45
    rw [List.length_map, List.length_take]; omega
  · obtain ⟨x, hx, rfl⟩ := List.mem_map.1 hy
    obtain ⟨u1, u2, u3, ⟨u4, u5⟩, u6, u7⟩ := h.s.2 x (List.mem_of_mem_take hx)
    refine ⟨⟨u1, u2, u3, ⟨?_, fun c hc => u5 c (List.mem_of_mem_take hc)⟩, ?_, fun p hp => u7 p (List.mem_of_mem_take hp)⟩, ?_, ?_⟩
    · show (x.code.take 300).length ≤ maxLen; rw [List.length_take]; omega
    · show (x.store.take 40).length ≤ maxLen; rw [List.length_take]; omega
    · show (x.code.take 300).length ≤ 300; rw [List.length_take]; omega
    · show (x.store.take 40).length ≤ 40; rw [List.length_take]; omega
  · show (w.L.take 40).length ≤ 40; rw [List.length_take]; omega
  · show (w.N.take 70).length ≤ 70; rw [List.length_take]; omega
theorem min_if (n k : Nat) : (if (k : Int) < (n : Int) then (k : Int) else (n : Int)) = ((min n k : Nat) : Int) := by split <;> omega
theorem rcS_mid (A B : List Ac) (y : Ac) : rcS (A ++ y :: B) = rcS A ++ ([vi .u64 y.a, vi .u64 (l0 y.b), vi .u64 (l1 y.b), vi .u64 (l2 y.b), vi .u64 (l3 y.b), vi .u64 y.n, .c (bsV y.code), .c (psV y.store)] ++ rcS B) := by simp [rcS, Ac.pv]
theorem acell {A B : List Ac} {y : Ac} {k : Nat} (hA : A.length = k) : (rcS (A ++ y :: B))[k * 8 + 6]? = some (.c (bsV y.code)) ∧ (rcS (A ++ y :: B))[k * 8 + 7]? = some (.c (psV y.store)) := by
  have hl := rcS_len A
  rw [hA] at hl
  rw [rcS_mid]
  constructor
  · rw [List.getElem?_append_right (by omega), hl, show k * 8 + 6 - k * 8 = 6 by omega]; rfl
  · rw [List.getElem?_append_right (by omega), hl, show k * 8 + 7 - k * 8 = 7 by omega]; rfl
theorem spl_code {A B : List Ac} {y : Ac} {k : Nat} (hA : A.length = k) (c : List Nat) : spl (rcS (A ++ y :: B)) (k * 8 + 6) [.c (bsV c)] = rcS (A ++ ⟨y.a, y.b, y.n, c, y.store⟩ :: B) := by
  have hl := rcS_len A
  rw [hA] at hl
  rw [rcS_mid, rcS_mid]
  generalize rcS A = X at hl
  unfold spl
  rw [List.take_append, List.drop_append]
  simp [hl, List.take_of_length_le, show k * 8 + 6 - k * 8 = 6 by omega, show k * 8 + 6 + 1 - k * 8 = 7 by omega, show X.length ≤ k * 8 + 6 by omega, List.drop_eq_nil_of_le, show k * 8 ≤ k * 8 + 6 + 1 by omega]
theorem spl_store {A B : List Ac} {y : Ac} {k : Nat} (hA : A.length = k) (s : List Pr) : spl (rcS (A ++ y :: B)) (k * 8 + 7) [.c (psV s)] = rcS (A ++ ⟨y.a, y.b, y.n, y.code, s⟩ :: B) := by
  have hl := rcS_len A
  rw [hA] at hl
  rw [rcS_mid, rcS_mid]
  generalize rcS A = X at hl
  unfold spl
  rw [List.take_append, List.drop_append]
  simp [hl, List.take_of_length_le, show k * 8 + 7 - k * 8 = 7 by omega, show k * 8 + 7 + 1 - k * 8 = 8 by omega, show X.length ≤ k * 8 + 7 by omega, List.drop_eq_nil_of_le, show k * 8 ≤ k * 8 + 7 + 1 by omega]
end Go.Proofs.YtmidmaeihpldhaaGreat
namespace Go.Proofs.YtmidmaeihpldhaaGreat
open Go.RowKit
open Nat (reduceBEq)
set_option maxRecDepth 20000
set_option maxHeartbeats 4000000
theorem own_row (p : Pt) (hp : p.ok) : Fn Tryz.prog 63 [ptA p] [] (.agg [.row 15 76 8 p.w.S.length, .c (hdV p.w.L), .c (noV p.w.N), .c (adV p.x.ad), .c (spV p.x.sp), .c (pgV p.x.pg)]) [(15, rcS p.w.S)] := by
  obtain ⟨⟨S, L, N⟩, ⟨ad, sp, pg⟩⟩ := p
  obtain ⟨⟨⟨hs, os⟩, ⟨hl, ol⟩, ⟨hn, on'⟩⟩, hx, ⟨f1, f2, f3⟩⟩ := hp
  dsimp only at hs os hl ol hn on' f1 f2 f3
  have c1 := cloneA_fn false S (by omega)
  have c4 := cloneHv false L (by omega)
  have c5 := cloneNv false N (by omega)
  have c6 := ax.cloneA_val false ad (by omega)
  have c7 := ax.cloneS_val false sp (by omega)
  have c8 := ax.cloneP_val false pg (by omega)
  have r1 : ∀ d, AV.refsL d (rcS S) = false := fun d => refsL_map d _
  have r2 : ∀ r, AV.renL r (rcS S) = rcS S := fun r => renL_map r _
  have r3 : ∀ r, AV.inNL r (rcS S) = true := fun r => inNL_map r _
  have r4 := rcS_len S
  show Fn Tryz.prog 63 [ptA ⟨⟨S, L, N⟩, ⟨ad, sp, pg⟩⟩] [] (.agg [.row 15 76 8 S.length, .c (hdV L), .c (noV N), .c (adV ad), .c (spV sp), .c (pgV pg)]) [(15, rcS S)]
  (refine fn_of Tryz.func63 rfl (by rfl) ?_; simp only [Tryz.ntmps63, List.length_cons, List.length_nil, Nat.reduceAdd, Nat.reduceSub, List.replicate, List.cons_append, List.nil_append])
  (have W := ndI r1 (ndI r2 (ndI r3 r4)); (repeat (any_goals (first | ((with_reducible refine evL_call ?_ ?_ ?_); rfl; rfl; intro K hK; (apply opA_callR (c1) (fun r => 15); rfl; rfl; rfl; rfl; exact Tryz.func29; kernel_rfl; rfl; rfl; (intro r hr q hq h; simp (disch := omega) only [List.map_cons, List.map_nil, List.cons_append, List.nil_append, List.mem_cons, List.not_mem_nil, or_false] at hr hq; (try dsimp only at h); first | omega); (simp (disch := omega) only [argsOk, argOk, AV.ren, AV.renL, renL_map, List.mem_cons, List.not_mem_nil, forall_eq_or_imp, forall_eq, newOk, List.contains_cons, List.contains_nil, AV.refsL, AV.refs, refsL_map, AV.inN, AV.inNL, inH, inNL_map, go_sem, W])); (simp (disch := omega) only [hputs, hdels, renH, AV.ren, AV.renL, renL_map, go_sem, W]; refine hK _ ?_; clear hK K)) | ((with_reducible refine evL_one ?_ ?_); rfl; intro K hK; simp (disch := omega) only [go_sem, W]; ((repeat (refine ndI (by first | assumption | rfl) ?_)); refine hK _ ?_; clear hK K)) | (with_reducible first | (refine evL_nil ?_; refine hR _ ?_; clear hR R) | ((first | refine evC_seq ?_ | refine evC_block ?_); intro Ψ hΨ hΨ') | (refine evC_region ?_; intro R hR) | (refine hΨ _ ?_; clear hΨ hΨ' Ψ))))))
  refine evC_upto S.length (fun i => ⟨[.any, .ptr 1 0, .ptr 2 0, .ptr 1 0, .ptr 1 3, .any, .any, .any, .any, .any, .any, .any, .any, .any, .any, .any, .any, .any, .any, .any, .any, .any, .any, .any, vi .i64 S.length, vi .i64 (i : Int), .any, .any, .any, .any, .any, .any, .any, .any, .any, .any, .any, .any, .any, .any, .any, .any, .any, .any, .any, .any, .any, .any, .any, .any, .any, .any, .any, .any, .any, .any, .any, .any, .any, .any, .any, .any, .any, .any, .any, .any, .any, .any, .any, .any, .any, .any, .any, .any, .any, .any, .any, .any, .any, .any, .any, .any, .any, .any, .any, .any, .any, .any, .any, .any, .any, .any, .any, .any, .any], [(1, [.row 15 76 8 S.length, .c (hdV L), .c (noV N), .c (adV ad), .c (spV sp), .c (pgV pg)]), (2, [.c (.v (.slice none 0 0)), .c (.v (.slice none 0 0)), .c (.v (.slice none 0 0)), .c (.v (.slice none 0 0)), .c (.v (.slice none 0 0)), .c (.v (.slice none 0 0))]), (15, rcS S)]⟩) (St.le_of (by simp [leT]) (by simp [leH, hget])) ?_
  intro i hi Ψ hΨ hΨ'
  (try dsimp only at hΨ ⊢)
  have k8 : S.length < 9223372036854775808 := by omega
  rcases Nat.lt_or_ge i S.length with hlt | hge
  · obtain ⟨y, hy⟩ : ∃ x, S[i]? = some x := ⟨_, List.getElem?_eq_getElem hlt⟩
    have k1 : (decide ((i : Int) < (S.length : Int))) = true := decide_eq_true (by omega)
    have k7 : (i : Int) + 1 = ((i + 1 : Nat) : Int) := by omega
    have hA : (S.take i).length = i := by rw [List.length_take]; omega
    have d1 : S = S.take i ++ y :: S.drop (i + 1) := by
      have h1 : S.drop i = y :: S.drop (i + 1) := by
        rw [List.drop_eq_getElem_cons hlt]
        congr 1
        exact (List.getElem?_eq_some_iff.1 hy).2
      rw [← h1, List.take_append_drop]
    have yo := os y (List.mem_of_getElem? hy)
    have y8 : y.code.length < 9223372036854775808 := by have := yo.2.1; omega
    have z8 : y.store.length < 9223372036854775808 := by have := yo.2.2; omega
    have b1 := cloneBv false y.code (by have := yo.2.1; omega)
    have b2 := clonePv false y.store (by have := yo.2.2; omega)
    obtain ⟨u1, u2⟩ := acell (B := S.drop (i + 1)) (y := y) hA
    have u3 := spl_code (B := S.drop (i + 1)) (y := y) hA y.code
    have u4 := spl_store (B := S.drop (i + 1)) (y := y) hA y.store
    rw [show (⟨y.a, y.b, y.n, y.code, y.store⟩ : Ac) = y from rfl, ← d1] at u3 u4
    rw [← d1] at u1 u2
    have v1 : i * 8 + 8 ≤ (rcS S).length := by rw [r4]; omega
    (have W := ndI k1 (ndI k7 (ndI u1 (ndI u2 (ndI u3 (ndI u4 (ndI r1 @wrI)))))); (repeat (any_goals (first | ((with_reducible refine evL_one ?_ ?_); rfl; intro K hK; simp (disch := omega) only [go_sem, W, Nat.mul_one]; ((repeat (refine ndI (by first | assumption | omega | rfl) ?_)); refine hK _ ?_; clear hK K)) | (with_reducible first | (refine evL_nil ?_; refine hR _ ?_; clear hR R) | ((first | refine evC_seq ?_ | refine evC_block ?_); intro Ψ hΨ hΨ') | (refine evC_region ?_; intro R hR) | (refine hΨ _ ?_; clear hΨ hΨ' Ψ) | refine evC_skip ?_) | ((with_reducible refine hΨ' _ _ ?_ ?_); (focus (simp; done)); clear hΨ hΨ' Ψ) | ((with_reducible apply evC_cond); rfl; rfl; all_goals (intro hc; first | (cases hc; done) | (try simp only at hc))) | ((with_reducible refine evD_nil ?_ ?_); (apply drawOK_sim); (focus (repeat (first | exact Sims.nil | ((apply Sims.cons); (focus (first | ((apply Ef.sim_row); assumption) | exact Ef.sim_refl _)))))); kernel_rfl; (with_reducible refine hR _ ?_); clear hR R) | ((first | ((with_reducible apply evD_fcall); rfl; rfl; ((first | (apply opF_callB (b1); rfl; rfl; rfl; rfl; exact Tryz.func30) | (apply opF_callB (b2); rfl; rfl; rfl; rfl; exact Tryz.func31)); kernel_rfl; rfl; (simp (disch := omega) only [go_sem, W, Nat.mul_one]; rfl); (first | simp [AV.inNL, AV.inN]))) | ((with_reducible apply evD_any); rfl; rfl; (simp (disch := omega) only [rdE, rdOf, go_sem, W, Nat.mul_one]; rfl); (intro τ hA hQ hN; ((try simp only [agree, Op.operands, Call.operands, go_sem, W, Nat.mul_one, go_sem, List.mem_cons, List.not_mem_nil, forall_eq_or_imp, forall_eq, List.append_toArray, Option.toArray] at hA); (try simp only [go_sem, W, Nat.mul_one, List.mem_cons, List.not_mem_nil, forall_eq_or_imp, forall_eq] at hQ hN); (first | (revert hA; intro hA)); (first | (revert hQ; intro hQ)); (first | (revert hN; intro hN)); simp (disch := omega) only [go_sem, W, Nat.mul_one, go_sem, hA, hQ, hN]; (repeat (refine ndI (by first | assumption | omega | rfl) ?_)); (first | apply eff_rd | apply eff_st))))); (simp (disch := omega) only [St.eff, setO, hputs, go_sem, W, Nat.mul_one])) | ((with_reducible refine evC_draw ?_ ?_ ?_ ?_); kernel_rfl; kernel_rfl; (simp [newNames, isNew, St.free, freeH, AV.refsL, AV.refs, r1]); intro R hR)))))
    all_goals exact hΨ _ hlt (St.le_of (by simp [leT]) (by simp [leH, hget]))
  · have k1 : (decide ((i : Int) < (S.length : Int))) = false := decide_eq_false (by omega)
    (repeat (any_goals (first | ((with_reducible refine evL_one ?_ ?_); rfl; intro K hK; simp only [go_sem, k1, r1]; ((repeat (refine ndI (by first | assumption) ?_)); refine hK _ ?_; clear hK K)) | (with_reducible first | (refine evL_nil ?_; refine hR _ ?_; clear hR R) | ((first | refine evC_seq ?_); intro Ψ hΨ hΨ') | (refine evC_region ?_; intro R hR) | (refine hΨ _ ?_; clear hΨ hΨ' Ψ) | refine evC_ret ?_ | refine evC_exit ?_) | ((with_reducible refine hΨ' _ _ ?_ ?_); (focus (simp; done)); clear hΨ hΨ' Ψ) | ((with_reducible apply evC_cond); rfl; rfl; all_goals (intro hc; first | (cases hc; done) | (try simp only at hc))) | ((with_reducible refine evD_nil ?_ ?_); (apply drawOK_sim); (focus (repeat (first | exact Sims.nil | ((apply Sims.cons); (focus (first | exact Ef.sim_refl _)))))); kernel_rfl; (with_reducible refine hR _ ?_); clear hR R) | ((first | ((with_reducible apply evD_fcall); rfl; rfl; ((first | (apply opF_callB (c4); rfl; rfl; rfl; rfl; exact Tryz.func32) | (apply opF_callB (c5); rfl; rfl; rfl; rfl; exact Tryz.func33) | (apply opF_callB (c6); rfl; rfl; rfl; rfl; exact Tryz.func15) | (apply opF_callB (c7); rfl; rfl; rfl; rfl; exact Tryz.func34) | (apply opF_callB (c8); rfl; rfl; rfl; rfl; exact Tryz.func35)); kernel_rfl; rfl; (simp only [go_sem, k1, r1]; rfl); (first | simp [AV.inNL, AV.inN]))) | ((with_reducible apply evD_any); rfl; rfl; (simp only [rdE, rdOf, go_sem, k1, r1]; rfl); (intro τ hA hQ hN; ((try simp only [agree, Op.operands, Call.operands, go_sem, k1, r1, go_sem, List.mem_cons, List.not_mem_nil, forall_eq_or_imp, forall_eq, List.append_toArray, Option.toArray] at hA); (try simp only [go_sem, k1, r1, List.mem_cons, List.not_mem_nil, forall_eq_or_imp, forall_eq] at hQ hN); (first | (revert hA; intro hA)); (first | (revert hQ; intro hQ)); (first | (revert hN; intro hN)); simp only [go_sem, k1, r1, go_sem, hA, hQ, hN]; (repeat (refine ndI (by first | assumption) ?_)); (first | apply eff_rd | apply eff_st))))); (simp only [St.eff, setO, hputs, go_sem, k1, r1])) | ((with_reducible refine evC_draw ?_ ?_ ?_ ?_); kernel_rfl; kernel_rfl; (simp [newNames, isNew, St.free, freeH, AV.refsL, AV.refs, r1]); intro R hR))))
    all_goals (refine ⟨by simp, ⟨_, ?_, AV.le_refl _⟩, leH_get (by simp [leH, hget])⟩; simp only [Tryz.results63, resL, ldA, oneOf, go_sem])
theorem own_fn (p : Pt) (hp : p.ok) : Fn Tryz.prog 63 [ptA p] [] (ptA p) [] := by
  have k := (own_row p hp).frzN (d := 15) (pcs := p.w.S.flatMap Ac.pv) rfl
  have e1 : (p.w.S.flatMap Ac.pv).length = p.w.S.length * 8 := flat_length ac_len _
  simpa [-List.length_flatMap, e1, AV.frz, AV.frzL, frzH, acV, vi] using k
end Go.Proofs.YtmidmaeihpldhaaGreat
namespace Go.Proofs.YtmidmaeihpldhaaGreat
open Go.RowKit
open Nat (reduceBEq)
set_option maxRecDepth 20000
set_option maxHeartbeats 4000000
def nilW : Wl := ⟨[], [], []⟩
def nilJ : Jn := ⟨⟨nilW, ⟨[], [], []⟩⟩, []⟩
abbrev jc (j : Jn) : List AV := [.c (acV j.p.w.S), .c (hdV j.p.w.L), .c (noV j.p.w.N), .c (adV j.p.x.ad), .c (spV j.p.x.sp), .c (pgV j.p.x.pg), .c (ptV j.m)]
abbrev nilC : AV := .c (.v (.slice none 0 0))
abbrev nil7 : List AV := [nilC, nilC, nilC, nilC, nilC, nilC, nilC]
abbrev resJ (r : Jn × Int) : AV := .tup [jnA r.1, vi .i64 r.2]
theorem nil7_le : (AV.agg nil7).le (jnA nilJ) := AV.le_agg ⟨AV.le_nil _ _, AV.le_nil _ _, AV.le_nil _ _, AV.le_nil _ _, AV.le_nil _ _, AV.le_nil _ _, AV.le_nil _ _, trivial⟩
theorem nilRJ (e : Int) : (AV.tup [.agg nil7, vi .i64 e]).le (resJ (nilJ, e)) := AV.le_tupL ⟨nil7_le, AV.le_refl _, trivial⟩
def rcT (l : List Pt) : List AV := (l.flatMap Pt.pv).map .c
theorem rcT_len (l : List Pt) : (rcT l).length = l.length * 6 := by unfold rcT; rw [List.length_map, flat_length pt_len]
theorem refsL_rcT (d : Nat) (l : List Pt) : AV.refsL d (rcT l) = false := by unfold rcT; exact refsL_map _ _
theorem rcT_app (l : List Pt) (x : Pt) : rcT (l ++ [x]) = rcT l ++ (x.pv).map .c := by
  unfold rcT; rw [List.flatMap_append, List.map_append, List.flatMap_cons, List.flatMap_nil, List.append_nil]
abbrev stTA (k : Jn) (X X' : List AV) (r : Nat) (out : List Pt) (i : Int) : St := ⟨[.any, .any, .any, .any, .ptr 4 0, .any, .any, .any, .ptr 8 0, .any, .any, .any, .any, .any, .any, .any, .any, .any, .any, .any, .any, .any, .any, .any, .any, .any, .any, .any, .any, .any, .any, .any, .any, .any, .any, .any, .any, .any, .c (ptV k.m), vi .i64 k.m.length, vi .i64 i, .any, .any, .any, .any, .any, .any, .any, .any, .any, .any, .any, .any], [(1001, X'), (4, nil7), (8, [.c (acV k.p.w.S), .c (hdV k.p.w.L), .c (noV k.p.w.N), .c (adV k.p.x.ad), .c (spV k.p.x.sp), .c (pgV k.p.x.pg), .row r 37 6 out.length]), (r, rcT out)]⟩
theorem stTA_rn (k : Jn) (X X' : List AV) (hrx : ∀ d, AV.refsL d X = false) (hnx : ∀ ρ, AV.renL ρ X = X) (hix : ∀ N, AV.inNL N X = true) (hrxp : ∀ d, AV.refsL d X' = false) (hnxp : ∀ ρ, AV.renL ρ X' = X') (hixp : ∀ N, AV.inNL N X' = true) (out : List Pt) (i : Int) : (stTA k X X' 49 out i).to (stTA k X X' 500 out i) := by
  have h := St.to.rn (σ := stTA k X X' 49 out i) (fun r => if r = 49 then 500 else r) (fun r => if r = 500 then 49 else r) [1001, 4, 8, 49] (by simp [AV.inNL, AV.inN]) (by simp) (by simp [inH, AV.inNL, AV.inN, rcT, hrx, hrxp, hnx, hnxp, hix, hixp]) (by simp) (by simp)
  simpa [AV.renL, AV.ren, renH, rcT, stTA, hrx, hrxp, hnx, hnxp, hix, hixp] using h
theorem turnA_row (j : Jn) (hj : j.ok) {f : FuncId} {fn : Func} (hg1 : Tryz.prog.funcs[f]? = some fn) (hg2 : (fn.name == "runtime.NumGoroutine") = false) (hg3 : fn.body.isNone = false) (X X' : List AV) (hrx : ∀ d, AV.refsL d X = false) (hnx : ∀ ρ, AV.renL ρ X = X) (hix : ∀ N, AV.inNL N X = true) (hrxp : ∀ d, AV.refsL d X' = false) (hnxp : ∀ ρ, AV.renL ρ X' = X') (hixp : ∀ N, AV.inNL N X' = true) (k : Jn) (hk : k.ok) (hc : okJ j = true)
    (D : Fn Tryz.prog f [.ptr 1000 0, .ptr 1001 0] [(1000, jc j), (1001, X)] (vi .i64 0) [(1000, jc k), (1001, X')]) :
    Fn Tryz.prog 65 [jnA j, .fn f [.ptr 1001 0]] [(1001, X)] (.tup [.agg [.c (acV k.p.w.S), .c (hdV k.p.w.L), .c (noV k.p.w.N), .c (adV k.p.x.ad), .c (spV k.p.x.sp), .c (pgV k.p.x.pg), .row 500 37 6 k.m.length], vi .i64 0]) [(1001, X'), (500, rcT k.m)] := by
  have ck := checkJ_fn j hj
  rw [hc, if_pos rfl] at ck
  have ow := own_fn k.p hk.p
  have k8 : k.m.length < 9223372036854775808 := by have := hk.m.1; omega
  (refine fn_of Tryz.func65 rfl (by rfl) ?_; simp only [Tryz.ntmps65, List.length_cons, List.length_nil, Nat.reduceAdd, Nat.reduceSub, List.replicate, List.cons_append, List.nil_append])
  (repeat (any_goals (first | ((with_reducible refine evL_call ?_ ?_ ?_); rfl; rfl; intro K hK; (first | ((first | (apply opA_callB (ck); rfl; rfl; rfl; rfl; exact Tryz.func17) | (apply opA_callB (ow); rfl; rfl; rfl; rfl; exact Tryz.func63)); kernel_rfl; rfl; (simp only [go_sem, hrx, hrxp, hnx, hnxp, hix, hixp]; rfl); (first | simp [AV.inNL, AV.inN])) | (apply opA_callR (D) (fun r => if r = 1000 then 19 else r); rfl; rfl; rfl; rfl; exact hg1; exact hg2; exact hg3; rfl; (intro r hr q hq h; simp only [List.map_cons, List.map_nil, List.cons_append, List.nil_append, List.mem_cons, List.not_mem_nil, or_false] at hr hq; (try dsimp only at h); first | ((repeat' split at h) <;> omega)); (simp only [argsOk, argOk, AV.ren, AV.renL, renL_map, List.mem_cons, List.not_mem_nil, forall_eq_or_imp, forall_eq, newOk, List.contains_cons, List.contains_nil, AV.refsL, AV.refs, refsL_map, AV.inN, AV.inNL, inH, inNL_map, go_sem, hrx, hrxp, hnx, hnxp, hix, hixp]))); (simp only [hputs, hdels, renH, AV.ren, AV.renL, renL_map, go_sem, hrx, hrxp, hnx, hnxp, hix, hixp]; refine hK _ ?_; clear hK K)) | ((with_reducible refine evL_one ?_ ?_); rfl; intro K hK; simp only [go_sem, hrx, hrxp, hnx, hnxp, hix, hixp]; ((repeat (refine ndI (by first | assumption | rfl) ?_)); refine hK _ ?_; clear hK K)) | (with_reducible first | (refine evL_nil ?_; refine hR _ ?_; clear hR R) | ((first | refine evC_seq ?_ | refine evC_block ?_); intro Ψ hΨ hΨ') | (refine evC_region ?_; intro R hR) | (refine hΨ _ ?_; clear hΨ hΨ' Ψ) | refine evC_skip ?_) | ((with_reducible apply evC_cond); rfl; rfl; all_goals (intro hc; first | (cases hc; done) | (try simp only at hc))))))
  refine evC_uptoT k.m.length (fun i => stTA k X X' 500 (k.m.take i) (i : Int)) ?_ ?_
  · refine St.to.trans (St.to.nilcell 8 500 37 6 6 (by simp [hget]; rfl) rfl (by simp [St.free, freeH, AV.refsL, AV.refs, hrx, hrxp]) (by decide) (by decide)) (St.to.of_le (St.le_of (by simp [leT]) (by simp [leH, hget, hput, rcT])))
  intro i hi Ψ hΨ hΨ'
  (try dsimp only at hΨ ⊢)
  rcases Nat.lt_or_ge i k.m.length with hlt | hge
  · obtain ⟨x, hx⟩ : ∃ x, k.m[i]? = some x := ⟨_, List.getElem?_eq_getElem hlt⟩
    have k1 : (decide ((i : Int) < (k.m.length : Int))) = true := decide_eq_true (by omega)
    have k2 := pt_at hx
    have k7 : (i : Int) + 1 = ((i + 1 : Nat) : Int) := by omega
    have ho := own_fn x (hk.m.2 x (List.mem_of_getElem? hx))
    have hs : k.m.take (i + 1) = k.m.take i ++ [x] := by rw [List.take_add_one, hx]; rfl
    rw [hs] at hΨ
    have hol : (k.m.take i).length ≤ 100 := by rw [List.length_take]; have := hk.m.1; omega
    generalize k.m.take i = out at hΨ hol ⊢
    (have W := ndI k1 (ndI k2 k7); (repeat (any_goals (first | ((with_reducible refine evL_one ?_ ?_); rfl; intro K hK; simp only [go_sem, W, refsL_rcT, hrx, hrxp]; ((repeat (refine ndI (by first | assumption | omega) ?_)); refine hK _ ?_; clear hK K)) | (with_reducible first | (refine evL_nil ?_; refine hR _ ?_; clear hR R) | ((first | refine evC_seq ?_ | refine evC_block ?_); intro Ψ hΨ hΨ') | (refine evC_region ?_; intro R hR) | (refine hΨ _ ?_; clear hΨ hΨ' Ψ) | refine evC_skip ?_) | ((with_reducible apply evC_cond); rfl; rfl; all_goals (intro hc; first | (cases hc; done) | (try simp only at hc)))))))
    refine evC_draw_at 5 (by decide) (by kernel_rfl) (by kernel_rfl) (by kernel_rfl) (by kernel_rfl) (by simp [newNames, isNew, St.free, freeH, AV.refsL, AV.refs, refsL_rcT, hrx, hrxp]) ?_
    intro R hR
    simp only [List.take_succ_cons, List.take_zero, List.drop_succ_cons, List.drop_zero] at hR ⊢
    (have W := ndI k1 (ndI k2 k7); (repeat (any_goals (first | ((with_reducible refine evD_nil ?_ ?_); kernel_rfl; (with_reducible refine hR _ ?_); clear hR R) | ((first | ((with_reducible apply evD_fcall); rfl; rfl; ((apply opF_callB (ho); rfl; rfl; rfl; rfl; exact Tryz.func63); kernel_rfl; rfl; (simp only [go_sem, W, refsL_rcT, hrx, hrxp, eq_self, decide_true]; rfl); (first | simp [AV.inNL, AV.inN]))) | ((with_reducible apply evD_any); rfl; rfl; (simp only [rdE, rdOf, go_sem, W, refsL_rcT, hrx, hrxp, eq_self, decide_true]; rfl); (intro τ hA hQ hN; ((try simp only [agree, Op.operands, Call.operands, go_sem, W, refsL_rcT, hrx, hrxp, eq_self, decide_true, go_sem, List.mem_cons, List.not_mem_nil, forall_eq_or_imp, forall_eq, List.append_toArray, Option.toArray] at hA); (try simp only [go_sem, W, refsL_rcT, hrx, hrxp, eq_self, decide_true, List.mem_cons, List.not_mem_nil, forall_eq_or_imp, forall_eq] at hQ hN); (first | (revert hA; intro hA)); (first | (revert hQ; intro hQ)); (first | (revert hN; intro hN)); simp only [go_sem, W, refsL_rcT, hrx, hrxp, eq_self, decide_true, go_sem, hA, hQ, hN]; (repeat (refine ndI (by first | assumption) ?_)); (first | apply eff_rd)))) | ((first | ((with_reducible apply evD_one); rfl)); apply opF_buildSlice_flat; rfl; rfl; (focus (simp only [go_sem]; try rfl)); (focus (simp only [go_sem]; try rfl)); rfl; (first | omega); (first | omega); (first | omega); (simp only [go_sem, W, refsL_rcT, hrx, hrxp, eq_self, decide_true]; rfl); rfl; (focus ((simp only [unC, Option.map_some]); (try rfl))))); (simp only [St.eff, setO, hputs, go_sem, W, refsL_rcT, hrx, hrxp, eq_self, decide_true]))))))
    have rl := rcT_len out
    (repeat (any_goals (first | ((with_reducible refine evL_one ?_ ?_); rfl; intro K hK; simp (disch := omega) only [go_sem, refsL_rcT, hrx, hrxp, refsL_map, refsL_app, AV.refsL, AV.refs, List.length_append, List.length_cons, List.length_nil, Bool.or_false]; ((repeat (refine ndI (by first | assumption | omega | rfl) ?_)); refine hK _ ?_; clear hK K)))))
    refine evL_nil ?_
    (have W := ndI k1 (ndI k2 (ndI k7 @wrI)); (repeat (any_goals (first | ((with_reducible refine evL_one ?_ ?_); rfl; intro K hK; simp (disch := omega) only [go_sem, W, refsL_rcT, hrx, hrxp]; ((repeat (refine ndI (by first | assumption | rfl) ?_)); refine hK _ ?_; clear hK K)) | (with_reducible first | (refine evL_nil ?_; refine hR _ ?_; clear hR R) | (refine evC_region ?_; intro R hR) | (refine hΨ _ ?_; clear hΨ hΨ' Ψ)) | ((with_reducible refine hΨ' _ _ ?_ ?_); (focus (simp; done)); clear hΨ hΨ' Ψ)))))
    all_goals exact hΨ _ hlt (St.to.trans (St.to.of_le (τ := stTA k X X' 49 (out ++ [x]) ((i + 1 : Nat) : Int)) (St.le_of (by simp [leT]) (by simp [leH, hget, rcT_app, Pt.pv]))) (stTA_rn k X X' hrx hnx hix hrxp hnxp hixp _ _))
  · have k1 : (decide ((i : Int) < (k.m.length : Int))) = false := decide_eq_false (by omega)
    rw [List.take_of_length_le hge]
    (repeat (any_goals (first | ((with_reducible refine evL_one ?_ ?_); rfl; intro K hK; simp only [go_sem, k1, refsL_rcT, hrx, hrxp]; ((repeat (refine ndI (by first | assumption) ?_)); refine hK _ ?_; clear hK K)) | (with_reducible first | (refine evL_nil ?_; refine hR _ ?_; clear hR R) | ((first | refine evC_seq ?_); intro Ψ hΨ hΨ') | (refine evC_region ?_; intro R hR) | (refine hΨ _ ?_; clear hΨ hΨ' Ψ) | refine evC_ret ?_ | refine evC_exit ?_) | ((with_reducible refine hΨ' _ _ ?_ ?_); (focus (simp; done)); clear hΨ hΨ' Ψ) | ((with_reducible apply evC_cond); rfl; rfl; all_goals (intro hc; first | (cases hc; done) | (try simp only at hc))))))
    all_goals (refine ⟨by simp, ⟨_, ?_, AV.le_refl _⟩, leH_get (by simp [leH, hget])⟩; simp only [Tryz.results65, resL, ldA, oneOf, go_sem])
theorem turnA_ok (j : Jn) (hj : j.ok) {f : FuncId} {fn : Func} (hg1 : Tryz.prog.funcs[f]? = some fn) (hg2 : (fn.name == "runtime.NumGoroutine") = false) (hg3 : fn.body.isNone = false) (X X' : List AV) (hrx : ∀ d, AV.refsL d X = false) (hnx : ∀ ρ, AV.renL ρ X = X) (hix : ∀ N, AV.inNL N X = true) (hrxp : ∀ d, AV.refsL d X' = false) (hnxp : ∀ ρ, AV.renL ρ X' = X') (hixp : ∀ N, AV.inNL N X' = true) (k : Jn) (hk : k.ok) (hc : okJ j = true)
    (hz : (∀ pcs, AV.frzL 500 pcs X' = X'))
    (D : Fn Tryz.prog f [.ptr 1000 0, .ptr 1001 0] [(1000, jc j), (1001, X)] (vi .i64 0) [(1000, jc k), (1001, X')]) :
    Fn Tryz.prog 65 [jnA j, .fn f [.ptr 1001 0]] [(1001, X)] (resJ (k, 0)) [(1001, X')] := by
  have h := (turnA_row j hj hg1 hg2 hg3 X X' hrx hnx hix hrxp hnxp hixp k hk hc D).frzN (d := 500) (pcs := k.m.flatMap Pt.pv) (by simp [hget, rcT])
  have e1 : (k.m.flatMap Pt.pv).length = k.m.length * 6 := flat_length pt_len _
  have z1 := hz
  simpa [-List.length_flatMap, e1, AV.frz, AV.frzL, frzH, vi, z1] using h
theorem turnA_err (j : Jn) (hj : j.ok) {f : FuncId} {fn : Func} (hg1 : Tryz.prog.funcs[f]? = some fn) (hg2 : (fn.name == "runtime.NumGoroutine") = false) (hg3 : fn.body.isNone = false) (X X' : List AV) (hrx : ∀ d, AV.refsL d X = false) (hnx : ∀ ρ, AV.renL ρ X = X) (hix : ∀ N, AV.inNL N X = true) (hrxp : ∀ d, AV.refsL d X' = false) (hnxp : ∀ ρ, AV.renL ρ X' = X') (hixp : ∀ N, AV.inNL N X' = true) (k : Jn) (e : Int) (he : e ≠ 0) (hc : okJ j = true)
    (D : Fn Tryz.prog f [.ptr 1000 0, .ptr 1001 0] [(1000, jc j), (1001, X)] (vi .i64 e) [(1000, jc k), (1001, X')]) :
    Fn Tryz.prog 65 [jnA j, .fn f [.ptr 1001 0]] [(1001, X)] (resJ (nilJ, e)) [(1001, X')] := by
  have ck := checkJ_fn j hj
  rw [hc, if_pos rfl] at ck
  have k0 : (e != 0) = true := by simpa using he
  (refine fn_of Tryz.func65 rfl (by rfl) ?_; simp only [Tryz.ntmps65, List.length_cons, List.length_nil, Nat.reduceAdd, Nat.reduceSub, List.replicate, List.cons_append, List.nil_append])
  (repeat (any_goals (first | ((with_reducible refine evL_call ?_ ?_ ?_); rfl; rfl; intro K hK; (first | ((apply opA_callB (ck); rfl; rfl; rfl; rfl; exact Tryz.func17); kernel_rfl; rfl; (simp only [go_sem, hrx, hrxp, hnx, hnxp, hix, hixp, k0]; rfl); (first | simp [AV.inNL, AV.inN])) | (apply opA_callR (D) (fun r => if r = 1000 then 19 else r); rfl; rfl; rfl; rfl; exact hg1; exact hg2; exact hg3; rfl; (intro r hr q hq h; simp only [List.map_cons, List.map_nil, List.cons_append, List.nil_append, List.mem_cons, List.not_mem_nil, or_false] at hr hq; (try dsimp only at h); first | ((repeat' split at h) <;> omega)); (simp only [argsOk, argOk, AV.ren, AV.renL, renL_map, List.mem_cons, List.not_mem_nil, forall_eq_or_imp, forall_eq, newOk, List.contains_cons, List.contains_nil, AV.refsL, AV.refs, refsL_map, AV.inN, AV.inNL, inH, inNL_map, go_sem, hrx, hrxp, hnx, hnxp, hix, hixp, k0]))); (simp only [hputs, hdels, renH, AV.ren, AV.renL, renL_map, go_sem, hrx, hrxp, hnx, hnxp, hix, hixp, k0]; refine hK _ ?_; clear hK K)) | ((with_reducible refine evL_one ?_ ?_); rfl; intro K hK; simp only [go_sem, hrx, hrxp, hnx, hnxp, hix, hixp, k0]; ((repeat (refine ndI (by first | assumption | rfl) ?_)); refine hK _ ?_; clear hK K)) | (with_reducible first | (refine evL_nil ?_; refine hR _ ?_; clear hR R) | ((first | refine evC_seq ?_); intro Ψ hΨ hΨ') | (refine evC_region ?_; intro R hR) | (refine hΨ _ ?_; clear hΨ hΨ' Ψ) | refine evC_skip ?_ | refine evC_ret ?_) | ((with_reducible refine hΨ' _ _ ?_ ?_); (focus (simp; done)); clear hΨ hΨ' Ψ) | ((with_reducible apply evC_cond); rfl; rfl; all_goals (intro hc; first | (cases hc; done) | (try simp only at hc))))))
  exact ⟨by simp, ⟨_, rfl, nilRJ _⟩, leH_get (by simp [leH, hget])⟩
theorem turnA_bad (j : Jn) (hj : j.ok) {f : FuncId} (X : List AV) (hrx : ∀ d, AV.refsL d X = false) (hc : okJ j = false) :
    Fn Tryz.prog 65 [jnA j, .fn f [.ptr 1001 0]] [(1001, X)] (resJ (nilJ, 200)) [(1001, X)] := by
  have ck := checkJ_fn j hj
  rw [hc, if_neg (by decide)] at ck
  (refine fn_of Tryz.func65 rfl (by rfl) ?_; simp only [Tryz.ntmps65, List.length_cons, List.length_nil, Nat.reduceAdd, Nat.reduceSub, List.replicate, List.cons_append, List.nil_append])
  (repeat (any_goals (first | ((with_reducible refine evL_call ?_ ?_ ?_); rfl; rfl; intro K hK; ((apply opA_callB (ck); rfl; rfl; rfl; rfl; exact Tryz.func17); kernel_rfl; rfl; (simp only [go_sem, hrx]; rfl); (first | simp [AV.inNL, AV.inN])); (simp only [go_sem, hrx]; refine hK _ ?_; clear hK K)) | ((with_reducible refine evL_one ?_ ?_); rfl; intro K hK; simp only [go_sem, hrx]; ((repeat (refine ndI (by first | assumption | rfl) ?_)); refine hK _ ?_; clear hK K)) | (with_reducible first | (refine evL_nil ?_; refine hR _ ?_; clear hR R) | ((first | refine evC_seq ?_); intro Ψ hΨ hΨ') | (refine evC_region ?_; intro R hR) | (refine hΨ _ ?_; clear hΨ hΨ' Ψ) | refine evC_ret ?_) | ((with_reducible refine hΨ' _ _ ?_ ?_); (focus (simp; done)); clear hΨ hΨ' Ψ) | ((with_reducible apply evC_cond); rfl; rfl; all_goals (intro hc; first | (cases hc; done) | (try simp only at hc))))))
  exact ⟨by simp, ⟨_, rfl, nilRJ _⟩, leH_get (by simp [leH, hget])⟩
abbrev stTB (k : Jn) (X Y X' Y' : List AV) (r : Nat) (out : List Pt) (i : Int) : St := ⟨[.any, .any, .any, .any, .ptr 4 0, .any, .any, .any, .ptr 8 0, .any, .any, .any, .any, .any, .any, .any, .any, .any, .any, .any, .any, .any, .any, .any, .any, .any, .any, .any, .any, .any, .any, .any, .any, .any, .any, .any, .any, .any, .c (ptV k.m), vi .i64 k.m.length, vi .i64 i, .any, .any, .any, .any, .any, .any, .any, .any, .any, .any, .any, .any], [(1001, X'), (1002, Y'), (4, nil7), (8, [.c (acV k.p.w.S), .c (hdV k.p.w.L), .c (noV k.p.w.N), .c (adV k.p.x.ad), .c (spV k.p.x.sp), .c (pgV k.p.x.pg), .row r 37 6 out.length]), (r, rcT out)]⟩
theorem stTB_rn (k : Jn) (X Y X' Y' : List AV) (hrx : ∀ d, AV.refsL d X = false) (hnx : ∀ ρ, AV.renL ρ X = X) (hix : ∀ N, AV.inNL N X = true) (hrxp : ∀ d, AV.refsL d X' = false) (hnxp : ∀ ρ, AV.renL ρ X' = X') (hixp : ∀ N, AV.inNL N X' = true) (hry : ∀ d, AV.refsL d Y = false) (hny : ∀ ρ, AV.renL ρ Y = Y) (hiy : ∀ N, AV.inNL N Y = true) (hryp : ∀ d, AV.refsL d Y' = false) (hnyp : ∀ ρ, AV.renL ρ Y' = Y') (hiyp : ∀ N, AV.inNL N Y' = true) (out : List Pt) (i : Int) : (stTB k X Y X' Y' 49 out i).to (stTB k X Y X' Y' 500 out i) := by
  have h := St.to.rn (σ := stTB k X Y X' Y' 49 out i) (fun r => if r = 49 then 500 else r) (fun r => if r = 500 then 49 else r) [1001, 1002, 4, 8, 49] (by simp [AV.inNL, AV.inN]) (by simp) (by simp [inH, AV.inNL, AV.inN, rcT, hrx, hrxp, hry, hryp, hnx, hnxp, hny, hnyp, hix, hixp, hiy, hiyp]) (by simp) (by simp)
  simpa [AV.renL, AV.ren, renH, rcT, stTB, hrx, hrxp, hry, hryp, hnx, hnxp, hny, hnyp, hix, hixp, hiy, hiyp] using h
theorem turnB_row (j : Jn) (hj : j.ok) {f : FuncId} {fn : Func} (hg1 : Tryz.prog.funcs[f]? = some fn) (hg2 : (fn.name == "runtime.NumGoroutine") = false) (hg3 : fn.body.isNone = false) (X Y X' Y' : List AV) (hrx : ∀ d, AV.refsL d X = false) (hnx : ∀ ρ, AV.renL ρ X = X) (hix : ∀ N, AV.inNL N X = true) (hrxp : ∀ d, AV.refsL d X' = false) (hnxp : ∀ ρ, AV.renL ρ X' = X') (hixp : ∀ N, AV.inNL N X' = true) (hry : ∀ d, AV.refsL d Y = false) (hny : ∀ ρ, AV.renL ρ Y = Y) (hiy : ∀ N, AV.inNL N Y = true) (hryp : ∀ d, AV.refsL d Y' = false) (hnyp : ∀ ρ, AV.renL ρ Y' = Y') (hiyp : ∀ N, AV.inNL N Y' = true) (k : Jn) (hk : k.ok) (hc : okJ j = true)
    (D : Fn Tryz.prog f [.ptr 1000 0, .ptr 1001 0, .ptr 1002 0] [(1000, jc j), (1001, X), (1002, Y)] (vi .i64 0) [(1000, jc k), (1001, X'), (1002, Y')]) :
    Fn Tryz.prog 65 [jnA j, .fn f [.ptr 1001 0, .ptr 1002 0]] [(1001, X), (1002, Y)] (.tup [.agg [.c (acV k.p.w.S), .c (hdV k.p.w.L), .c (noV k.p.w.N), .c (adV k.p.x.ad), .c (spV k.p.x.sp), .c (pgV k.p.x.pg), .row 500 37 6 k.m.length], vi .i64 0]) [(1001, X'), (1002, Y'), (500, rcT k.m)] := by
  have ck := checkJ_fn j hj
  rw [hc, if_pos rfl] at ck
  have ow := own_fn k.p hk.p
  have k8 : k.m.length < 9223372036854775808 := by have := hk.m.1; omega
  (refine fn_of Tryz.func65 rfl (by rfl) ?_; simp only [Tryz.ntmps65, List.length_cons, List.length_nil, Nat.reduceAdd, Nat.reduceSub, List.replicate, List.cons_append, List.nil_append])
  (repeat (any_goals (first | ((with_reducible refine evL_call ?_ ?_ ?_); rfl; rfl; intro K hK; (first | ((first | (apply opA_callB (ck); rfl; rfl; rfl; rfl; exact Tryz.func17) | (apply opA_callB (ow); rfl; rfl; rfl; rfl; exact Tryz.func63)); kernel_rfl; rfl; (simp only [go_sem, hrx, hrxp, hry, hryp, hnx, hnxp, hny, hnyp, hix, hixp, hiy, hiyp]; rfl); (first | simp [AV.inNL, AV.inN])) | (apply opA_callR (D) (fun r => if r = 1000 then 19 else r); rfl; rfl; rfl; rfl; exact hg1; exact hg2; exact hg3; rfl; (intro r hr q hq h; simp only [List.map_cons, List.map_nil, List.cons_append, List.nil_append, List.mem_cons, List.not_mem_nil, or_false] at hr hq; (try dsimp only at h); first | ((repeat' split at h) <;> omega)); (simp only [argsOk, argOk, AV.ren, AV.renL, renL_map, List.mem_cons, List.not_mem_nil, forall_eq_or_imp, forall_eq, newOk, List.contains_cons, List.contains_nil, AV.refsL, AV.refs, refsL_map, AV.inN, AV.inNL, inH, inNL_map, go_sem, hrx, hrxp, hry, hryp, hnx, hnxp, hny, hnyp, hix, hixp, hiy, hiyp]))); (simp only [hputs, hdels, renH, AV.ren, AV.renL, renL_map, go_sem, hrx, hrxp, hry, hryp, hnx, hnxp, hny, hnyp, hix, hixp, hiy, hiyp]; refine hK _ ?_; clear hK K)) | ((with_reducible refine evL_one ?_ ?_); rfl; intro K hK; simp only [go_sem, hrx, hrxp, hry, hryp, hnx, hnxp, hny, hnyp, hix, hixp, hiy, hiyp]; ((repeat (refine ndI (by first | assumption | rfl) ?_)); refine hK _ ?_; clear hK K)) | (with_reducible first | (refine evL_nil ?_; refine hR _ ?_; clear hR R) | ((first | refine evC_seq ?_ | refine evC_block ?_); intro Ψ hΨ hΨ') | (refine evC_region ?_; intro R hR) | (refine hΨ _ ?_; clear hΨ hΨ' Ψ) | refine evC_skip ?_) | ((with_reducible apply evC_cond); rfl; rfl; all_goals (intro hc; first | (cases hc; done) | (try simp only at hc))))))
  refine evC_uptoT k.m.length (fun i => stTB k X Y X' Y' 500 (k.m.take i) (i : Int)) ?_ ?_
  · refine St.to.trans (St.to.nilcell 8 500 37 6 6 (by simp [hget]; rfl) rfl (by simp [St.free, freeH, AV.refsL, AV.refs, hrx, hrxp, hry, hryp]) (by decide) (by decide)) (St.to.of_le (St.le_of (by simp [leT]) (by simp [leH, hget, hput, rcT])))
  intro i hi Ψ hΨ hΨ'
  (try dsimp only at hΨ ⊢)
  rcases Nat.lt_or_ge i k.m.length with hlt | hge
  · obtain ⟨x, hx⟩ : ∃ x, k.m[i]? = some x := ⟨_, List.getElem?_eq_getElem hlt⟩
    have k1 : (decide ((i : Int) < (k.m.length : Int))) = true := decide_eq_true (by omega)
    have k2 := pt_at hx
    have k7 : (i : Int) + 1 = ((i + 1 : Nat) : Int) := by omega
    have ho := own_fn x (hk.m.2 x (List.mem_of_getElem? hx))
    have hs : k.m.take (i + 1) = k.m.take i ++ [x] := by rw [List.take_add_one, hx]; rfl
    rw [hs] at hΨ
    have hol : (k.m.take i).length ≤ 100 := by rw [List.length_take]; have := hk.m.1; omega
    generalize k.m.take i = out at hΨ hol ⊢
    (have W := ndI k1 (ndI k2 k7); (repeat (any_goals (first | ((with_reducible refine evL_one ?_ ?_); rfl; intro K hK; simp only [go_sem, W, refsL_rcT, hrx, hrxp, hry, hryp]; ((repeat (refine ndI (by first | assumption | omega) ?_)); refine hK _ ?_; clear hK K)) | (with_reducible first | (refine evL_nil ?_; refine hR _ ?_; clear hR R) | ((first | refine evC_seq ?_ | refine evC_block ?_); intro Ψ hΨ hΨ') | (refine evC_region ?_; intro R hR) | (refine hΨ _ ?_; clear hΨ hΨ' Ψ) | refine evC_skip ?_) | ((with_reducible apply evC_cond); rfl; rfl; all_goals (intro hc; first | (cases hc; done) | (try simp only at hc)))))))
    refine evC_draw_at 5 (by decide) (by kernel_rfl) (by kernel_rfl) (by kernel_rfl) (by kernel_rfl) (by simp [newNames, isNew, St.free, freeH, AV.refsL, AV.refs, refsL_rcT, hrx, hrxp, hry, hryp]) ?_
    intro R hR
    simp only [List.take_succ_cons, List.take_zero, List.drop_succ_cons, List.drop_zero] at hR ⊢
    (have W := ndI k1 (ndI k2 k7); (repeat (any_goals (first | ((with_reducible refine evD_nil ?_ ?_); kernel_rfl; (with_reducible refine hR _ ?_); clear hR R) | ((first | ((with_reducible apply evD_fcall); rfl; rfl; ((apply opF_callB (ho); rfl; rfl; rfl; rfl; exact Tryz.func63); kernel_rfl; rfl; (simp only [go_sem, W, refsL_rcT, hrx, hrxp, hry, hryp, eq_self, decide_true]; rfl); (first | simp [AV.inNL, AV.inN]))) | ((with_reducible apply evD_any); rfl; rfl; (simp only [rdE, rdOf, go_sem, W, refsL_rcT, hrx, hrxp, hry, hryp, eq_self, decide_true]; rfl); (intro τ hA hQ hN; ((try simp only [agree, Op.operands, Call.operands, go_sem, W, refsL_rcT, hrx, hrxp, hry, hryp, eq_self, decide_true, go_sem, List.mem_cons, List.not_mem_nil, forall_eq_or_imp, forall_eq, List.append_toArray, Option.toArray] at hA); (try simp only [go_sem, W, refsL_rcT, hrx, hrxp, hry, hryp, eq_self, decide_true, List.mem_cons, List.not_mem_nil, forall_eq_or_imp, forall_eq] at hQ hN); (first | (revert hA; intro hA)); (first | (revert hQ; intro hQ)); (first | (revert hN; intro hN)); simp only [go_sem, W, refsL_rcT, hrx, hrxp, hry, hryp, eq_self, decide_true, go_sem, hA, hQ, hN]; (repeat (refine ndI (by first | assumption) ?_)); (first | apply eff_rd)))) | ((first | ((with_reducible apply evD_one); rfl)); apply opF_buildSlice_flat; rfl; rfl; (focus (simp only [go_sem]; try rfl)); (focus (simp only [go_sem]; try rfl)); rfl; (first | omega); (first | omega); (first | omega); (simp only [go_sem, W, refsL_rcT, hrx, hrxp, hry, hryp, eq_self, decide_true]; rfl); rfl; (focus ((simp only [unC, Option.map_some]); (try rfl))))); (simp only [St.eff, setO, hputs, go_sem, W, refsL_rcT, hrx, hrxp, hry, hryp, eq_self, decide_true]))))))
    have rl := rcT_len out
    (repeat (any_goals (first | ((with_reducible refine evL_one ?_ ?_); rfl; intro K hK; simp (disch := omega) only [go_sem, refsL_rcT, hrx, hrxp, hry, hryp, refsL_map, refsL_app, AV.refsL, AV.refs, List.length_append, List.length_cons, List.length_nil, Bool.or_false]; ((repeat (refine ndI (by first | assumption | omega | rfl) ?_)); refine hK _ ?_; clear hK K)))))
    refine evL_nil ?_
    (have W := ndI k1 (ndI k2 (ndI k7 @wrI)); (repeat (any_goals (first | ((with_reducible refine evL_one ?_ ?_); rfl; intro K hK; simp (disch := omega) only [go_sem, W, refsL_rcT, hrx, hrxp, hry, hryp]; ((repeat (refine ndI (by first | assumption | rfl) ?_)); refine hK _ ?_; clear hK K)) | (with_reducible first | (refine evL_nil ?_; refine hR _ ?_; clear hR R) | (refine evC_region ?_; intro R hR) | (refine hΨ _ ?_; clear hΨ hΨ' Ψ)) | ((with_reducible refine hΨ' _ _ ?_ ?_); (focus (simp; done)); clear hΨ hΨ' Ψ)))))
    all_goals exact hΨ _ hlt (St.to.trans (St.to.of_le (τ := stTB k X Y X' Y' 49 (out ++ [x]) ((i + 1 : Nat) : Int)) (St.le_of (by simp [leT]) (by simp [leH, hget, rcT_app, Pt.pv]))) (stTB_rn k X Y X' Y' hrx hnx hix hrxp hnxp hixp hry hny hiy hryp hnyp hiyp _ _))
  · have k1 : (decide ((i : Int) < (k.m.length : Int))) = false := decide_eq_false (by omega)
    rw [List.take_of_length_le hge]
    (repeat (any_goals (first | ((with_reducible refine evL_one ?_ ?_); rfl; intro K hK; simp only [go_sem, k1, refsL_rcT, hrx, hrxp, hry, hryp]; ((repeat (refine ndI (by first | assumption) ?_)); refine hK _ ?_; clear hK K)) | (with_reducible first | (refine evL_nil ?_; refine hR _ ?_; clear hR R) | ((first | refine evC_seq ?_); intro Ψ hΨ hΨ') | (refine evC_region ?_; intro R hR) | (refine hΨ _ ?_; clear hΨ hΨ' Ψ) | refine evC_ret ?_ | refine evC_exit ?_) | ((with_reducible refine hΨ' _ _ ?_ ?_); (focus (simp; done)); clear hΨ hΨ' Ψ) | ((with_reducible apply evC_cond); rfl; rfl; all_goals (intro hc; first | (cases hc; done) | (try simp only at hc))))))
    all_goals (refine ⟨by simp, ⟨_, ?_, AV.le_refl _⟩, leH_get (by simp [leH, hget])⟩; simp only [Tryz.results65, resL, ldA, oneOf, go_sem])
theorem turnB_ok (j : Jn) (hj : j.ok) {f : FuncId} {fn : Func} (hg1 : Tryz.prog.funcs[f]? = some fn) (hg2 : (fn.name == "runtime.NumGoroutine") = false) (hg3 : fn.body.isNone = false) (X Y X' Y' : List AV) (hrx : ∀ d, AV.refsL d X = false) (hnx : ∀ ρ, AV.renL ρ X = X) (hix : ∀ N, AV.inNL N X = true) (hrxp : ∀ d, AV.refsL d X' = false) (hnxp : ∀ ρ, AV.renL ρ X' = X') (hixp : ∀ N, AV.inNL N X' = true) (hry : ∀ d, AV.refsL d Y = false) (hny : ∀ ρ, AV.renL ρ Y = Y) (hiy : ∀ N, AV.inNL N Y = true) (hryp : ∀ d, AV.refsL d Y' = false) (hnyp : ∀ ρ, AV.renL ρ Y' = Y') (hiyp : ∀ N, AV.inNL N Y' = true) (k : Jn) (hk : k.ok) (hc : okJ j = true)
    (hz : (∀ pcs, AV.frzL 500 pcs X' = X') ∧ (∀ pcs, AV.frzL 500 pcs Y' = Y'))
    (D : Fn Tryz.prog f [.ptr 1000 0, .ptr 1001 0, .ptr 1002 0] [(1000, jc j), (1001, X), (1002, Y)] (vi .i64 0) [(1000, jc k), (1001, X'), (1002, Y')]) :
    Fn Tryz.prog 65 [jnA j, .fn f [.ptr 1001 0, .ptr 1002 0]] [(1001, X), (1002, Y)] (resJ (k, 0)) [(1001, X'), (1002, Y')] := by
  have h := (turnB_row j hj hg1 hg2 hg3 X Y X' Y' hrx hnx hix hrxp hnxp hixp hry hny hiy hryp hnyp hiyp k hk hc D).frzN (d := 500) (pcs := k.m.flatMap Pt.pv) (by simp [hget, rcT])
  have e1 : (k.m.flatMap Pt.pv).length = k.m.length * 6 := flat_length pt_len _
  obtain ⟨z1, z2⟩ := hz
  simpa [-List.length_flatMap, e1, AV.frz, AV.frzL, frzH, vi, z1, z2] using h
theorem turnB_err (j : Jn) (hj : j.ok) {f : FuncId} {fn : Func} (hg1 : Tryz.prog.funcs[f]? = some fn) (hg2 : (fn.name == "runtime.NumGoroutine") = false) (hg3 : fn.body.isNone = false) (X Y X' Y' : List AV) (hrx : ∀ d, AV.refsL d X = false) (hnx : ∀ ρ, AV.renL ρ X = X) (hix : ∀ N, AV.inNL N X = true) (hrxp : ∀ d, AV.refsL d X' = false) (hnxp : ∀ ρ, AV.renL ρ X' = X') (hixp : ∀ N, AV.inNL N X' = true) (hry : ∀ d, AV.refsL d Y = false) (hny : ∀ ρ, AV.renL ρ Y = Y) (hiy : ∀ N, AV.inNL N Y = true) (hryp : ∀ d, AV.refsL d Y' = false) (hnyp : ∀ ρ, AV.renL ρ Y' = Y') (hiyp : ∀ N, AV.inNL N Y' = true) (k : Jn) (e : Int) (he : e ≠ 0) (hc : okJ j = true)
    (D : Fn Tryz.prog f [.ptr 1000 0, .ptr 1001 0, .ptr 1002 0] [(1000, jc j), (1001, X), (1002, Y)] (vi .i64 e) [(1000, jc k), (1001, X'), (1002, Y')]) :
    Fn Tryz.prog 65 [jnA j, .fn f [.ptr 1001 0, .ptr 1002 0]] [(1001, X), (1002, Y)] (resJ (nilJ, e)) [(1001, X'), (1002, Y')] := by
  have ck := checkJ_fn j hj
  rw [hc, if_pos rfl] at ck
  have k0 : (e != 0) = true := by simpa using he
  (refine fn_of Tryz.func65 rfl (by rfl) ?_; simp only [Tryz.ntmps65, List.length_cons, List.length_nil, Nat.reduceAdd, Nat.reduceSub, List.replicate, List.cons_append, List.nil_append])
  (repeat (any_goals (first | ((with_reducible refine evL_call ?_ ?_ ?_); rfl; rfl; intro K hK; (first | ((apply opA_callB (ck); rfl; rfl; rfl; rfl; exact Tryz.func17); kernel_rfl; rfl; (simp only [go_sem, hrx, hrxp, hry, hryp, hnx, hnxp, hny, hnyp, hix, hixp, hiy, hiyp, k0]; rfl); (first | simp [AV.inNL, AV.inN])) | (apply opA_callR (D) (fun r => if r = 1000 then 19 else r); rfl; rfl; rfl; rfl; exact hg1; exact hg2; exact hg3; rfl; (intro r hr q hq h; simp only [List.map_cons, List.map_nil, List.cons_append, List.nil_append, List.mem_cons, List.not_mem_nil, or_false] at hr hq; (try dsimp only at h); first | ((repeat' split at h) <;> omega)); (simp only [argsOk, argOk, AV.ren, AV.renL, renL_map, List.mem_cons, List.not_mem_nil, forall_eq_or_imp, forall_eq, newOk, List.contains_cons, List.contains_nil, AV.refsL, AV.refs, refsL_map, AV.inN, AV.inNL, inH, inNL_map, go_sem, hrx, hrxp, hry, hryp, hnx, hnxp, hny, hnyp, hix, hixp, hiy, hiyp, k0]))); (simp only [hputs, hdels, renH, AV.ren, AV.renL, renL_map, go_sem, hrx, hrxp, hry, hryp, hnx, hnxp, hny, hnyp, hix, hixp, hiy, hiyp, k0]; refine hK _ ?_; clear hK K)) | ((with_reducible refine evL_one ?_ ?_); rfl; intro K hK; simp only [go_sem, hrx, hrxp, hry, hryp, hnx, hnxp, hny, hnyp, hix, hixp, hiy, hiyp, k0]; ((repeat (refine ndI (by first | assumption | rfl) ?_)); refine hK _ ?_; clear hK K)) | (with_reducible first | (refine evL_nil ?_; refine hR _ ?_; clear hR R) | ((first | refine evC_seq ?_); intro Ψ hΨ hΨ') | (refine evC_region ?_; intro R hR) | (refine hΨ _ ?_; clear hΨ hΨ' Ψ) | refine evC_skip ?_ | refine evC_ret ?_) | ((with_reducible refine hΨ' _ _ ?_ ?_); (focus (simp; done)); clear hΨ hΨ' Ψ) | ((with_reducible apply evC_cond); rfl; rfl; all_goals (intro hc; first | (cases hc; done) | (try simp only at hc))))))
  exact ⟨by simp, ⟨_, rfl, nilRJ _⟩, leH_get (by simp [leH, hget])⟩
theorem turnB_bad (j : Jn) (hj : j.ok) {f : FuncId} (X Y : List AV) (hrx : ∀ d, AV.refsL d X = false) (hry : ∀ d, AV.refsL d Y = false) (hc : okJ j = false) :
    Fn Tryz.prog 65 [jnA j, .fn f [.ptr 1001 0, .ptr 1002 0]] [(1001, X), (1002, Y)] (resJ (nilJ, 200)) [(1001, X), (1002, Y)] := by
  have ck := checkJ_fn j hj
  rw [hc, if_neg (by decide)] at ck
  (refine fn_of Tryz.func65 rfl (by rfl) ?_; simp only [Tryz.ntmps65, List.length_cons, List.length_nil, Nat.reduceAdd, Nat.reduceSub, List.replicate, List.cons_append, List.nil_append])
  (repeat (any_goals (first | ((with_reducible refine evL_call ?_ ?_ ?_); rfl; rfl; intro K hK; ((apply opA_callB (ck); rfl; rfl; rfl; rfl; exact Tryz.func17); kernel_rfl; rfl; (simp only [go_sem, hrx, hry]; rfl); (first | simp [AV.inNL, AV.inN])); (simp only [go_sem, hrx, hry]; refine hK _ ?_; clear hK K)) | ((with_reducible refine evL_one ?_ ?_); rfl; intro K hK; simp only [go_sem, hrx, hry]; ((repeat (refine ndI (by first | assumption | rfl) ?_)); refine hK _ ?_; clear hK K)) | (with_reducible first | (refine evL_nil ?_; refine hR _ ?_; clear hR R) | ((first | refine evC_seq ?_); intro Ψ hΨ hΨ') | (refine evC_region ?_; intro R hR) | (refine hΨ _ ?_; clear hΨ hΨ' Ψ) | refine evC_ret ?_) | ((with_reducible refine hΨ' _ _ ?_ ?_); (focus (simp; done)); clear hΨ hΨ' Ψ) | ((with_reducible apply evC_cond); rfl; rfl; all_goals (intro hc; first | (cases hc; done) | (try simp only at hc))))))
  exact ⟨by simp, ⟨_, rfl, nilRJ _⟩, leH_get (by simp [leH, hget])⟩
end Go.Proofs.YtmidmaeihpldhaaGreat
namespace Go.Proofs.YtmidmaeihpldhaaGreat
open Go.RowKit
section
variable {P : Program} {o : Oper} {σ : St} {K : St → Prop}
theorem opA_buildSlice_none {t : TypeId} {e sz by_ : Nat} (ho : o.op = .buildSlice t 0 #[]) (hs : slcZ P t = some (e, sz, by_))
    (hK : K (σ.put o.dst (.c (.sl true sz 0 [])))) : OpA P o σ K := by
  intro E ι a w h K' Q hK'
  obtain ⟨hu, i, zv, hi, hiz, hsize, hbytes, hzs⟩ := slcZ_spec hs
  have hex : (execOp a.eval o).run P w = .ok (.value (.slice (some ⟨w.heap.size, 0, none⟩) 0 0)) (w.alloc (.cells #[] e)) := by
    simp [execOp, ho, Instr.buildSlice, run_underlying hu, sizeOf, typeInfo, hi, hsize, newRow, Instr.fill]
    have : ∀ f : Nat → Value, Array.map f (Array.range 0) = #[] := fun f => by apply Array.ext'; simp
    rw [this]
  have hcn := h.alloc (.cells #[] e)
  unfold Oper.wp
  rw [hex]
  exact hK' ι _ _ _ hK (hcn.put o.dst (.c _ _ (.sl true sz _ 0 0 [] [] (Nat.le_refl _) (Nat.zero_le _) (fun h => by cases h) (fun _ => rfl) rfl (by simp) (fun h => absurd rfl h) fun j u x hu hx => by cases hu)))
theorem opF_buildSlice_none {t : TypeId} {e sz by_ : Nat} (ho : o.op = .buildSlice t 0 #[]) (hs : slcZ P t = some (e, sz, by_)) : OpF P o σ.ev (hget σ.H) (.c (.sl true sz 0 [])) [] [] :=
  fun τ hA hQ => by
    refine opA_buildSlice_none ho hs ?_
    cases o.dst <;> rfl
end
end Go.Proofs.YtmidmaeihpldhaaGreat
namespace Go.Proofs.YtmidmaeihpldhaaGreat
open Go.RowKit
section
variable {P : Program} {o : Oper} {σ : St} {K : St → Prop}
theorem opA_append_none {s x : Operand} {t e sz by_ n : Nat} {ex ex' : Bool} {ps qs : List PV} (ho : o.op = .call { callee := .builtin .append, args := #[s, x], argTypes := #[t, t] }) (hs0 : okConst s = true) (hx0 : okConst x = true) (hz : slcZ P t = some (e, sz, by_)) (h0 : 0 < sz)
    (h1 : σ.ev s = .c (.sl ex sz n ps)) (h2 : σ.ev x = .c (.sl ex' sz 0 qs)) (hK : K (σ.put o.dst (.c (.sl ex sz n ps)))) : OpA P o σ K := by
  refine opA_val _ hK fun E ι a w h => ?_
  obtain ⟨hu, i, z, hi, hiz, hsize, hbytes, hzs, hz1⟩ := slcZ_spec hz
  have hsv := h.ev s hs0
  have hxv := h.ev x hx0
  rw [h1] at hsv
  rw [h2] at hxv
  generalize he : a.eval s = v at hsv
  generalize hex : a.eval x = y at hxv
  cases hsv with
  | c _ _ hp =>
    cases hp with
    | sl _ _ A0 _ c0 us _ g1 g2 g3 gx gl gn g4 g5 =>
      cases hxv with
      | c _ _ hq =>
        cases hq with
        | sl _ _ B _ c1 ws _ k1 k2 k3 kx kl kn k4 k5 =>
          have hsrc : Src P i.size t (.slice B 0 c1) 0 [] w := by
            cases B with
            | none =>
              obtain rfl := k3 rfl
              exact Src.ofNil w hu 0
            | some a0 => exact Src.ofSlice w hu a0 0 c1 [] (by simp) (fun j u hu => by cases hu) (fun u hu => by cases hu)
          refine ⟨_, ?_, .c _ _ (.sl ex sz A0 n c0 us ps g1 g2 g3 gx gl gn g4 g5)⟩
          have hrun := run_append_nothing w t t o.type e i hu hi A0 n c0 g1 _ hsrc
          unfold execOp
          simp only [ho, resolve, invoke, builtin, Sem.run_bind, Sem.run_pure, Result.andThen_ok, List.map_toArray, List.map_cons, List.map_nil, he, hex, hrun]
theorem evD_append_none {l0 rest : List Oper} {acc : List Ef} {s x : Operand} {t e sz by_ n : Nat} {ex ex' : Bool} {ps qs : List PV} (hg : o.guard = none) (ho : o.op = .call { callee := .builtin .append, args := #[s, x], argTypes := #[t, t] }) (hs0 : okConst s = true) (hx0 : okConst x = true) (hz : slcZ P t = some (e, sz, by_)) (h0 : 0 < sz)
    (h1 : σ.ev s = .c (.sl ex sz n ps)) (h2 : σ.ev x = .c (.sl ex' sz 0 qs))
    (h : evD P l0 rest (σ.eff o.dst (.c (.sl ex sz n ps)) []) (⟨.c (.sl ex sz n ps), [], [], []⟩ :: acc) K) : evD P l0 (o :: rest) σ acc K := by
  refine ⟨⟨.c (.sl ex sz n ps), [], [], []⟩, .inl ⟨hg, fun τ hA _ hN => ?_⟩, h⟩
  have hA' : ∀ z, z = s ∨ z = x → τ.ev z = σ.ev z := fun z hz => hA z (by rw [ho]; rcases hz with rfl | rfl <;> simp [Op.operands, Call.operands])
  refine opA_append_none ho hs0 hx0 hz h0 (by rw [hA' s (.inl rfl)]; exact h1) (by rw [hA' x (.inr rfl)]; exact h2) ?_
  cases o.dst <;> rfl
theorem opN_append_row {d : Nat} {s x : Operand} {t e sz by_ n m : Nat} {ex : Bool} {ps qs : List PV} (ho : o.op = .call { callee := .builtin .append, args := #[s, x], argTypes := #[t, t] }) (hs0 : okConst s = true) (hx0 : okConst x = true) (hz : slcZ P t = some (e, sz, by_)) (h0 : 0 < sz) (hb0 : 0 < by_)
    (h1 : σ.ev s = .c (.sl true sz n ps)) (h2 : σ.ev x = .c (.sl ex sz m qs)) (hm : 0 < m) (hql : qs.length = m * sz) (hby : (n + m) * by_ ≤ 140737488355328) (hd : o.dst = some d) (hd2 : d < 1000) :
    OpN P o σ.ev (hget σ.H) ⟨.row d e sz (n + m), [], [(d, (ps ++ qs).map .c)], [d]⟩ := fun τ hA _ hN => by
  have hA' : ∀ z, z = s ∨ z = x → τ.ev z = σ.ev z := fun z hz => hA z (by rw [ho]; rcases hz with rfl | rfl <;> simp [Op.operands, Call.operands])
  refine opA_append_tight (m := m) (ds := qs.map .c) ho hs0 hx0 hz h0 hb0 (by rw [hA' s (.inl rfl)]; exact h1) (by rw [hA' x (.inr rfl), h2]; simp [St.src]) hm (by rw [List.length_map]; exact hql) hby hd (hN d (by simp)) hd2 (by simp) ?_
  rw [hd, List.map_append]
  rfl
theorem evD_append_row {l0 rest : List Oper} {acc : List Ef} {d : Nat} {s x : Operand} {t e sz by_ n m : Nat} {ex : Bool} {ps qs : List PV} {X : List AV} (hg : o.guard = none) (ho : o.op = .call { callee := .builtin .append, args := #[s, x], argTypes := #[t, t] }) (hs0 : okConst s = true) (hx0 : okConst x = true) (hz : slcZ P t = some (e, sz, by_)) (h0 : 0 < sz) (hb0 : 0 < by_)
    (h1 : σ.ev s = .c (.sl true sz n ps)) (h2 : σ.ev x = .c (.sl ex sz m qs)) (hm : 0 < m) (hql : qs.length = m * sz) (hby : (n + m) * by_ ≤ 140737488355328) (hd : o.dst = some d) (hd2 : d < 1000) (hX : (ps ++ qs).map .c = X)
    (h : evD P l0 rest (σ.eff o.dst (.row d e sz (n + m)) [(d, X)]) (⟨.row d e sz (n + m), [], [(d, X)], [d]⟩ :: acc) K) : evD P l0 (o :: rest) σ acc K := by
  subst hX
  exact ⟨_, .inl ⟨hg, opN_append_row ho hs0 hx0 hz h0 hb0 h1 h2 hm hql hby hd hd2⟩, h⟩
end
end Go.Proofs.YtmidmaeihpldhaaGreat
namespace Go.Proofs.YtmidmaeihpldhaaGreat
open Go.RowKit
open Nat (reduceBEq)
set_option maxRecDepth 20000
set_option maxHeartbeats 2000000
def lbit (x : Int) (k : Nat) : Int := x / 2 ^ k % 2
theorem lbit_eq {x : Int} (h : U x) (k : Nat) (hk : k < 64) : IntKind.i64.wrap (IntKind.u64.wrap ((BitVec.ofInt IntKind.u64.bits (x.fdiv (2 ^ (min k IntKind.u64.bits))) &&& BitVec.ofInt IntKind.u64.bits 1).toNat : Nat)) = lbit x k := by
  obtain ⟨h1, h2⟩ := h
  obtain ⟨N, rfl⟩ := Int.eq_ofNat_of_zero_le h1
  have hm : min k IntKind.u64.bits = k := Nat.min_eq_left (show k ≤ 64 by omega)
  have hd : ((N : Int)).fdiv (2 ^ k) = ((N / 2 ^ k : Nat) : Int) := by
    rw [Int.fdiv_eq_ediv_of_nonneg _ (Int.le_of_lt (Int.pow_pos (by decide)))]
    simp
  rw [hm, hd]
  have hle : N / 2 ^ k ≤ N := Nat.div_le_self _ _
  generalize hq : N / 2 ^ k = q at hle
  have e : (BitVec.ofInt IntKind.u64.bits (q : Int) &&& BitVec.ofInt IntKind.u64.bits 1).toNat = q % 2 := by
    show (BitVec.ofInt 64 (q : Int) &&& BitVec.ofInt 64 1).toNat = q % 2
    rw [BitVec.toNat_and]
    have e1 : (BitVec.ofInt 64 (q : Int)).toNat = q := by rw [BitVec.toNat_ofInt]; omega
    have e2 : (BitVec.ofInt 64 1).toNat = 1 := by decide
    rw [e1, e2, Nat.and_one_is_mod]
  rw [e, wrU (by omega) (by omega), wrI (by omega) (by omega)]
  unfold lbit
  have : (N : Int) / 2 ^ k = (q : Int) := by rw [← hq]; simp
  rw [this]; omega
def bitW (a b c d : Int) (n : Nat) : Int := if n < 64 then lbit a n else if n < 128 then lbit b (n - 64) else if n < 192 then lbit c (n - 128) else lbit d (n - 192)
theorem bit_fn (a b c d : Int) (u1 : U a) (u2 : U b) (u3 : U c) (u4 : U d) (n : Nat) (hn : n ≤ 255) : Fn Tryz.prog 130 [w4 a b c d, vi .i64 n] [] (vi .i64 (bitW a b c d n)) [] := by
  have e1 : (decide ((n : Int) < 0)) = false := by simp
  have e2 : (decide ((n : Int) > 255)) = false := by simp; omega
  have e3 : (n : Int).tdiv 64 = ((n / 64 : Nat) : Int) := rfl
  have e4 : (n : Int).tmod 64 = ((n % 64 : Nat) : Int) := rfl
  have hq : n / 64 = 0 ∨ n / 64 = 1 ∨ n / 64 = 2 ∨ n / 64 = 3 := by omega
  rcases hq with hq | hq | hq | hq
  · (refine fn_of Tryz.func130 rfl (by rfl) ?_; simp only [Tryz.ntmps130, List.length_cons, List.length_nil, Nat.reduceAdd, Nat.reduceSub, List.replicate, List.cons_append, List.nil_append])
    (have W := ndI e1 (ndI e2 (ndI e3 (ndI e4 @wrI))); (repeat (any_goals (first | ((with_reducible refine evL_one ?_ ?_); rfl; intro K hK; simp (disch := omega) only [go_sem, W, hq, Int.cast_ofNat_Int, Int.reduceEq, Int.toNat_natCast, Int.natCast_nonneg]; ((repeat (refine ndI (by first | assumption | rfl) ?_)); refine hK _ ?_; clear hK K)) | (with_reducible first | (refine evL_nil ?_; refine hR _ ?_; clear hR R) | ((first | refine evC_seq ?_); intro Ψ hΨ hΨ') | (refine evC_region ?_; intro R hR) | (refine hΨ _ ?_; clear hΨ hΨ' Ψ) | refine evC_skip ?_ | refine evC_ret ?_) | ((with_reducible apply evL_grd); rfl; rfl; rfl; all_goals (intro hb; first | (cases hb; done) | ((try simp only [Bool.not_true, Bool.not_false] at hb); (first | ((with_reducible intro K hK); simp (disch := omega) only [go_sem, W, hq, Int.cast_ofNat_Int, Int.reduceEq, Int.toNat_natCast, Int.natCast_nonneg]; ((repeat (refine ndI (by first | assumption | rfl) ?_)); refine hK _ ?_; clear hK K)))))) | ((with_reducible apply evC_cond); rfl; rfl; all_goals (intro hc; first | (cases hc; done) | (try simp only at hc)))))))
    all_goals (refine ⟨by simp, ⟨_, ?_, AV.le_refl _⟩, leH_get (by simp [leH, hget])⟩; simp only [Tryz.results130, resL, ldA, oneOf, go_sem])
    show vi .i64 (IntKind.i64.wrap (IntKind.u64.wrap ((BitVec.ofInt IntKind.u64.bits (a.fdiv (2 ^ (min (n % 64) IntKind.u64.bits))) &&& BitVec.ofInt IntKind.u64.bits 1).toNat : Nat))) = _
    rw [lbit_eq u1 _ (Nat.mod_lt _ (by decide))]
    simp only [bitW, if_pos (show n < 64 by omega), Nat.mod_eq_of_lt (show n < 64 by omega)]
  · (refine fn_of Tryz.func130 rfl (by rfl) ?_; simp only [Tryz.ntmps130, List.length_cons, List.length_nil, Nat.reduceAdd, Nat.reduceSub, List.replicate, List.cons_append, List.nil_append])
    (have W := ndI e1 (ndI e2 (ndI e3 (ndI e4 @wrI))); (repeat (any_goals (first | ((with_reducible refine evL_one ?_ ?_); rfl; intro K hK; simp (disch := omega) only [go_sem, W, hq, Int.cast_ofNat_Int, Int.natCast_one, Int.reduceEq, Int.toNat_natCast, Int.natCast_nonneg]; ((repeat (refine ndI (by first | assumption | rfl) ?_)); refine hK _ ?_; clear hK K)) | (with_reducible first | (refine evL_nil ?_; refine hR _ ?_; clear hR R) | ((first | refine evC_seq ?_); intro Ψ hΨ hΨ') | (refine evC_region ?_; intro R hR) | (refine hΨ _ ?_; clear hΨ hΨ' Ψ) | refine evC_skip ?_ | refine evC_ret ?_) | ((with_reducible apply evL_grd); rfl; rfl; rfl; all_goals (intro hb; first | (cases hb; done) | ((try simp only [Bool.not_true, Bool.not_false] at hb); (first | ((with_reducible intro K hK); simp (disch := omega) only [go_sem, W, hq, Int.cast_ofNat_Int, Int.natCast_one, Int.reduceEq, Int.toNat_natCast, Int.natCast_nonneg]; ((repeat (refine ndI (by first | assumption | rfl) ?_)); refine hK _ ?_; clear hK K)))))) | ((with_reducible apply evC_cond); rfl; rfl; all_goals (intro hc; first | (cases hc; done) | (try simp only at hc)))))))
    all_goals (refine ⟨by simp, ⟨_, ?_, AV.le_refl _⟩, leH_get (by simp [leH, hget])⟩; simp only [Tryz.results130, resL, ldA, oneOf, go_sem])
    show vi .i64 (IntKind.i64.wrap (IntKind.u64.wrap ((BitVec.ofInt IntKind.u64.bits (b.fdiv (2 ^ (min (n % 64) IntKind.u64.bits))) &&& BitVec.ofInt IntKind.u64.bits 1).toNat : Nat))) = _
    rw [lbit_eq u2 _ (Nat.mod_lt _ (by decide)), show n % 64 = n - 64 by omega]
    simp only [bitW, if_neg (show ¬ n < 64 by omega), if_pos (show n < 128 by omega)]
  · (refine fn_of Tryz.func130 rfl (by rfl) ?_; simp only [Tryz.ntmps130, List.length_cons, List.length_nil, Nat.reduceAdd, Nat.reduceSub, List.replicate, List.cons_append, List.nil_append])
    (have W := ndI e1 (ndI e2 (ndI e3 (ndI e4 @wrI))); (repeat (any_goals (first | ((with_reducible refine evL_one ?_ ?_); rfl; intro K hK; simp (disch := omega) only [go_sem, W, hq, Int.cast_ofNat_Int, Int.natCast_one, Int.reduceEq, Int.toNat_natCast, Int.natCast_nonneg]; ((repeat (refine ndI (by first | assumption | rfl) ?_)); refine hK _ ?_; clear hK K)) | (with_reducible first | (refine evL_nil ?_; refine hR _ ?_; clear hR R) | ((first | refine evC_seq ?_); intro Ψ hΨ hΨ') | (refine evC_region ?_; intro R hR) | (refine hΨ _ ?_; clear hΨ hΨ' Ψ) | refine evC_skip ?_ | refine evC_ret ?_) | ((with_reducible apply evL_grd); rfl; rfl; rfl; all_goals (intro hb; first | (cases hb; done) | ((try simp only [Bool.not_true, Bool.not_false] at hb); (first | ((with_reducible intro K hK); simp (disch := omega) only [go_sem, W, hq, Int.cast_ofNat_Int, Int.natCast_one, Int.reduceEq, Int.toNat_natCast, Int.natCast_nonneg]; ((repeat (refine ndI (by first | assumption | rfl) ?_)); refine hK _ ?_; clear hK K)))))) | ((with_reducible apply evC_cond); rfl; rfl; all_goals (intro hc; first | (cases hc; done) | (try simp only at hc)))))))
    all_goals (refine ⟨by simp, ⟨_, ?_, AV.le_refl _⟩, leH_get (by simp [leH, hget])⟩; simp only [Tryz.results130, resL, ldA, oneOf, go_sem])
    show vi .i64 (IntKind.i64.wrap (IntKind.u64.wrap ((BitVec.ofInt IntKind.u64.bits (c.fdiv (2 ^ (min (n % 64) IntKind.u64.bits))) &&& BitVec.ofInt IntKind.u64.bits 1).toNat : Nat))) = _
    rw [lbit_eq u3 _ (Nat.mod_lt _ (by decide)), show n % 64 = n - 128 by omega]
    simp only [bitW, if_neg (show ¬ n < 64 by omega), if_neg (show ¬ n < 128 by omega), if_pos (show n < 192 by omega)]
  · (refine fn_of Tryz.func130 rfl (by rfl) ?_; simp only [Tryz.ntmps130, List.length_cons, List.length_nil, Nat.reduceAdd, Nat.reduceSub, List.replicate, List.cons_append, List.nil_append])
    (have W := ndI e1 (ndI e2 (ndI e3 (ndI e4 @wrI))); (repeat (any_goals (first | ((with_reducible refine evL_one ?_ ?_); rfl; intro K hK; simp (disch := omega) only [go_sem, W, hq, Int.cast_ofNat_Int, Int.natCast_one, Int.reduceEq, Int.toNat_natCast, Int.natCast_nonneg]; ((repeat (refine ndI (by first | assumption | rfl) ?_)); refine hK _ ?_; clear hK K)) | (with_reducible first | (refine evL_nil ?_; refine hR _ ?_; clear hR R) | ((first | refine evC_seq ?_); intro Ψ hΨ hΨ') | (refine evC_region ?_; intro R hR) | (refine hΨ _ ?_; clear hΨ hΨ' Ψ) | refine evC_skip ?_ | refine evC_ret ?_) | ((with_reducible apply evL_grd); rfl; rfl; rfl; all_goals (intro hb; first | (cases hb; done) | ((try simp only [Bool.not_true, Bool.not_false] at hb); (first | ((with_reducible intro K hK); simp (disch := omega) only [go_sem, W, hq, Int.cast_ofNat_Int, Int.natCast_one, Int.reduceEq, Int.toNat_natCast, Int.natCast_nonneg]; ((repeat (refine ndI (by first | assumption | rfl) ?_)); refine hK _ ?_; clear hK K)))))) | ((with_reducible apply evC_cond); rfl; rfl; all_goals (intro hc; first | (cases hc; done) | (try simp only at hc)))))))
    all_goals (refine ⟨by simp, ⟨_, ?_, AV.le_refl _⟩, leH_get (by simp [leH, hget])⟩; simp only [Tryz.results130, resL, ldA, oneOf, go_sem])
    show vi .i64 (IntKind.i64.wrap (IntKind.u64.wrap ((BitVec.ofInt IntKind.u64.bits (d.fdiv (2 ^ (min (n % 64) IntKind.u64.bits))) &&& BitVec.ofInt IntKind.u64.bits 1).toNat : Nat))) = _
    rw [lbit_eq u4 _ (Nat.mod_lt _ (by decide)), show n % 64 = n - 192 by omega]
    simp only [bitW, if_neg (show ¬ n < 64 by omega), if_neg (show ¬ n < 128 by omega), if_neg (show ¬ n < 192 by omega)]
/-! a word as a number -/
def VW (a b c d : Int) : Nat := a.toNat + 18446744073709551616 * (b.toNat + 18446744073709551616 * (c.toNat + 18446744073709551616 * d.toNat))
theorem bit_lo (A R k : Nat) (hk : k < 64) : (A + 18446744073709551616 * R) / 2 ^ k % 2 = A / 2 ^ k % 2 := by
  have e : (18446744073709551616 : Nat) = 2 ^ k * (2 * 2 ^ (63 - k)) := by
    rw [← Nat.pow_succ', ← Nat.pow_add, show k + (63 - k).succ = 64 by omega]
  rw [e, Nat.mul_assoc, Nat.add_mul_div_left _ _ (Nat.pos_of_ne_zero (by simp)), Nat.mul_assoc 2, Nat.add_mul_mod_self_left]
theorem bit_hi (A R k : Nat) (hA : A < 18446744073709551616) (hk : 64 ≤ k) : (A + 18446744073709551616 * R) / 2 ^ k = R / 2 ^ (k - 64) := by
  have e : (2 : Nat) ^ k = 18446744073709551616 * 2 ^ (k - 64) := by
    rw [show (18446744073709551616 : Nat) = 2 ^ 64 by decide, ← Nat.pow_add, show 64 + (k - 64) = k by omega]
  rw [e, ← Nat.div_div_eq_div_mul, Nat.add_mul_div_left _ _ (by decide), Nat.div_eq_of_lt hA, Nat.zero_add]
theorem lbit_nat {x : Int} (h : U x) (k : Nat) : lbit x k = ((x.toNat / 2 ^ k % 2 : Nat) : Int) := by
  obtain ⟨N, rfl⟩ := Int.eq_ofNat_of_zero_le h.1
  unfold lbit
  have : (N : Int) / 2 ^ k = ((N / 2 ^ k : Nat) : Int) := by simp
  rw [this]; simp
theorem bitW_val {a b c d : Int} (u1 : U a) (u2 : U b) (u3 : U c) (u4 : U d) (n : Nat) (hn : n ≤ 255) : bitW a b c d n = ((VW a b c d / 2 ^ n % 2 : Nat) : Int) := by
  unfold bitW VW
  have h1 : a.toNat < 18446744073709551616 := by have := u1.2; omega
  have h2 : b.toNat < 18446744073709551616 := by have := u2.2; omega
  have h3 : c.toNat < 18446744073709551616 := by have := u3.2; omega
  split
  · rw [lbit_nat u1, bit_lo _ _ _ (by omega)]
  · rw [bit_hi _ _ _ h1 (by omega)]
    split
    · rw [lbit_nat u2, bit_lo _ _ _ (by omega)]
    · rw [bit_hi _ _ _ h2 (by omega)]
      split
      · rw [lbit_nat u3, show n - 64 - 64 = n - 128 by omega, bit_lo _ _ _ (by omega)]
      · rw [show n - 64 - 64 = n - 128 by omega, bit_hi _ _ _ h3 (by omega), lbit_nat u4, show n - 128 - 64 = n - 192 by omega]
theorem VW_wN {x : Nat} (h : x < WW) : VW (l0 x) (l1 x) (l2 x) (l3 x) = x := by
  obtain ⟨a, b, c, d, e, _, _, _, _, e0, e1, e2, e3⟩ := split_w h
  rw [e0, e1, e2, e3]
  unfold VW
  simp only [Int.toNat_natCast]
  exact e.symm
def bitN (x n : Nat) : Nat := x / 2 ^ n % 2
theorem bitN_fn (x : Nat) (hx : x < WW) (n : Nat) (hn : n ≤ 255) : Fn Tryz.prog 130 [wN x, vi .i64 n] [] (vi .i64 (bitN x n : Nat)) [] := by
  have h := bit_fn (l0 x) (l1 x) (l2 x) (l3 x) (U0 x) (U1 x) (U2 x) (U3 x) n hn
  rw [bitW_val (U0 x) (U1 x) (U2 x) (U3 x) n hn, VW_wN hx] at h
  exact h
def cmpN (x y : Nat) : Int := if x < y then -1 else if y < x then 1 else 0
theorem cmpN_lt {x y n : Nat} (h1 : x / 2 ^ (n + 1) = y / 2 ^ (n + 1)) (h2 : x / 2 ^ n % 2 < y / 2 ^ n % 2) : x < y := by
  rw [Nat.pow_succ, ← Nat.div_div_eq_div_mul, ← Nat.div_div_eq_div_mul] at h1
  rcases Nat.lt_or_ge x y with h | h
  · exact h
  · have := Nat.div_le_div_right (c := 2 ^ n) h; omega
theorem cmpN_eq {x y n : Nat} (h1 : x / 2 ^ (n + 1) = y / 2 ^ (n + 1)) (h2 : x / 2 ^ n % 2 = y / 2 ^ n % 2) : x / 2 ^ n = y / 2 ^ n := by
  rw [Nat.pow_succ, ← Nat.div_div_eq_div_mul, ← Nat.div_div_eq_div_mul] at h1
  omega
theorem refcmp_fn (x y : Nat) (lx : x < WW) (ly : y < WW) : Fn Tryz.prog 107 [wN x, wN y] [] (vi .i64 (cmpN x y)) [] := by
  (refine fn_of Tryz.func107 rfl (by rfl) ?_; simp only [Tryz.ntmps107, List.length_cons, List.length_nil, Nat.reduceAdd, Nat.reduceSub, List.replicate, List.cons_append, List.nil_append])
  (repeat (any_goals (first | ((with_reducible refine evL_one ?_ ?_); rfl; intro K hK; simp only [go_sem]; ((repeat (refine ndI (by first | assumption) ?_)); refine hK _ ?_; clear hK K)) | (with_reducible first | (refine evL_nil ?_; refine hR _ ?_; clear hR R) | ((first | refine evC_seq ?_ | refine evC_block ?_); intro Ψ hΨ hΨ') | (refine evC_region ?_; intro R hR) | (refine hΨ _ ?_; clear hΨ hΨ' Ψ)))))
  refine evC_loop (α := { i : Nat // i ≤ 256 ∧ x / 2 ^ i = y / 2 ^ i }) (fun p => ⟨[.any, .any, .ptr 2 0, .ptr 3 0, vi .i64 0, vi .i64 ((p.1 : Int) - 1), .any, .any, .any, .any, .any, .any, .any, .any, .any, .any, .any, .any, .any, .any, .any, .any, .any, .any], [(2, [vi .u64 (l0 x), vi .u64 (l1 x), vi .u64 (l2 x), vi .u64 (l3 x)]), (3, [vi .u64 (l0 y), vi .u64 (l1 y), vi .u64 (l2 y), vi .u64 (l3 y)])]⟩) (fun p => p.1) ⟨256, Nat.le_refl _, by rw [Nat.div_eq_of_lt (show x < 2 ^ 256 from lx), Nat.div_eq_of_lt (show y < 2 ^ 256 from ly)]⟩ (St.le_of (by simp [leT]) (by simp [leH, hget])) ?_
  rintro ⟨i, h1, h2⟩ Ψ hΨ hΨ'
  dsimp only at hΨ ⊢
  rcases i with _ | n
  · simp only [Nat.pow_zero, Nat.div_one] at h2
    have hr : cmpN x y = 0 := by rw [h2]; simp [cmpN]
    have e1 : (decide (((0 : Nat) : Int) - 1 ≥ 0)) = false := by decide
    (repeat (any_goals (first | ((with_reducible refine evL_one ?_ ?_); rfl; intro K hK; simp only [go_sem, e1]; ((repeat (refine ndI (by first | assumption) ?_)); refine hK _ ?_; clear hK K)) | (with_reducible first | (refine evL_nil ?_; refine hR _ ?_; clear hR R) | ((first | refine evC_seq ?_); intro Ψ hΨ hΨ') | (refine evC_region ?_; intro R hR) | (refine hΨ _ ?_; clear hΨ hΨ' Ψ) | refine evC_ret ?_ | refine evC_exit ?_) | ((with_reducible refine hΨ' _ _ ?_ ?_); (focus (simp; done)); clear hΨ hΨ' Ψ) | ((with_reducible apply evC_cond); rfl; rfl; all_goals (intro hc; first | (cases hc; done) | (try simp only at hc))))))
    all_goals rw [hr]
    all_goals (refine ⟨by simp, ⟨_, ?_, AV.le_refl _⟩, leH_get (by simp [leH, hget])⟩; simp only [Tryz.results107, resL, ldA, oneOf, go_sem])
  · have e0 : ((n + 1 : Nat) : Int) - 1 = (n : Int) := by omega
    have e1 : (decide ((n : Int) ≥ 0)) = true := by simp
    have b1 := bitN_fn x lx n (by omega)
    have b2 := bitN_fn y ly n (by omega)
    obtain ⟨p, hp⟩ : ∃ p, bitN x n = p := ⟨_, rfl⟩
    obtain ⟨q, hq⟩ : ∃ q, bitN y n = q := ⟨_, rfl⟩
    rw [hp] at b1
    rw [hq] at b2
    have hp' : x / 2 ^ n % 2 = p := hp
    have hq' : y / 2 ^ n % 2 = q := hq
    rw [e0]
    rcases Nat.lt_trichotomy p q with hpq | hpq | hpq
    · have hr : cmpN x y = -1 := by
        have hlt := cmpN_lt h2 (by rw [hp', hq']; exact hpq)
        simp [cmpN, hlt]
      have d1 : decide ((p : Int) < (q : Int)) = true := by simp; omega
      (have W := ndI e1 (ndI d1 @wrI); (repeat (any_goals (first | ((with_reducible refine evL_one ?_ ?_); rfl; intro K hK; simp (disch := omega) only [go_sem, W]; ((repeat (refine ndI (by first | assumption) ?_)); refine hK _ ?_; clear hK K)) | (with_reducible first | (refine evL_nil ?_; refine hR _ ?_; clear hR R) | ((first | refine evC_seq ?_ | refine evC_block ?_); intro Ψ hΨ hΨ') | (refine evC_region ?_; intro R hR) | (refine hΨ _ ?_; clear hΨ hΨ' Ψ) | refine evC_skip ?_ | refine evC_ret ?_) | ((with_reducible refine hΨ' _ _ ?_ ?_); (focus (simp; done)); clear hΨ hΨ' Ψ) | ((with_reducible apply evC_cond); rfl; rfl; all_goals (intro hc; first | (cases hc; done) | (try simp only at hc))) | ((with_reducible refine evD_nil ?_ ?_); kernel_rfl; (with_reducible refine hR _ ?_); clear hR R) | ((first | ((with_reducible apply evD_fcall); rfl; rfl; (first | ((apply opF_callB (b1); rfl; rfl; rfl; rfl; exact Tryz.func130); kernel_rfl; rfl; (simp (disch := omega) only [go_sem, W]; rfl); (first | simp [AV.inNL, AV.inN])) | ((apply opF_callB (b2); rfl; rfl; rfl; rfl; exact Tryz.func130); kernel_rfl; rfl; (simp (disch := omega) only [go_sem, W]; rfl); (first | simp [AV.inNL, AV.inN])))) | ((with_reducible apply evD_any); rfl; rfl; (simp (disch := omega) only [rdE, rdOf, go_sem, W]; rfl); (intro τ hA hQ hN; ((try simp only [agree, Op.operands, Call.operands, go_sem, W, go_sem, List.mem_cons, List.not_mem_nil, forall_eq_or_imp, forall_eq, List.append_toArray, Option.toArray] at hA); (try simp only [go_sem, W, List.mem_cons, List.not_mem_nil, forall_eq_or_imp, forall_eq] at hQ hN); (first | (revert hA; intro hA)); (first | (revert hQ; intro hQ)); (first | (revert hN; intro hN)); simp (disch := omega) only [go_sem, W, go_sem, hA, hQ, hN]; (repeat (refine ndI (by first | assumption) ?_)); (first | apply eff_rd))))); (simp (disch := omega) only [St.eff, setO, hputs, go_sem, W])) | ((with_reducible refine evC_draw ?_ ?_ ?_ ?_); kernel_rfl; kernel_rfl; (first | kernel_rfl); intro R hR)))))
      all_goals rw [hr]
      all_goals (refine ⟨by simp, ⟨_, ?_, AV.le_refl _⟩, leH_get (by simp [leH, hget])⟩; simp only [Tryz.results107, resL, ldA, oneOf, go_sem])
    · have d1 : decide ((p : Int) < (q : Int)) = false := by simp; omega
      have d2 : decide ((p : Int) > (q : Int)) = false := by simp; omega
      (have W := ndI e1 (ndI d1 (ndI d2 @wrI)); (repeat (any_goals (first | ((with_reducible refine evL_one ?_ ?_); rfl; intro K hK; simp (disch := omega) only [go_sem, W]; ((repeat (refine ndI (by first | assumption) ?_)); refine hK _ ?_; clear hK K)) | (with_reducible first | (refine evL_nil ?_; refine hR _ ?_; clear hR R) | ((first | refine evC_seq ?_ | refine evC_block ?_); intro Ψ hΨ hΨ') | (refine evC_region ?_; intro R hR) | (refine hΨ _ ?_; clear hΨ hΨ' Ψ) | refine evC_skip ?_) | ((with_reducible refine hΨ' _ _ ?_ ?_); (focus (simp; done)); clear hΨ hΨ' Ψ) | ((with_reducible apply evC_cond); rfl; rfl; all_goals (intro hc; first | (cases hc; done) | (try simp only at hc))) | ((with_reducible refine evD_nil ?_ ?_); kernel_rfl; (with_reducible refine hR _ ?_); clear hR R) | ((first | ((with_reducible apply evD_fcall); rfl; rfl; (first | ((apply opF_callB (b1); rfl; rfl; rfl; rfl; exact Tryz.func130); kernel_rfl; rfl; (simp (disch := omega) only [go_sem, W]; rfl); (first | simp [AV.inNL, AV.inN])) | ((apply opF_callB (b2); rfl; rfl; rfl; rfl; exact Tryz.func130); kernel_rfl; rfl; (simp (disch := omega) only [go_sem, W]; rfl); (first | simp [AV.inNL, AV.inN])))) | ((with_reducible apply evD_any); rfl; rfl; (simp (disch := omega) only [rdE, rdOf, go_sem, W]; rfl); (intro τ hA hQ hN; ((try simp only [agree, Op.operands, Call.operands, go_sem, W, go_sem, List.mem_cons, List.not_mem_nil, forall_eq_or_imp, forall_eq, List.append_toArray, Option.toArray] at hA); (try simp only [go_sem, W, List.mem_cons, List.not_mem_nil, forall_eq_or_imp, forall_eq] at hQ hN); (first | (revert hA; intro hA)); (first | (revert hQ; intro hQ)); (first | (revert hN; intro hN)); simp (disch := omega) only [go_sem, W, go_sem, hA, hQ, hN]; (repeat (refine ndI (by first | assumption) ?_)); (first | apply eff_rd))))); (simp (disch := omega) only [St.eff, setO, hputs, go_sem, W])) | ((with_reducible refine evC_draw ?_ ?_ ?_ ?_); kernel_rfl; kernel_rfl; (first | kernel_rfl); intro R hR)))))
      all_goals exact hΨ _ ⟨n, by omega, cmpN_eq h2 (by rw [hp', hq', hpq])⟩ (by simp) (St.le_of (by simp [leT]) (by simp [leH, hget]))
    · have hr : cmpN x y = 1 := by
        have hlt := cmpN_lt h2.symm (by rw [hp', hq']; exact hpq)
        simp [cmpN, hlt, Nat.lt_asymm hlt]
      have d1 : decide ((p : Int) < (q : Int)) = false := by simp; omega
      have d2 : decide ((p : Int) > (q : Int)) = true := by simp; omega
      (have W := ndI e1 (ndI d1 (ndI d2 @wrI)); (repeat (any_goals (first | ((with_reducible refine evL_one ?_ ?_); rfl; intro K hK; simp (disch := omega) only [go_sem, W]; ((repeat (refine ndI (by first | assumption) ?_)); refine hK _ ?_; clear hK K)) | (with_reducible first | (refine evL_nil ?_; refine hR _ ?_; clear hR R) | ((first | refine evC_seq ?_ | refine evC_block ?_); intro Ψ hΨ hΨ') | (refine evC_region ?_; intro R hR) | (refine hΨ _ ?_; clear hΨ hΨ' Ψ) | refine evC_skip ?_ | refine evC_ret ?_) | ((with_reducible refine hΨ' _ _ ?_ ?_); (focus (simp; done)); clear hΨ hΨ' Ψ) | ((with_reducible apply evC_cond); rfl; rfl; all_goals (intro hc; first | (cases hc; done) | (try simp only at hc))) | ((with_reducible refine evD_nil ?_ ?_); kernel_rfl; (with_reducible refine hR _ ?_); clear hR R) | ((first | ((with_reducible apply evD_fcall); rfl; rfl; (first | ((apply opF_callB (b1); rfl; rfl; rfl; rfl; exact Tryz.func130); kernel_rfl; rfl; (simp (disch := omega) only [go_sem, W]; rfl); (first | simp [AV.inNL, AV.inN])) | ((apply opF_callB (b2); rfl; rfl; rfl; rfl; exact Tryz.func130); kernel_rfl; rfl; (simp (disch := omega) only [go_sem, W]; rfl); (first | simp [AV.inNL, AV.inN])))) | ((with_reducible apply evD_any); rfl; rfl; (simp (disch := omega) only [rdE, rdOf, go_sem, W]; rfl); (intro τ hA hQ hN; ((try simp only [agree, Op.operands, Call.operands, go_sem, W, go_sem, List.mem_cons, List.not_mem_nil, forall_eq_or_imp, forall_eq, List.append_toArray, Option.toArray] at hA); (try simp only [go_sem, W, List.mem_cons, List.not_mem_nil, forall_eq_or_imp, forall_eq] at hQ hN); (first | (revert hA; intro hA)); (first | (revert hQ; intro hQ)); (first | (revert hN; intro hN)); simp (disch := omega) only [go_sem, W, go_sem, hA, hQ, hN]; (repeat (refine ndI (by first | assumption) ?_)); (first | apply eff_rd))))); (simp (disch := omega) only [St.eff, setO, hputs, go_sem, W])) | ((with_reducible refine evC_draw ?_ ?_ ?_ ?_); kernel_rfl; kernel_rfl; (first | kernel_rfl); intro R hR)))))
      all_goals rw [hr]
      all_goals (refine ⟨by simp, ⟨_, ?_, AV.le_refl _⟩, leH_get (by simp [leH, hget])⟩; simp only [Tryz.results107, resL, ldA, oneOf, go_sem])
end Go.Proofs.YtmidmaeihpldhaaGreat
