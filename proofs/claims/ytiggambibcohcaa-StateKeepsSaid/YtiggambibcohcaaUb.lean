/-
  The law StateMoves, walked.
-/
import Derived.Test.YtiggambibcohcaaTh
import Derived.Test.YtiggambibcohcaaUa
namespace Go.Proofs.Ytiggambibcohcaa
open Go.RowKit
open Nat (reduceBEq)
set_option linter.unusedVariables false
set_option linter.unusedSimpArgs false
set_option maxRecDepth 20000
set_option maxHeartbeats 2000000
structure Do where
  kind : Int
  a : Int
  b : Int
  n : Nat
  p : Pr
  x : Ac
def Do.ok (o : Do) : Prop := (-9223372036854775808 ≤ o.kind ∧ o.kind ≤ 9223372036854775807) ∧ U o.a ∧ U o.b ∧ o.n < WW ∧ o.p.ok ∧ o.x.ok
def Do.pv (o : Do) : List PV := .v (.int .i64 o.kind) :: .v (.int .u64 o.a) :: .v (.int .u64 o.b) :: (wpv o.n ++ (o.p.pv ++ o.x.pv))
abbrev doL (o : Do) : List AV := [vi .i64 o.kind, vi .u64 o.a, vi .u64 o.b, vi .u64 (l0 o.n), vi .u64 (l1 o.n), vi .u64 (l2 o.n), vi .u64 (l3 o.n), vi .u64 (l0 o.p.k), vi .u64 (l1 o.p.k), vi .u64 (l2 o.p.k), vi .u64 (l3 o.p.k), vi .u64 (l0 o.p.v), vi .u64 (l1 o.p.v), vi .u64 (l2 o.p.v), vi .u64 (l3 o.p.v), vi .u64 o.x.a, vi .u64 (l0 o.x.b), vi .u64 (l1 o.x.b), vi .u64 (l2 o.x.b), vi .u64 (l3 o.x.b), vi .u64 o.x.n, .c (bsV o.x.code), .c (psV o.x.store)]
abbrev doA (o : Do) : AV := .agg (doL o)
theorem okl_lay {L : List Ac} {m : Nat} (hl : L.length ≤ m) (hm : ∀ y ∈ L, Okx y) {x : Ac} (hx : Okx x) : (laysL L x).length ≤ m + 1 ∧ ∀ y ∈ laysL L x, Okx y := ⟨by have := laysL_len L x; omega, fun y hy => by
  rcases laysL_mem hy with rfl | h
  · exact hx
  · exact hm y h⟩
theorem okx_bal {x : Ac} (h : Okx x) {b : Nat} (hb : b < WW) : Okx (x.bal b) := by
  obtain ⟨⟨h1, h2, h3⟩, h4⟩ := h
  exact ⟨⟨h1, hb, h3⟩, h4⟩
theorem fewL_le (X : List Ac) : (fewL X).length ≤ 50 := by unfold fewL; rw [List.length_map, List.length_take]; omega
theorem decV_do : DecV Try.prog 44 23 Do.pv Do.ok :=
  (decV_struct (sz := 1 + (1 + (1 + (4 + (8 + 8))))) Try.underlying44 (by kernel_rfl) (decF_cons (decV_int Try.underlying3 (by kernel_rfl)) rfl (decF_cons decV_addr rfl (decF_cons decV_addr rfl (decF_cons decV_word rfl (decF_cons decV_pairP rfl (decF_one decV_account rfl))))))).map fun x hx =>
    ⟨⟨x.1, x.2.1, x.2.2.1, x.2.2.2.1, x.2.2.2.2.1, x.2.2.2.2.2⟩, rfl, ⟨wf_i64 hx.1, hx.2⟩⟩
end Go.Proofs.Ytiggambibcohcaa

