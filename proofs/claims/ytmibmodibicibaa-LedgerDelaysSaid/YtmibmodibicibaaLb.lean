/-
  Rows of a ledger by value.
-/
import Derived.Test.YtmibmodibicibaaWu
import Derived.Test.YtmibmodibicibaaWc
namespace Go.Proofs.Ytmibmodibicibaa
open Go.RowKit
set_option linter.unusedVariables false
set_option linter.unusedSimpArgs false
set_option maxRecDepth 20000
set_option maxHeartbeats 2000000
structure Hd where
  a : Int
  p : Nat
  s : Nat
  d : Int
  f : Int
def Hd.pv (h : Hd) : List PV := [.v (.int .u64 h.a), .v (.int .u64 (l0 h.p)), .v (.int .u64 (l1 h.p)), .v (.int .u64 (l2 h.p)), .v (.int .u64 (l3 h.p)), .v (.int .u64 (l0 h.s)), .v (.int .u64 (l1 h.s)), .v (.int .u64 (l2 h.s)), .v (.int .u64 (l3 h.s)), .v (.int .u64 h.d), .v (.int .u64 h.f)]
def Hd.ok (h : Hd) : Prop := U h.a ∧ h.p < WW ∧ h.s < WW ∧ U h.d ∧ U h.f
theorem hd_len (h : Hd) : h.pv.length = 11 := rfl
abbrev c11 (a : Int) (p s : Nat) (d f : Int) : List AV := [vi .u64 a, vi .u64 (l0 p), vi .u64 (l1 p), vi .u64 (l2 p), vi .u64 (l3 p), vi .u64 (l0 s), vi .u64 (l1 s), vi .u64 (l2 s), vi .u64 (l3 s), vi .u64 d, vi .u64 f]
abbrev h11 (a : Int) (p s : Nat) (d f : Int) : AV := .agg (c11 a p s d f)
abbrev hsl (ex : Bool) (l : List Hd) : AV := .c (.sl ex 11 l.length (l.flatMap Hd.pv))
abbrev lg (ex : Bool) (l : List Hd) : AV := .agg [hsl ex l]
abbrev nilS : AV := .c (.v (.slice none 0 0))
abbrev lgN : AV := .agg [nilS]
theorem hsl_at {l : List Hd} {i : Nat} {y : Hd} (h : l[i]? = some y) : ((l.flatMap Hd.pv).drop (i * 11)).take 11 = [.v (.int .u64 y.a), .v (.int .u64 (l0 y.p)), .v (.int .u64 (l1 y.p)), .v (.int .u64 (l2 y.p)), .v (.int .u64 (l3 y.p)), .v (.int .u64 (l0 y.s)), .v (.int .u64 (l1 y.s)), .v (.int .u64 (l2 y.s)), .v (.int .u64 (l3 y.s)), .v (.int .u64 y.d), .v (.int .u64 y.f)] := flat_at (f := Hd.pv) hd_len h
end Go.Proofs.Ytmibmodibicibaa
