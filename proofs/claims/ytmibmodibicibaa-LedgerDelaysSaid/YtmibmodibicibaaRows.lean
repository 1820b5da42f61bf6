/-
  No cell of these rows narrows 'for every input' (looked for: loops, veiled, ifaces, maps, wideKeys, modest, calm, conditions, laid).
  DERIVED. THE GIVEN ROWS OF THIS SEAT. 4 by the template 'for every input the law returns true; each argument reads behind the call as it read before'; 0 by the template 'total and deterministic' (their statements: YtmibmodibicibaaTotals.lean).
  GIVEN WITH THE SEED: the statements are not yours to turn. If you find one false, say at which input.
  Laid BY PROGRAM, IN A SANDBOX (cutbox-rows.mjs): the forced cells as the released guide's own fill.sh prints them over the translation 990732a568c11471… (all of the seat's roots in one cut). By AI agents, Wed Nov 11 2026. No macro, syntax, notation, axiom, sorry.
-/
import Derived.Test.YtmibmodibicibaaChecked
import GoSem.Claim
import GoSem.ClaimJoined
import GoSem.ClaimMapViews
import Derived.JoinedTies
import Derived.KernelRfl
namespace Go.Proofs.Ytmibmodibicibaa
/- THE CELL 'sum', in the pinned program and in every row, IS THE sha256 OF THE DUMP (.gsa) THAT YtmibmodibicibaaProg.lean LOADS. Nothing in Lean hashes anything: it is a label: what it is worth is what the hold of that sum in a sandbox is worth. -/
noncomputable def Try.pinned : Pinned := { name := "ytmibmodibicibaa", sum := "990732a568c1147185cd9f660a573996ff6e727a5a5bb1ba1aed2cd7eee71479", checked := Try.checked }
namespace Rows
def none {H : Type} : Left H := { results := [], args := [] }

/-- 'sheaferlaw07.LedgerDoes': WHATEVER THE INPUT: true; the input reads as it did. -/
def ledgerDoesSpec : ChangeSpec := { name := "ledgerDoes", fn := fun _ => fun
  | [d1, d2] => { results := [.lit (.bool true)], args := [d1, d2] }
  | _ => none }
def ledgerDoesRow : OpenClaim := { program := "ytmibmodibicibaa", sum := "990732a568c1147185cd9f660a573996ff6e727a5a5bb1ba1aed2cd7eee71479", func := "sheafer/sheaferlaw07.LedgerDoes", spec := "ledgerDoes", inPlace := ["math/bits.Add64", "slices.overlaps[sheafer/api.Held]", "math/bits.Sub64"], unfollowed := true, recurses := true, apart := false }
def LedgerDoesSaid : Prop := ledgerDoesRow.holds Try.pinned (OpenSpec.ofChange ledgerDoesSpec)

/-- ITS FALSE NEIGHBOUR: 'it returns false'. Refute it at one input. -/
def ledgerDoesWrong : ChangeSpec := { name := "ledgerDoes", fn := fun _ => fun
  | [d1, d2] => { results := [.lit (.bool false)], args := [d1, d2] }
  | _ => none }
def LedgerDoesWrongFalsely : Prop := ledgerDoesRow.holds Try.pinned (OpenSpec.ofChange ledgerDoesWrong)

/-- 'sheaferlaw07.LedgerSums': WHATEVER THE INPUT: true; the input reads as it did. -/
def ledgerSumsSpec : ChangeSpec := { name := "ledgerSums", fn := fun _ => fun
  | [d1, d2, d3] => { results := [.lit (.bool true)], args := [d1, d2, d3] }
  | _ => none }
def ledgerSumsRow : OpenClaim := { program := "ytmibmodibicibaa", sum := "990732a568c1147185cd9f660a573996ff6e727a5a5bb1ba1aed2cd7eee71479", func := "sheafer/sheaferlaw07.LedgerSums", spec := "ledgerSums", inPlace := ["math/bits.Add64", "slices.overlaps[sheafer/api.Held]", "math/bits.Sub64"], unfollowed := true, recurses := true, apart := false }
def LedgerSumsSaid : Prop := ledgerSumsRow.holds Try.pinned (OpenSpec.ofChange ledgerSumsSpec)

/-- ITS FALSE NEIGHBOUR: 'it returns false'. Refute it at one input. -/
def ledgerSumsWrong : ChangeSpec := { name := "ledgerSums", fn := fun _ => fun
  | [d1, d2, d3] => { results := [.lit (.bool false)], args := [d1, d2, d3] }
  | _ => none }
def LedgerSumsWrongFalsely : Prop := ledgerSumsRow.holds Try.pinned (OpenSpec.ofChange ledgerSumsWrong)

/-- 'sheaferlaw07.LedgerDelays': WHATEVER THE INPUT: true; the input reads as it did. -/
def ledgerDelaysSpec : ChangeSpec := { name := "ledgerDelays", fn := fun _ => fun
  | [d1, d2] => { results := [.lit (.bool true)], args := [d1, d2] }
  | _ => none }
def ledgerDelaysRow : OpenClaim := { program := "ytmibmodibicibaa", sum := "990732a568c1147185cd9f660a573996ff6e727a5a5bb1ba1aed2cd7eee71479", func := "sheafer/sheaferlaw07.LedgerDelays", spec := "ledgerDelays", inPlace := ["math/bits.Add64", "slices.overlaps[sheafer/api.Held]", "math/bits.Sub64"], unfollowed := true, recurses := true, apart := false }
def LedgerDelaysSaid : Prop := ledgerDelaysRow.holds Try.pinned (OpenSpec.ofChange ledgerDelaysSpec)

/-- ITS FALSE NEIGHBOUR: 'it returns false'. Refute it at one input. -/
def ledgerDelaysWrong : ChangeSpec := { name := "ledgerDelays", fn := fun _ => fun
  | [d1, d2] => { results := [.lit (.bool false)], args := [d1, d2] }
  | _ => none }
def LedgerDelaysWrongFalsely : Prop := ledgerDelaysRow.holds Try.pinned (OpenSpec.ofChange ledgerDelaysWrong)

/-- 'sheaferlaw07.LedgerApart': WHATEVER THE INPUT: true; the input reads as it did. -/
def ledgerApartSpec : ChangeSpec := { name := "ledgerApart", fn := fun _ => fun
  | [d1, d2, d3] => { results := [.lit (.bool true)], args := [d1, d2, d3] }
  | _ => none }
def ledgerApartRow : OpenClaim := { program := "ytmibmodibicibaa", sum := "990732a568c1147185cd9f660a573996ff6e727a5a5bb1ba1aed2cd7eee71479", func := "sheafer/sheaferlaw07.LedgerApart", spec := "ledgerApart", inPlace := ["math/bits.Add64", "slices.overlaps[sheafer/api.Held]", "math/bits.Sub64"], unfollowed := true, recurses := true, apart := false }
def LedgerApartSaid : Prop := ledgerApartRow.holds Try.pinned (OpenSpec.ofChange ledgerApartSpec)

/-- ITS FALSE NEIGHBOUR: 'it returns false'. Refute it at one input. -/
def ledgerApartWrong : ChangeSpec := { name := "ledgerApart", fn := fun _ => fun
  | [d1, d2, d3] => { results := [.lit (.bool false)], args := [d1, d2, d3] }
  | _ => none }
def LedgerApartWrongFalsely : Prop := ledgerApartRow.holds Try.pinned (OpenSpec.ofChange ledgerApartWrong)

/- THE SECOND FORM. 'bulk': how many values and letters a reading holds, each counted each time it is reached (what is shared counts as often as it is met; a slice's spare places count too). A statement '..UptoSaid' is the law's where the arguments, and the package variables that the reading takes, are together of bulk at most 1048576: NARROWER than '..Said'. Prove '..Said' where nothing that the law and all that it calls make is longer than what came in: it says more and counts as full. Else prove '..UptoSaid'. A law counts once. -/
mutual
def uptoBulk {H : Type} : DataW H → Nat
  | .lit (.string bytes) => bytes.length + 1
  | .lit _ => 1
  | .nil => 1
  | .ptr d => uptoBulk d + 1
  | .slice elems spare => uptoBulkAll elems + uptoBulkAll spare + 1
  | .agg parts => uptoBulkAll parts + 1
  | .iface _ d => uptoBulk d + 1
  | .map entries => uptoBulkEntries entries + 1
  | .held _ => 1
def uptoBulkAll {H : Type} : List (DataW H) → Nat
  | [] => 0
  | d :: r => uptoBulk d + uptoBulkAll r
def uptoBulkEntries {H : Type} : List (Lit × DataW H) → Nat
  | [] => 0
  | x :: r => uptoBulkEntry x + uptoBulkEntries r
def uptoBulkEntry {H : Type} : Lit × DataW H → Nat
  | (.string bytes, d) => bytes.length + uptoBulk d + 1
  | (_, d) => uptoBulk d + 1
 end
def uptoSmall : (H : Type) → List (DataW H) → Bool := fun _ ds => decide (uptoBulkAll ds ≤ 1048576)
def OpenSpec.upto (s : _root_.Go.ChangeSpec) : _root_.Go.OpenSpec := { _root_.Go.OpenSpec.ofChange s with cond := some uptoSmall }

/-- 'sheaferlaw07.LedgerDoes', WHERE WHAT IT READS IS OF BULK AT MOST 1048576: true; the input reads as it did. -/
def ledgerDoesUptoRow : OpenClaim := { program := "ytmibmodibicibaa", sum := "990732a568c1147185cd9f660a573996ff6e727a5a5bb1ba1aed2cd7eee71479", func := "sheafer/sheaferlaw07.LedgerDoes", spec := "ledgerDoes", inPlace := ["math/bits.Add64", "slices.overlaps[sheafer/api.Held]", "math/bits.Sub64"], unfollowed := true, recurses := true, apart := false, narrowed := true }
def LedgerDoesUptoSaid : Prop := ledgerDoesUptoRow.holds Try.pinned (OpenSpec.upto ledgerDoesSpec)

/-- 'sheaferlaw07.LedgerSums', WHERE WHAT IT READS IS OF BULK AT MOST 1048576: true; the input reads as it did. -/
def ledgerSumsUptoRow : OpenClaim := { program := "ytmibmodibicibaa", sum := "990732a568c1147185cd9f660a573996ff6e727a5a5bb1ba1aed2cd7eee71479", func := "sheafer/sheaferlaw07.LedgerSums", spec := "ledgerSums", inPlace := ["math/bits.Add64", "slices.overlaps[sheafer/api.Held]", "math/bits.Sub64"], unfollowed := true, recurses := true, apart := false, narrowed := true }
def LedgerSumsUptoSaid : Prop := ledgerSumsUptoRow.holds Try.pinned (OpenSpec.upto ledgerSumsSpec)

/-- 'sheaferlaw07.LedgerDelays', WHERE WHAT IT READS IS OF BULK AT MOST 1048576: true; the input reads as it did. -/
def ledgerDelaysUptoRow : OpenClaim := { program := "ytmibmodibicibaa", sum := "990732a568c1147185cd9f660a573996ff6e727a5a5bb1ba1aed2cd7eee71479", func := "sheafer/sheaferlaw07.LedgerDelays", spec := "ledgerDelays", inPlace := ["math/bits.Add64", "slices.overlaps[sheafer/api.Held]", "math/bits.Sub64"], unfollowed := true, recurses := true, apart := false, narrowed := true }
def LedgerDelaysUptoSaid : Prop := ledgerDelaysUptoRow.holds Try.pinned (OpenSpec.upto ledgerDelaysSpec)

/-- 'sheaferlaw07.LedgerApart', WHERE WHAT IT READS IS OF BULK AT MOST 1048576: true; the input reads as it did. -/
def ledgerApartUptoRow : OpenClaim := { program := "ytmibmodibicibaa", sum := "990732a568c1147185cd9f660a573996ff6e727a5a5bb1ba1aed2cd7eee71479", func := "sheafer/sheaferlaw07.LedgerApart", spec := "ledgerApart", inPlace := ["math/bits.Add64", "slices.overlaps[sheafer/api.Held]", "math/bits.Sub64"], unfollowed := true, recurses := true, apart := false, narrowed := true }
def LedgerApartUptoSaid : Prop := ledgerApartUptoRow.holds Try.pinned (OpenSpec.upto ledgerApartSpec)

end Rows
end Go.Proofs.Ytmibmodibicibaa
