/-
  No cell of these rows narrows 'for every input' (looked for: loops, veiled, ifaces, maps, wideKeys, modest, calm, conditions, laid).
  DERIVED. THE GIVEN ROWS OF THIS SEAT. 6 by the template 'for every input the law returns true; each argument reads behind the call as it read before'; 0 by the template 'total and deterministic' (their statements: YtbfbcndphnlgoaaTotals.lean).
  GIVEN WITH THE SEED: the statements are not yours to turn. If you find one false, say at which input.
  Laid BY PROGRAM, IN A SANDBOX (cutbox-rows.mjs): the forced cells as the released guide's own fill.sh prints them over the translation 89c30dcaa04877be… (all of the seat's roots in one cut). By AI agents, Wed Nov 11 2026. No macro, syntax, notation, axiom, sorry.
-/
import Derived.Test.YtbfbcndphnlgoaaChecked
import GoSem.Claim
import GoSem.ClaimJoined
import GoSem.ClaimMapViews
import Derived.JoinedTies
import Derived.KernelRfl
namespace Go.Proofs.Ytbfbcndphnlgoaa
/- THE CELL 'sum', in the pinned program and in every row, IS THE sha256 OF THE DUMP (.gsa) THAT YtbfbcndphnlgoaaProg.lean LOADS. Nothing in Lean hashes anything: it is a label: what it is worth is what the hold of that sum in a sandbox is worth. -/
noncomputable def Try.pinned : Pinned := { name := "ytbfbcndphnlgoaa", sum := "89c30dcaa04877be2134288aaa05e4efaabf6240e95f2e73c8d0e909d2879843", checked := Try.checked }
namespace Rows
def none {H : Type} : Left H := { results := [], args := [] }

/-- 'sheaferlaw05.AddrNears': WHATEVER THE INPUT: true; the input reads as it did. -/
def addrNearsSpec : ChangeSpec := { name := "addrNears", fn := fun _ => fun
  | [d1, d2] => { results := [.lit (.bool true)], args := [d1, d2] }
  | _ => none }
def addrNearsRow : OpenClaim := { program := "ytbfbcndphnlgoaa", sum := "89c30dcaa04877be2134288aaa05e4efaabf6240e95f2e73c8d0e909d2879843", func := "sheafer/sheaferlaw05.AddrNears", spec := "addrNears", inPlace := ["math/bits.Sub64"], unfollowed := true, recurses := true, apart := false }
def AddrNearsSaid : Prop := addrNearsRow.holds Try.pinned (OpenSpec.ofChange addrNearsSpec)

/-- ITS FALSE NEIGHBOUR: 'it returns false'. Refute it at one input. -/
def addrNearsWrong : ChangeSpec := { name := "addrNears", fn := fun _ => fun
  | [d1, d2] => { results := [.lit (.bool false)], args := [d1, d2] }
  | _ => none }
def AddrNearsWrongFalsely : Prop := addrNearsRow.holds Try.pinned (OpenSpec.ofChange addrNearsWrong)

/-- 'sheaferlaw05.AddrSorts': WHATEVER THE INPUT: true; the input reads as it did. -/
def addrSortsSpec : ChangeSpec := { name := "addrSorts", fn := fun _ => fun
  | [d] => { results := [.lit (.bool true)], args := [d] }
  | _ => none }
def addrSortsRow : OpenClaim := { program := "ytbfbcndphnlgoaa", sum := "89c30dcaa04877be2134288aaa05e4efaabf6240e95f2e73c8d0e909d2879843", func := "sheafer/sheaferlaw05.AddrSorts", spec := "addrSorts", inPlace := ["math/bits.Sub64"], unfollowed := true, recurses := true, apart := false }
def AddrSortsSaid : Prop := addrSortsRow.holds Try.pinned (OpenSpec.ofChange addrSortsSpec)

/-- ITS FALSE NEIGHBOUR: 'it returns false'. Refute it at one input. -/
def addrSortsWrong : ChangeSpec := { name := "addrSorts", fn := fun _ => fun
  | [d] => { results := [.lit (.bool false)], args := [d] }
  | _ => none }
def AddrSortsWrongFalsely : Prop := addrSortsRow.holds Try.pinned (OpenSpec.ofChange addrSortsWrong)

/-- 'sheaferlaw05.AddrReach': WHATEVER THE INPUT: true; the input reads as it did. -/
def addrReachSpec : ChangeSpec := { name := "addrReach", fn := fun _ => fun
  | [d1, d2] => { results := [.lit (.bool true)], args := [d1, d2] }
  | _ => none }
def addrReachRow : OpenClaim := { program := "ytbfbcndphnlgoaa", sum := "89c30dcaa04877be2134288aaa05e4efaabf6240e95f2e73c8d0e909d2879843", func := "sheafer/sheaferlaw05.AddrReach", spec := "addrReach", inPlace := ["math/bits.Sub64"], unfollowed := true, recurses := true, apart := false }
def AddrReachSaid : Prop := addrReachRow.holds Try.pinned (OpenSpec.ofChange addrReachSpec)

/-- ITS FALSE NEIGHBOUR: 'it returns false'. Refute it at one input. -/
def addrReachWrong : ChangeSpec := { name := "addrReach", fn := fun _ => fun
  | [d1, d2] => { results := [.lit (.bool false)], args := [d1, d2] }
  | _ => none }
def AddrReachWrongFalsely : Prop := addrReachRow.holds Try.pinned (OpenSpec.ofChange addrReachWrong)

/-- 'sheaferlaw05.AddrSorted': WHATEVER THE INPUT: true; the input reads as it did. -/
def addrSortedSpec : ChangeSpec := { name := "addrSorted", fn := fun _ => fun
  | [d1, d2] => { results := [.lit (.bool true)], args := [d1, d2] }
  | _ => none }
def addrSortedRow : OpenClaim := { program := "ytbfbcndphnlgoaa", sum := "89c30dcaa04877be2134288aaa05e4efaabf6240e95f2e73c8d0e909d2879843", func := "sheafer/sheaferlaw05.AddrSorted", spec := "addrSorted", inPlace := ["math/bits.Sub64"], unfollowed := true, recurses := true, apart := false }
def AddrSortedSaid : Prop := addrSortedRow.holds Try.pinned (OpenSpec.ofChange addrSortedSpec)

/-- ITS FALSE NEIGHBOUR: 'it returns false'. Refute it at one input. -/
def addrSortedWrong : ChangeSpec := { name := "addrSorted", fn := fun _ => fun
  | [d1, d2] => { results := [.lit (.bool false)], args := [d1, d2] }
  | _ => none }
def AddrSortedWrongFalsely : Prop := addrSortedRow.holds Try.pinned (OpenSpec.ofChange addrSortedWrong)

/-- 'sheaferlaw05.AddrTells': WHATEVER THE INPUT: true; the input reads as it did. -/
def addrTellsSpec : ChangeSpec := { name := "addrTells", fn := fun _ => fun
  | [d1, d2, d3] => { results := [.lit (.bool true)], args := [d1, d2, d3] }
  | _ => none }
def addrTellsRow : OpenClaim := { program := "ytbfbcndphnlgoaa", sum := "89c30dcaa04877be2134288aaa05e4efaabf6240e95f2e73c8d0e909d2879843", func := "sheafer/sheaferlaw05.AddrTells", spec := "addrTells", inPlace := ["math/bits.Sub64"], unfollowed := true, recurses := true, apart := false }
def AddrTellsSaid : Prop := addrTellsRow.holds Try.pinned (OpenSpec.ofChange addrTellsSpec)

/-- ITS FALSE NEIGHBOUR: 'it returns false'. Refute it at one input. -/
def addrTellsWrong : ChangeSpec := { name := "addrTells", fn := fun _ => fun
  | [d1, d2, d3] => { results := [.lit (.bool false)], args := [d1, d2, d3] }
  | _ => none }
def AddrTellsWrongFalsely : Prop := addrTellsRow.holds Try.pinned (OpenSpec.ofChange addrTellsWrong)

/-- 'sheaferlaw05.AddrBack': WHATEVER THE INPUT: true; the input reads as it did. -/
def addrBackSpec : ChangeSpec := { name := "addrBack", fn := fun _ => fun
  | [d1, d2] => { results := [.lit (.bool true)], args := [d1, d2] }
  | _ => none }
def addrBackRow : OpenClaim := { program := "ytbfbcndphnlgoaa", sum := "89c30dcaa04877be2134288aaa05e4efaabf6240e95f2e73c8d0e909d2879843", func := "sheafer/sheaferlaw05.AddrBack", spec := "addrBack", inPlace := ["math/bits.Sub64"], unfollowed := true, recurses := true, apart := false }
def AddrBackSaid : Prop := addrBackRow.holds Try.pinned (OpenSpec.ofChange addrBackSpec)

/-- ITS FALSE NEIGHBOUR: 'it returns false'. Refute it at one input. -/
def addrBackWrong : ChangeSpec := { name := "addrBack", fn := fun _ => fun
  | [d1, d2] => { results := [.lit (.bool false)], args := [d1, d2] }
  | _ => none }
def AddrBackWrongFalsely : Prop := addrBackRow.holds Try.pinned (OpenSpec.ofChange addrBackWrong)

/- THE SECOND FORM. 'bulk': how many values and letters a reading holds, each counted each time it is reached (what is shared counts as often as it is met; a slice's spare places count too). A statement '..UptoSaid' is the law's where the arguments, and the package variables that the reading takes, are together of bulk at most 1048576: NARROWER than '..Said'. Prove '..Said' where nothing that the law and all that it calls make is longer than what came in: it says more and counts as full. Else prove '..UptoSaid'. A law counts once. -/
mutual
def uptoBulk {H : Type} : DataW H → Nat
  | .lit (.string bytes) => bytes.length + 1
  | .lit _ => 1
  | .nil => 1
  | .ptr d => uptoBulk d + 1
  | .slice elems spare => uptoBulkAll elems + uptoBulkAll spare + 1
  | .agg parts => uptoBulkAll parts + 1
  | .iface _ d => uptoBulk d + 1
  | .map entries => uptoBulkEntries entries + 1
  | .held _ => 1
def uptoBulkAll {H : Type} : List (DataW H) → Nat
  | [] => 0
  | d :: r => uptoBulk d + uptoBulkAll r
def uptoBulkEntries {H : Type} : List (Lit × DataW H) → Nat
  | [] => 0
  | x :: r => uptoBulkEntry x + uptoBulkEntries r
def uptoBulkEntry {H : Type} : Lit × DataW H → Nat
  | (.string bytes, d) => bytes.length + uptoBulk d + 1
  | (_, d) => uptoBulk d + 1
 end
def uptoSmall : (H : Type) → List (DataW H) → Bool := fun _ ds => decide (uptoBulkAll ds ≤ 1048576)
def OpenSpec.upto (s : _root_.Go.ChangeSpec) : _root_.Go.OpenSpec := { _root_.Go.OpenSpec.ofChange s with cond := some uptoSmall }

/-- 'sheaferlaw05.AddrNears', WHERE WHAT IT READS IS OF BULK AT MOST 1048576: true; the input reads as it did. -/
def addrNearsUptoRow : OpenClaim := { program := "ytbfbcndphnlgoaa", sum := "89c30dcaa04877be2134288aaa05e4efaabf6240e95f2e73c8d0e909d2879843", func := "sheafer/sheaferlaw05.AddrNears", spec := "addrNears", inPlace := ["math/bits.Sub64"], unfollowed := true, recurses := true, apart := false, narrowed := true }
def AddrNearsUptoSaid : Prop := addrNearsUptoRow.holds Try.pinned (OpenSpec.upto addrNearsSpec)

/-- 'sheaferlaw05.AddrSorts', WHERE WHAT IT READS IS OF BULK AT MOST 1048576: true; the input reads as it did. -/
def addrSortsUptoRow : OpenClaim := { program := "ytbfbcndphnlgoaa", sum := "89c30dcaa04877be2134288aaa05e4efaabf6240e95f2e73c8d0e909d2879843", func := "sheafer/sheaferlaw05.AddrSorts", spec := "addrSorts", inPlace := ["math/bits.Sub64"], unfollowed := true, recurses := true, apart := false, narrowed := true }
def AddrSortsUptoSaid : Prop := addrSortsUptoRow.holds Try.pinned (OpenSpec.upto addrSortsSpec)

/-- 'sheaferlaw05.AddrReach', WHERE WHAT IT READS IS OF BULK AT MOST 1048576: true; the input reads as it did. -/
def addrReachUptoRow : OpenClaim := { program := "ytbfbcndphnlgoaa", sum := "89c30dcaa04877be2134288aaa05e4efaabf6240e95f2e73c8d0e909d2879843", func := "sheafer/sheaferlaw05.AddrReach", spec := "addrReach", inPlace := ["math/bits.Sub64"], unfollowed := true, recurses := true, apart := false, narrowed := true }
def AddrReachUptoSaid : Prop := addrReachUptoRow.holds Try.pinned (OpenSpec.upto addrReachSpec)

/-- 'sheaferlaw05.AddrSorted', WHERE WHAT IT READS IS OF BULK AT MOST 1048576: true; the input reads as it did. -/
def addrSortedUptoRow : OpenClaim := { program := "ytbfbcndphnlgoaa", sum := "89c30dcaa04877be2134288aaa05e4efaabf6240e95f2e73c8d0e909d2879843", func := "sheafer/sheaferlaw05.AddrSorted", spec := "addrSorted", inPlace := ["math/bits.Sub64"], unfollowed := true, recurses := true, apart := false, narrowed := true }
def AddrSortedUptoSaid : Prop := addrSortedUptoRow.holds Try.pinned (OpenSpec.upto addrSortedSpec)

/-- 'sheaferlaw05.AddrTells', WHERE WHAT IT READS IS OF BULK AT MOST 1048576: true; the input reads as it did. -/
def addrTellsUptoRow : OpenClaim := { program := "ytbfbcndphnlgoaa", sum := "89c30dcaa04877be2134288aaa05e4efaabf6240e95f2e73c8d0e909d2879843", func := "sheafer/sheaferlaw05.AddrTells", spec := "addrTells", inPlace := ["math/bits.Sub64"], unfollowed := true, recurses := true, apart := false, narrowed := true }
def AddrTellsUptoSaid : Prop := addrTellsUptoRow.holds Try.pinned (OpenSpec.upto addrTellsSpec)

/-- 'sheaferlaw05.AddrBack', WHERE WHAT IT READS IS OF BULK AT MOST 1048576: true; the input reads as it did. -/
def addrBackUptoRow : OpenClaim := { program := "ytbfbcndphnlgoaa", sum := "89c30dcaa04877be2134288aaa05e4efaabf6240e95f2e73c8d0e909d2879843", func := "sheafer/sheaferlaw05.AddrBack", spec := "addrBack", inPlace := ["math/bits.Sub64"], unfollowed := true, recurses := true, apart := false, narrowed := true }
def AddrBackUptoSaid : Prop := addrBackUptoRow.holds Try.pinned (OpenSpec.upto addrBackSpec)

end Rows
end Go.Proofs.Ytbfbcndphnlgoaa
