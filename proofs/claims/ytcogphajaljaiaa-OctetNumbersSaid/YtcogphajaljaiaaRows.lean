/-
  No cell of these rows narrows 'for every input' (looked for: loops, veiled, ifaces, maps, wideKeys, modest, calm, conditions, laid).
  DERIVED. THE GIVEN ROWS OF THIS SEAT. 5 by the template 'for every input the law returns true; each argument reads behind the call as it read before'; 0 by the template 'total and deterministic' (their statements: YtcogphajaljaiaaTotals.lean).
  GIVEN WITH THE SEED: the statements are not yours to turn. If you find one false, say at which input.
  Laid BY PROGRAM, IN A SANDBOX (cutbox-rows.mjs): the forced cells as the released guide's own fill.sh prints them over the translation 223e70e5abd37aeb… (all of the seat's roots in one cut). By AI agents, Wed Nov 11 2026. No macro, syntax, notation, axiom, sorry.
-/
import Derived.Test.YtcogphajaljaiaaChecked
import GoSem.Claim
import GoSem.ClaimJoined
import GoSem.ClaimMapViews
import Derived.JoinedTies
import Derived.KernelRfl
namespace Go.Proofs.Ytcogphajaljaiaa
/- THE CELL 'sum', in the pinned program and in every row, IS THE sha256 OF THE DUMP (.gsa) THAT YtcogphajaljaiaaProg.lean LOADS. Nothing in Lean hashes anything: it is a label: what it is worth is what the hold of that sum in a sandbox is worth. -/
noncomputable def Try.pinned : Pinned := { name := "ytcogphajaljaiaa", sum := "223e70e5abd37aebaf03e99cf09cbe6264ab857c3df8d2d549eea44715b39d3c", checked := Try.checked }
namespace Rows
def none {H : Type} : Left H := { results := [], args := [] }

/-- 'sheaferlaw01.OctetWindows': WHATEVER THE INPUT: true; the input reads as it did. -/
def octetWindowsSpec : ChangeSpec := { name := "octetWindows", fn := fun _ => fun
  | [d1, d2] => { results := [.lit (.bool true)], args := [d1, d2] }
  | _ => none }
def octetWindowsRow : OpenClaim := { program := "ytcogphajaljaiaa", sum := "223e70e5abd37aebaf03e99cf09cbe6264ab857c3df8d2d549eea44715b39d3c", func := "sheafer/sheaferlaw01.OctetWindows", spec := "octetWindows", inPlace := ["internal/bytealg.Count", "internal/bytealg.IndexByte", "internal/bytealg.Index"], unfollowed := true, recurses := true, named := ["internal/bytealg.MaxLen"], apart := false }
def OctetWindowsSaid : Prop := octetWindowsRow.holds Try.pinned (OpenSpec.ofChange octetWindowsSpec)

/-- ITS FALSE NEIGHBOUR: 'it returns false'. Refute it at one input. -/
def octetWindowsWrong : ChangeSpec := { name := "octetWindows", fn := fun _ => fun
  | [d1, d2] => { results := [.lit (.bool false)], args := [d1, d2] }
  | _ => none }
def OctetWindowsWrongFalsely : Prop := octetWindowsRow.holds Try.pinned (OpenSpec.ofChange octetWindowsWrong)

/-- 'sheaferlaw01.OctetNumbers': WHATEVER THE INPUT: true; the input reads as it did. -/
def octetNumbersSpec : ChangeSpec := { name := "octetNumbers", fn := fun _ => fun
  | [d1, d2] => { results := [.lit (.bool true)], args := [d1, d2] }
  | _ => none }
def octetNumbersRow : OpenClaim := { program := "ytcogphajaljaiaa", sum := "223e70e5abd37aebaf03e99cf09cbe6264ab857c3df8d2d549eea44715b39d3c", func := "sheafer/sheaferlaw01.OctetNumbers", spec := "octetNumbers", inPlace := ["internal/bytealg.Count", "internal/bytealg.IndexByte", "internal/bytealg.Index"], unfollowed := true, recurses := true, named := ["internal/bytealg.MaxLen"], apart := false }
def OctetNumbersSaid : Prop := octetNumbersRow.holds Try.pinned (OpenSpec.ofChange octetNumbersSpec)

/-- ITS FALSE NEIGHBOUR: 'it returns false'. Refute it at one input. -/
def octetNumbersWrong : ChangeSpec := { name := "octetNumbers", fn := fun _ => fun
  | [d1, d2] => { results := [.lit (.bool false)], args := [d1, d2] }
  | _ => none }
def OctetNumbersWrongFalsely : Prop := octetNumbersRow.holds Try.pinned (OpenSpec.ofChange octetNumbersWrong)

/-- 'sheaferlaw01.OctetShows': WHATEVER THE INPUT: true; the input reads as it did. -/
def octetShowsSpec : ChangeSpec := { name := "octetShows", fn := fun _ => fun
  | [d1, d2, d3] => { results := [.lit (.bool true)], args := [d1, d2, d3] }
  | _ => none }
def octetShowsRow : OpenClaim := { program := "ytcogphajaljaiaa", sum := "223e70e5abd37aebaf03e99cf09cbe6264ab857c3df8d2d549eea44715b39d3c", func := "sheafer/sheaferlaw01.OctetShows", spec := "octetShows", inPlace := ["internal/bytealg.Count", "internal/bytealg.IndexByte", "internal/bytealg.Index"], unfollowed := true, recurses := true, named := ["internal/bytealg.MaxLen"], apart := false }
def OctetShowsSaid : Prop := octetShowsRow.holds Try.pinned (OpenSpec.ofChange octetShowsSpec)

/-- ITS FALSE NEIGHBOUR: 'it returns false'. Refute it at one input. -/
def octetShowsWrong : ChangeSpec := { name := "octetShows", fn := fun _ => fun
  | [d1, d2, d3] => { results := [.lit (.bool false)], args := [d1, d2, d3] }
  | _ => none }
def OctetShowsWrongFalsely : Prop := octetShowsRow.holds Try.pinned (OpenSpec.ofChange octetShowsWrong)

/-- 'sheaferlaw01.OctetSides': WHATEVER THE INPUT: true; the input reads as it did. -/
def octetSidesSpec : ChangeSpec := { name := "octetSides", fn := fun _ => fun
  | [d1, d2, d3] => { results := [.lit (.bool true)], args := [d1, d2, d3] }
  | _ => none }
def octetSidesRow : OpenClaim := { program := "ytcogphajaljaiaa", sum := "223e70e5abd37aebaf03e99cf09cbe6264ab857c3df8d2d549eea44715b39d3c", func := "sheafer/sheaferlaw01.OctetSides", spec := "octetSides", inPlace := ["internal/bytealg.Count", "internal/bytealg.IndexByte", "internal/bytealg.Index"], unfollowed := true, recurses := true, named := ["internal/bytealg.MaxLen"], apart := false }
def OctetSidesSaid : Prop := octetSidesRow.holds Try.pinned (OpenSpec.ofChange octetSidesSpec)

/-- ITS FALSE NEIGHBOUR: 'it returns false'. Refute it at one input. -/
def octetSidesWrong : ChangeSpec := { name := "octetSides", fn := fun _ => fun
  | [d1, d2, d3] => { results := [.lit (.bool false)], args := [d1, d2, d3] }
  | _ => none }
def OctetSidesWrongFalsely : Prop := octetSidesRow.holds Try.pinned (OpenSpec.ofChange octetSidesWrong)

/-- 'sheaferlaw01.OctetCounts': WHATEVER THE INPUT: true; the input reads as it did. -/
def octetCountsSpec : ChangeSpec := { name := "octetCounts", fn := fun _ => fun
  | [d1, d2] => { results := [.lit (.bool true)], args := [d1, d2] }
  | _ => none }
def octetCountsRow : OpenClaim := { program := "ytcogphajaljaiaa", sum := "223e70e5abd37aebaf03e99cf09cbe6264ab857c3df8d2d549eea44715b39d3c", func := "sheafer/sheaferlaw01.OctetCounts", spec := "octetCounts", inPlace := ["internal/bytealg.Count", "internal/bytealg.IndexByte", "internal/bytealg.Index"], unfollowed := true, recurses := true, named := ["internal/bytealg.MaxLen"], apart := false }
def OctetCountsSaid : Prop := octetCountsRow.holds Try.pinned (OpenSpec.ofChange octetCountsSpec)

/-- ITS FALSE NEIGHBOUR: 'it returns false'. Refute it at one input. -/
def octetCountsWrong : ChangeSpec := { name := "octetCounts", fn := fun _ => fun
  | [d1, d2] => { results := [.lit (.bool false)], args := [d1, d2] }
  | _ => none }
def OctetCountsWrongFalsely : Prop := octetCountsRow.holds Try.pinned (OpenSpec.ofChange octetCountsWrong)

/- THE SECOND FORM. 'bulk': how many values and letters a reading holds, each counted each time it is reached (what is shared counts as often as it is met; a slice's spare places count too). A statement '..UptoSaid' is the law's where the arguments, and the package variables that the reading takes, are together of bulk at most 1048576: NARROWER than '..Said'. Prove '..Said' where nothing that the law and all that it calls make is longer than what came in: it says more and counts as full. Else prove '..UptoSaid'. A law counts once. -/
mutual
def uptoBulk {H : Type} : DataW H → Nat
  | .lit (.string bytes) => bytes.length + 1
  | .lit _ => 1
  | .nil => 1
  | .ptr d => uptoBulk d + 1
  | .slice elems spare => uptoBulkAll elems + uptoBulkAll spare + 1
  | .agg parts => uptoBulkAll parts + 1
  | .iface _ d => uptoBulk d + 1
  | .map entries => uptoBulkEntries entries + 1
  | .held _ => 1
def uptoBulkAll {H : Type} : List (DataW H) → Nat
  | [] => 0
  | d :: r => uptoBulk d + uptoBulkAll r
def uptoBulkEntries {H : Type} : List (Lit × DataW H) → Nat
  | [] => 0
  | x :: r => uptoBulkEntry x + uptoBulkEntries r
def uptoBulkEntry {H : Type} : Lit × DataW H → Nat
  | (.string bytes, d) => bytes.length + uptoBulk d + 1
  | (_, d) => uptoBulk d + 1
 end
def uptoSmall : (H : Type) → List (DataW H) → Bool := fun _ ds => decide (uptoBulkAll ds ≤ 1048576)
def OpenSpec.upto (s : _root_.Go.ChangeSpec) : _root_.Go.OpenSpec := { _root_.Go.OpenSpec.ofChange s with cond := some uptoSmall }

/-- 'sheaferlaw01.OctetWindows', WHERE WHAT IT READS IS OF BULK AT MOST 1048576: true; the input reads as it did. -/
def octetWindowsUptoRow : OpenClaim := { program := "ytcogphajaljaiaa", sum := "223e70e5abd37aebaf03e99cf09cbe6264ab857c3df8d2d549eea44715b39d3c", func := "sheafer/sheaferlaw01.OctetWindows", spec := "octetWindows", inPlace := ["internal/bytealg.Count", "internal/bytealg.IndexByte", "internal/bytealg.Index"], unfollowed := true, recurses := true, named := ["internal/bytealg.MaxLen"], apart := false, narrowed := true }
def OctetWindowsUptoSaid : Prop := octetWindowsUptoRow.holds Try.pinned (OpenSpec.upto octetWindowsSpec)

/-- 'sheaferlaw01.OctetNumbers', WHERE WHAT IT READS IS OF BULK AT MOST 1048576: true; the input reads as it did. -/
def octetNumbersUptoRow : OpenClaim := { program := "ytcogphajaljaiaa", sum := "223e70e5abd37aebaf03e99cf09cbe6264ab857c3df8d2d549eea44715b39d3c", func := "sheafer/sheaferlaw01.OctetNumbers", spec := "octetNumbers", inPlace := ["internal/bytealg.Count", "internal/bytealg.IndexByte", "internal/bytealg.Index"], unfollowed := true, recurses := true, named := ["internal/bytealg.MaxLen"], apart := false, narrowed := true }
def OctetNumbersUptoSaid : Prop := octetNumbersUptoRow.holds Try.pinned (OpenSpec.upto octetNumbersSpec)

/-- 'sheaferlaw01.OctetShows', WHERE WHAT IT READS IS OF BULK AT MOST 1048576: true; the input reads as it did. -/
def octetShowsUptoRow : OpenClaim := { program := "ytcogphajaljaiaa", sum := "223e70e5abd37aebaf03e99cf09cbe6264ab857c3df8d2d549eea44715b39d3c", func := "sheafer/sheaferlaw01.OctetShows", spec := "octetShows", inPlace := ["internal/bytealg.Count", "internal/bytealg.IndexByte", "internal/bytealg.Index"], unfollowed := true, recurses := true, named := ["internal/bytealg.MaxLen"], apart := false, narrowed := true }
def OctetShowsUptoSaid : Prop := octetShowsUptoRow.holds Try.pinned (OpenSpec.upto octetShowsSpec)

/-- 'sheaferlaw01.OctetSides', WHERE WHAT IT READS IS OF BULK AT MOST 1048576: true; the input reads as it did. -/
def octetSidesUptoRow : OpenClaim := { program := "ytcogphajaljaiaa", sum := "223e70e5abd37aebaf03e99cf09cbe6264ab857c3df8d2d549eea44715b39d3c", func := "sheafer/sheaferlaw01.OctetSides", spec := "octetSides", inPlace := ["internal/bytealg.Count", "internal/bytealg.IndexByte", "internal/bytealg.Index"], unfollowed := true, recurses := true, named := ["internal/bytealg.MaxLen"], apart := false, narrowed := true }
def OctetSidesUptoSaid : Prop := octetSidesUptoRow.holds Try.pinned (OpenSpec.upto octetSidesSpec)

/-- 'sheaferlaw01.OctetCounts', WHERE WHAT IT READS IS OF BULK AT MOST 1048576: true; the input reads as it did. -/
def octetCountsUptoRow : OpenClaim := { program := "ytcogphajaljaiaa", sum := "223e70e5abd37aebaf03e99cf09cbe6264ab857c3df8d2d549eea44715b39d3c", func := "sheafer/sheaferlaw01.OctetCounts", spec := "octetCounts", inPlace := ["internal/bytealg.Count", "internal/bytealg.IndexByte", "internal/bytealg.Index"], unfollowed := true, recurses := true, named := ["internal/bytealg.MaxLen"], apart := false, narrowed := true }
def OctetCountsUptoSaid : Prop := octetCountsUptoRow.holds Try.pinned (OpenSpec.upto octetCountsSpec)

end Rows
end Go.Proofs.Ytcogphajaljaiaa
