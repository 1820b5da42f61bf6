/-
  No cell of these rows narrows 'for every input' (looked for: loops, veiled, ifaces, maps, wideKeys, modest, calm, conditions, laid).
  DERIVED. THE GIVEN ROWS OF THIS SEAT. 6 by the template 'for every input the law returns true; each argument reads behind the call as it read before'; 0 by the template 'total and deterministic' (their statements: YtmlalhmljmajbaaTotals.lean).
  GIVEN WITH THE SEED: the statements are not yours to turn. If you find one false, say at which input.
  Laid BY PROGRAM, IN A SANDBOX (cutbox-rows.mjs): the forced cells as the released guide's own fill.sh prints them over the translation ed685e834c0328d0… (all of the seat's roots in one cut). By AI agents, Wed Nov 11 2026. No macro, syntax, notation, axiom, sorry.
-/
import Derived.Test.YtmlalhmljmajbaaChecked
import GoSem.Claim
import GoSem.ClaimJoined
import GoSem.ClaimMapViews
import Derived.JoinedTies
import Derived.KernelRfl
namespace Go.Proofs.Ytmlalhmljmajbaa
/- THE CELL 'sum', in the pinned program and in every row, IS THE sha256 OF THE DUMP (.gsa) THAT YtmlalhmljmajbaaProg.lean LOADS. Nothing in Lean hashes anything: it is a label: what it is worth is what the hold of that sum in a sandbox is worth. -/
noncomputable def Try.pinned : Pinned := { name := "ytmlalhmljmajbaa", sum := "ed685e834c0328d08a85e819ba42263b809821519161b4a61ba8af13952b13fc", checked := Try.checked }
namespace Rows
def none {H : Type} : Left H := { results := [], args := [] }

/-- 'sheaferlaw09.AccessNews': WHATEVER THE INPUT: true; the input reads as it did. -/
def accessNewsSpec : ChangeSpec := { name := "accessNews", fn := fun _ => fun
  | [d1, d2, d3] => { results := [.lit (.bool true)], args := [d1, d2, d3] }
  | _ => none }
def accessNewsRow : OpenClaim := { program := "ytmlalhmljmajbaa", sum := "ed685e834c0328d08a85e819ba42263b809821519161b4a61ba8af13952b13fc", func := "sheafer/sheaferlaw09.AccessNews", spec := "accessNews", inPlace := ["slices.overlaps[sheafer/api.Addr]"], unfollowed := true, recurses := true, apart := false }
def AccessNewsSaid : Prop := accessNewsRow.holds Try.pinned (OpenSpec.ofChange accessNewsSpec)

/-- ITS FALSE NEIGHBOUR: 'it returns false'. Refute it at one input. -/
def accessNewsWrong : ChangeSpec := { name := "accessNews", fn := fun _ => fun
  | [d1, d2, d3] => { results := [.lit (.bool false)], args := [d1, d2, d3] }
  | _ => none }
def AccessNewsWrongFalsely : Prop := accessNewsRow.holds Try.pinned (OpenSpec.ofChange accessNewsWrong)

/-- 'sheaferlaw09.AccessNew': WHATEVER THE INPUT: true; the input reads as it did. -/
def accessNewSpec : ChangeSpec := { name := "accessNew", fn := fun _ => fun
  | [d] => { results := [.lit (.bool true)], args := [d] }
  | _ => none }
def accessNewRow : OpenClaim := { program := "ytmlalhmljmajbaa", sum := "ed685e834c0328d08a85e819ba42263b809821519161b4a61ba8af13952b13fc", func := "sheafer/sheaferlaw09.AccessNew", spec := "accessNew", inPlace := ["slices.overlaps[sheafer/api.Addr]"], unfollowed := true, recurses := true, apart := false }
def AccessNewSaid : Prop := accessNewRow.holds Try.pinned (OpenSpec.ofChange accessNewSpec)

/-- ITS FALSE NEIGHBOUR: 'it returns false'. Refute it at one input. -/
def accessNewWrong : ChangeSpec := { name := "accessNew", fn := fun _ => fun
  | [d] => { results := [.lit (.bool false)], args := [d] }
  | _ => none }
def AccessNewWrongFalsely : Prop := accessNewRow.holds Try.pinned (OpenSpec.ofChange accessNewWrong)

/-- 'sheaferlaw09.AccessTells': WHATEVER THE INPUT: true; the input reads as it did. -/
def accessTellsSpec : ChangeSpec := { name := "accessTells", fn := fun _ => fun
  | [d1, d2, d3] => { results := [.lit (.bool true)], args := [d1, d2, d3] }
  | _ => none }
def accessTellsRow : OpenClaim := { program := "ytmlalhmljmajbaa", sum := "ed685e834c0328d08a85e819ba42263b809821519161b4a61ba8af13952b13fc", func := "sheafer/sheaferlaw09.AccessTells", spec := "accessTells", inPlace := ["slices.overlaps[sheafer/api.Addr]"], unfollowed := true, recurses := true, apart := false }
def AccessTellsSaid : Prop := accessTellsRow.holds Try.pinned (OpenSpec.ofChange accessTellsSpec)

/-- ITS FALSE NEIGHBOUR: 'it returns false'. Refute it at one input. -/
def accessTellsWrong : ChangeSpec := { name := "accessTells", fn := fun _ => fun
  | [d1, d2, d3] => { results := [.lit (.bool false)], args := [d1, d2, d3] }
  | _ => none }
def AccessTellsWrongFalsely : Prop := accessTellsRow.holds Try.pinned (OpenSpec.ofChange accessTellsWrong)

/-- 'sheaferlaw09.AccessDoes': WHATEVER THE INPUT: true; the input reads as it did. -/
def accessDoesSpec : ChangeSpec := { name := "accessDoes", fn := fun _ => fun
  | [d1, d2] => { results := [.lit (.bool true)], args := [d1, d2] }
  | _ => none }
def accessDoesRow : OpenClaim := { program := "ytmlalhmljmajbaa", sum := "ed685e834c0328d08a85e819ba42263b809821519161b4a61ba8af13952b13fc", func := "sheafer/sheaferlaw09.AccessDoes", spec := "accessDoes", inPlace := ["slices.overlaps[sheafer/api.Addr]", "slices.overlaps[sheafer/api.Spot]", "slices.overlaps[sheafer/api.Passing]"], unfollowed := true, recurses := true, apart := false }
def AccessDoesSaid : Prop := accessDoesRow.holds Try.pinned (OpenSpec.ofChange accessDoesSpec)

/-- ITS FALSE NEIGHBOUR: 'it returns false'. Refute it at one input. -/
def accessDoesWrong : ChangeSpec := { name := "accessDoes", fn := fun _ => fun
  | [d1, d2] => { results := [.lit (.bool false)], args := [d1, d2] }
  | _ => none }
def AccessDoesWrongFalsely : Prop := accessDoesRow.holds Try.pinned (OpenSpec.ofChange accessDoesWrong)

/-- 'sheaferlaw09.AccessTurned': WHATEVER THE INPUT: true; the input reads as it did. -/
def accessTurnedSpec : ChangeSpec := { name := "accessTurned", fn := fun _ => fun
  | [d1, d2, d3] => { results := [.lit (.bool true)], args := [d1, d2, d3] }
  | _ => none }
def accessTurnedRow : OpenClaim := { program := "ytmlalhmljmajbaa", sum := "ed685e834c0328d08a85e819ba42263b809821519161b4a61ba8af13952b13fc", func := "sheafer/sheaferlaw09.AccessTurned", spec := "accessTurned", inPlace := ["slices.overlaps[sheafer/api.Addr]", "slices.overlaps[sheafer/api.Spot]", "slices.overlaps[sheafer/api.Passing]"], unfollowed := true, recurses := true, apart := false }
def AccessTurnedSaid : Prop := accessTurnedRow.holds Try.pinned (OpenSpec.ofChange accessTurnedSpec)

/-- ITS FALSE NEIGHBOUR: 'it returns false'. Refute it at one input. -/
def accessTurnedWrong : ChangeSpec := { name := "accessTurned", fn := fun _ => fun
  | [d1, d2, d3] => { results := [.lit (.bool false)], args := [d1, d2, d3] }
  | _ => none }
def AccessTurnedWrongFalsely : Prop := accessTurnedRow.holds Try.pinned (OpenSpec.ofChange accessTurnedWrong)

/-- 'sheaferlaw09.AccessStays': WHATEVER THE INPUT: true; the input reads as it did. -/
def accessStaysSpec : ChangeSpec := { name := "accessStays", fn := fun _ => fun
  | [d1, d2, d3] => { results := [.lit (.bool true)], args := [d1, d2, d3] }
  | _ => none }
def accessStaysRow : OpenClaim := { program := "ytmlalhmljmajbaa", sum := "ed685e834c0328d08a85e819ba42263b809821519161b4a61ba8af13952b13fc", func := "sheafer/sheaferlaw09.AccessStays", spec := "accessStays", inPlace := ["slices.overlaps[sheafer/api.Addr]", "slices.overlaps[sheafer/api.Spot]", "slices.overlaps[sheafer/api.Passing]"], unfollowed := true, recurses := true, apart := false }
def AccessStaysSaid : Prop := accessStaysRow.holds Try.pinned (OpenSpec.ofChange accessStaysSpec)

/-- ITS FALSE NEIGHBOUR: 'it returns false'. Refute it at one input. -/
def accessStaysWrong : ChangeSpec := { name := "accessStays", fn := fun _ => fun
  | [d1, d2, d3] => { results := [.lit (.bool false)], args := [d1, d2, d3] }
  | _ => none }
def AccessStaysWrongFalsely : Prop := accessStaysRow.holds Try.pinned (OpenSpec.ofChange accessStaysWrong)

/- THE SECOND FORM. 'bulk': how many values and letters a reading holds, each counted each time it is reached (what is shared counts as often as it is met; a slice's spare places count too). A statement '..UptoSaid' is the law's where the arguments, and the package variables that the reading takes, are together of bulk at most 1048576: NARROWER than '..Said'. Prove '..Said' where nothing that the law and all that it calls make is longer than what came in: it says more and counts as full. Else prove '..UptoSaid'. A law counts once. -/
mutual
def uptoBulk {H : Type} : DataW H → Nat
  | .lit (.string bytes) => bytes.length + 1
  | .lit _ => 1
  | .nil => 1
  | .ptr d => uptoBulk d + 1
  | .slice elems spare => uptoBulkAll elems + uptoBulkAll spare + 1
  | .agg parts => uptoBulkAll parts + 1
  | .iface _ d => uptoBulk d + 1
  | .map entries => uptoBulkEntries entries + 1
  | .held _ => 1
def uptoBulkAll {H : Type} : List (DataW H) → Nat
  | [] => 0
  | d :: r => uptoBulk d + uptoBulkAll r
def uptoBulkEntries {H : Type} : List (Lit × DataW H) → Nat
  | [] => 0
  | x :: r => uptoBulkEntry x + uptoBulkEntries r
def uptoBulkEntry {H : Type} : Lit × DataW H → Nat
  | (.string bytes, d) => bytes.length + uptoBulk d + 1
  | (_, d) => uptoBulk d + 1
 end
def uptoSmall : (H : Type) → List (DataW H) → Bool := fun _ ds => decide (uptoBulkAll ds ≤ 1048576)
def OpenSpec.upto (s : _root_.Go.ChangeSpec) : _root_.Go.OpenSpec := { _root_.Go.OpenSpec.ofChange s with cond := some uptoSmall }

/-- 'sheaferlaw09.AccessNews', WHERE WHAT IT READS IS OF BULK AT MOST 1048576: true; the input reads as it did. -/
def accessNewsUptoRow : OpenClaim := { program := "ytmlalhmljmajbaa", sum := "ed685e834c0328d08a85e819ba42263b809821519161b4a61ba8af13952b13fc", func := "sheafer/sheaferlaw09.AccessNews", spec := "accessNews", inPlace := ["slices.overlaps[sheafer/api.Addr]"], unfollowed := true, recurses := true, apart := false, narrowed := true }
def AccessNewsUptoSaid : Prop := accessNewsUptoRow.holds Try.pinned (OpenSpec.upto accessNewsSpec)

/-- 'sheaferlaw09.AccessNew', WHERE WHAT IT READS IS OF BULK AT MOST 1048576: true; the input reads as it did. -/
def accessNewUptoRow : OpenClaim := { program := "ytmlalhmljmajbaa", sum := "ed685e834c0328d08a85e819ba42263b809821519161b4a61ba8af13952b13fc", func := "sheafer/sheaferlaw09.AccessNew", spec := "accessNew", inPlace := ["slices.overlaps[sheafer/api.Addr]"], unfollowed := true, recurses := true, apart := false, narrowed := true }
def AccessNewUptoSaid : Prop := accessNewUptoRow.holds Try.pinned (OpenSpec.upto accessNewSpec)

/-- 'sheaferlaw09.AccessTells', WHERE WHAT IT READS IS OF BULK AT MOST 1048576: true; the input reads as it did. -/
def accessTellsUptoRow : OpenClaim := { program := "ytmlalhmljmajbaa", sum := "ed685e834c0328d08a85e819ba42263b809821519161b4a61ba8af13952b13fc", func := "sheafer/sheaferlaw09.AccessTells", spec := "accessTells", inPlace := ["slices.overlaps[sheafer/api.Addr]"], unfollowed := true, recurses := true, apart := false, narrowed := true }
def AccessTellsUptoSaid : Prop := accessTellsUptoRow.holds Try.pinned (OpenSpec.upto accessTellsSpec)

/-- 'sheaferlaw09.AccessDoes', WHERE WHAT IT READS IS OF BULK AT MOST 1048576: true; the input reads as it did. -/
def accessDoesUptoRow : OpenClaim := { program := "ytmlalhmljmajbaa", sum := "ed685e834c0328d08a85e819ba42263b809821519161b4a61ba8af13952b13fc", func := "sheafer/sheaferlaw09.AccessDoes", spec := "accessDoes", inPlace := ["slices.overlaps[sheafer/api.Addr]", "slices.overlaps[sheafer/api.Spot]", "slices.overlaps[sheafer/api.Passing]"], unfollowed := true, recurses := true, apart := false, narrowed := true }
def AccessDoesUptoSaid : Prop := accessDoesUptoRow.holds Try.pinned (OpenSpec.upto accessDoesSpec)

/-- 'sheaferlaw09.AccessTurned', WHERE WHAT IT READS IS OF BULK AT MOST 1048576: true; the input reads as it did. -/
def accessTurnedUptoRow : OpenClaim := { program := "ytmlalhmljmajbaa", sum := "ed685e834c0328d08a85e819ba42263b809821519161b4a61ba8af13952b13fc", func := "sheafer/sheaferlaw09.AccessTurned", spec := "accessTurned", inPlace := ["slices.overlaps[sheafer/api.Addr]", "slices.overlaps[sheafer/api.Spot]", "slices.overlaps[sheafer/api.Passing]"], unfollowed := true, recurses := true, apart := false, narrowed := true }
def AccessTurnedUptoSaid : Prop := accessTurnedUptoRow.holds Try.pinned (OpenSpec.upto accessTurnedSpec)

/-- 'sheaferlaw09.AccessStays', WHERE WHAT IT READS IS OF BULK AT MOST 1048576: true; the input reads as it did. -/
def accessStaysUptoRow : OpenClaim := { program := "ytmlalhmljmajbaa", sum := "ed685e834c0328d08a85e819ba42263b809821519161b4a61ba8af13952b13fc", func := "sheafer/sheaferlaw09.AccessStays", spec := "accessStays", inPlace := ["slices.overlaps[sheafer/api.Addr]", "slices.overlaps[sheafer/api.Spot]", "slices.overlaps[sheafer/api.Passing]"], unfollowed := true, recurses := true, apart := false, narrowed := true }
def AccessStaysUptoSaid : Prop := accessStaysUptoRow.holds Try.pinned (OpenSpec.upto accessStaysSpec)

end Rows
end Go.Proofs.Ytmlalhmljmajbaa
