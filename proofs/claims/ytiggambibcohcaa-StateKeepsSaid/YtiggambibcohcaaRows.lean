/-
  No cell of these rows narrows 'for every input' (looked for: loops, veiled, ifaces, maps, wideKeys, modest, calm, conditions, laid).
  DERIVED. THE GIVEN ROWS OF THIS SEAT. 6 by the template 'for every input the law returns true; each argument reads behind the call as it read before'; 0 by the template 'total and deterministic' (their statements: YtiggambibcohcaaTotals.lean).
  GIVEN WITH THE SEED: the statements are not yours to turn. If you find one false, say at which input.
  Laid BY PROGRAM, IN A SANDBOX (cutbox-rows.mjs): the forced cells as the released guide's own fill.sh prints them over the translation b3902ad2566f76a5… (all of the seat's roots in one cut). By AI agents, Wed Nov 11 2026. No macro, syntax, notation, axiom, sorry.
-/
import Derived.Test.YtiggambibcohcaaChecked
import GoSem.Claim
import GoSem.ClaimJoined
import GoSem.ClaimMapViews
import Derived.JoinedTies
import Derived.KernelRfl
namespace Go.Proofs.Ytiggambibcohcaa
/- THE CELL 'sum', in the pinned program and in every row, IS THE sha256 OF THE DUMP (.gsa) THAT YtiggambibcohcaaProg.lean LOADS. Nothing in Lean hashes anything: it is a label: what it is worth is what the hold of that sum in a sandbox is worth. -/
noncomputable def Try.pinned : Pinned := { name := "ytiggambibcohcaa", sum := "b3902ad2566f76a5b27782c55ca27e565b90b80bbfc11d976e96cfe7936fec0a", checked := Try.checked }
namespace Rows
def none {H : Type} : Left H := { results := [], args := [] }

/-- 'sheaferlaw06.StateAccounts': WHATEVER THE INPUT: true; the input reads as it did. -/
def stateAccountsSpec : ChangeSpec := { name := "stateAccounts", fn := fun _ => fun
  | [d] => { results := [.lit (.bool true)], args := [d] }
  | _ => none }
def stateAccountsRow : OpenClaim := { program := "ytiggambibcohcaa", sum := "b3902ad2566f76a5b27782c55ca27e565b90b80bbfc11d976e96cfe7936fec0a", func := "sheafer/sheaferlaw06.StateAccounts", spec := "stateAccounts", inPlace := ["math/bits.Add64", "slices.overlaps[sheafer/api.Account]", "math/bits.Sub64", "slices.overlaps[sheafer/api.Pair]"], unfollowed := true, recurses := true, apart := false }
def StateAccountsSaid : Prop := stateAccountsRow.holds Try.pinned (OpenSpec.ofChange stateAccountsSpec)

/-- ITS FALSE NEIGHBOUR: 'it returns false'. Refute it at one input. -/
def stateAccountsWrong : ChangeSpec := { name := "stateAccounts", fn := fun _ => fun
  | [d] => { results := [.lit (.bool false)], args := [d] }
  | _ => none }
def StateAccountsWrongFalsely : Prop := stateAccountsRow.holds Try.pinned (OpenSpec.ofChange stateAccountsWrong)

/-- 'sheaferlaw06.StateDoes': WHATEVER THE INPUT: true; the input reads as it did. -/
def stateDoesSpec : ChangeSpec := { name := "stateDoes", fn := fun _ => fun
  | [d1, d2] => { results := [.lit (.bool true)], args := [d1, d2] }
  | _ => none }
def stateDoesRow : OpenClaim := { program := "ytiggambibcohcaa", sum := "b3902ad2566f76a5b27782c55ca27e565b90b80bbfc11d976e96cfe7936fec0a", func := "sheafer/sheaferlaw06.StateDoes", spec := "stateDoes", inPlace := ["math/bits.Add64", "slices.overlaps[sheafer/api.Account]", "math/bits.Sub64", "slices.overlaps[sheafer/api.Pair]"], unfollowed := true, recurses := true, apart := false }
def StateDoesSaid : Prop := stateDoesRow.holds Try.pinned (OpenSpec.ofChange stateDoesSpec)

/-- ITS FALSE NEIGHBOUR: 'it returns false'. Refute it at one input. -/
def stateDoesWrong : ChangeSpec := { name := "stateDoes", fn := fun _ => fun
  | [d1, d2] => { results := [.lit (.bool false)], args := [d1, d2] }
  | _ => none }
def StateDoesWrongFalsely : Prop := stateDoesRow.holds Try.pinned (OpenSpec.ofChange stateDoesWrong)

/-- 'sheaferlaw06.StateKeeps': WHATEVER THE INPUT: true; the input reads as it did. -/
def stateKeepsSpec : ChangeSpec := { name := "stateKeeps", fn := fun _ => fun
  | [d1, d2] => { results := [.lit (.bool true)], args := [d1, d2] }
  | _ => none }
def stateKeepsRow : OpenClaim := { program := "ytiggambibcohcaa", sum := "b3902ad2566f76a5b27782c55ca27e565b90b80bbfc11d976e96cfe7936fec0a", func := "sheafer/sheaferlaw06.StateKeeps", spec := "stateKeeps", inPlace := ["math/bits.Add64", "slices.overlaps[sheafer/api.Account]", "math/bits.Sub64", "slices.overlaps[sheafer/api.Pair]"], unfollowed := true, recurses := true, apart := false }
def StateKeepsSaid : Prop := stateKeepsRow.holds Try.pinned (OpenSpec.ofChange stateKeepsSpec)

/-- ITS FALSE NEIGHBOUR: 'it returns false'. Refute it at one input. -/
def stateKeepsWrong : ChangeSpec := { name := "stateKeeps", fn := fun _ => fun
  | [d1, d2] => { results := [.lit (.bool false)], args := [d1, d2] }
  | _ => none }
def StateKeepsWrongFalsely : Prop := stateKeepsRow.holds Try.pinned (OpenSpec.ofChange stateKeepsWrong)

/-- 'sheaferlaw06.StateOne': WHATEVER THE INPUT: true; the input reads as it did. -/
def stateOneSpec : ChangeSpec := { name := "stateOne", fn := fun _ => fun
  | [d1, d2] => { results := [.lit (.bool true)], args := [d1, d2] }
  | _ => none }
def stateOneRow : OpenClaim := { program := "ytiggambibcohcaa", sum := "b3902ad2566f76a5b27782c55ca27e565b90b80bbfc11d976e96cfe7936fec0a", func := "sheafer/sheaferlaw06.StateOne", spec := "stateOne", inPlace := ["math/bits.Add64", "slices.overlaps[sheafer/api.Account]", "math/bits.Sub64", "slices.overlaps[sheafer/api.Pair]"], unfollowed := true, recurses := true, apart := false }
def StateOneSaid : Prop := stateOneRow.holds Try.pinned (OpenSpec.ofChange stateOneSpec)

/-- ITS FALSE NEIGHBOUR: 'it returns false'. Refute it at one input. -/
def stateOneWrong : ChangeSpec := { name := "stateOne", fn := fun _ => fun
  | [d1, d2] => { results := [.lit (.bool false)], args := [d1, d2] }
  | _ => none }
def StateOneWrongFalsely : Prop := stateOneRow.holds Try.pinned (OpenSpec.ofChange stateOneWrong)

/-- 'sheaferlaw06.StateTells': WHATEVER THE INPUT: true; the input reads as it did. -/
def stateTellsSpec : ChangeSpec := { name := "stateTells", fn := fun _ => fun
  | [d1, d2, d3] => { results := [.lit (.bool true)], args := [d1, d2, d3] }
  | _ => none }
def stateTellsRow : OpenClaim := { program := "ytiggambibcohcaa", sum := "b3902ad2566f76a5b27782c55ca27e565b90b80bbfc11d976e96cfe7936fec0a", func := "sheafer/sheaferlaw06.StateTells", spec := "stateTells", inPlace := ["math/bits.Add64", "slices.overlaps[sheafer/api.Account]", "math/bits.Sub64", "slices.overlaps[sheafer/api.Pair]"], unfollowed := true, recurses := true, apart := false }
def StateTellsSaid : Prop := stateTellsRow.holds Try.pinned (OpenSpec.ofChange stateTellsSpec)

/-- ITS FALSE NEIGHBOUR: 'it returns false'. Refute it at one input. -/
def stateTellsWrong : ChangeSpec := { name := "stateTells", fn := fun _ => fun
  | [d1, d2, d3] => { results := [.lit (.bool false)], args := [d1, d2, d3] }
  | _ => none }
def StateTellsWrongFalsely : Prop := stateTellsRow.holds Try.pinned (OpenSpec.ofChange stateTellsWrong)

/-- 'sheaferlaw06.StateMoves': WHATEVER THE INPUT: true; the input reads as it did. -/
def stateMovesSpec : ChangeSpec := { name := "stateMoves", fn := fun _ => fun
  | [d1, d2] => { results := [.lit (.bool true)], args := [d1, d2] }
  | _ => none }
def stateMovesRow : OpenClaim := { program := "ytiggambibcohcaa", sum := "b3902ad2566f76a5b27782c55ca27e565b90b80bbfc11d976e96cfe7936fec0a", func := "sheafer/sheaferlaw06.StateMoves", spec := "stateMoves", inPlace := ["math/bits.Add64", "slices.overlaps[sheafer/api.Account]", "math/bits.Sub64", "slices.overlaps[sheafer/api.Pair]"], unfollowed := true, recurses := true, apart := false }
def StateMovesSaid : Prop := stateMovesRow.holds Try.pinned (OpenSpec.ofChange stateMovesSpec)

/-- ITS FALSE NEIGHBOUR: 'it returns false'. Refute it at one input. -/
def stateMovesWrong : ChangeSpec := { name := "stateMoves", fn := fun _ => fun
  | [d1, d2] => { results := [.lit (.bool false)], args := [d1, d2] }
  | _ => none }
def StateMovesWrongFalsely : Prop := stateMovesRow.holds Try.pinned (OpenSpec.ofChange stateMovesWrong)

/- THE SECOND FORM. 'bulk': how many values and letters a reading holds, each counted each time it is reached (what is shared counts as often as it is met; a slice's spare places count too). A statement '..UptoSaid' is the law's where the arguments, and the package variables that the reading takes, are together of bulk at most 1048576: NARROWER than '..Said'. Prove '..Said' where nothing that the law and all that it calls make is longer than what came in: it says more and counts as full. Else prove '..UptoSaid'. A law counts once. -/
mutual
def uptoBulk {H : Type} : DataW H → Nat
  | .lit (.string bytes) => bytes.length + 1
  | .lit _ => 1
  | .nil => 1
  | .ptr d => uptoBulk d + 1
  | .slice elems spare => uptoBulkAll elems + uptoBulkAll spare + 1
  | .agg parts => uptoBulkAll parts + 1
  | .iface _ d => uptoBulk d + 1
  | .map entries => uptoBulkEntries entries + 1
  | .held _ => 1
def uptoBulkAll {H : Type} : List (DataW H) → Nat
  | [] => 0
  | d :: r => uptoBulk d + uptoBulkAll r
def uptoBulkEntries {H : Type} : List (Lit × DataW H) → Nat
  | [] => 0
  | x :: r => uptoBulkEntry x + uptoBulkEntries r
def uptoBulkEntry {H : Type} : Lit × DataW H → Nat
  | (.string bytes, d) => bytes.length + uptoBulk d + 1
  | (_, d) => uptoBulk d + 1
 end
def uptoSmall : (H : Type) → List (DataW H) → Bool := fun _ ds => decide (uptoBulkAll ds ≤ 1048576)
def OpenSpec.upto (s : _root_.Go.ChangeSpec) : _root_.Go.OpenSpec := { _root_.Go.OpenSpec.ofChange s with cond := some uptoSmall }

/-- 'sheaferlaw06.StateAccounts', WHERE WHAT IT READS IS OF BULK AT MOST 1048576: true; the input reads as it did. -/
def stateAccountsUptoRow : OpenClaim := { program := "ytiggambibcohcaa", sum := "b3902ad2566f76a5b27782c55ca27e565b90b80bbfc11d976e96cfe7936fec0a", func := "sheafer/sheaferlaw06.StateAccounts", spec := "stateAccounts", inPlace := ["math/bits.Add64", "slices.overlaps[sheafer/api.Account]", "math/bits.Sub64", "slices.overlaps[sheafer/api.Pair]"], unfollowed := true, recurses := true, apart := false, narrowed := true }
def StateAccountsUptoSaid : Prop := stateAccountsUptoRow.holds Try.pinned (OpenSpec.upto stateAccountsSpec)

/-- 'sheaferlaw06.StateDoes', WHERE WHAT IT READS IS OF BULK AT MOST 1048576: true; the input reads as it did. -/
def stateDoesUptoRow : OpenClaim := { program := "ytiggambibcohcaa", sum := "b3902ad2566f76a5b27782c55ca27e565b90b80bbfc11d976e96cfe7936fec0a", func := "sheafer/sheaferlaw06.StateDoes", spec := "stateDoes", inPlace := ["math/bits.Add64", "slices.overlaps[sheafer/api.Account]", "math/bits.Sub64", "slices.overlaps[sheafer/api.Pair]"], unfollowed := true, recurses := true, apart := false, narrowed := true }
def StateDoesUptoSaid : Prop := stateDoesUptoRow.holds Try.pinned (OpenSpec.upto stateDoesSpec)

/-- 'sheaferlaw06.StateKeeps', WHERE WHAT IT READS IS OF BULK AT MOST 1048576: true; the input reads as it did. -/
def stateKeepsUptoRow : OpenClaim := { program := "ytiggambibcohcaa", sum := "b3902ad2566f76a5b27782c55ca27e565b90b80bbfc11d976e96cfe7936fec0a", func := "sheafer/sheaferlaw06.StateKeeps", spec := "stateKeeps", inPlace := ["math/bits.Add64", "slices.overlaps[sheafer/api.Account]", "math/bits.Sub64", "slices.overlaps[sheafer/api.Pair]"], unfollowed := true, recurses := true, apart := false, narrowed := true }
def StateKeepsUptoSaid : Prop := stateKeepsUptoRow.holds Try.pinned (OpenSpec.upto stateKeepsSpec)

/-- 'sheaferlaw06.StateOne', WHERE WHAT IT READS IS OF BULK AT MOST 1048576: true; the input reads as it did. -/
def stateOneUptoRow : OpenClaim := { program := "ytiggambibcohcaa", sum := "b3902ad2566f76a5b27782c55ca27e565b90b80bbfc11d976e96cfe7936fec0a", func := "sheafer/sheaferlaw06.StateOne", spec := "stateOne", inPlace := ["math/bits.Add64", "slices.overlaps[sheafer/api.Account]", "math/bits.Sub64", "slices.overlaps[sheafer/api.Pair]"], unfollowed := true, recurses := true, apart := false, narrowed := true }
def StateOneUptoSaid : Prop := stateOneUptoRow.holds Try.pinned (OpenSpec.upto stateOneSpec)

/-- 'sheaferlaw06.StateTells', WHERE WHAT IT READS IS OF BULK AT MOST 1048576: true; the input reads as it did. -/
def stateTellsUptoRow : OpenClaim := { program := "ytiggambibcohcaa", sum := "b3902ad2566f76a5b27782c55ca27e565b90b80bbfc11d976e96cfe7936fec0a", func := "sheafer/sheaferlaw06.StateTells", spec := "stateTells", inPlace := ["math/bits.Add64", "slices.overlaps[sheafer/api.Account]", "math/bits.Sub64", "slices.overlaps[sheafer/api.Pair]"], unfollowed := true, recurses := true, apart := false, narrowed := true }
def StateTellsUptoSaid : Prop := stateTellsUptoRow.holds Try.pinned (OpenSpec.upto stateTellsSpec)

/-- 'sheaferlaw06.StateMoves', WHERE WHAT IT READS IS OF BULK AT MOST 1048576: true; the input reads as it did. -/
def stateMovesUptoRow : OpenClaim := { program := "ytiggambibcohcaa", sum := "b3902ad2566f76a5b27782c55ca27e565b90b80bbfc11d976e96cfe7936fec0a", func := "sheafer/sheaferlaw06.StateMoves", spec := "stateMoves", inPlace := ["math/bits.Add64", "slices.overlaps[sheafer/api.Account]", "math/bits.Sub64", "slices.overlaps[sheafer/api.Pair]"], unfollowed := true, recurses := true, apart := false, narrowed := true }
def StateMovesUptoSaid : Prop := stateMovesUptoRow.holds Try.pinned (OpenSpec.upto stateMovesSpec)

end Rows
end Go.Proofs.Ytiggambibcohcaa
