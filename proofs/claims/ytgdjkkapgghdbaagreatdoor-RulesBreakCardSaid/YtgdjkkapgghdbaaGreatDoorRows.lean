/-
  NARROWER THAN 'FOR EVERY INPUT', by the rows' own cells (each row's printed sentence says how): RulesOwn: laid · RulesMay: laid · RulesLess: laid · RulesBreak: laid · RulesStakes: laid.
  DERIVED. THE GIVEN ROWS OF THIS SEAT. 5 by the template 'for every input the law returns true; each argument reads behind the call as it read before'; 0 by the template 'total and deterministic' (their statements: YtgdjkkapgghdbaaGreatDoorTotals.lean).
  GIVEN WITH THE SEED: the statements are not yours to turn. If you find one false, say at which input.
  Laid BY PROGRAM, IN A SANDBOX (cutbox-rows.mjs): the forced cells as the released guide's own fill.sh prints them over the translation 4789d6bf3e902f79… (all of the seat's roots in one cut). By AI agents, Wed Nov 11 2026. No macro, syntax, notation, axiom, sorry.
-/
import Derived.Test.YtgdjkkapgghdbaaGreatDoorChecked
import GoSem.Claim
import GoSem.ClaimJoined
import GoSem.ClaimMapViews
import Derived.JoinedTies
import Derived.KernelRfl
namespace Go.Proofs.YtgdjkkapgghdbaaGreatDoor
/- THE CELL 'sum', in the pinned program and in every row, IS THE sha256 OF THE DUMP (.gsa) THAT YtgdjkkapgghdbaaGreatDoorProg.lean LOADS. Nothing in Lean hashes anything: it is a label: what it is worth is what the hold of that sum in a sandbox is worth. -/
noncomputable def Tryz.pinned : Pinned := { name := "ytgdjkkapgghdbaagreatdoor", sum := "4789d6bf3e902f79f6f8825e771f72d866891425adf7d9cc03607c8f385d43f0", checked := Tryz.checked }
namespace Rows
def none {H : Type} : Left H := { results := [], args := [] }

/- WHAT THE LISTED PACKAGE-LEVEL VARIABLES READ AS WHEN THE CALL BEGINS. Each datum BY PROGRAM (the guide's laid-datum.mjs) off the statement by which the dump's own 'gosem.cut.vars' lays the variable. In a bare row this is a premise. The card (YtgdjkkapgghdbaaGreatDoorCards.lean) ties it to the program's text. -/
def laid_sheafer_sponge_turns {H : Type} : DataW H := .agg [.lit (.int .i64 0), .lit (.int .i64 1), .lit (.int .i64 62), .lit (.int .i64 28), .lit (.int .i64 27), .lit (.int .i64 36), .lit (.int .i64 44), .lit (.int .i64 6), .lit (.int .i64 55), .lit (.int .i64 20), .lit (.int .i64 3), .lit (.int .i64 10), .lit (.int .i64 43), .lit (.int .i64 25), .lit (.int .i64 39), .lit (.int .i64 41), .lit (.int .i64 45), .lit (.int .i64 15), .lit (.int .i64 21), .lit (.int .i64 8), .lit (.int .i64 18), .lit (.int .i64 2), .lit (.int .i64 61), .lit (.int .i64 56), .lit (.int .i64 14)]
def laid_sheafer_sponge_numbers {H : Type} : DataW H := .agg [.lit (.int .u64 1), .lit (.int .u64 32898), .lit (.int .u64 9223372036854808714), .lit (.int .u64 9223372039002292224), .lit (.int .u64 32907), .lit (.int .u64 2147483649), .lit (.int .u64 9223372039002292353), .lit (.int .u64 9223372036854808585), .lit (.int .u64 138), .lit (.int .u64 136), .lit (.int .u64 2147516425), .lit (.int .u64 2147483658), .lit (.int .u64 2147516555), .lit (.int .u64 9223372036854775947), .lit (.int .u64 9223372036854808713), .lit (.int .u64 9223372036854808579), .lit (.int .u64 9223372036854808578), .lit (.int .u64 9223372036854775936), .lit (.int .u64 32778), .lit (.int .u64 9223372039002259466), .lit (.int .u64 9223372039002292353), .lit (.int .u64 9223372036854808704), .lit (.int .u64 2147483649), .lit (.int .u64 9223372039002292232)]

/-- 'sheaferlaw22.RulesOwn': WHATEVER THE INPUT: true; the input reads as it did. -/
def rulesOwnSpec : ChangeSpec := { name := "rulesOwn", fn := fun _ => fun
  | [d1, d2] => { results := [.lit (.bool true)], args := [d1, d2] }
  | _ => none }
def rulesOwnRow : OpenClaim := { program := "ytgdjkkapgghdbaagreatdoor", sum := "4789d6bf3e902f79f6f8825e771f72d866891425adf7d9cc03607c8f385d43f0", func := "sheafer/sheaferlaw22.RulesOwn", spec := "rulesOwn", inPlace := ["math/bits.Sub64"], unfollowed := true, recurses := true, named := ["sheafer/sponge.numbers", "sheafer/sponge.turns"], apart := false, laid := [("sheafer/sponge.turns", laid_sheafer_sponge_turns), ("sheafer/sponge.numbers", laid_sheafer_sponge_numbers)] }
def RulesOwnSaid : Prop := rulesOwnRow.holds Tryz.pinned (OpenSpec.ofChange rulesOwnSpec)

/-- ITS FALSE NEIGHBOUR: 'it returns false'. Refute it at one input. -/
def rulesOwnWrong : ChangeSpec := { name := "rulesOwn", fn := fun _ => fun
  | [d1, d2] => { results := [.lit (.bool false)], args := [d1, d2] }
  | _ => none }
def RulesOwnWrongFalsely : Prop := rulesOwnRow.holds Tryz.pinned (OpenSpec.ofChange rulesOwnWrong)

/-- 'sheaferlaw22.RulesMay': WHATEVER THE INPUT: true; the input reads as it did. -/
def rulesMaySpec : ChangeSpec := { name := "rulesMay", fn := fun _ => fun
  | [d1, d2] => { results := [.lit (.bool true)], args := [d1, d2] }
  | _ => none }
def rulesMayRow : OpenClaim := { program := "ytgdjkkapgghdbaagreatdoor", sum := "4789d6bf3e902f79f6f8825e771f72d866891425adf7d9cc03607c8f385d43f0", func := "sheafer/sheaferlaw22.RulesMay", spec := "rulesMay", inPlace := ["math/bits.Sub64"], unfollowed := true, recurses := true, named := ["sheafer/sponge.numbers", "sheafer/sponge.turns"], apart := false, laid := [("sheafer/sponge.turns", laid_sheafer_sponge_turns), ("sheafer/sponge.numbers", laid_sheafer_sponge_numbers)] }
def RulesMaySaid : Prop := rulesMayRow.holds Tryz.pinned (OpenSpec.ofChange rulesMaySpec)

/-- ITS FALSE NEIGHBOUR: 'it returns false'. Refute it at one input. -/
def rulesMayWrong : ChangeSpec := { name := "rulesMay", fn := fun _ => fun
  | [d1, d2] => { results := [.lit (.bool false)], args := [d1, d2] }
  | _ => none }
def RulesMayWrongFalsely : Prop := rulesMayRow.holds Tryz.pinned (OpenSpec.ofChange rulesMayWrong)

/-- 'sheaferlaw22.RulesLess': WHATEVER THE INPUT: true; the input reads as it did. -/
def rulesLessSpec : ChangeSpec := { name := "rulesLess", fn := fun _ => fun
  | [d1, d2, d3] => { results := [.lit (.bool true)], args := [d1, d2, d3] }
  | _ => none }
def rulesLessRow : OpenClaim := { program := "ytgdjkkapgghdbaagreatdoor", sum := "4789d6bf3e902f79f6f8825e771f72d866891425adf7d9cc03607c8f385d43f0", func := "sheafer/sheaferlaw22.RulesLess", spec := "rulesLess", inPlace := ["math/bits.Sub64"], unfollowed := true, recurses := true, named := ["sheafer/sponge.numbers", "sheafer/sponge.turns"], apart := false, laid := [("sheafer/sponge.turns", laid_sheafer_sponge_turns), ("sheafer/sponge.numbers", laid_sheafer_sponge_numbers)] }
def RulesLessSaid : Prop := rulesLessRow.holds Tryz.pinned (OpenSpec.ofChange rulesLessSpec)

/-- ITS FALSE NEIGHBOUR: 'it returns false'. Refute it at one input. -/
def rulesLessWrong : ChangeSpec := { name := "rulesLess", fn := fun _ => fun
  | [d1, d2, d3] => { results := [.lit (.bool false)], args := [d1, d2, d3] }
  | _ => none }
def RulesLessWrongFalsely : Prop := rulesLessRow.holds Tryz.pinned (OpenSpec.ofChange rulesLessWrong)

/-- 'sheaferlaw22.RulesBreak': WHATEVER THE INPUT: true; the input reads as it did. -/
def rulesBreakSpec : ChangeSpec := { name := "rulesBreak", fn := fun _ => fun
  | [d1, d2] => { results := [.lit (.bool true)], args := [d1, d2] }
  | _ => none }
def rulesBreakRow : OpenClaim := { program := "ytgdjkkapgghdbaagreatdoor", sum := "4789d6bf3e902f79f6f8825e771f72d866891425adf7d9cc03607c8f385d43f0", func := "sheafer/sheaferlaw22.RulesBreak", spec := "rulesBreak", inPlace := ["math/bits.Sub64"], unfollowed := true, recurses := true, named := ["sheafer/sponge.numbers", "sheafer/sponge.turns"], apart := false, laid := [("sheafer/sponge.turns", laid_sheafer_sponge_turns), ("sheafer/sponge.numbers", laid_sheafer_sponge_numbers)] }
def RulesBreakSaid : Prop := rulesBreakRow.holds Tryz.pinned (OpenSpec.ofChange rulesBreakSpec)

/-- ITS FALSE NEIGHBOUR: 'it returns false'. Refute it at one input. -/
def rulesBreakWrong : ChangeSpec := { name := "rulesBreak", fn := fun _ => fun
  | [d1, d2] => { results := [.lit (.bool false)], args := [d1, d2] }
  | _ => none }
def RulesBreakWrongFalsely : Prop := rulesBreakRow.holds Tryz.pinned (OpenSpec.ofChange rulesBreakWrong)

/-- 'sheaferlaw22.RulesStakes': WHATEVER THE INPUT: true; the input reads as it did. -/
def rulesStakesSpec : ChangeSpec := { name := "rulesStakes", fn := fun _ => fun
  | [d1, d2] => { results := [.lit (.bool true)], args := [d1, d2] }
  | _ => none }
def rulesStakesRow : OpenClaim := { program := "ytgdjkkapgghdbaagreatdoor", sum := "4789d6bf3e902f79f6f8825e771f72d866891425adf7d9cc03607c8f385d43f0", func := "sheafer/sheaferlaw22.RulesStakes", spec := "rulesStakes", inPlace := ["math/bits.Sub64"], unfollowed := true, recurses := true, named := ["sheafer/sponge.numbers", "sheafer/sponge.turns"], apart := false, laid := [("sheafer/sponge.turns", laid_sheafer_sponge_turns), ("sheafer/sponge.numbers", laid_sheafer_sponge_numbers)] }
def RulesStakesSaid : Prop := rulesStakesRow.holds Tryz.pinned (OpenSpec.ofChange rulesStakesSpec)

/-- ITS FALSE NEIGHBOUR: 'it returns false'. Refute it at one input. -/
def rulesStakesWrong : ChangeSpec := { name := "rulesStakes", fn := fun _ => fun
  | [d1, d2] => { results := [.lit (.bool false)], args := [d1, d2] }
  | _ => none }
def RulesStakesWrongFalsely : Prop := rulesStakesRow.holds Tryz.pinned (OpenSpec.ofChange rulesStakesWrong)

/- THE SECOND FORM. 'bulk': how many values and letters a reading holds, each counted each time it is reached (what is shared counts as often as it is met; a slice's spare places count too). A statement '..UptoSaid' is the law's where the arguments, and the package variables that the reading takes, are together of bulk at most 1048576: NARROWER than '..Said'. Prove '..Said' where nothing that the law and all that it calls make is longer than what came in: it says more and counts as full. Else prove '..UptoSaid'. A law counts once. -/
mutual
def uptoBulk {H : Type} : DataW H → Nat
  | .lit (.string bytes) => bytes.length + 1
  | .lit _ => 1
  | .nil => 1
  | .ptr d => uptoBulk d + 1
  | .slice elems spare => uptoBulkAll elems + uptoBulkAll spare + 1
  | .agg parts => uptoBulkAll parts + 1
  | .iface _ d => uptoBulk d + 1
  | .map entries => uptoBulkEntries entries + 1
  | .held _ => 1
def uptoBulkAll {H : Type} : List (DataW H) → Nat
  | [] => 0
  | d :: r => uptoBulk d + uptoBulkAll r
def uptoBulkEntries {H : Type} : List (Lit × DataW H) → Nat
  | [] => 0
  | x :: r => uptoBulkEntry x + uptoBulkEntries r
def uptoBulkEntry {H : Type} : Lit × DataW H → Nat
  | (.string bytes, d) => bytes.length + uptoBulk d + 1
  | (_, d) => uptoBulk d + 1
 end
def uptoSmall : (H : Type) → List (DataW H) → Bool := fun _ ds => decide (uptoBulkAll ds ≤ 1048576)
def OpenSpec.upto (s : _root_.Go.ChangeSpec) : _root_.Go.OpenSpec := { _root_.Go.OpenSpec.ofChange s with cond := some uptoSmall }

/-- 'sheaferlaw22.RulesOwn', WHERE WHAT IT READS IS OF BULK AT MOST 1048576: true; the input reads as it did. -/
def rulesOwnUptoRow : OpenClaim := { program := "ytgdjkkapgghdbaagreatdoor", sum := "4789d6bf3e902f79f6f8825e771f72d866891425adf7d9cc03607c8f385d43f0", func := "sheafer/sheaferlaw22.RulesOwn", spec := "rulesOwn", inPlace := ["math/bits.Sub64"], unfollowed := true, recurses := true, named := ["sheafer/sponge.numbers", "sheafer/sponge.turns"], apart := false, laid := [("sheafer/sponge.turns", laid_sheafer_sponge_turns), ("sheafer/sponge.numbers", laid_sheafer_sponge_numbers)], narrowed := true }
def RulesOwnUptoSaid : Prop := rulesOwnUptoRow.holds Tryz.pinned (OpenSpec.upto rulesOwnSpec)

/-- 'sheaferlaw22.RulesMay', WHERE WHAT IT READS IS OF BULK AT MOST 1048576: true; the input reads as it did. -/
def rulesMayUptoRow : OpenClaim := { program := "ytgdjkkapgghdbaagreatdoor", sum := "4789d6bf3e902f79f6f8825e771f72d866891425adf7d9cc03607c8f385d43f0", func := "sheafer/sheaferlaw22.RulesMay", spec := "rulesMay", inPlace := ["math/bits.Sub64"], unfollowed := true, recurses := true, named := ["sheafer/sponge.numbers", "sheafer/sponge.turns"], apart := false, laid := [("sheafer/sponge.turns", laid_sheafer_sponge_turns), ("sheafer/sponge.numbers", laid_sheafer_sponge_numbers)], narrowed := true }
def RulesMayUptoSaid : Prop := rulesMayUptoRow.holds Tryz.pinned (OpenSpec.upto rulesMaySpec)

/-- 'sheaferlaw22.RulesLess', WHERE WHAT IT READS IS OF BULK AT MOST 1048576: true; the input reads as it did. -/
def rulesLessUptoRow : OpenClaim := { program := "ytgdjkkapgghdbaagreatdoor", sum := "4789d6bf3e902f79f6f8825e771f72d866891425adf7d9cc03607c8f385d43f0", func := "sheafer/sheaferlaw22.RulesLess", spec := "rulesLess", inPlace := ["math/bits.Sub64"], unfollowed := true, recurses := true, named := ["sheafer/sponge.numbers", "sheafer/sponge.turns"], apart := false, laid := [("sheafer/sponge.turns", laid_sheafer_sponge_turns), ("sheafer/sponge.numbers", laid_sheafer_sponge_numbers)], narrowed := true }
def RulesLessUptoSaid : Prop := rulesLessUptoRow.holds Tryz.pinned (OpenSpec.upto rulesLessSpec)

/-- 'sheaferlaw22.RulesBreak', WHERE WHAT IT READS IS OF BULK AT MOST 1048576: true; the input reads as it did. -/
def rulesBreakUptoRow : OpenClaim := { program := "ytgdjkkapgghdbaagreatdoor", sum := "4789d6bf3e902f79f6f8825e771f72d866891425adf7d9cc03607c8f385d43f0", func := "sheafer/sheaferlaw22.RulesBreak", spec := "rulesBreak", inPlace := ["math/bits.Sub64"], unfollowed := true, recurses := true, named := ["sheafer/sponge.numbers", "sheafer/sponge.turns"], apart := false, laid := [("sheafer/sponge.turns", laid_sheafer_sponge_turns), ("sheafer/sponge.numbers", laid_sheafer_sponge_numbers)], narrowed := true }
def RulesBreakUptoSaid : Prop := rulesBreakUptoRow.holds Tryz.pinned (OpenSpec.upto rulesBreakSpec)

/-- 'sheaferlaw22.RulesStakes', WHERE WHAT IT READS IS OF BULK AT MOST 1048576: true; the input reads as it did. -/
def rulesStakesUptoRow : OpenClaim := { program := "ytgdjkkapgghdbaagreatdoor", sum := "4789d6bf3e902f79f6f8825e771f72d866891425adf7d9cc03607c8f385d43f0", func := "sheafer/sheaferlaw22.RulesStakes", spec := "rulesStakes", inPlace := ["math/bits.Sub64"], unfollowed := true, recurses := true, named := ["sheafer/sponge.numbers", "sheafer/sponge.turns"], apart := false, laid := [("sheafer/sponge.turns", laid_sheafer_sponge_turns), ("sheafer/sponge.numbers", laid_sheafer_sponge_numbers)], narrowed := true }
def RulesStakesUptoSaid : Prop := rulesStakesUptoRow.holds Tryz.pinned (OpenSpec.upto rulesStakesSpec)

end Rows
end Go.Proofs.YtgdjkkapgghdbaaGreatDoor
