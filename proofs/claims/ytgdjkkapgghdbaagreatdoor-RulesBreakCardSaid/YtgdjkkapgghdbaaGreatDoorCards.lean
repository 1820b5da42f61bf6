/-
  DERIVED. GIVEN WITH THE SEED: THE CARDS: each row of YtgdjkkapgghdbaaGreatDoorRows.lean that lists a variable, with what it lists TIED to the program's text (the seventh form; the later family's looks); each row that meets fmt, with fmt's text TOLD by the authors' own Lean function (tested against real Go, not proved from fmt's source: count such statements apart). THE CARD IS WHAT COUNTS. Prove the row's statement (the work); the ties are given (YtgdjkkapgghdbaaGreatDoorTie.lean); close each card by the builder's one call (the guide's Derived/Test/ToyasCard.lean, 'card_holds'). Laid BY PROGRAM, IN A SANDBOX (cutbox-door.mjs). By AI agents, Wed Nov 11 2026. No macro, syntax, notation, axiom, sorry.
-/
import Derived.Test.YtgdjkkapgghdbaaGreatDoorRows
import GoSem.ClaimSeven
namespace Go.Proofs.YtgdjkkapgghdbaaGreatDoor
namespace Rows

/-- THE TIED CARD OF 'sheaferlaw22.RulesOwn'. -/
def rulesOwnCard : Claim7 := { stood := { row := rulesOwnRow, standIns := [], harness := (true, "a150a5b31adb93ccbb9ef4361850544d6216e7c5fd079ae8296263779298e5e9"), looks := false }, kinds := [], alts := [], laidByText := true, laidKinds := [.data, .data], laidTests := true, laidLooks := .later }
def RulesOwnCardSaid : Prop := Claim7.holds Tryz.pinned (.plain (OpenSpec.ofChange rulesOwnSpec)) rulesOwnCard

/-- THE TIED CARD OF 'sheaferlaw22.RulesMay'. -/
def rulesMayCard : Claim7 := { stood := { row := rulesMayRow, standIns := [], harness := (true, "a150a5b31adb93ccbb9ef4361850544d6216e7c5fd079ae8296263779298e5e9"), looks := false }, kinds := [], alts := [], laidByText := true, laidKinds := [.data, .data], laidTests := true, laidLooks := .later }
def RulesMayCardSaid : Prop := Claim7.holds Tryz.pinned (.plain (OpenSpec.ofChange rulesMaySpec)) rulesMayCard

/-- THE TIED CARD OF 'sheaferlaw22.RulesLess'. -/
def rulesLessCard : Claim7 := { stood := { row := rulesLessRow, standIns := [], harness := (true, "a150a5b31adb93ccbb9ef4361850544d6216e7c5fd079ae8296263779298e5e9"), looks := false }, kinds := [], alts := [], laidByText := true, laidKinds := [.data, .data], laidTests := true, laidLooks := .later }
def RulesLessCardSaid : Prop := Claim7.holds Tryz.pinned (.plain (OpenSpec.ofChange rulesLessSpec)) rulesLessCard

/-- THE TIED CARD OF 'sheaferlaw22.RulesBreak'. -/
def rulesBreakCard : Claim7 := { stood := { row := rulesBreakRow, standIns := [], harness := (true, "a150a5b31adb93ccbb9ef4361850544d6216e7c5fd079ae8296263779298e5e9"), looks := false }, kinds := [], alts := [], laidByText := true, laidKinds := [.data, .data], laidTests := true, laidLooks := .later }
def RulesBreakCardSaid : Prop := Claim7.holds Tryz.pinned (.plain (OpenSpec.ofChange rulesBreakSpec)) rulesBreakCard

/-- THE TIED CARD OF 'sheaferlaw22.RulesStakes'. -/
def rulesStakesCard : Claim7 := { stood := { row := rulesStakesRow, standIns := [], harness := (true, "a150a5b31adb93ccbb9ef4361850544d6216e7c5fd079ae8296263779298e5e9"), looks := false }, kinds := [], alts := [], laidByText := true, laidKinds := [.data, .data], laidTests := true, laidLooks := .later }
def RulesStakesCardSaid : Prop := Claim7.holds Tryz.pinned (.plain (OpenSpec.ofChange rulesStakesSpec)) rulesStakesCard

/-- THE SECOND FORM's CARD OF 'sheaferlaw22.RulesOwn'. -/
def rulesOwnUptoCard : Claim7 := { stood := { row := rulesOwnUptoRow, standIns := [], harness := (true, "a150a5b31adb93ccbb9ef4361850544d6216e7c5fd079ae8296263779298e5e9"), looks := false }, kinds := [], alts := [], laidByText := true, laidKinds := [.data, .data], laidTests := true, laidLooks := .later }
def RulesOwnUptoCardSaid : Prop := Claim7.holds Tryz.pinned (.plain (OpenSpec.upto rulesOwnSpec)) rulesOwnUptoCard

/-- THE SECOND FORM's CARD OF 'sheaferlaw22.RulesMay'. -/
def rulesMayUptoCard : Claim7 := { stood := { row := rulesMayUptoRow, standIns := [], harness := (true, "a150a5b31adb93ccbb9ef4361850544d6216e7c5fd079ae8296263779298e5e9"), looks := false }, kinds := [], alts := [], laidByText := true, laidKinds := [.data, .data], laidTests := true, laidLooks := .later }
def RulesMayUptoCardSaid : Prop := Claim7.holds Tryz.pinned (.plain (OpenSpec.upto rulesMaySpec)) rulesMayUptoCard

/-- THE SECOND FORM's CARD OF 'sheaferlaw22.RulesLess'. -/
def rulesLessUptoCard : Claim7 := { stood := { row := rulesLessUptoRow, standIns := [], harness := (true, "a150a5b31adb93ccbb9ef4361850544d6216e7c5fd079ae8296263779298e5e9"), looks := false }, kinds := [], alts := [], laidByText := true, laidKinds := [.data, .data], laidTests := true, laidLooks := .later }
def RulesLessUptoCardSaid : Prop := Claim7.holds Tryz.pinned (.plain (OpenSpec.upto rulesLessSpec)) rulesLessUptoCard

/-- THE SECOND FORM's CARD OF 'sheaferlaw22.RulesBreak'. -/
def rulesBreakUptoCard : Claim7 := { stood := { row := rulesBreakUptoRow, standIns := [], harness := (true, "a150a5b31adb93ccbb9ef4361850544d6216e7c5fd079ae8296263779298e5e9"), looks := false }, kinds := [], alts := [], laidByText := true, laidKinds := [.data, .data], laidTests := true, laidLooks := .later }
def RulesBreakUptoCardSaid : Prop := Claim7.holds Tryz.pinned (.plain (OpenSpec.upto rulesBreakSpec)) rulesBreakUptoCard

/-- THE SECOND FORM's CARD OF 'sheaferlaw22.RulesStakes'. -/
def rulesStakesUptoCard : Claim7 := { stood := { row := rulesStakesUptoRow, standIns := [], harness := (true, "a150a5b31adb93ccbb9ef4361850544d6216e7c5fd079ae8296263779298e5e9"), looks := false }, kinds := [], alts := [], laidByText := true, laidKinds := [.data, .data], laidTests := true, laidLooks := .later }
def RulesStakesUptoCardSaid : Prop := Claim7.holds Tryz.pinned (.plain (OpenSpec.upto rulesStakesSpec)) rulesStakesUptoCard
end Rows
end Go.Proofs.YtgdjkkapgghdbaaGreatDoor
