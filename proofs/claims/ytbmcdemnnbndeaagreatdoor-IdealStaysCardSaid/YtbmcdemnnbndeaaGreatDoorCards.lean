/-
  DERIVED. GIVEN WITH THE SEED: THE CARDS: each row of YtbmcdemnnbndeaaGreatDoorRows.lean that lists a variable, with what it lists TIED to the program's text (the seventh form; the later family's looks); each row that meets fmt, with fmt's text TOLD by the authors' own Lean function (tested against real Go, not proved from fmt's source: count such statements apart). THE CARD IS WHAT COUNTS. Prove the row's statement (the work); the ties are given (YtbmcdemnnbndeaaGreatDoorTie.lean); close each card by the builder's one call (the guide's Derived/Test/ToyasCard.lean, 'card_holds'). Laid BY PROGRAM, IN A SANDBOX (cutbox-door.mjs). By AI agents, Wed Nov 11 2026. No macro, syntax, notation, axiom, sorry.
-/
import Derived.Test.YtbmcdemnnbndeaaGreatDoorRows
import GoSem.ClaimSeven
namespace Go.Proofs.YtbmcdemnnbndeaaGreatDoor
namespace Rows

/-- THE TIED CARD OF 'sheaferlaw28.IdealStays'. -/
def idealStaysCard : Claim7 := { stood := { row := idealStaysRow, standIns := [], harness := (true, "01950bc35a1afa572723cfcf40283f714b974934abe4bbb942ca7572f38f9608"), looks := false }, kinds := [], alts := [], laidByText := true, laidKinds := [.data], laidTests := true, laidLooks := .later }
def IdealStaysCardSaid : Prop := Claim7.holds Tryz.pinned (.plain (OpenSpec.ofChange idealStaysSpec)) idealStaysCard

/-- THE SECOND FORM's CARD OF 'sheaferlaw28.IdealStays'. -/
def idealStaysUptoCard : Claim7 := { stood := { row := idealStaysUptoRow, standIns := [], harness := (true, "01950bc35a1afa572723cfcf40283f714b974934abe4bbb942ca7572f38f9608"), looks := false }, kinds := [], alts := [], laidByText := true, laidKinds := [.data], laidTests := true, laidLooks := .later }
def IdealStaysUptoCardSaid : Prop := Claim7.holds Tryz.pinned (.plain (OpenSpec.upto idealStaysSpec)) idealStaysUptoCard
end Rows
end Go.Proofs.YtbmcdemnnbndeaaGreatDoor
