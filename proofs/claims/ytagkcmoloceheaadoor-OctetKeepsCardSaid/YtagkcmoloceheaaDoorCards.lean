/-
  DERIVED. GIVEN WITH THE SEED: THE CARDS: each row of YtagkcmoloceheaaDoorRows.lean that lists a variable, with what it lists TIED to the program's text (the seventh form; the later family's looks); each row that meets fmt, with fmt's text TOLD by the authors' own Lean function (tested against real Go, not proved from fmt's source: count such statements apart). THE CARD IS WHAT COUNTS. Prove the row's statement (the work); the ties are given (YtagkcmoloceheaaDoorTie.lean); close each card by the builder's one call (the guide's Derived/Test/ToyasCard.lean, 'card_holds'). Laid BY PROGRAM, IN A SANDBOX (cutbox-door.mjs). By AI agents, Wed Nov 11 2026. No macro, syntax, notation, axiom, sorry.
-/
import Derived.Test.YtagkcmoloceheaaDoorRows
import GoSem.ClaimSeven
namespace Go.Proofs.YtagkcmoloceheaaDoor
namespace Rows

/-- THE TIED CARD OF 'sheaferlaw01.OctetPads'. -/
def octetPadsCard : Claim7 := { stood := { row := octetPadsRow, standIns := [], harness := (true, "0d5964948be4dc20b3d12f83f301af123d7a4f42640ca46b47b5df3129667fed"), looks := false }, kinds := [], alts := [], laidByText := true, laidKinds := [.data, .pinned], laidTests := true, laidLooks := .later }
def OctetPadsCardSaid : Prop := Claim7.holds Tryd.pinned (.plain (OpenSpec.ofChange octetPadsSpec)) octetPadsCard

/-- THE TIED CARD OF 'sheaferlaw01.OctetKeeps'. -/
def octetKeepsCard : Claim7 := { stood := { row := octetKeepsRow, standIns := [], harness := (true, "0d5964948be4dc20b3d12f83f301af123d7a4f42640ca46b47b5df3129667fed"), looks := false }, kinds := [], alts := [], laidByText := true, laidKinds := [.data, .pinned], laidTests := true, laidLooks := .later }
def OctetKeepsCardSaid : Prop := Claim7.holds Tryd.pinned (.plain (OpenSpec.ofChange octetKeepsSpec)) octetKeepsCard

/-- THE SECOND FORM's CARD OF 'sheaferlaw01.OctetPads'. -/
def octetPadsUptoCard : Claim7 := { stood := { row := octetPadsUptoRow, standIns := [], harness := (true, "0d5964948be4dc20b3d12f83f301af123d7a4f42640ca46b47b5df3129667fed"), looks := false }, kinds := [], alts := [], laidByText := true, laidKinds := [.data, .pinned], laidTests := true, laidLooks := .later }
def OctetPadsUptoCardSaid : Prop := Claim7.holds Tryd.pinned (.plain (OpenSpec.upto octetPadsSpec)) octetPadsUptoCard

/-- THE SECOND FORM's CARD OF 'sheaferlaw01.OctetKeeps'. -/
def octetKeepsUptoCard : Claim7 := { stood := { row := octetKeepsUptoRow, standIns := [], harness := (true, "0d5964948be4dc20b3d12f83f301af123d7a4f42640ca46b47b5df3129667fed"), looks := false }, kinds := [], alts := [], laidByText := true, laidKinds := [.data, .pinned], laidTests := true, laidLooks := .later }
def OctetKeepsUptoCardSaid : Prop := Claim7.holds Tryd.pinned (.plain (OpenSpec.upto octetKeepsSpec)) octetKeepsUptoCard
end Rows
end Go.Proofs.YtagkcmoloceheaaDoor
