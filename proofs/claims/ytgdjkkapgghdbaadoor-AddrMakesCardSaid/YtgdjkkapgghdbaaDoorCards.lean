/-
  DERIVED. GIVEN WITH THE SEED: THE CARDS: each row of YtgdjkkapgghdbaaDoorRows.lean that lists a variable, with what it lists TIED to the program's text (the seventh form; the later family's looks); each row that meets fmt, with fmt's text TOLD by the authors' own Lean function (tested against real Go, not proved from fmt's source: count such statements apart). THE CARD IS WHAT COUNTS. Prove the row's statement (the work); the ties are given (YtgdjkkapgghdbaaDoorTie.lean); close each card by the builder's one call (the guide's Derived/Test/ToyasCard.lean, 'card_holds'). Laid BY PROGRAM, IN A SANDBOX (cutbox-door.mjs). By AI agents, Wed Nov 11 2026. No macro, syntax, notation, axiom, sorry.
-/
import Derived.Test.YtgdjkkapgghdbaaDoorRows
import GoSem.ClaimSeven
namespace Go.Proofs.YtgdjkkapgghdbaaDoor
namespace Rows

/-- THE TIED CARD OF 'sheaferlaw05.AddrMakes'. -/
def addrMakesCard : Claim7 := { stood := { row := addrMakesRow, standIns := [], harness := (true, "73a7cd5e4158e9b1ac841b8fdace9b922f8db2a37d02590af0b75fa601c76301"), looks := false }, kinds := [], alts := [], laidByText := true, laidKinds := [.data, .data], laidTests := true, laidLooks := .later }
def AddrMakesCardSaid : Prop := Claim7.holds Tryd.pinned (.plain (OpenSpec.ofChange addrMakesSpec)) addrMakesCard

/-- THE SECOND FORM's CARD OF 'sheaferlaw05.AddrMakes'. -/
def addrMakesUptoCard : Claim7 := { stood := { row := addrMakesUptoRow, standIns := [], harness := (true, "73a7cd5e4158e9b1ac841b8fdace9b922f8db2a37d02590af0b75fa601c76301"), looks := false }, kinds := [], alts := [], laidByText := true, laidKinds := [.data, .data], laidTests := true, laidLooks := .later }
def AddrMakesUptoCardSaid : Prop := Claim7.holds Tryd.pinned (.plain (OpenSpec.upto addrMakesSpec)) addrMakesUptoCard
end Rows
end Go.Proofs.YtgdjkkapgghdbaaDoor
