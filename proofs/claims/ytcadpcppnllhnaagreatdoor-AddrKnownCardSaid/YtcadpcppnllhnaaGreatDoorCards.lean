/-
  DERIVED. GIVEN WITH THE SEED: THE CARDS: each row of YtcadpcppnllhnaaGreatDoorRows.lean that lists a variable, with what it lists TIED to the program's text (the seventh form; the later family's looks); each row that meets fmt, with fmt's text TOLD by the authors' own Lean function (tested against real Go, not proved from fmt's source: count such statements apart). THE CARD IS WHAT COUNTS. Prove the row's statement (the work); the ties are given (YtcadpcppnllhnaaGreatDoorTie.lean); close each card by the builder's one call (the guide's Derived/Test/ToyasCard.lean, 'card_holds'). Laid BY PROGRAM, IN A SANDBOX (cutbox-door.mjs). By AI agents, Wed Nov 11 2026. No macro, syntax, notation, axiom, sorry.
-/
import Derived.Test.YtcadpcppnllhnaaGreatDoorRows
import GoSem.ClaimSeven
namespace Go.Proofs.YtcadpcppnllhnaaGreatDoor
namespace Rows

/-- THE TIED CARD OF 'octroilaw04.AddrKnown'. -/
def addrKnownCard : Claim7 := { stood := { row := addrKnownRow, standIns := [], harness := (true, "0b01a188d12448d55843b21fe6e95880e741093146af69cfd035797be9671d43"), looks := true }, kinds := [], alts := [], laidByText := true, laidKinds := [.data, .data, .data, .data, .sentinel, .sentinel, .pinned], laidTests := true, laidLooks := .later }
def AddrKnownCardSaid : Prop := Claim7.holds Tryz.pinned (.plain (OpenSpec.ofChange addrKnownSpec)) addrKnownCard

/-- THE SECOND FORM's CARD OF 'octroilaw04.AddrKnown'. -/
def addrKnownUptoCard : Claim7 := { stood := { row := addrKnownUptoRow, standIns := [], harness := (true, "0b01a188d12448d55843b21fe6e95880e741093146af69cfd035797be9671d43"), looks := true }, kinds := [], alts := [], laidByText := true, laidKinds := [.data, .data, .data, .data, .sentinel, .sentinel, .pinned], laidTests := true, laidLooks := .later }
def AddrKnownUptoCardSaid : Prop := Claim7.holds Tryz.pinned (.plain (OpenSpec.upto addrKnownSpec)) addrKnownUptoCard
end Rows
end Go.Proofs.YtcadpcppnllhnaaGreatDoor
