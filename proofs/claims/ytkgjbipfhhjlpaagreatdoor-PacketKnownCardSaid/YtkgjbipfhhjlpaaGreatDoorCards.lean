/-
  DERIVED. GIVEN WITH THE SEED: THE CARDS: each row of YtkgjbipfhhjlpaaGreatDoorRows.lean that lists a variable, with what it lists TIED to the program's text (the seventh form; the later family's looks); each row that meets fmt, with fmt's text TOLD by the authors' own Lean function (tested against real Go, not proved from fmt's source: count such statements apart). THE CARD IS WHAT COUNTS. Prove the row's statement (the work); the ties are given (YtkgjbipfhhjlpaaGreatDoorTie.lean); close each card by the builder's one call (the guide's Derived/Test/ToyasCard.lean, 'card_holds'). Laid BY PROGRAM, IN A SANDBOX (cutbox-door.mjs). By AI agents, Wed Nov 11 2026. No macro, syntax, notation, axiom, sorry.
-/
import Derived.Test.YtkgjbipfhhjlpaaGreatDoorRows
import GoSem.ClaimSeven
namespace Go.Proofs.YtkgjbipfhhjlpaaGreatDoor
namespace Rows

/-- THE TIED CARD OF 'octroilaw08.PacketParses'. -/
def packetParsesCard : Claim7 := { stood := { row := packetParsesRow, standIns := [], harness := (true, "9beff3bd9dad60b6fb10afcc99d042f0f553f195954f4f5e284339dca243fe99"), looks := true }, kinds := [], alts := [], laidByText := true, laidKinds := [.data, .data, .data, .data, .sentinel, .sentinel, .pinned], laidTests := true, laidLooks := .later }
def PacketParsesCardSaid : Prop := Claim7.holds Tryz.pinned (.plain (OpenSpec.ofChange packetParsesSpec)) packetParsesCard

/-- THE TIED CARD OF 'octroilaw08.PacketPuts'. -/
def packetPutsCard : Claim7 := { stood := { row := packetPutsRow, standIns := [], harness := (true, "9beff3bd9dad60b6fb10afcc99d042f0f553f195954f4f5e284339dca243fe99"), looks := true }, kinds := [], alts := [], laidByText := true, laidKinds := [.data, .data, .data, .data, .sentinel, .sentinel, .pinned], laidTests := true, laidLooks := .later }
def PacketPutsCardSaid : Prop := Claim7.holds Tryz.pinned (.plain (OpenSpec.ofChange packetPutsSpec)) packetPutsCard

/-- THE TIED CARD OF 'octroilaw08.PacketFragments'. -/
def packetFragmentsCard : Claim7 := { stood := { row := packetFragmentsRow, standIns := [], harness := (true, "9beff3bd9dad60b6fb10afcc99d042f0f553f195954f4f5e284339dca243fe99"), looks := true }, kinds := [], alts := [], laidByText := true, laidKinds := [.data, .data, .data, .data, .sentinel, .sentinel, .pinned], laidTests := true, laidLooks := .later }
def PacketFragmentsCardSaid : Prop := Claim7.holds Tryz.pinned (.plain (OpenSpec.ofChange packetFragmentsSpec)) packetFragmentsCard

/-- THE TIED CARD OF 'octroilaw08.PacketKeys'. -/
def packetKeysCard : Claim7 := { stood := { row := packetKeysRow, standIns := [], harness := (true, "9beff3bd9dad60b6fb10afcc99d042f0f553f195954f4f5e284339dca243fe99"), looks := true }, kinds := [], alts := [], laidByText := true, laidKinds := [.data, .data, .data, .data, .sentinel, .sentinel, .pinned], laidTests := true, laidLooks := .later }
def PacketKeysCardSaid : Prop := Claim7.holds Tryz.pinned (.plain (OpenSpec.ofChange packetKeysSpec)) packetKeysCard

/-- THE TIED CARD OF 'octroilaw08.PacketBack'. -/
def packetBackCard : Claim7 := { stood := { row := packetBackRow, standIns := [], harness := (true, "9beff3bd9dad60b6fb10afcc99d042f0f553f195954f4f5e284339dca243fe99"), looks := true }, kinds := [], alts := [], laidByText := true, laidKinds := [.data, .data, .data, .data, .sentinel, .sentinel, .pinned], laidTests := true, laidLooks := .later }
def PacketBackCardSaid : Prop := Claim7.holds Tryz.pinned (.plain (OpenSpec.ofChange packetBackSpec)) packetBackCard

/-- THE TIED CARD OF 'octroilaw08.PacketKnown'. -/
def packetKnownCard : Claim7 := { stood := { row := packetKnownRow, standIns := [], harness := (true, "9beff3bd9dad60b6fb10afcc99d042f0f553f195954f4f5e284339dca243fe99"), looks := true }, kinds := [], alts := [], laidByText := true, laidKinds := [.data, .data, .data, .data, .sentinel, .sentinel, .pinned], laidTests := true, laidLooks := .later }
def PacketKnownCardSaid : Prop := Claim7.holds Tryz.pinned (.plain (OpenSpec.ofChange packetKnownSpec)) packetKnownCard

/-- THE SECOND FORM's CARD OF 'octroilaw08.PacketParses'. -/
def packetParsesUptoCard : Claim7 := { stood := { row := packetParsesUptoRow, standIns := [], harness := (true, "9beff3bd9dad60b6fb10afcc99d042f0f553f195954f4f5e284339dca243fe99"), looks := true }, kinds := [], alts := [], laidByText := true, laidKinds := [.data, .data, .data, .data, .sentinel, .sentinel, .pinned], laidTests := true, laidLooks := .later }
def PacketParsesUptoCardSaid : Prop := Claim7.holds Tryz.pinned (.plain (OpenSpec.upto packetParsesSpec)) packetParsesUptoCard

/-- THE SECOND FORM's CARD OF 'octroilaw08.PacketPuts'. -/
def packetPutsUptoCard : Claim7 := { stood := { row := packetPutsUptoRow, standIns := [], harness := (true, "9beff3bd9dad60b6fb10afcc99d042f0f553f195954f4f5e284339dca243fe99"), looks := true }, kinds := [], alts := [], laidByText := true, laidKinds := [.data, .data, .data, .data, .sentinel, .sentinel, .pinned], laidTests := true, laidLooks := .later }
def PacketPutsUptoCardSaid : Prop := Claim7.holds Tryz.pinned (.plain (OpenSpec.upto packetPutsSpec)) packetPutsUptoCard

/-- THE SECOND FORM's CARD OF 'octroilaw08.PacketFragments'. -/
def packetFragmentsUptoCard : Claim7 := { stood := { row := packetFragmentsUptoRow, standIns := [], harness := (true, "9beff3bd9dad60b6fb10afcc99d042f0f553f195954f4f5e284339dca243fe99"), looks := true }, kinds := [], alts := [], laidByText := true, laidKinds := [.data, .data, .data, .data, .sentinel, .sentinel, .pinned], laidTests := true, laidLooks := .later }
def PacketFragmentsUptoCardSaid : Prop := Claim7.holds Tryz.pinned (.plain (OpenSpec.upto packetFragmentsSpec)) packetFragmentsUptoCard

/-- THE SECOND FORM's CARD OF 'octroilaw08.PacketKeys'. -/
def packetKeysUptoCard : Claim7 := { stood := { row := packetKeysUptoRow, standIns := [], harness := (true, "9beff3bd9dad60b6fb10afcc99d042f0f553f195954f4f5e284339dca243fe99"), looks := true }, kinds := [], alts := [], laidByText := true, laidKinds := [.data, .data, .data, .data, .sentinel, .sentinel, .pinned], laidTests := true, laidLooks := .later }
def PacketKeysUptoCardSaid : Prop := Claim7.holds Tryz.pinned (.plain (OpenSpec.upto packetKeysSpec)) packetKeysUptoCard

/-- THE SECOND FORM's CARD OF 'octroilaw08.PacketBack'. -/
def packetBackUptoCard : Claim7 := { stood := { row := packetBackUptoRow, standIns := [], harness := (true, "9beff3bd9dad60b6fb10afcc99d042f0f553f195954f4f5e284339dca243fe99"), looks := true }, kinds := [], alts := [], laidByText := true, laidKinds := [.data, .data, .data, .data, .sentinel, .sentinel, .pinned], laidTests := true, laidLooks := .later }
def PacketBackUptoCardSaid : Prop := Claim7.holds Tryz.pinned (.plain (OpenSpec.upto packetBackSpec)) packetBackUptoCard

/-- THE SECOND FORM's CARD OF 'octroilaw08.PacketKnown'. -/
def packetKnownUptoCard : Claim7 := { stood := { row := packetKnownUptoRow, standIns := [], harness := (true, "9beff3bd9dad60b6fb10afcc99d042f0f553f195954f4f5e284339dca243fe99"), looks := true }, kinds := [], alts := [], laidByText := true, laidKinds := [.data, .data, .data, .data, .sentinel, .sentinel, .pinned], laidTests := true, laidLooks := .later }
def PacketKnownUptoCardSaid : Prop := Claim7.holds Tryz.pinned (.plain (OpenSpec.upto packetKnownSpec)) packetKnownUptoCard
end Rows
end Go.Proofs.YtkgjbipfhhjlpaaGreatDoor
