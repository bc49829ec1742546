/-
  DERIVED. GIVEN WITH THE SEED: THE CARDS: each row of YtfmchkplnglepaaDoorRows.lean that lists a variable, with what it lists TIED to the program's text (the seventh form; the later family's looks); each row that meets fmt, with fmt's text TOLD by the authors' own Lean function (tested against real Go, not proved from fmt's source: count such statements apart). THE CARD IS WHAT COUNTS. Prove the row's statement (the work); the ties are given (YtfmchkplnglepaaDoorTie.lean); close each card by the builder's one call (the guide's Derived/Test/ToyasCard.lean, 'card_holds'). Laid BY PROGRAM, IN A SANDBOX (cutbox-door.mjs). By AI agents, Wed Nov 11 2026. No macro, syntax, notation, axiom, sorry.
-/
import Derived.Test.YtfmchkplnglepaaDoorRows
import GoSem.ClaimSeven
namespace Go.Proofs.YtfmchkplnglepaaDoor
namespace Rows

/-- THE TIED CARD OF 'tithelaw11.BoundsEnds'. -/
def boundsEndsCard : Claim7 := { stood := { row := boundsEndsRow, standIns := [], harness := (true, "c646fa53541c5a95df7477f202a7995678c0ebdf42897b20af57050375cdedff"), looks := true }, kinds := [], alts := [], laidByText := true, laidKinds := [.handle], laidTests := true, laidLooks := .later }
def BoundsEndsCardSaid : Prop := Claim7.holds Tryd.pinned (.plain (OpenSpec.ofChange boundsEndsSpec)) boundsEndsCard

/-- THE TIED CARD OF 'tithelaw11.BoundsPlays'. -/
def boundsPlaysCard : Claim7 := { stood := { row := boundsPlaysRow, standIns := [], harness := (true, "c646fa53541c5a95df7477f202a7995678c0ebdf42897b20af57050375cdedff"), looks := true }, kinds := [], alts := [], laidByText := true, laidKinds := [.handle], laidTests := true, laidLooks := .later }
def BoundsPlaysCardSaid : Prop := Claim7.holds Tryd.pinned (.plain (OpenSpec.ofChange boundsPlaysSpec)) boundsPlaysCard

/-- THE TIED CARD OF 'tithelaw05.HeapPlays'. -/
def heapPlaysCard : Claim7 := { stood := { row := heapPlaysRow, standIns := [], harness := (true, "c646fa53541c5a95df7477f202a7995678c0ebdf42897b20af57050375cdedff"), looks := true }, kinds := [], alts := [], laidByText := true, laidKinds := [.handle], laidTests := true, laidLooks := .later }
def HeapPlaysCardSaid : Prop := Claim7.holds Tryd.pinned (.plain (OpenSpec.ofChange heapPlaysSpec)) heapPlaysCard

/-- THE SECOND FORM's CARD OF 'tithelaw11.BoundsEnds'. -/
def boundsEndsUptoCard : Claim7 := { stood := { row := boundsEndsUptoRow, standIns := [], harness := (true, "c646fa53541c5a95df7477f202a7995678c0ebdf42897b20af57050375cdedff"), looks := true }, kinds := [], alts := [], laidByText := true, laidKinds := [.handle], laidTests := true, laidLooks := .later }
def BoundsEndsUptoCardSaid : Prop := Claim7.holds Tryd.pinned (.plain (OpenSpec.upto boundsEndsSpec)) boundsEndsUptoCard

/-- THE SECOND FORM's CARD OF 'tithelaw11.BoundsPlays'. -/
def boundsPlaysUptoCard : Claim7 := { stood := { row := boundsPlaysUptoRow, standIns := [], harness := (true, "c646fa53541c5a95df7477f202a7995678c0ebdf42897b20af57050375cdedff"), looks := true }, kinds := [], alts := [], laidByText := true, laidKinds := [.handle], laidTests := true, laidLooks := .later }
def BoundsPlaysUptoCardSaid : Prop := Claim7.holds Tryd.pinned (.plain (OpenSpec.upto boundsPlaysSpec)) boundsPlaysUptoCard

/-- THE SECOND FORM's CARD OF 'tithelaw05.HeapPlays'. -/
def heapPlaysUptoCard : Claim7 := { stood := { row := heapPlaysUptoRow, standIns := [], harness := (true, "c646fa53541c5a95df7477f202a7995678c0ebdf42897b20af57050375cdedff"), looks := true }, kinds := [], alts := [], laidByText := true, laidKinds := [.handle], laidTests := true, laidLooks := .later }
def HeapPlaysUptoCardSaid : Prop := Claim7.holds Tryd.pinned (.plain (OpenSpec.upto heapPlaysSpec)) heapPlaysUptoCard
end Rows
end Go.Proofs.YtfmchkplnglepaaDoor
