/-
  DERIVED. GIVEN WITH THE SEED: THE CARDS: each row of YtelihhegkdjdoaaDoorRows.lean that lists a variable, with what it lists TIED to the program's text (the seventh form; the later family's looks); each row that meets fmt, with fmt's text TOLD by the authors' own Lean function (tested against real Go, not proved from fmt's source: count such statements apart). THE CARD IS WHAT COUNTS. Prove the row's statement (the work); the ties are given (YtelihhegkdjdoaaDoorTie.lean); close each card by the builder's one call (the guide's Derived/Test/ToyasCard.lean, 'card_holds'). Laid BY PROGRAM, IN A SANDBOX (cutbox-door.mjs). By AI agents, Wed Nov 11 2026. No macro, syntax, notation, axiom, sorry.
-/
import Derived.Test.YtelihhegkdjdoaaDoorRows
import GoSem.ClaimSeven
namespace Go.Proofs.YtelihhegkdjdoaaDoor
namespace Rows

/-- THE TIED CARD OF 'tithelaw23.PlanLeast'. -/
def planLeastCard : Claim7 := { stood := { row := planLeastRow, standIns := [], harness := (true, "447f923911584c822fa40c90358b02e23e87a8537ee906dc45d9437a5b4dc72d"), looks := true }, kinds := [], alts := [], laidByText := true, laidKinds := [.handle], laidTests := true, laidLooks := .later }
def PlanLeastCardSaid : Prop := Claim7.holds Tryd.pinned (.plain (OpenSpec.ofChange planLeastSpec)) planLeastCard

/-- THE TIED CARD OF 'tithelaw23.PlanShares'. -/
def planSharesCard : Claim7 := { stood := { row := planSharesRow, standIns := [], harness := (true, "447f923911584c822fa40c90358b02e23e87a8537ee906dc45d9437a5b4dc72d"), looks := true }, kinds := [], alts := [], laidByText := true, laidKinds := [.handle], laidTests := true, laidLooks := .later }
def PlanSharesCardSaid : Prop := Claim7.holds Tryd.pinned (.plain (OpenSpec.ofChange planSharesSpec)) planSharesCard

/-- THE TIED CARD OF 'tithelaw23.PlanBest'. -/
def planBestCard : Claim7 := { stood := { row := planBestRow, standIns := [], harness := (true, "447f923911584c822fa40c90358b02e23e87a8537ee906dc45d9437a5b4dc72d"), looks := true }, kinds := [], alts := [], laidByText := true, laidKinds := [.handle], laidTests := true, laidLooks := .later }
def PlanBestCardSaid : Prop := Claim7.holds Tryd.pinned (.plain (OpenSpec.ofChange planBestSpec)) planBestCard

/-- THE SECOND FORM's CARD OF 'tithelaw23.PlanLeast'. -/
def planLeastUptoCard : Claim7 := { stood := { row := planLeastUptoRow, standIns := [], harness := (true, "447f923911584c822fa40c90358b02e23e87a8537ee906dc45d9437a5b4dc72d"), looks := true }, kinds := [], alts := [], laidByText := true, laidKinds := [.handle], laidTests := true, laidLooks := .later }
def PlanLeastUptoCardSaid : Prop := Claim7.holds Tryd.pinned (.plain (OpenSpec.upto planLeastSpec)) planLeastUptoCard

/-- THE SECOND FORM's CARD OF 'tithelaw23.PlanShares'. -/
def planSharesUptoCard : Claim7 := { stood := { row := planSharesUptoRow, standIns := [], harness := (true, "447f923911584c822fa40c90358b02e23e87a8537ee906dc45d9437a5b4dc72d"), looks := true }, kinds := [], alts := [], laidByText := true, laidKinds := [.handle], laidTests := true, laidLooks := .later }
def PlanSharesUptoCardSaid : Prop := Claim7.holds Tryd.pinned (.plain (OpenSpec.upto planSharesSpec)) planSharesUptoCard

/-- THE SECOND FORM's CARD OF 'tithelaw23.PlanBest'. -/
def planBestUptoCard : Claim7 := { stood := { row := planBestUptoRow, standIns := [], harness := (true, "447f923911584c822fa40c90358b02e23e87a8537ee906dc45d9437a5b4dc72d"), looks := true }, kinds := [], alts := [], laidByText := true, laidKinds := [.handle], laidTests := true, laidLooks := .later }
def PlanBestUptoCardSaid : Prop := Claim7.holds Tryd.pinned (.plain (OpenSpec.upto planBestSpec)) planBestUptoCard
end Rows
end Go.Proofs.YtelihhegkdjdoaaDoor
