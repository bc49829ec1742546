/-
  DERIVED. GIVEN WITH THE SEED: THE CARDS: each row of YtaoicceakgipgaaDoorRows.lean that lists a variable, with what it lists TIED to the program's text (the seventh form; the later family's looks); each row that meets fmt, with fmt's text TOLD by the authors' own Lean function (tested against real Go, not proved from fmt's source: count such statements apart). THE CARD IS WHAT COUNTS. Prove the row's statement (the work); the ties are given (YtaoicceakgipgaaDoorTie.lean); close each card by the builder's one call (the guide's Derived/Test/ToyasCard.lean, 'card_holds'). Laid BY PROGRAM, IN A SANDBOX (cutbox-door.mjs). By AI agents, Wed Nov 11 2026. No macro, syntax, notation, axiom, sorry.
-/
import Derived.Test.YtaoicceakgipgaaDoorRows
import GoSem.ClaimSeven
namespace Go.Proofs.YtaoicceakgipgaaDoor
namespace Rows

/-- THE TIED CARD OF 'tithelaw08.AdmitExact'. -/
def admitExactCard : Claim7 := { stood := { row := admitExactRow, standIns := [], harness := (true, "56d2fb9d6daa737138eab31f5b715c33b84dda5410a187f9c33e8d39db5759e2"), looks := true }, kinds := [], alts := [], laidByText := true, laidKinds := [.data], laidTests := true, laidLooks := .later }
def AdmitExactCardSaid : Prop := Claim7.holds Tryd.pinned (.plain (OpenSpec.ofChange admitExactSpec)) admitExactCard

/-- THE TIED CARD OF 'tithelaw08.AdmitTwins'. -/
def admitTwinsCard : Claim7 := { stood := { row := admitTwinsRow, standIns := [], harness := (true, "56d2fb9d6daa737138eab31f5b715c33b84dda5410a187f9c33e8d39db5759e2"), looks := true }, kinds := [], alts := [], laidByText := true, laidKinds := [.data], laidTests := true, laidLooks := .later }
def AdmitTwinsCardSaid : Prop := Claim7.holds Tryd.pinned (.plain (OpenSpec.ofChange admitTwinsSpec)) admitTwinsCard

/-- THE TIED CARD OF 'tithelaw08.AdmitRoom'. -/
def admitRoomCard : Claim7 := { stood := { row := admitRoomRow, standIns := [], harness := (true, "56d2fb9d6daa737138eab31f5b715c33b84dda5410a187f9c33e8d39db5759e2"), looks := true }, kinds := [], alts := [], laidByText := true, laidKinds := [.data], laidTests := true, laidLooks := .later }
def AdmitRoomCardSaid : Prop := Claim7.holds Tryd.pinned (.plain (OpenSpec.ofChange admitRoomSpec)) admitRoomCard

/-- THE TIED CARD OF 'tithelaw08.AdmitLoads'. -/
def admitLoadsCard : Claim7 := { stood := { row := admitLoadsRow, standIns := [], harness := (true, "56d2fb9d6daa737138eab31f5b715c33b84dda5410a187f9c33e8d39db5759e2"), looks := true }, kinds := [], alts := [], laidByText := true, laidKinds := [.data], laidTests := true, laidLooks := .later }
def AdmitLoadsCardSaid : Prop := Claim7.holds Tryd.pinned (.plain (OpenSpec.ofChange admitLoadsSpec)) admitLoadsCard

/-- THE TIED CARD OF 'tithelaw08.AdmitRuns'. -/
def admitRunsCard : Claim7 := { stood := { row := admitRunsRow, standIns := [], harness := (true, "56d2fb9d6daa737138eab31f5b715c33b84dda5410a187f9c33e8d39db5759e2"), looks := true }, kinds := [], alts := [], laidByText := true, laidKinds := [.data], laidTests := true, laidLooks := .later }
def AdmitRunsCardSaid : Prop := Claim7.holds Tryd.pinned (.plain (OpenSpec.ofChange admitRunsSpec)) admitRunsCard

/-- THE TIED CARD OF 'tithelaw08.AdmitNone'. -/
def admitNoneCard : Claim7 := { stood := { row := admitNoneRow, standIns := [], harness := (true, "56d2fb9d6daa737138eab31f5b715c33b84dda5410a187f9c33e8d39db5759e2"), looks := true }, kinds := [], alts := [], laidByText := true, laidKinds := [.data], laidTests := true, laidLooks := .later }
def AdmitNoneCardSaid : Prop := Claim7.holds Tryd.pinned (.plain (OpenSpec.ofChange admitNoneSpec)) admitNoneCard

/-- THE SECOND FORM's CARD OF 'tithelaw08.AdmitExact'. -/
def admitExactUptoCard : Claim7 := { stood := { row := admitExactUptoRow, standIns := [], harness := (true, "56d2fb9d6daa737138eab31f5b715c33b84dda5410a187f9c33e8d39db5759e2"), looks := true }, kinds := [], alts := [], laidByText := true, laidKinds := [.data], laidTests := true, laidLooks := .later }
def AdmitExactUptoCardSaid : Prop := Claim7.holds Tryd.pinned (.plain (OpenSpec.upto admitExactSpec)) admitExactUptoCard

/-- THE SECOND FORM's CARD OF 'tithelaw08.AdmitTwins'. -/
def admitTwinsUptoCard : Claim7 := { stood := { row := admitTwinsUptoRow, standIns := [], harness := (true, "56d2fb9d6daa737138eab31f5b715c33b84dda5410a187f9c33e8d39db5759e2"), looks := true }, kinds := [], alts := [], laidByText := true, laidKinds := [.data], laidTests := true, laidLooks := .later }
def AdmitTwinsUptoCardSaid : Prop := Claim7.holds Tryd.pinned (.plain (OpenSpec.upto admitTwinsSpec)) admitTwinsUptoCard

/-- THE SECOND FORM's CARD OF 'tithelaw08.AdmitRoom'. -/
def admitRoomUptoCard : Claim7 := { stood := { row := admitRoomUptoRow, standIns := [], harness := (true, "56d2fb9d6daa737138eab31f5b715c33b84dda5410a187f9c33e8d39db5759e2"), looks := true }, kinds := [], alts := [], laidByText := true, laidKinds := [.data], laidTests := true, laidLooks := .later }
def AdmitRoomUptoCardSaid : Prop := Claim7.holds Tryd.pinned (.plain (OpenSpec.upto admitRoomSpec)) admitRoomUptoCard

/-- THE SECOND FORM's CARD OF 'tithelaw08.AdmitLoads'. -/
def admitLoadsUptoCard : Claim7 := { stood := { row := admitLoadsUptoRow, standIns := [], harness := (true, "56d2fb9d6daa737138eab31f5b715c33b84dda5410a187f9c33e8d39db5759e2"), looks := true }, kinds := [], alts := [], laidByText := true, laidKinds := [.data], laidTests := true, laidLooks := .later }
def AdmitLoadsUptoCardSaid : Prop := Claim7.holds Tryd.pinned (.plain (OpenSpec.upto admitLoadsSpec)) admitLoadsUptoCard

/-- THE SECOND FORM's CARD OF 'tithelaw08.AdmitRuns'. -/
def admitRunsUptoCard : Claim7 := { stood := { row := admitRunsUptoRow, standIns := [], harness := (true, "56d2fb9d6daa737138eab31f5b715c33b84dda5410a187f9c33e8d39db5759e2"), looks := true }, kinds := [], alts := [], laidByText := true, laidKinds := [.data], laidTests := true, laidLooks := .later }
def AdmitRunsUptoCardSaid : Prop := Claim7.holds Tryd.pinned (.plain (OpenSpec.upto admitRunsSpec)) admitRunsUptoCard

/-- THE SECOND FORM's CARD OF 'tithelaw08.AdmitNone'. -/
def admitNoneUptoCard : Claim7 := { stood := { row := admitNoneUptoRow, standIns := [], harness := (true, "56d2fb9d6daa737138eab31f5b715c33b84dda5410a187f9c33e8d39db5759e2"), looks := true }, kinds := [], alts := [], laidByText := true, laidKinds := [.data], laidTests := true, laidLooks := .later }
def AdmitNoneUptoCardSaid : Prop := Claim7.holds Tryd.pinned (.plain (OpenSpec.upto admitNoneSpec)) admitNoneUptoCard
end Rows
end Go.Proofs.YtaoicceakgipgaaDoor
