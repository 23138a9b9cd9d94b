/-
  DERIVED. GIVEN WITH THE SEED: THE CARDS: each row of YtdaibkppbhbggaaGreatDoorRows.lean that lists a variable, with what it lists TIED to the program's text (the seventh form; the later family's looks); each row that meets fmt, with fmt's text TOLD by the authors' own Lean function (tested against real Go, not proved from fmt's source: count such statements apart). THE CARD IS WHAT COUNTS. Prove the row's statement (the work); the ties are given (YtdaibkppbhbggaaGreatDoorTie.lean); close each card by the builder's one call (the guide's Derived/Test/ToyasCard.lean, 'card_holds'). Laid BY PROGRAM, IN A SANDBOX (cutbox-door.mjs). By AI agents, Wed Nov 11 2026. No macro, syntax, notation, axiom, sorry.
-/
import Derived.Test.YtdaibkppbhbggaaGreatDoorRows
import GoSem.ClaimSeven
namespace Go.Proofs.YtdaibkppbhbggaaGreatDoor
namespace Rows

/-- THE TIED CARD OF 'isochronlaw17.LaneLimits'. -/
def laneLimitsCard : Claim7 := { stood := { row := laneLimitsRow, standIns := [], harness := (true, "0d9258ed406f574221107fd6a2e73359250485cb25e70f5d00d512143af477c5"), looks := true }, kinds := [], alts := [], laidByText := true, laidKinds := [.handle], laidTests := true, laidLooks := .later }
def LaneLimitsCardSaid : Prop := Claim7.holds Tryz.pinned (.plain (OpenSpec.ofChange laneLimitsSpec)) laneLimitsCard

/-- THE TIED CARD OF 'isochronlaw17.LaneZero'. -/
def laneZeroCard : Claim7 := { stood := { row := laneZeroRow, standIns := [], harness := (true, "0d9258ed406f574221107fd6a2e73359250485cb25e70f5d00d512143af477c5"), looks := true }, kinds := [], alts := [], laidByText := true, laidKinds := [.handle], laidTests := true, laidLooks := .later }
def LaneZeroCardSaid : Prop := Claim7.holds Tryz.pinned (.plain (OpenSpec.ofChange laneZeroSpec)) laneZeroCard

/-- THE TIED CARD OF 'isochronlaw17.LaneCancels'. -/
def laneCancelsCard : Claim7 := { stood := { row := laneCancelsRow, standIns := [], harness := (true, "0d9258ed406f574221107fd6a2e73359250485cb25e70f5d00d512143af477c5"), looks := true }, kinds := [], alts := [], laidByText := true, laidKinds := [.handle], laidTests := true, laidLooks := .later }
def LaneCancelsCardSaid : Prop := Claim7.holds Tryz.pinned (.plain (OpenSpec.ofChange laneCancelsSpec)) laneCancelsCard

/-- THE TIED CARD OF 'isochronlaw17.LaneBalance'. -/
def laneBalanceCard : Claim7 := { stood := { row := laneBalanceRow, standIns := [], harness := (true, "0d9258ed406f574221107fd6a2e73359250485cb25e70f5d00d512143af477c5"), looks := true }, kinds := [], alts := [], laidByText := true, laidKinds := [.handle], laidTests := true, laidLooks := .later }
def LaneBalanceCardSaid : Prop := Claim7.holds Tryz.pinned (.plain (OpenSpec.ofChange laneBalanceSpec)) laneBalanceCard

/-- THE TIED CARD OF 'isochronlaw17.LaneOrders'. -/
def laneOrdersCard : Claim7 := { stood := { row := laneOrdersRow, standIns := [], harness := (true, "0d9258ed406f574221107fd6a2e73359250485cb25e70f5d00d512143af477c5"), looks := true }, kinds := [], alts := [], laidByText := true, laidKinds := [.handle], laidTests := true, laidLooks := .later }
def LaneOrdersCardSaid : Prop := Claim7.holds Tryz.pinned (.plain (OpenSpec.ofChange laneOrdersSpec)) laneOrdersCard

/-- THE SECOND FORM's CARD OF 'isochronlaw17.LaneLimits'. -/
def laneLimitsUptoCard : Claim7 := { stood := { row := laneLimitsUptoRow, standIns := [], harness := (true, "0d9258ed406f574221107fd6a2e73359250485cb25e70f5d00d512143af477c5"), looks := true }, kinds := [], alts := [], laidByText := true, laidKinds := [.handle], laidTests := true, laidLooks := .later }
def LaneLimitsUptoCardSaid : Prop := Claim7.holds Tryz.pinned (.plain (OpenSpec.upto laneLimitsSpec)) laneLimitsUptoCard

/-- THE SECOND FORM's CARD OF 'isochronlaw17.LaneZero'. -/
def laneZeroUptoCard : Claim7 := { stood := { row := laneZeroUptoRow, standIns := [], harness := (true, "0d9258ed406f574221107fd6a2e73359250485cb25e70f5d00d512143af477c5"), looks := true }, kinds := [], alts := [], laidByText := true, laidKinds := [.handle], laidTests := true, laidLooks := .later }
def LaneZeroUptoCardSaid : Prop := Claim7.holds Tryz.pinned (.plain (OpenSpec.upto laneZeroSpec)) laneZeroUptoCard

/-- THE SECOND FORM's CARD OF 'isochronlaw17.LaneCancels'. -/
def laneCancelsUptoCard : Claim7 := { stood := { row := laneCancelsUptoRow, standIns := [], harness := (true, "0d9258ed406f574221107fd6a2e73359250485cb25e70f5d00d512143af477c5"), looks := true }, kinds := [], alts := [], laidByText := true, laidKinds := [.handle], laidTests := true, laidLooks := .later }
def LaneCancelsUptoCardSaid : Prop := Claim7.holds Tryz.pinned (.plain (OpenSpec.upto laneCancelsSpec)) laneCancelsUptoCard

/-- THE SECOND FORM's CARD OF 'isochronlaw17.LaneBalance'. -/
def laneBalanceUptoCard : Claim7 := { stood := { row := laneBalanceUptoRow, standIns := [], harness := (true, "0d9258ed406f574221107fd6a2e73359250485cb25e70f5d00d512143af477c5"), looks := true }, kinds := [], alts := [], laidByText := true, laidKinds := [.handle], laidTests := true, laidLooks := .later }
def LaneBalanceUptoCardSaid : Prop := Claim7.holds Tryz.pinned (.plain (OpenSpec.upto laneBalanceSpec)) laneBalanceUptoCard

/-- THE SECOND FORM's CARD OF 'isochronlaw17.LaneOrders'. -/
def laneOrdersUptoCard : Claim7 := { stood := { row := laneOrdersUptoRow, standIns := [], harness := (true, "0d9258ed406f574221107fd6a2e73359250485cb25e70f5d00d512143af477c5"), looks := true }, kinds := [], alts := [], laidByText := true, laidKinds := [.handle], laidTests := true, laidLooks := .later }
def LaneOrdersUptoCardSaid : Prop := Claim7.holds Tryz.pinned (.plain (OpenSpec.upto laneOrdersSpec)) laneOrdersUptoCard
end Rows
end Go.Proofs.YtdaibkppbhbggaaGreatDoor
