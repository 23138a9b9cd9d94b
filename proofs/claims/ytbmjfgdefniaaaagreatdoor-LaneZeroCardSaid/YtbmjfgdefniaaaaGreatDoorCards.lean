/-
  DERIVED. GIVEN WITH THE SEED: THE CARDS: each row of YtbmjfgdefniaaaaGreatDoorRows.lean that lists a variable, with what it lists TIED to the program's text (the seventh form; the later family's looks); each row that meets fmt, with fmt's text TOLD by the authors' own Lean function (tested against real Go, not proved from fmt's source: count such statements apart). THE CARD IS WHAT COUNTS. Prove the row's statement (the work); the ties are given (YtbmjfgdefniaaaaGreatDoorTie.lean); close each card by the builder's one call (the guide's Derived/Test/ToyasCard.lean, 'card_holds'). Laid BY PROGRAM, IN A SANDBOX (cutbox-door.mjs). By AI agents, Wed Nov 11 2026. No macro, syntax, notation, axiom, sorry.
-/
import Derived.Test.YtbmjfgdefniaaaaGreatDoorRows
import GoSem.ClaimSeven
namespace Go.Proofs.YtbmjfgdefniaaaaGreatDoor
namespace Rows

/-- THE TIED CARD OF 'isochronlaw17.LaneZero'. -/
def laneZeroCard : Claim7 := { stood := { row := laneZeroRow, standIns := [], harness := (true, "286d7a8dc1d2d66870916f2843278ddfb25c5c48acc1996c6f21e7d09e5505b7"), looks := true }, kinds := [], alts := [], laidByText := true, laidKinds := [.handle], laidTests := true, laidLooks := .later }
def LaneZeroCardSaid : Prop := Claim7.holds Tryz.pinned (.plain (OpenSpec.ofChange laneZeroSpec)) laneZeroCard

/-- THE SECOND FORM's CARD OF 'isochronlaw17.LaneZero'. -/
def laneZeroUptoCard : Claim7 := { stood := { row := laneZeroUptoRow, standIns := [], harness := (true, "286d7a8dc1d2d66870916f2843278ddfb25c5c48acc1996c6f21e7d09e5505b7"), looks := true }, kinds := [], alts := [], laidByText := true, laidKinds := [.handle], laidTests := true, laidLooks := .later }
def LaneZeroUptoCardSaid : Prop := Claim7.holds Tryz.pinned (.plain (OpenSpec.upto laneZeroSpec)) laneZeroUptoCard
end Rows
end Go.Proofs.YtbmjfgdefniaaaaGreatDoor
