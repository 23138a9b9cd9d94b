/-
  DERIVED. GIVEN WITH THE SEED: THE CARDS: each row of YtioiognklelipaaDoorRows.lean that lists a variable, with what it lists TIED to the program's text (the seventh form; the later family's looks); each row that meets fmt, with fmt's text TOLD by the authors' own Lean function (tested against real Go, not proved from fmt's source: count such statements apart). THE CARD IS WHAT COUNTS. Prove the row's statement (the work); the ties are given (YtioiognklelipaaDoorTie.lean); close each card by the builder's one call (the guide's Derived/Test/ToyasCard.lean, 'card_holds'). Laid BY PROGRAM, IN A SANDBOX (cutbox-door.mjs). By AI agents, Wed Nov 11 2026. No macro, syntax, notation, axiom, sorry.
-/
import Derived.Test.YtioiognklelipaaDoorRows
import GoSem.ClaimSeven
namespace Go.Proofs.YtioiognklelipaaDoor
namespace Rows

/-- THE TIED CARD OF 'isochronlaw10.LogNames'. -/
def logNamesCard : Claim7 := { stood := { row := logNamesRow, standIns := [], harness := (true, "54747f1343b0bbeb4f3cde75c2b03231d9bb684d3ebc5435ba2d42cec4768092"), looks := true }, kinds := [], alts := [], laidByText := true, laidKinds := [.handle], laidTests := true, laidLooks := .later }
def LogNamesCardSaid : Prop := Claim7.holds Tryd.pinned (.plain (OpenSpec.ofChange logNamesSpec)) logNamesCard

/-- THE TIED CARD OF 'isochronlaw10.LogDrops'. -/
def logDropsCard : Claim7 := { stood := { row := logDropsRow, standIns := [], harness := (true, "54747f1343b0bbeb4f3cde75c2b03231d9bb684d3ebc5435ba2d42cec4768092"), looks := true }, kinds := [], alts := [], laidByText := true, laidKinds := [.handle], laidTests := true, laidLooks := .later }
def LogDropsCardSaid : Prop := Claim7.holds Tryd.pinned (.plain (OpenSpec.ofChange logDropsSpec)) logDropsCard

/-- THE SECOND FORM's CARD OF 'isochronlaw10.LogNames'. -/
def logNamesUptoCard : Claim7 := { stood := { row := logNamesUptoRow, standIns := [], harness := (true, "54747f1343b0bbeb4f3cde75c2b03231d9bb684d3ebc5435ba2d42cec4768092"), looks := true }, kinds := [], alts := [], laidByText := true, laidKinds := [.handle], laidTests := true, laidLooks := .later }
def LogNamesUptoCardSaid : Prop := Claim7.holds Tryd.pinned (.plain (OpenSpec.upto logNamesSpec)) logNamesUptoCard

/-- THE SECOND FORM's CARD OF 'isochronlaw10.LogDrops'. -/
def logDropsUptoCard : Claim7 := { stood := { row := logDropsUptoRow, standIns := [], harness := (true, "54747f1343b0bbeb4f3cde75c2b03231d9bb684d3ebc5435ba2d42cec4768092"), looks := true }, kinds := [], alts := [], laidByText := true, laidKinds := [.handle], laidTests := true, laidLooks := .later }
def LogDropsUptoCardSaid : Prop := Claim7.holds Tryd.pinned (.plain (OpenSpec.upto logDropsSpec)) logDropsUptoCard
end Rows
end Go.Proofs.YtioiognklelipaaDoor
