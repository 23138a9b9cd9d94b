/-
  DERIVED. GIVEN WITH THE SEED: THE CARDS: each row of YtkfimhanjkjilaaGreatDoorRows.lean that lists a variable, with what it lists TIED to the program's text (the seventh form; the later family's looks); each row that meets fmt, with fmt's text TOLD by the authors' own Lean function (tested against real Go, not proved from fmt's source: count such statements apart). THE CARD IS WHAT COUNTS. Prove the row's statement (the work); the ties are given (YtkfimhanjkjilaaGreatDoorTie.lean); close each card by the builder's one call (the guide's Derived/Test/ToyasCard.lean, 'card_holds'). Laid BY PROGRAM, IN A SANDBOX (cutbox-door.mjs). By AI agents, Wed Nov 11 2026. No macro, syntax, notation, axiom, sorry.
-/
import Derived.Test.YtkfimhanjkjilaaGreatDoorRows
import GoSem.ClaimSeven
namespace Go.Proofs.YtkfimhanjkjilaaGreatDoor
namespace Rows

/-- THE TIED CARD OF 'isochronlaw18.KernelZero'. -/
def kernelZeroCard : Claim7 := { stood := { row := kernelZeroRow, standIns := [], harness := (true, "869c930ad2761eb18dab8a775ed0e26788e95d95b29fdcfb8c2935cb1c466d74"), looks := true }, kinds := [], alts := [], laidByText := true, laidKinds := [.handle], laidTests := true, laidLooks := .later }
def KernelZeroCardSaid : Prop := Claim7.holds Tryz.pinned (.plain (OpenSpec.ofChange kernelZeroSpec)) kernelZeroCard

/-- THE SECOND FORM's CARD OF 'isochronlaw18.KernelZero'. -/
def kernelZeroUptoCard : Claim7 := { stood := { row := kernelZeroUptoRow, standIns := [], harness := (true, "869c930ad2761eb18dab8a775ed0e26788e95d95b29fdcfb8c2935cb1c466d74"), looks := true }, kinds := [], alts := [], laidByText := true, laidKinds := [.handle], laidTests := true, laidLooks := .later }
def KernelZeroUptoCardSaid : Prop := Claim7.holds Tryz.pinned (.plain (OpenSpec.upto kernelZeroSpec)) kernelZeroUptoCard
end Rows
end Go.Proofs.YtkfimhanjkjilaaGreatDoor
