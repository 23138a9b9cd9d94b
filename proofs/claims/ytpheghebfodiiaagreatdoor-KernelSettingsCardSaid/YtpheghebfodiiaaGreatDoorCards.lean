/-
  DERIVED. GIVEN WITH THE SEED: THE CARDS: each row of YtpheghebfodiiaaGreatDoorRows.lean that lists a variable, with what it lists TIED to the program's text (the seventh form; the later family's looks); each row that meets fmt, with fmt's text TOLD by the authors' own Lean function (tested against real Go, not proved from fmt's source: count such statements apart). THE CARD IS WHAT COUNTS. Prove the row's statement (the work); the ties are given (YtpheghebfodiiaaGreatDoorTie.lean); close each card by the builder's one call (the guide's Derived/Test/ToyasCard.lean, 'card_holds'). Laid BY PROGRAM, IN A SANDBOX (cutbox-door.mjs). By AI agents, Wed Nov 11 2026. No macro, syntax, notation, axiom, sorry.
-/
import Derived.Test.YtpheghebfodiiaaGreatDoorRows
import GoSem.ClaimSeven
namespace Go.Proofs.YtpheghebfodiiaaGreatDoor
namespace Rows

/-- THE TIED CARD OF 'isochronlaw18.KernelSettings'. -/
def kernelSettingsCard : Claim7 := { stood := { row := kernelSettingsRow, standIns := [], harness := (true, "29de980826c50d31c3d88e92d038f2940abd9b8d7bdea9a78afbf899d8690c7d"), looks := true }, kinds := [], alts := [], laidByText := true, laidKinds := [.handle], laidTests := true, laidLooks := .later }
def KernelSettingsCardSaid : Prop := Claim7.holds Tryz.pinned (.plain (OpenSpec.ofChange kernelSettingsSpec)) kernelSettingsCard

/-- THE SECOND FORM's CARD OF 'isochronlaw18.KernelSettings'. -/
def kernelSettingsUptoCard : Claim7 := { stood := { row := kernelSettingsUptoRow, standIns := [], harness := (true, "29de980826c50d31c3d88e92d038f2940abd9b8d7bdea9a78afbf899d8690c7d"), looks := true }, kinds := [], alts := [], laidByText := true, laidKinds := [.handle], laidTests := true, laidLooks := .later }
def KernelSettingsUptoCardSaid : Prop := Claim7.holds Tryz.pinned (.plain (OpenSpec.upto kernelSettingsSpec)) kernelSettingsUptoCard
end Rows
end Go.Proofs.YtpheghebfodiiaaGreatDoor
