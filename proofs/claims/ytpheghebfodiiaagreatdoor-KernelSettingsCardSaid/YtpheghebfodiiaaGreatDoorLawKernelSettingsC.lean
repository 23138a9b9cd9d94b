/-
  Two facts of the program that the card of KernelSettings asks.
-/
import Derived.Test.YtpheghebfodiiaaGreatDoorCards
import Derived.Test.YtpheghebfodiiaaGreatDoorChecked
import Derived.ProofKit
import Derived.KernelRfl
import Derived.SevenTiedAt
namespace Go.Proofs.YtpheghebfodiiaaGreatDoor.kernelSettings
open Go.RowKit
theorem goes : false = Rows.kernelSettingsRow.goesBy Tryz.prog := by kernel_rfl
theorem main_ : Tryz.prog.mainIs = some (Rows.kernelSettingsCard.stood.harness.1, Rows.kernelSettingsCard.stood.harness.2.toList) := by kernel_rfl
end Go.Proofs.YtpheghebfodiiaaGreatDoor.kernelSettings
