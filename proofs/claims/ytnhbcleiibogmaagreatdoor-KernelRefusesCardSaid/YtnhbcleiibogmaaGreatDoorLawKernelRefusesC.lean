/-
  Two facts of the program that the card of KernelRefuses asks.
-/
import Derived.Test.YtnhbcleiibogmaaGreatDoorCards
import Derived.Test.YtnhbcleiibogmaaGreatDoorChecked
import Derived.ProofKit
import Derived.KernelRfl
import Derived.SevenTiedAt
namespace Go.Proofs.YtnhbcleiibogmaaGreatDoor.kernelRefuses
open Go.RowKit
theorem goes : false = Rows.kernelRefusesRow.goesBy Tryz.prog := by kernel_rfl
theorem main_ : Tryz.prog.mainIs = some (Rows.kernelRefusesCard.stood.harness.1, Rows.kernelRefusesCard.stood.harness.2.toList) := by kernel_rfl
end Go.Proofs.YtnhbcleiibogmaaGreatDoor.kernelRefuses
