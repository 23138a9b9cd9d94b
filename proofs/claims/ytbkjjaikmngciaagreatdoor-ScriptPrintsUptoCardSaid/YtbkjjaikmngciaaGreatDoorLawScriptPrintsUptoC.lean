/-
  Two facts of the program that the card of ScriptPrintsUpto asks.
-/
import Derived.Test.YtbkjjaikmngciaaGreatDoorCards
import Derived.Test.YtbkjjaikmngciaaGreatDoorChecked
import Derived.ProofKit
import Derived.KernelRfl
import Derived.SevenTiedAt
namespace Go.Proofs.YtbkjjaikmngciaaGreatDoor.scriptPrints
open Go.RowKit
theorem goes : false = Rows.scriptPrintsUptoRow.goesBy Tryz.prog := by kernel_rfl
theorem main_ : Tryz.prog.mainIs = some (Rows.scriptPrintsUptoCard.stood.harness.1, Rows.scriptPrintsUptoCard.stood.harness.2.toList) := by kernel_rfl
end Go.Proofs.YtbkjjaikmngciaaGreatDoor.scriptPrints
