/-
  Two facts of the program that the card of ScriptTellsUpto asks.
-/
import Derived.Test.YtbkjjaikmngciaaGreatDoorCards
import Derived.Test.YtbkjjaikmngciaaGreatDoorChecked
import Derived.ProofKit
import Derived.KernelRfl
import Derived.SevenTiedAt
namespace Go.Proofs.YtbkjjaikmngciaaGreatDoor.scriptTells
open Go.RowKit
theorem goes : false = Rows.scriptTellsUptoRow.goesBy Tryz.prog := by kernel_rfl
theorem main_ : Tryz.prog.mainIs = some (Rows.scriptTellsUptoCard.stood.harness.1, Rows.scriptTellsUptoCard.stood.harness.2.toList) := by kernel_rfl
end Go.Proofs.YtbkjjaikmngciaaGreatDoor.scriptTells
