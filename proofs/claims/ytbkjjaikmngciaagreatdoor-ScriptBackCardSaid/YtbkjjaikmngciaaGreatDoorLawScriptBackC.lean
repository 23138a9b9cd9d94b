/-
  Two facts of the program that the card of ScriptBack asks.
-/
import Derived.Test.YtbkjjaikmngciaaGreatDoorCards
import Derived.Test.YtbkjjaikmngciaaGreatDoorChecked
import Derived.ProofKit
import Derived.KernelRfl
import Derived.SevenTiedAt
namespace Go.Proofs.YtbkjjaikmngciaaGreatDoor.scriptBack
open Go.RowKit
theorem goes : false = Rows.scriptBackRow.goesBy Tryz.prog := by kernel_rfl
theorem main_ : Tryz.prog.mainIs = some (Rows.scriptBackCard.stood.harness.1, Rows.scriptBackCard.stood.harness.2.toList) := by kernel_rfl
end Go.Proofs.YtbkjjaikmngciaaGreatDoor.scriptBack
