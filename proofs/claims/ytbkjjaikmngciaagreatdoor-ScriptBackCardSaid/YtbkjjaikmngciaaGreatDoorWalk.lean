/-
  All walks of this seat.
-/
import Derived.Test.YtbkjjaikmngciaaGreatDoorW1
import Derived.Test.YtbkjjaikmngciaaGreatDoorW2
import Derived.Test.YtbkjjaikmngciaaGreatDoorW3
import Derived.Test.YtbkjjaikmngciaaGreatDoorW4
import Derived.Test.YtbkjjaikmngciaaGreatDoorW5
import Derived.Test.YtbkjjaikmngciaaGreatDoorW6
import Derived.Test.YtbkjjaikmngciaaGreatDoorW7
import Derived.Test.YtbkjjaikmngciaaGreatDoorW8
import Derived.Test.YtbkjjaikmngciaaGreatDoorW9
import Derived.Test.YtbkjjaikmngciaaGreatDoorW10
import Derived.Test.YtbkjjaikmngciaaGreatDoorW11
import Derived.Test.YtbkjjaikmngciaaGreatDoorW12
set_option linter.unusedVariables false
set_option linter.unusedSimpArgs false
set_option maxRecDepth 100000
set_option maxHeartbeats 4000000
namespace Go.Proofs.Gx
open Go.Sl Tryz
end Go.Proofs.Gx
