/-
  All walks of this seat.
-/
import Derived.Test.YtpheghebfodiiaaGreatDoorW1
import Derived.Test.YtpheghebfodiiaaGreatDoorW2
import Derived.Test.YtpheghebfodiiaaGreatDoorW3
import Derived.Test.YtpheghebfodiiaaGreatDoorW4
import Derived.Test.YtpheghebfodiiaaGreatDoorW5
import Derived.Test.YtpheghebfodiiaaGreatDoorW6
import Derived.Test.YtpheghebfodiiaaGreatDoorW7
import Derived.Test.YtpheghebfodiiaaGreatDoorW8
import Derived.Test.YtpheghebfodiiaaGreatDoorW9
import Derived.Test.YtpheghebfodiiaaGreatDoorW10
set_option linter.unusedVariables false
set_option linter.unusedSimpArgs false
set_option maxRecDepth 100000
set_option maxHeartbeats 4000000
namespace Go.Proofs.Gx
open Go.Sl Tryz
end Go.Proofs.Gx
