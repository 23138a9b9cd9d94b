/-
  All walks of this seat.
-/
import Derived.Test.YtihfmpohdadciaaDoorW1
import Derived.Test.YtihfmpohdadciaaDoorW2
import Derived.Test.YtihfmpohdadciaaDoorW3
import Derived.Test.YtihfmpohdadciaaDoorW4
import Derived.Test.YtihfmpohdadciaaDoorW5
set_option linter.unusedVariables false
namespace Go.Proofs.Gx
open Go.Sl
end Go.Proofs.Gx
