/-
  All walks of this seat.
-/
import Derived.Test.YtdiaknplnonddaaDoorW1
import Derived.Test.YtdiaknplnonddaaDoorW2
import Derived.Test.YtdiaknplnonddaaDoorW3
set_option linter.unusedVariables false
namespace Go.Proofs.Gx
open Go.Sl
end Go.Proofs.Gx
