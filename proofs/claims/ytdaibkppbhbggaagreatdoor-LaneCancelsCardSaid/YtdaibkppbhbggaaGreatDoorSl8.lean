/-
 The own separation logic for the walks, part 8.
-/
import Derived.Test.YtdaibkppbhbggaaGreatDoorSl7
import Derived.Lib.LaidTab
import Derived.Lib.ItoaNum
import Derived.Sort.Grow
import Derived.Deep.Draws
set_option linter.unusedVariables false
set_option linter.unusedSimpArgs false
namespace Go.Sl
end Go.Sl
