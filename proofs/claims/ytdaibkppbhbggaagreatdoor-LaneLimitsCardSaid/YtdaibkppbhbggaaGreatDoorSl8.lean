/-
  The own separation logic for the walks, part 8.
-/
import Derived.Test.YtdaibkppbhbggaaGreatDoorSl7
import Derived.Lib.LaidTab
import Derived.Lib.ItoaNum
import Derived.Sort.Grow
import Derived.Deep.Draws
set_option linter.unusedVariables false
set_option linter.unusedSimpArgs false
namespace Go.Sl

def TabH (P : Program) (h : Hp) : Prop := ∀ w, Sub h (hp w) → Lib.TabIs P w "internal/strconv.uint64pow10" .u64 Lib.pow10Tab
theorem TabH.mono {P : Program} {h g : Hp} (s : Sub h g) (x : TabH P h) : TabH P g := fun w k => x w (s.trans k)
end Go.Sl
