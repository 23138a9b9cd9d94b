/-
  The plain law VmChecks: in what a handler may run.
-/
import Derived.Test.YtjdachfjlajjjaaDoorAwake
import Derived.Test.YtjdachfjlajjjaaDoorVmChk
namespace Go.Proofs.Gx
open Go.Sl
set_option linter.unusedVariables false
theorem Pure.vmChecks (x0 : api_World) (h0 : ok_api_World x0) : isochronlaw05vVmChecks.f x0 = some true := by
  unfold isochronlaw05vVmChecks.f
  simp only [vm_check_eq, ref_vm_check_eq, Option.bind_some, if_true, awake_true]
end Go.Proofs.Gx
