/-
  The plain law ModelChecks: which models may be: the program's and the reference's answer.
-/
import Derived.Test.YtihfmpohdadciaaDoorMod
namespace Go.Proofs.Gx
open Go.Sl
set_option linter.unusedVariables false
theorem Pure.modelChecks (x0 : api_Model) (h0 : ok_api_Model x0) : isochronlaw13vModelChecks.f x0 = some true := by
  unfold isochronlaw13vModelChecks.f
  rw [model_check_eq, model_ref_eq]
  simp [awake_true]
end Go.Proofs.Gx
