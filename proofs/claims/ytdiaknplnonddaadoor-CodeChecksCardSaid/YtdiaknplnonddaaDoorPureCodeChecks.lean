/-
  The plain law CodeChecks: which programs may be: the program's and the reference's answer.
-/
import Derived.Test.YtdiaknplnonddaaDoorChk
namespace Go.Proofs.Gx
open Go.Sl
set_option linter.unusedVariables false
theorem Pure.codeChecks (x0 : List api_Instr) (h0 : (okl ok_api_Instr 32) x0) : isochronlaw03vCodeChecks.f x0 = some true := by
  unfold isochronlaw03vCodeChecks.f
  rw [code_check_eq, ref_check_eq]
  simp [awake_true]
end Go.Proofs.Gx
