/-
  The plain law CodeEncodes: any program's bytes: the program's and the reference's.
-/
import Derived.Test.YtdiaknplnonddaaDoorEnc
namespace Go.Proofs.Gx
open Go.Sl
set_option linter.unusedVariables false
theorem Pure.codeEncodes (x0 : List api_Instr) (h0 : (okl ok_api_Instr 32) x0) : isochronlaw03vCodeEncodes.f x0 = some true := by
  unfold isochronlaw03vCodeEncodes.f
  have hl : x0.length * 32 ≤ 140737488355328 := by
    have := h0.2
    simp only [reachBytes] at this
    omega
  rw [if_pos (by simpa using hl), List.nil_append, code_enc, ref_enc]
  simp [awake_true]
end Go.Proofs.Gx
