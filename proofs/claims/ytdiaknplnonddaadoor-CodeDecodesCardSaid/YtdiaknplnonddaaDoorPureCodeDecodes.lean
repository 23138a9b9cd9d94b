/-
  The plain law CodeDecodes: the program of any bytes: the program's and the reference's.
-/
import Derived.Test.YtdiaknplnonddaaDoorDec
namespace Go.Proofs.Gx
open Go.Sl
set_option linter.unusedVariables false
theorem Pure.codeDecodes (x0 : List Int) (h0 : (okl (fun n => (Lit.int .u8 n).wf = true) 1) x0) : isochronlaw03vCodeDecodes.f x0 = some true := by
  unfold isochronlaw03vCodeDecodes.f
  have hl : x0.length * 1 ≤ 140737488355328 := by
    have := h0.2
    simp only [reachBytes] at this
    omega
  rw [if_pos (by simpa using hl), List.nil_append, code_dec, ref_dec]
  simp [awake_true, same_self _ (decAll_len x0)]
end Go.Proofs.Gx
