/-
  The plain law CodeTexts: any instruction, as words: the program's and the reference's.
-/
import Derived.Test.YtdiaknplnonddaaDoorText
namespace Go.Proofs.Gx
open Go.Sl
theorem Pure.codeTexts (x0 : api_Instr) (h0 : ok_api_Instr x0) : isochronlaw03vCodeTexts.f x0 = some true := by
  unfold isochronlaw03vCodeTexts.f
  rw [code_text h0, ref_text h0]
  simp [awake_true]
end Go.Proofs.Gx
