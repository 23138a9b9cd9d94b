/-
  So many events, and what waits then.
-/
import Derived.Test.YtofgeidjbfmmdaaGreatDoorRise
import Derived.Test.YtofgeidjbfmmdaaGreatDoorSame14
import Derived.Test.YtofgeidjbfmmdaaGreatDoorW18
namespace Go.Proofs.Gx
open Go.Sl
set_option linter.unusedVariables false
noncomputable def partP (m : api_Model) (n : Nat) : List api_Done × List api_State × Int × Int :=
  if chkM m = 0 then ((runM m n).1.2.2, (runM m n).1.1, (runM m n).2, 0) else ([], [], 0, chkM m)
theorem may_eq (m : api_Model) (n : Nat) : seq_may.f m (n : Int) = some (chkM m) := by
  unfold seq_may.f
  rw [model_check_eq]
  simp only [Option.bind_some]
  by_cases hC : chkM m = 0
  · rw [if_pos hC, if_neg (by omega)]
  · rw [if_neg hC]
theorem Part_eq {m : api_Model} (h : ok_api_Model m) (n : Nat) : seq_Part.f m (n : Int) = some (partP m n) := by
  unfold seq_Part.f partP
  rw [may_eq]
  simp only [Option.bind_some]
  by_cases hC : chkM m = 0
  · rw [if_pos hC, if_pos hC, run_eq h hC]; rfl
  · rw [if_neg hC, if_neg hC]
theorem sub_take' {α : Type} (l : List α) (k : Nat) : subL l 0 (k : Int) = l.take k := by simp [subL]
end Go.Proofs.Gx
