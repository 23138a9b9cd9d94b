/-
  The messages at the beginning.
-/
import Derived.Test.YtofgeidjbfmmdaaGreatDoorWays
import Derived.Test.YtofgeidjbfmmdaaGreatDoorW11
import Derived.Test.YtofgeidjbfmmdaaGreatDoorW3
namespace Go.Proofs.Gx
open Go.Sl
set_option linter.unusedVariables false
def msg (m : api_Model) (k : Nat) : api_Message := ⟨⟨(nth m.Starts (k : Int)).Time, -1, (k : Int)⟩, (nth m.Starts (k : Int)).To, (nth m.Starts (k : Int)).Value, (k : Int), false⟩
theorem starts_list {m : api_Model} (l : m.Starts.length ≤ 1048576) : model_Starts.f m = some ((List.range m.Starts.length).map (msg m)) := by
  unfold model_Starts.f model_Starts.l2
  refine loop_map (msg m) m.Starts.length (fun k hk l hl => ?_) ?_
  · simp only [model_Starts.l2b]
    rw [if_pos (by omega), if_pos (by omega), if_pos (by omega), w64 (by omega) (by omega)]
    rfl
  · simp only [model_Starts.l2b]
    rw [if_neg (by omega)]
theorem ref_starts_list {m : api_Model} (l : m.Starts.length ≤ 1048576) : isochronref13vStarts.f m = some ((List.range m.Starts.length).map (msg m)) := by
  unfold isochronref13vStarts.f isochronref13vStarts.l2
  refine loop_map (msg m) m.Starts.length (fun k hk l hl => ?_) ?_
  · simp only [isochronref13vStarts.l2b]
    rw [if_pos (by omega), if_pos (by omega), if_pos (by omega), w64 (by omega) (by omega)]
    rfl
  · simp only [isochronref13vStarts.l2b]
    rw [if_neg (by omega)]
end Go.Proofs.Gx
