/-
  The plain law ModelStarts: the messages at the beginning, where what is read is small.
-/
import Derived.Test.YtihfmpohdadciaaDoorWays
namespace Go.Proofs.Gx
open Go.Sl
set_option linter.unusedVariables false
def msg (m : api_Model) (k : Nat) : api_Message := ⟨⟨(nth m.Starts (k : Int)).Time, -1, (k : Int)⟩, (nth m.Starts (k : Int)).To, (nth m.Starts (k : Int)).Value, (k : Int), false⟩
theorem starts_list {m : api_Model} (l : m.Starts.length ≤ 1048576) : model_Starts.f m = some ((List.range m.Starts.length).map (msg m)) := by
  unfold model_Starts.f model_Starts.l2
  refine loop_map (msg m) m.Starts.length (fun k hk l hl => ?_) ?_
  · simp only [model_Starts.l2b]
    rw [if_pos (by omega), if_pos (by omega), if_pos (by omega), w64 (by omega) (by omega)]
    rfl
  · simp only [model_Starts.l2b]
    rw [if_neg (by omega)]
theorem ref_starts_list {m : api_Model} (l : m.Starts.length ≤ 1048576) : isochronref13vStarts.f m = some ((List.range m.Starts.length).map (msg m)) := by
  unfold isochronref13vStarts.f isochronref13vStarts.l2
  refine loop_map (msg m) m.Starts.length (fun k hk l hl => ?_) ?_
  · simp only [isochronref13vStarts.l2b]
    rw [if_pos (by omega), if_pos (by omega), if_pos (by omega), w64 (by omega) (by omega)]
    rfl
  · simp only [isochronref13vStarts.l2b]
    rw [if_neg (by omega)]
theorem starts_l4 (l : List api_Message) (h : l.length ≤ 1048576) : isochronlaw13vModelStarts.l4 l l 0 = some true := by
  unfold isochronlaw13vModelStarts.l4
  refine loopR_steps (fun k => ((k : Nat) : Int)) l.length (fun k hk => ?_) ?_
  · simp only [isochronlaw13vModelStarts.l4b]
    rw [if_pos (by omega), if_pos (by omega), if_pos (by omega), if_pos trivial, w64 (by omega) (by omega)]
    rfl
  · simp only [isochronlaw13vModelStarts.l4b, awake_true]
    rw [if_neg (by omega)]
    rfl
theorem Pure.modelStarts (x0 : api_Model) (h0 : ok_api_Model x0) (l0 : x0.Progs.length ≤ 1048576 ∧ x0.Links.length ≤ 1048576 ∧ x0.Starts.length ≤ 1048576) : isochronlaw13vModelStarts.f x0 = some true := by
  unfold isochronlaw13vModelStarts.f
  rw [starts_list l0.2.2, ref_starts_list l0.2.2]
  simp only [Option.bind_some, if_true]
  exact starts_l4 _ (by simp; exact l0.2.2)
end Go.Proofs.Gx
