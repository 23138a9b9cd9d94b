/-
  The plain law SeqRuns: what comes of any model.
-/
import Derived.Test.YtofgeidjbfmmdaaGreatDoorSame14
import Derived.Test.YtofgeidjbfmmdaaGreatDoorPlayR
import Derived.Test.YtofgeidjbfmmdaaGreatDoorW14
import Derived.Test.YtofgeidjbfmmdaaGreatDoorW15
namespace Go.Proofs.Gx
open Go.Sl
set_option linter.unusedVariables false
theorem states_same (a : List api_State) (ha : a.length ≤ 1000000) : isochronlaw14vstates.f a a = some true := by
  unfold isochronlaw14vstates.f
  rw [if_pos rfl]
  unfold isochronlaw14vstates.l2
  refine loopR_steps (fun k => ((k : Nat) : Int)) a.length (fun k hk => ?_) ?_
  · simp only [isochronlaw14vstates.l2b]
    rw [if_pos (by omega), if_pos (by omega), if_pos (by omega), if_pos trivial, w64 (by omega) (by omega)]
    rfl
  · simp only [isochronlaw14vstates.l2b]
    rw [if_neg (by omega)]
theorem result_same (r : api_Result) (h1 : r.History.length ≤ 1000000) (h2 : r.States.length ≤ 1000000) : isochronlaw14vresult.f r r = some true := by
  unfold isochronlaw14vresult.f
  rw [if_pos rfl, history_eq _ _ h1, states_same _ h2]
  simp
theorem Pure.seqRuns (x0 : api_Model) (h0 : ok_api_Model x0) : isochronlaw14vSeqRuns.f x0 = some true := by
  unfold isochronlaw14vSeqRuns.f
  rw [Run_eq h0, ref_Run_eq h0]
  simp only [Option.bind_some]
  obtain ⟨h1, h2⟩ := res_few h0
  rw [result_same _ h1 h2]
  simp only [Option.bind_some, if_true, awake_true]
end Go.Proofs.Gx
