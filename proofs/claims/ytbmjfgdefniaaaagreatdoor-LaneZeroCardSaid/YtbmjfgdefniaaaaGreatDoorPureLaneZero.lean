/-
  The plain law LaneZero: a process that nobody made answers nothing.
-/
import Derived.Test.YtbmjfgdefniaaaaGreatDoorW1
import Derived.Test.YtbmjfgdefniaaaaGreatDoorOpen
namespace Go.Proofs.Gx
open Go.Sl
set_option linter.unusedVariables false
theorem least_none : vtime_Least.f ([] : List Int) = some 4611686018427387904 := by
  unfold vtime_Least.f vtime_Least.l2
  rw [loopR_eq]
  simp only [vtime_Least.l2b]
  rw [if_neg (by simp)]
  rfl
theorem Pure.laneZero (x0 : api_Message) (h0 : ok_api_Message x0) (x1 : Int) (h1 : (fun n => (Lit.int .i64 n).wf = true) x1) : isochronlaw17vLaneZero.f x0 x1 = some true := by
  simp [isochronlaw17vLaneZero.f, lane_Lane_none.f, lane_Lane_none_2.f, lane_Lane_Get.f, lane_Lane_Step.f, lane_Lane_Settle.f, lane_Lane_Drop.f, lane_Lane_Local.f, lane_Lane_Set.f, lane_Lane_Setting.f, lane_Lane_Stats.f, lane_Lane_State.f, lane_Lane_Waiting.f, lane_Lane_Open.f, lane_Lane_Orphans.f, lane_Lane_Done.f, lane_Lane_Kept.f, least_none]
end Go.Proofs.Gx
