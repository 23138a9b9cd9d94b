/-
  The plain law KernelZero: a kernel that nobody made answers nothing.
-/
import Derived.Test.YtkfimhanjkjilaaGreatDoorW1
import Derived.Test.YtkfimhanjkjilaaGreatDoorOpen
namespace Go.Proofs.Gx
open Go.Sl
set_option linter.unusedVariables false
theorem Pure.kernelZero (x0 : api_Pick) (h0 : ok_api_Pick x0) (x1 : Int) (h1 : (fun n => (Lit.int .i64 n).wf = true) x1) : isochronlaw18vKernelZero.f x0 x1 = some true := by
  simp [kernel_Kernel_none.f, kernel_Kernel_Do.f, kernel_Kernel_none_2.f, kernel_Kernel_Do_2.f, kernel_Kernel_History.f, kernel_Kernel_Stop.f, kernel_Kernel_Global.f, kernel_Kernel_Least.f, kernel_Kernel_Window.f, kernel_Kernel_of.f, lane_Lane_none.f, lane_Lane_State.f, kernel_Kernel_State.f, kernel_Kernel_of_2.f, lane_Lane_Setting.f, kernel_Kernel_Setting.f, lane_Lane_Stats.f, kernel_Kernel_Stats.f, lane_Lane_Waiting.f, kernel_Kernel_Waiting.f, lane_Lane_Done.f, kernel_Kernel_Done.f, kernel_Kernel_Moving.f, clock_Clocks_none.f, clock_Clocks_Bound.f, kernel_Kernel_Bound.f, lane_Lane_Kept.f, kernel_Kernel_Kept.f, isochronlaw18vKernelZero.f]
end Go.Proofs.Gx
