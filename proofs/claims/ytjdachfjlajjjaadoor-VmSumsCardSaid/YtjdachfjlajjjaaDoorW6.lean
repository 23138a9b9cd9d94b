/-
  The walks of functions, each with what it computes: printed by wip/gx.py.
-/
import Derived.Test.YtjdachfjlajjjaaDoorW0
import Derived.Test.YtjdachfjlajjjaaDoorW4
set_option linter.unusedVariables false
namespace Go.Proofs.Gx
open Go.Sl
/-! ### isochron/isochronlaw05.VmSums: function 5 -/
noncomputable def isochronlaw05vVmSums.j2 (a3873 : Int) (a3874 : Int) (a3875 : Int) (x3938 : Int) : Option (Bool) := ((vm_Run.f (⟨[(⟨1, 8, IntKind.i64.wrap a3873, 0⟩ : api_Instr), (⟨1, 9, IntKind.i64.wrap a3874, 0⟩ : api_Instr), (⟨nth ([3, 4, 5, 8, 9, 6, 7] : List Int) (Int.tmod a3875 7), 0, 8, 9⟩ : api_Instr)], 0, [], 0⟩ : api_World) (⟨(⟨0, 0, 0, 0, 0, 0, 0, 0⟩ : Arr8xInti64), 0, 0⟩ : api_State) (⟨(⟨0, 0, 0⟩ : api_Key), 0, 0, 0, false⟩ : api_Message)).bind fun (y3947, y3948, y3949) => (if y3949 = 0 then some (decide (y3947.Regs.c0 = x3938)) else some false))
noncomputable def isochronlaw05vVmSums.f (a3873 : Int) (a3874 : Int) (a3875 : Int) : Option (Bool) := (if 0 ≤ Int.tmod a3875 7 ∧ Int.tmod a3875 7 < (([3, 4, 5, 8, 9, 6, 7] : List Int).length : Int) then (if nth ([3, 4, 5, 8, 9, 6, 7] : List Int) (Int.tmod a3875 7) = 3 then isochronlaw05vVmSums.j2 a3873 a3874 a3875 (IntKind.i64.wrap ((IntKind.i64.wrap a3873) + (IntKind.i64.wrap a3874))) else (if nth ([3, 4, 5, 8, 9, 6, 7] : List Int) (Int.tmod a3875 7) = 4 then isochronlaw05vVmSums.j2 a3873 a3874 a3875 (IntKind.i64.wrap ((IntKind.i64.wrap a3873) - (IntKind.i64.wrap a3874))) else (if nth ([3, 4, 5, 8, 9, 6, 7] : List Int) (Int.tmod a3875 7) = 5 then isochronlaw05vVmSums.j2 a3873 a3874 a3875 (IntKind.i64.wrap ((IntKind.i64.wrap a3873) * (IntKind.i64.wrap a3874))) else (if nth ([3, 4, 5, 8, 9, 6, 7] : List Int) (Int.tmod a3875 7) = 8 then (if IntKind.i64.wrap a3873 < IntKind.i64.wrap a3874 then isochronlaw05vVmSums.j2 a3873 a3874 a3875 1 else isochronlaw05vVmSums.j2 a3873 a3874 a3875 0) else (if nth ([3, 4, 5, 8, 9, 6, 7] : List Int) (Int.tmod a3875 7) = 9 then (if IntKind.i64.wrap a3873 = IntKind.i64.wrap a3874 then isochronlaw05vVmSums.j2 a3873 a3874 a3875 1 else isochronlaw05vVmSums.j2 a3873 a3874 a3875 0) else (if nth ([3, 4, 5, 8, 9, 6, 7] : List Int) (Int.tmod a3875 7) = 6 then (if IntKind.i64.wrap a3874 = 0 then isochronlaw05vVmSums.j2 a3873 a3874 a3875 0 else (if ¬ (IntKind.i64.wrap a3874) = 0 then isochronlaw05vVmSums.j2 a3873 a3874 a3875 (IntKind.i64.wrap (Int.tdiv (IntKind.i64.wrap a3873) (IntKind.i64.wrap a3874))) else none)) else (if IntKind.i64.wrap a3874 = 0 then isochronlaw05vVmSums.j2 a3873 a3874 a3875 0 else (if ¬ (IntKind.i64.wrap a3874) = 0 then isochronlaw05vVmSums.j2 a3873 a3874 a3875 (Int.tmod (IntKind.i64.wrap a3873) (IntKind.i64.wrap a3874)) else none)))))))) else none)
set_option maxRecDepth 100000 in
set_option maxHeartbeats 4000000 in
theorem isochronlaw05vVmSums.ok {B : Base} {w : World} {l : List HProp} {hf : Hp} (a3873 : Int) (a3874 : Int) (a3875 : Int) (hG0 : GlobAt hf 0 (.iface 118 (.agg #[.pointer (some ⟨1, 71, none⟩)]))) (r : Bool) (h : isochronlaw05vVmSums.f a3873 a3874 a3875 = some r) (hS : St B w (l) hf) :
    Calls Tryd.prog 5 #[.int .i32 a3873, .int .i32 a3874, .int .u8 a3875] w (Ret fun v w => v = .bool r ∧ St B w (l) hf) := by
  have h := Holds.of h
  refine enter (args := [.int .i32 a3873, .int .i32 a3874, .int .u8 a3875]) Tryd.func5 rfl Tryd.ntmps5 (Nat.le_of_ble_eq_true rfl) ?_
  refine RC.seq ?_
  refine RC.region ?_
  refine RL.s (Vl.assign rfl) rfl ?_
  refine RL.nil ?_
  refine RQ.then_n ?_
  refine RC.seq ?_
  refine RC.region ?_
  refine RL.e (OW.buildSlice (E := (FI .i64)) (xs := ([3, 4, 5, 8, 9, 6, 7] : List Int)) (cs := [.int .i64 3, .int .i64 4, .int .i64 5, .int .i64 8, .int .i64 9, .int .i64 6, .int .i64 7]) hS Tryd.underlying46 Tryd.zeroValue3 Tryd.sizeOf3 (parts := [(0, .const (.int .i64 3)), (1, .const (.int .i64 4)), (2, .const (.int .i64 5)), (3, .const (.int .i64 8)), (4, .const (.int .i64 9)), (5, .const (.int .i64 6)), (6, .const (.int .i64 7))]) rfl rfl (by decide) (by decide) (by kernel_rfl) rfl) rfl rfl ?_
  rintro _ w ⟨b3923, rfl, hS⟩
  have hS : St B w (OSf (FI .i64) 3 (.slice (some ⟨b3923, 0, none⟩) ([3, 4, 5, 8, 9, 6, 7] : List Int).length 7) ([3, 4, 5, 8, 9, 6, 7] : List Int) :: l) hf := hS
  refine RL.s (Vl.assign rfl) rfl ?_
  refine RL.nil ?_
  refine RQ.then_n ?_
  refine RC.seq ?_
  refine RC.region ?_
  refine RL.s (Vl.move rfl) rfl ?_
  refine RL.s (Vl.move rfl) rfl ?_
  refine RL.s (Vl.rem rfl rfl (by decide)) rfl ?_
  obtain ⟨⟨hq3924, hq3925⟩, h⟩ := h.req
  refine RL.s (Vl.indexAddr Tryd.underlying46 Tryd.sizeOf3 rfl rfl ((hS.slW 0 rfl).2.2.adr hq3924 hq3925) hq3924 hq3925 rfl) rfl ?_
  refine RL.s (Vl.load Tryd.isAgg3 rfl ((hS.slW 0 rfl).2.2.cell (j := 0) hq3924 hq3925 rfl)) rfl ?_
  refine RL.s (Vl.assign rfl) rfl ?_
  refine RL.nil ?_
  refine RQ.then_n ?_
  refine RC.seq ?_
  refine RC.region ?_
  refine RL.s (Vl.move rfl) rfl ?_
  refine RL.s (Vl.conv Tryd.underlying21 Tryd.underlying2 rfl) rfl ?_
  refine RL.s (Vl.assign rfl) rfl ?_
  refine RL.nil ?_
  refine RQ.then_n ?_
  refine RC.seq ?_
  refine RC.region ?_
  refine RL.s (Vl.move rfl) rfl ?_
  refine RL.s (Vl.conv Tryd.underlying21 Tryd.underlying2 rfl) rfl ?_
  refine RL.s (Vl.assign rfl) rfl ?_
  refine RL.nil ?_
  refine RQ.then_n ?_
  refine RC.seq ?_
  refine RC.region ?_
  refine RL.s (Vl.assign rfl) rfl ?_
  refine RL.nil ?_
  refine RQ.then_n ?_
  refine RC.join (fun (s : Int) a w => ∃ (x3938 : Int), s = (x3938) ∧ Has 91 [(0, .int .i32 a3873), (1, .int .i32 a3874), (8, .int .i64 (nth ([3, 4, 5, 8, 9, 6, 7] : List Int) (Int.tmod a3875 7))), (11, .int .i64 x3938)] a ∧ St B w (l) hf ∧ Holds (· = r) (isochronlaw05vVmSums.j2 a3873 a3874 a3875 x3938)) ?_ ?_
  · rintro x3938 a w ⟨_, rfl, ha, hS, h⟩
    revert a
    show RC _ _ _ _ _ _
    refine RC.seq ?_
    refine RC.region ?_
    refine RL.s (Vl.move rfl) rfl ?_
    refine RL.s (Vl.conv Tryd.underlying21 Tryd.underlying3 rfl) rfl ?_
    refine RL.s (Vl.build (v := .agg #[.int .i64 1, .int .i64 8, .int .i64 (IntKind.i64.wrap a3873), .int .i64 0]) (parts := [(0, .const (.int .i64 1)), (1, .const (.int .i64 8)), (2, .tmp 65)]) rfl (by kernel_rfl)) rfl ?_
    refine RL.s (Vl.move rfl) rfl ?_
    refine RL.s (Vl.conv Tryd.underlying21 Tryd.underlying3 rfl) rfl ?_
    refine RL.s (Vl.build (v := .agg #[.int .i64 1, .int .i64 9, .int .i64 (IntKind.i64.wrap a3874), .int .i64 0]) (parts := [(0, .const (.int .i64 1)), (1, .const (.int .i64 9)), (2, .tmp 68)]) rfl (by kernel_rfl)) rfl ?_
    refine RL.s (Vl.move rfl) rfl ?_
    refine RL.s (Vl.build (v := .agg #[.int .i64 (nth ([3, 4, 5, 8, 9, 6, 7] : List Int) (Int.tmod a3875 7)), .int .i64 0, .int .i64 8, .int .i64 9]) (parts := [(0, .tmp 70), (1, .const (.int .i64 0)), (2, .const (.int .i64 8)), (3, .const (.int .i64 9))]) rfl (by kernel_rfl)) rfl ?_
    refine RL.e (OW.buildSlice (E := E_api_Instr) (xs := [(⟨1, 8, IntKind.i64.wrap a3873, 0⟩ : api_Instr), (⟨1, 9, IntKind.i64.wrap a3874, 0⟩ : api_Instr), (⟨nth ([3, 4, 5, 8, 9, 6, 7] : List Int) (Int.tmod a3875 7), 0, 8, 9⟩ : api_Instr)]) (cs := [.int .i64 1, .int .i64 8, .int .i64 (IntKind.i64.wrap a3873), .int .i64 0, .int .i64 1, .int .i64 9, .int .i64 (IntKind.i64.wrap a3874), .int .i64 0, .int .i64 (nth ([3, 4, 5, 8, 9, 6, 7] : List Int) (Int.tmod a3875 7)), .int .i64 0, .int .i64 8, .int .i64 9]) hS Tryd.underlying22 Tryd.zeroValue48 Tryd.sizeOf48 (parts := [(0, .tmp 66), (1, .tmp 69), (2, .tmp 71)]) rfl rfl (by decide) (by decide) (by kernel_rfl) rfl) rfl rfl ?_
    rintro _ w ⟨b3940, rfl, hS⟩
    have hS : St B w (OSf E_api_Instr 48 (.slice (some ⟨b3940, 0, none⟩) ([(⟨1, 8, IntKind.i64.wrap a3873, 0⟩ : api_Instr), (⟨1, 9, IntKind.i64.wrap a3874, 0⟩ : api_Instr), (⟨nth ([3, 4, 5, 8, 9, 6, 7] : List Int) (Int.tmod a3875 7), 0, 8, 9⟩ : api_Instr)]).length 3) ([(⟨1, 8, IntKind.i64.wrap a3873, 0⟩ : api_Instr), (⟨1, 9, IntKind.i64.wrap a3874, 0⟩ : api_Instr), (⟨nth ([3, 4, 5, 8, 9, 6, 7] : List Int) (Int.tmod a3875 7), 0, 8, 9⟩ : api_Instr)]) :: l) hf := hS
    refine RL.s (Vl.assign rfl) rfl ?_
    refine RL.nil ?_
    refine RQ.then_n ?_
    refine RC.seq ?_
    refine RC.region ?_
    refine RL.s (Vl.move rfl) rfl ?_
    refine RL.s (Vl.build (v := .agg #[.slice (some ⟨b3940, 0, none⟩) ([(⟨1, 8, IntKind.i64.wrap a3873, 0⟩ : api_Instr), (⟨1, 9, IntKind.i64.wrap a3874, 0⟩ : api_Instr), (⟨nth ([3, 4, 5, 8, 9, 6, 7] : List Int) (Int.tmod a3875 7), 0, 8, 9⟩ : api_Instr)]).length 3, .int .i64 0, .slice none 0 0, .int .u64 0]) (parts := [(0, .tmp 74)]) rfl (by kernel_rfl)) rfl ?_
    refine RL.s (Vl.build (v := .agg #[.int .i64 0, .int .i64 0, .int .i64 0, .int .i64 0, .int .i64 0, .int .i64 0, .int .i64 0, .int .i64 0, .int .i64 0, .int .i64 0]) (parts := []) rfl (by kernel_rfl)) rfl ?_
    refine RL.s (Vl.build (v := .agg #[.int .i64 0, .int .i64 0, .int .i64 0, .int .i64 0, .int .i64 0, .int .i64 0, .bool false]) (parts := []) rfl (by kernel_rfl)) rfl ?_
    obtain ⟨hf3944, hs3942, hS, hr3941, hb3943⟩ := St.lendSl hS
    obtain ⟨t3945, hg3946, h⟩ := h.bind
    obtain ⟨y3947, y3948, y3949⟩ := t3945
    refine RL.e (OW.callF (ls := [.tmp 75, .tmp 76, .tmp 77]) rfl Tryd.call11 (vm_Run.ok (⟨[(⟨1, 8, IntKind.i64.wrap a3873, 0⟩ : api_Instr), (⟨1, 9, IntKind.i64.wrap a3874, 0⟩ : api_Instr), (⟨nth ([3, 4, 5, 8, 9, 6, 7] : List Int) (Int.tmod a3875 7), 0, 8, 9⟩ : api_Instr)], 0, [], 0⟩ : api_World) (⟨(⟨0, 0, 0, 0, 0, 0, 0, 0⟩ : Arr8xInti64), 0, 0⟩ : api_State) (⟨(⟨0, 0, 0⟩ : api_Key), 0, 0, 0, false⟩ : api_Message) (some ⟨b3940, 0, none⟩) 3 none 0 hr3941 SlR.nil (hG0.mono hs3942) _ hg3946 hS)) rfl rfl ?_
    rintro _ w ⟨A3950, c3951, rfl, hS⟩
    have hS := hb3943 _ _ hS
    have hS : St B w (OSf E_api_Instr 48 (.slice (some ⟨b3940, 0, none⟩) ([(⟨1, 8, IntKind.i64.wrap a3873, 0⟩ : api_Instr), (⟨1, 9, IntKind.i64.wrap a3874, 0⟩ : api_Instr), (⟨nth ([3, 4, 5, 8, 9, 6, 7] : List Int) (Int.tmod a3875 7), 0, 8, 9⟩ : api_Instr)]).length 3) ([(⟨1, 8, IntKind.i64.wrap a3873, 0⟩ : api_Instr), (⟨1, 9, IntKind.i64.wrap a3874, 0⟩ : api_Instr), (⟨nth ([3, 4, 5, 8, 9, 6, 7] : List Int) (Int.tmod a3875 7), 0, 8, 9⟩ : api_Instr)]) :: OSf E_api_Out 58 (.slice A3950 y3948.length c3951) y3948 :: l) hf := hS
    refine RL.s (Vl.move rfl) rfl ?_
    refine RL.s (Vl.extract rfl rfl) rfl ?_
    refine RL.s (Vl.extract rfl rfl) rfl ?_
    refine RL.s (Vl.extract rfl rfl) rfl ?_
    refine RL.e (OW.alloc (cs := [.int .i64 0, .int .i64 0, .int .i64 0, .int .i64 0, .int .i64 0, .int .i64 0, .int .i64 0, .int .i64 0, .int .i64 0, .int .i64 0]) hS Tryd.zeroValue29 rfl) rfl rfl ?_
    rintro _ w ⟨b3954, rfl, hS⟩
    have hS : St B w (Cl b3954 [.int .i64 0, .int .i64 0, .int .i64 0, .int .i64 0, .int .i64 0, .int .i64 0, .int .i64 0, .int .i64 0, .int .i64 0, .int .i64 0] 29 :: OSf E_api_Instr 48 (.slice (some ⟨b3940, 0, none⟩) ([(⟨1, 8, IntKind.i64.wrap a3873, 0⟩ : api_Instr), (⟨1, 9, IntKind.i64.wrap a3874, 0⟩ : api_Instr), (⟨nth ([3, 4, 5, 8, 9, 6, 7] : List Int) (Int.tmod a3875 7), 0, 8, 9⟩ : api_Instr)]).length 3) ([(⟨1, 8, IntKind.i64.wrap a3873, 0⟩ : api_Instr), (⟨1, 9, IntKind.i64.wrap a3874, 0⟩ : api_Instr), (⟨nth ([3, 4, 5, 8, 9, 6, 7] : List Int) (Int.tmod a3875 7), 0, 8, 9⟩ : api_Instr)]) :: OSf E_api_Out 58 (.slice A3950 y3948.length c3951) y3948 :: l) hf := hS
    refine RL.e0 (OW.store (cs := [.int .i64 0, .int .i64 0, .int .i64 0, .int .i64 0, .int .i64 0, .int .i64 0, .int .i64 0, .int .i64 0, .int .i64 0, .int .i64 0]) (vs := [.int .i64 y3947.Regs.c0, .int .i64 y3947.Regs.c1, .int .i64 y3947.Regs.c2, .int .i64 y3947.Regs.c3, .int .i64 y3947.Regs.c4, .int .i64 y3947.Regs.c5, .int .i64 y3947.Regs.c6, .int .i64 y3947.Regs.c7, .int .i64 y3947.Draws, .int .i64 y3947.Sent]) (l' := Cl b3954 [.int .i64 y3947.Regs.c0, .int .i64 y3947.Regs.c1, .int .i64 y3947.Regs.c2, .int .i64 y3947.Regs.c3, .int .i64 y3947.Regs.c4, .int .i64 y3947.Regs.c5, .int .i64 y3947.Regs.c6, .int .i64 y3947.Regs.c7, .int .i64 y3947.Draws, .int .i64 y3947.Sent] 29 :: OSf E_api_Instr 48 (.slice (some ⟨b3940, 0, none⟩) ([(⟨1, 8, IntKind.i64.wrap a3873, 0⟩ : api_Instr), (⟨1, 9, IntKind.i64.wrap a3874, 0⟩ : api_Instr), (⟨nth ([3, 4, 5, 8, 9, 6, 7] : List Int) (Int.tmod a3875 7), 0, 8, 9⟩ : api_Instr)]).length 3) ([(⟨1, 8, IntKind.i64.wrap a3873, 0⟩ : api_Instr), (⟨1, 9, IntKind.i64.wrap a3874, 0⟩ : api_Instr), (⟨nth ([3, 4, 5, 8, 9, 6, 7] : List Int) (Int.tmod a3875 7), 0, 8, 9⟩ : api_Instr)]) :: OSf E_api_Out 58 (.slice A3950 y3948.length c3951) y3948 :: l) 0 hS rfl rfl rfl rfl Tryd.sizeOf29 rfl rfl rfl rfl) rfl ?_
    rintro _ w ⟨rfl, hS⟩
    have hS : St B w (Cl b3954 [.int .i64 y3947.Regs.c0, .int .i64 y3947.Regs.c1, .int .i64 y3947.Regs.c2, .int .i64 y3947.Regs.c3, .int .i64 y3947.Regs.c4, .int .i64 y3947.Regs.c5, .int .i64 y3947.Regs.c6, .int .i64 y3947.Regs.c7, .int .i64 y3947.Draws, .int .i64 y3947.Sent] 29 :: OSf E_api_Instr 48 (.slice (some ⟨b3940, 0, none⟩) ([(⟨1, 8, IntKind.i64.wrap a3873, 0⟩ : api_Instr), (⟨1, 9, IntKind.i64.wrap a3874, 0⟩ : api_Instr), (⟨nth ([3, 4, 5, 8, 9, 6, 7] : List Int) (Int.tmod a3875 7), 0, 8, 9⟩ : api_Instr)]).length 3) ([(⟨1, 8, IntKind.i64.wrap a3873, 0⟩ : api_Instr), (⟨1, 9, IntKind.i64.wrap a3874, 0⟩ : api_Instr), (⟨nth ([3, 4, 5, 8, 9, 6, 7] : List Int) (Int.tmod a3875 7), 0, 8, 9⟩ : api_Instr)]) :: OSf E_api_Out 58 (.slice A3950 y3948.length c3951) y3948 :: l) hf := hS
    refine RL.s (Vl.assign rfl) rfl ?_
    refine RL.s (Vl.assign rfl) rfl ?_
    refine RL.nil ?_
    refine RQ.then_n ?_
    refine RC.seq ?_
    refine RC.region ?_
    refine RL.s (Vl.move rfl) rfl ?_
    refine RL.s (Vl.int rfl rfl rfl) rfl ?_
    refine RL.s (Vl.move rfl) rfl ?_
    by_cases hc3955 : y3949 = 0
    case pos =>
      have h := h.pos hc3955
      refine RL.re 84 rfl (congrArg Value.bool (decide_eq_true hc3955)) ?_
      refine RL.sg (Vl.fieldAddr (a'' := ⟨b3954, 0, none⟩) Tryd.underlying29 rfl Tryd.sizeOf27 rfl rfl) rfl rfl ?_
      refine RL.sg (Vl.indexAddrA (a'' := ⟨b3954, 0, none⟩) Tryd.underlying27 Tryd.sizeOf2 rfl rfl (by decide) (by decide) rfl) rfl rfl ?_
      refine RL.sg (Vl.load Tryd.isAgg2 rfl (hS.cell 0 rfl rfl)) rfl rfl ?_
      refine RL.sg (Vl.move rfl) rfl rfl ?_
      refine RL.sg (Vl.int rfl rfl rfl) rfl rfl ?_
      refine RL.s (Vl.pickT rfl rfl) rfl ?_
      refine RL.s (Vl.assign rfl) rfl ?_
      refine RL.nil ?_
      refine RQ.then_n ?_
      refine RC.ret ?_
      have e := h.some
      subst e
      refine RQ.ret0 (vs := [.bool (decide (y3947.Regs.c0 = x3938))]) Tryd.results5 ⟨rfl, trivial⟩ ?_
      exact ⟨rfl, (((hS.dropAt 0 rfl).dropAt 0 rfl).dropAt 0 rfl)⟩
    case neg =>
      have h := h.neg hc3955
      refine RL.re 84 rfl (congrArg Value.bool (decide_eq_false hc3955)) ?_
      refine RL.nn rfl rfl ?_
      refine RL.nn rfl rfl ?_
      refine RL.nn rfl rfl ?_
      refine RL.nn rfl rfl ?_
      refine RL.nn rfl rfl ?_
      refine RL.s (Vl.pickF rfl rfl) rfl ?_
      refine RL.s (Vl.assign rfl) rfl ?_
      refine RL.nil ?_
      refine RQ.then_n ?_
      refine RC.ret ?_
      have e := h.some
      subst e
      refine RQ.ret0 (vs := [.bool false]) Tryd.results5 ⟨rfl, trivial⟩ ?_
      exact ⟨rfl, (((hS.dropAt 0 rfl).dropAt 0 rfl).dropAt 0 rfl)⟩
  · refine RC.seq ?_
    refine RC.region ?_
    refine RL.s (Vl.move rfl) rfl ?_
    refine RL.nil ?_
    refine RQ.then_n ?_
    refine RC.block ?_
    refine RC.seq ?_
    refine RC.region ?_
    refine RL.s (Vl.int rfl rfl rfl) rfl ?_
    refine RL.s (Vl.assign rfl) rfl ?_
    refine RL.nil ?_
    refine RQ.then_n ?_
    by_cases hc3956 : nth ([3, 4, 5, 8, 9, 6, 7] : List Int) (Int.tmod a3875 7) = 3
    case pos =>
      have h := h.pos hc3956
      refine RC.re 32 rfl (congrArg Value.bool (decide_eq_true hc3956)) ?_
      refine RC.condT rfl ?_
      refine RC.region ?_
      refine RL.s (Vl.move rfl) rfl ?_
      refine RL.s (Vl.move rfl) rfl ?_
      refine RL.s (Vl.int rfl rfl rfl) rfl ?_
      refine RL.s (Vl.assign rfl) rfl ?_
      refine RL.nil ?_
      refine RQ.inB_n ?_
      exact fun a ha => ⟨(IntKind.i64.wrap ((IntKind.i64.wrap a3873) + (IntKind.i64.wrap a3874))), (IntKind.i64.wrap ((IntKind.i64.wrap a3873) + (IntKind.i64.wrap a3874))), rfl, ha.to ⟨rfl, rfl, rfl, rfl, trivial⟩, (hS.dropAt 0 rfl), h⟩
    case neg =>
      have h := h.neg hc3956
      refine RC.re 32 rfl (congrArg Value.bool (decide_eq_false hc3956)) ?_
      refine RC.condF rfl ?_
      refine RC.seq ?_
      refine RC.region ?_
      refine RL.s (Vl.int rfl rfl rfl) rfl ?_
      refine RL.s (Vl.assign rfl) rfl ?_
      refine RL.nil ?_
      refine RQ.then_n ?_
      by_cases hc3957 : nth ([3, 4, 5, 8, 9, 6, 7] : List Int) (Int.tmod a3875 7) = 4
      case pos =>
        have h := h.pos hc3957
        refine RC.re 37 rfl (congrArg Value.bool (decide_eq_true hc3957)) ?_
        refine RC.condT rfl ?_
        refine RC.region ?_
        refine RL.s (Vl.move rfl) rfl ?_
        refine RL.s (Vl.move rfl) rfl ?_
        refine RL.s (Vl.int rfl rfl rfl) rfl ?_
        refine RL.s (Vl.assign rfl) rfl ?_
        refine RL.nil ?_
        refine RQ.inB_n ?_
        exact fun a ha => ⟨(IntKind.i64.wrap ((IntKind.i64.wrap a3873) - (IntKind.i64.wrap a3874))), (IntKind.i64.wrap ((IntKind.i64.wrap a3873) - (IntKind.i64.wrap a3874))), rfl, ha.to ⟨rfl, rfl, rfl, rfl, trivial⟩, (hS.dropAt 0 rfl), h⟩
      case neg =>
        have h := h.neg hc3957
        refine RC.re 37 rfl (congrArg Value.bool (decide_eq_false hc3957)) ?_
        refine RC.condF rfl ?_
        refine RC.seq ?_
        refine RC.region ?_
        refine RL.s (Vl.int rfl rfl rfl) rfl ?_
        refine RL.s (Vl.assign rfl) rfl ?_
        refine RL.nil ?_
        refine RQ.then_n ?_
        by_cases hc3958 : nth ([3, 4, 5, 8, 9, 6, 7] : List Int) (Int.tmod a3875 7) = 5
        case pos =>
          have h := h.pos hc3958
          refine RC.re 42 rfl (congrArg Value.bool (decide_eq_true hc3958)) ?_
          refine RC.condT rfl ?_
          refine RC.region ?_
          refine RL.s (Vl.move rfl) rfl ?_
          refine RL.s (Vl.move rfl) rfl ?_
          refine RL.s (Vl.int rfl rfl rfl) rfl ?_
          refine RL.s (Vl.assign rfl) rfl ?_
          refine RL.nil ?_
          refine RQ.inB_n ?_
          exact fun a ha => ⟨(IntKind.i64.wrap ((IntKind.i64.wrap a3873) * (IntKind.i64.wrap a3874))), (IntKind.i64.wrap ((IntKind.i64.wrap a3873) * (IntKind.i64.wrap a3874))), rfl, ha.to ⟨rfl, rfl, rfl, rfl, trivial⟩, (hS.dropAt 0 rfl), h⟩
        case neg =>
          have h := h.neg hc3958
          refine RC.re 42 rfl (congrArg Value.bool (decide_eq_false hc3958)) ?_
          refine RC.condF rfl ?_
          refine RC.seq ?_
          refine RC.region ?_
          refine RL.s (Vl.int rfl rfl rfl) rfl ?_
          refine RL.s (Vl.assign rfl) rfl ?_
          refine RL.nil ?_
          refine RQ.then_n ?_
          by_cases hc3959 : nth ([3, 4, 5, 8, 9, 6, 7] : List Int) (Int.tmod a3875 7) = 8
          case pos =>
            have h := h.pos hc3959
            refine RC.re 47 rfl (congrArg Value.bool (decide_eq_true hc3959)) ?_
            refine RC.condT rfl ?_
            refine RC.seq ?_
            refine RC.region ?_
            refine RL.s (Vl.move rfl) rfl ?_
            refine RL.s (Vl.move rfl) rfl ?_
            refine RL.s (Vl.int rfl rfl rfl) rfl ?_
            refine RL.nil ?_
            refine RQ.then_n ?_
            by_cases hc3960 : IntKind.i64.wrap a3873 < IntKind.i64.wrap a3874
            case pos =>
              have h := h.pos hc3960
              refine RC.re 51 rfl (congrArg Value.bool (decide_eq_true hc3960)) ?_
              refine RC.condT rfl ?_
              refine RC.region ?_
              refine RL.s (Vl.assign rfl) rfl ?_
              refine RL.nil ?_
              refine RQ.inB_n ?_
              exact fun a ha => ⟨(1), 1, rfl, ha.to ⟨rfl, rfl, rfl, rfl, trivial⟩, (hS.dropAt 0 rfl), h⟩
            case neg =>
              have h := h.neg hc3960
              refine RC.re 51 rfl (congrArg Value.bool (decide_eq_false hc3960)) ?_
              refine RC.condF rfl ?_
              refine RC.skip ?_
              refine RQ.inB_n ?_
              exact fun a ha => ⟨(0), 0, rfl, ha.to ⟨rfl, rfl, rfl, rfl, trivial⟩, (hS.dropAt 0 rfl), h⟩
          case neg =>
            have h := h.neg hc3959
            refine RC.re 47 rfl (congrArg Value.bool (decide_eq_false hc3959)) ?_
            refine RC.condF rfl ?_
            refine RC.seq ?_
            refine RC.region ?_
            refine RL.s (Vl.int rfl rfl rfl) rfl ?_
            refine RL.s (Vl.assign rfl) rfl ?_
            refine RL.nil ?_
            refine RQ.then_n ?_
            by_cases hc3961 : nth ([3, 4, 5, 8, 9, 6, 7] : List Int) (Int.tmod a3875 7) = 9
            case pos =>
              have h := h.pos hc3961
              refine RC.re 52 rfl (congrArg Value.bool (decide_eq_true hc3961)) ?_
              refine RC.condT rfl ?_
              refine RC.seq ?_
              refine RC.region ?_
              refine RL.s (Vl.move rfl) rfl ?_
              refine RL.s (Vl.move rfl) rfl ?_
              refine RL.s (Vl.int rfl rfl rfl) rfl ?_
              refine RL.nil ?_
              refine RQ.then_n ?_
              by_cases hc3962 : IntKind.i64.wrap a3873 = IntKind.i64.wrap a3874
              case pos =>
                have h := h.pos hc3962
                refine RC.re 56 rfl (congrArg Value.bool (decide_eq_true hc3962)) ?_
                refine RC.condT rfl ?_
                refine RC.region ?_
                refine RL.s (Vl.assign rfl) rfl ?_
                refine RL.nil ?_
                refine RQ.inB_n ?_
                exact fun a ha => ⟨(1), 1, rfl, ha.to ⟨rfl, rfl, rfl, rfl, trivial⟩, (hS.dropAt 0 rfl), h⟩
              case neg =>
                have h := h.neg hc3962
                refine RC.re 56 rfl (congrArg Value.bool (decide_eq_false hc3962)) ?_
                refine RC.condF rfl ?_
                refine RC.skip ?_
                refine RQ.inB_n ?_
                exact fun a ha => ⟨(0), 0, rfl, ha.to ⟨rfl, rfl, rfl, rfl, trivial⟩, (hS.dropAt 0 rfl), h⟩
            case neg =>
              have h := h.neg hc3961
              refine RC.re 52 rfl (congrArg Value.bool (decide_eq_false hc3961)) ?_
              refine RC.condF rfl ?_
              refine RC.seq ?_
              refine RC.region ?_
              refine RL.s (Vl.int rfl rfl rfl) rfl ?_
              refine RL.s (Vl.assign rfl) rfl ?_
              refine RL.nil ?_
              refine RQ.then_n ?_
              by_cases hc3963 : nth ([3, 4, 5, 8, 9, 6, 7] : List Int) (Int.tmod a3875 7) = 6
              case pos =>
                have h := h.pos hc3963
                refine RC.re 57 rfl (congrArg Value.bool (decide_eq_true hc3963)) ?_
                refine RC.condT rfl ?_
                refine RC.seq ?_
                refine RC.region ?_
                refine RL.s (Vl.move rfl) rfl ?_
                refine RL.s (Vl.int rfl rfl rfl) rfl ?_
                refine RL.nil ?_
                refine RQ.then_n ?_
                by_cases hc3964 : IntKind.i64.wrap a3874 = 0
                case pos =>
                  have h := h.pos hc3964
                  refine RC.re 60 rfl (congrArg Value.bool (notdec_pos hc3964)) ?_
                  refine RC.condF rfl ?_
                  refine RC.skip ?_
                  refine RQ.inB_n ?_
                  exact fun a ha => ⟨(0), 0, rfl, ha.to ⟨rfl, rfl, rfl, rfl, trivial⟩, (hS.dropAt 0 rfl), h⟩
                case neg =>
                  have h := h.neg hc3964
                  refine RC.re 60 rfl (congrArg Value.bool (notdec_neg hc3964)) ?_
                  refine RC.condT rfl ?_
                  refine RC.region ?_
                  refine RL.s (Vl.move rfl) rfl ?_
                  refine RL.s (Vl.move rfl) rfl ?_
                  obtain ⟨hq3965, h⟩ := h.req
                  refine RL.s (Vl.quo rfl rfl hq3965) rfl ?_
                  refine RL.s (Vl.assign rfl) rfl ?_
                  refine RL.nil ?_
                  refine RQ.inB_n ?_
                  exact fun a ha => ⟨(IntKind.i64.wrap (Int.tdiv (IntKind.i64.wrap a3873) (IntKind.i64.wrap a3874))), (IntKind.i64.wrap (Int.tdiv (IntKind.i64.wrap a3873) (IntKind.i64.wrap a3874))), rfl, ha.to ⟨rfl, rfl, rfl, rfl, trivial⟩, (hS.dropAt 0 rfl), h⟩
              case neg =>
                have h := h.neg hc3963
                refine RC.re 57 rfl (congrArg Value.bool (decide_eq_false hc3963)) ?_
                refine RC.condF rfl ?_
                refine RC.seq ?_
                refine RC.region ?_
                refine RL.s (Vl.move rfl) rfl ?_
                refine RL.s (Vl.int rfl rfl rfl) rfl ?_
                refine RL.nil ?_
                refine RQ.then_n ?_
                by_cases hc3966 : IntKind.i64.wrap a3874 = 0
                case pos =>
                  have h := h.pos hc3966
                  refine RC.re 28 rfl (congrArg Value.bool (notdec_pos hc3966)) ?_
                  refine RC.condF rfl ?_
                  refine RC.skip ?_
                  refine RQ.inB_n ?_
                  exact fun a ha => ⟨(0), 0, rfl, ha.to ⟨rfl, rfl, rfl, rfl, trivial⟩, (hS.dropAt 0 rfl), h⟩
                case neg =>
                  have h := h.neg hc3966
                  refine RC.re 28 rfl (congrArg Value.bool (notdec_neg hc3966)) ?_
                  refine RC.condT rfl ?_
                  refine RC.region ?_
                  refine RL.s (Vl.move rfl) rfl ?_
                  refine RL.s (Vl.move rfl) rfl ?_
                  obtain ⟨hq3967, h⟩ := h.req
                  refine RL.s (Vl.rem rfl rfl hq3967) rfl ?_
                  refine RL.s (Vl.assign rfl) rfl ?_
                  refine RL.nil ?_
                  refine RQ.inB_n ?_
                  exact fun a ha => ⟨(Int.tmod (IntKind.i64.wrap a3873) (IntKind.i64.wrap a3874)), (Int.tmod (IntKind.i64.wrap a3873) (IntKind.i64.wrap a3874)), rfl, ha.to ⟨rfl, rfl, rfl, rfl, trivial⟩, (hS.dropAt 0 rfl), h⟩

end Go.Proofs.Gx
