/-
  The walks of functions, each with what it computes: printed by wip/gx.py.
-/
import Derived.Test.YtjdachfjlajjjaaDoorW0
import Derived.Test.YtjdachfjlajjjaaDoorW1
import Derived.Test.YtjdachfjlajjjaaDoorW4
set_option linter.unusedVariables false
namespace Go.Proofs.Gx
open Go.Sl
/-! ### isochron/isochronlaw05.awake: function 14 -/
noncomputable def isochronlaw05vawake.f  : Option (Bool) := ((vm_Run.f (⟨[(⟨1, 0, 7, 0⟩ : api_Instr)], 0, [], 0⟩ : api_World) (⟨(⟨0, 0, 0, 0, 0, 0, 0, 0⟩ : Arr8xInti64), 0, 0⟩ : api_State) (⟨(⟨0, 0, 0⟩ : api_Key), 0, 0, 0, false⟩ : api_Message)).bind fun (y3728, y3729, y3730) => (if y3730 = 0 then some (decide (y3728.Regs.c0 = 7)) else some false))
set_option maxRecDepth 100000 in
set_option maxHeartbeats 4000000 in
theorem isochronlaw05vawake.ok {B : Base} {w : World} {l : List HProp} {hf : Hp} (hG0 : GlobAt hf 0 (.iface 118 (.agg #[.pointer (some ⟨1, 71, none⟩)]))) (r : Bool) (h : isochronlaw05vawake.f = some r) (hS : St B w (l) hf) :
    Calls Tryd.prog 14 #[] w (Ret fun v w => v = .bool r ∧ St B w (l) hf) := by
  have h := Holds.of h
  refine enter (args := []) Tryd.func14 rfl Tryd.ntmps14 (Nat.le_of_ble_eq_true rfl) ?_
  refine RC.seq ?_
  refine RC.region ?_
  refine RL.s (Vl.assign rfl) rfl ?_
  refine RL.nil ?_
  refine RQ.then_n ?_
  refine RC.seq ?_
  refine RC.region ?_
  refine RL.s (Vl.build (v := .agg #[.int .i64 1, .int .i64 0, .int .i64 7, .int .i64 0]) (parts := [(0, .const (.int .i64 1)), (1, .const (.int .i64 0)), (2, .const (.int .i64 7))]) rfl (by kernel_rfl)) rfl ?_
  refine RL.e (OW.buildSlice (E := E_api_Instr) (xs := [(⟨1, 0, 7, 0⟩ : api_Instr)]) (cs := [.int .i64 1, .int .i64 0, .int .i64 7, .int .i64 0]) hS Tryd.underlying22 Tryd.zeroValue48 Tryd.sizeOf48 (parts := [(0, .tmp 5)]) rfl rfl (by decide) (by decide) (by kernel_rfl) rfl) rfl rfl ?_
  rintro _ w ⟨b3721, rfl, hS⟩
  have hS : St B w (OSf E_api_Instr 48 (.slice (some ⟨b3721, 0, none⟩) ([(⟨1, 0, 7, 0⟩ : api_Instr)]).length 1) ([(⟨1, 0, 7, 0⟩ : api_Instr)]) :: l) hf := hS
  refine RL.s (Vl.build (v := .agg #[.slice (some ⟨b3721, 0, none⟩) ([(⟨1, 0, 7, 0⟩ : api_Instr)]).length 1, .int .i64 0, .slice none 0 0, .int .u64 0]) (parts := [(0, .tmp 6)]) rfl (by kernel_rfl)) rfl ?_
  refine RL.s (Vl.build (v := .agg #[.int .i64 0, .int .i64 0, .int .i64 0, .int .i64 0, .int .i64 0, .int .i64 0, .int .i64 0, .int .i64 0, .int .i64 0, .int .i64 0]) (parts := []) rfl (by kernel_rfl)) rfl ?_
  refine RL.s (Vl.build (v := .agg #[.int .i64 0, .int .i64 0, .int .i64 0, .int .i64 0, .int .i64 0, .int .i64 0, .bool false]) (parts := []) rfl (by kernel_rfl)) rfl ?_
  obtain ⟨hf3725, hs3723, hS, hr3722, hb3724⟩ := St.lendSl hS
  obtain ⟨t3726, hg3727, h⟩ := h.bind
  obtain ⟨y3728, y3729, y3730⟩ := t3726
  refine RL.e (OW.callF (ls := [.tmp 7, .tmp 8, .tmp 9]) rfl Tryd.call11 (vm_Run.ok (⟨[(⟨1, 0, 7, 0⟩ : api_Instr)], 0, [], 0⟩ : api_World) (⟨(⟨0, 0, 0, 0, 0, 0, 0, 0⟩ : Arr8xInti64), 0, 0⟩ : api_State) (⟨(⟨0, 0, 0⟩ : api_Key), 0, 0, 0, false⟩ : api_Message) (some ⟨b3721, 0, none⟩) 1 none 0 hr3722 SlR.nil (hG0.mono hs3723) _ hg3727 hS)) rfl rfl ?_
  rintro _ w ⟨A3731, c3732, rfl, hS⟩
  have hS := hb3724 _ _ hS
  have hS : St B w (OSf E_api_Instr 48 (.slice (some ⟨b3721, 0, none⟩) ([(⟨1, 0, 7, 0⟩ : api_Instr)]).length 1) ([(⟨1, 0, 7, 0⟩ : api_Instr)]) :: OSf E_api_Out 58 (.slice A3731 y3729.length c3732) y3729 :: l) hf := hS
  refine RL.s (Vl.move rfl) rfl ?_
  refine RL.s (Vl.extract rfl rfl) rfl ?_
  refine RL.s (Vl.extract rfl rfl) rfl ?_
  refine RL.s (Vl.extract rfl rfl) rfl ?_
  refine RL.e (OW.alloc (cs := [.int .i64 0, .int .i64 0, .int .i64 0, .int .i64 0, .int .i64 0, .int .i64 0, .int .i64 0, .int .i64 0, .int .i64 0, .int .i64 0]) hS Tryd.zeroValue29 rfl) rfl rfl ?_
  rintro _ w ⟨b3735, rfl, hS⟩
  have hS : St B w (Cl b3735 [.int .i64 0, .int .i64 0, .int .i64 0, .int .i64 0, .int .i64 0, .int .i64 0, .int .i64 0, .int .i64 0, .int .i64 0, .int .i64 0] 29 :: OSf E_api_Instr 48 (.slice (some ⟨b3721, 0, none⟩) ([(⟨1, 0, 7, 0⟩ : api_Instr)]).length 1) ([(⟨1, 0, 7, 0⟩ : api_Instr)]) :: OSf E_api_Out 58 (.slice A3731 y3729.length c3732) y3729 :: l) hf := hS
  refine RL.e0 (OW.store (cs := [.int .i64 0, .int .i64 0, .int .i64 0, .int .i64 0, .int .i64 0, .int .i64 0, .int .i64 0, .int .i64 0, .int .i64 0, .int .i64 0]) (vs := [.int .i64 y3728.Regs.c0, .int .i64 y3728.Regs.c1, .int .i64 y3728.Regs.c2, .int .i64 y3728.Regs.c3, .int .i64 y3728.Regs.c4, .int .i64 y3728.Regs.c5, .int .i64 y3728.Regs.c6, .int .i64 y3728.Regs.c7, .int .i64 y3728.Draws, .int .i64 y3728.Sent]) (l' := Cl b3735 [.int .i64 y3728.Regs.c0, .int .i64 y3728.Regs.c1, .int .i64 y3728.Regs.c2, .int .i64 y3728.Regs.c3, .int .i64 y3728.Regs.c4, .int .i64 y3728.Regs.c5, .int .i64 y3728.Regs.c6, .int .i64 y3728.Regs.c7, .int .i64 y3728.Draws, .int .i64 y3728.Sent] 29 :: OSf E_api_Instr 48 (.slice (some ⟨b3721, 0, none⟩) ([(⟨1, 0, 7, 0⟩ : api_Instr)]).length 1) ([(⟨1, 0, 7, 0⟩ : api_Instr)]) :: OSf E_api_Out 58 (.slice A3731 y3729.length c3732) y3729 :: l) 0 hS rfl rfl rfl rfl Tryd.sizeOf29 rfl rfl rfl rfl) rfl ?_
  rintro _ w ⟨rfl, hS⟩
  have hS : St B w (Cl b3735 [.int .i64 y3728.Regs.c0, .int .i64 y3728.Regs.c1, .int .i64 y3728.Regs.c2, .int .i64 y3728.Regs.c3, .int .i64 y3728.Regs.c4, .int .i64 y3728.Regs.c5, .int .i64 y3728.Regs.c6, .int .i64 y3728.Regs.c7, .int .i64 y3728.Draws, .int .i64 y3728.Sent] 29 :: OSf E_api_Instr 48 (.slice (some ⟨b3721, 0, none⟩) ([(⟨1, 0, 7, 0⟩ : api_Instr)]).length 1) ([(⟨1, 0, 7, 0⟩ : api_Instr)]) :: OSf E_api_Out 58 (.slice A3731 y3729.length c3732) y3729 :: l) hf := hS
  refine RL.s (Vl.assign rfl) rfl ?_
  refine RL.s (Vl.assign rfl) rfl ?_
  refine RL.nil ?_
  refine RQ.then_n ?_
  refine RC.seq ?_
  refine RC.region ?_
  refine RL.s (Vl.move rfl) rfl ?_
  refine RL.s (Vl.int rfl rfl rfl) rfl ?_
  refine RL.s (Vl.move rfl) rfl ?_
  by_cases hc3736 : y3730 = 0
  case pos =>
    have h := h.pos hc3736
    refine RL.re 16 rfl (congrArg Value.bool (decide_eq_true hc3736)) ?_
    refine RL.sg (Vl.fieldAddr (a'' := ⟨b3735, 0, none⟩) Tryd.underlying29 rfl Tryd.sizeOf27 rfl rfl) rfl rfl ?_
    refine RL.sg (Vl.indexAddrA (a'' := ⟨b3735, 0, none⟩) Tryd.underlying27 Tryd.sizeOf2 rfl rfl (by decide) (by decide) rfl) rfl rfl ?_
    refine RL.sg (Vl.load Tryd.isAgg2 rfl (hS.cell 0 rfl rfl)) rfl rfl ?_
    refine RL.sg (Vl.int rfl rfl rfl) rfl rfl ?_
    refine RL.s (Vl.pickT rfl rfl) rfl ?_
    refine RL.s (Vl.assign rfl) rfl ?_
    refine RL.nil ?_
    refine RQ.then_n ?_
    refine RC.ret ?_
    have e := h.some
    subst e
    refine RQ.ret0 (vs := [.bool (decide (y3728.Regs.c0 = 7))]) Tryd.results14 ⟨rfl, trivial⟩ ?_
    exact ⟨rfl, (((hS.dropAt 0 rfl).dropAt 0 rfl).dropAt 0 rfl)⟩
  case neg =>
    have h := h.neg hc3736
    refine RL.re 16 rfl (congrArg Value.bool (decide_eq_false hc3736)) ?_
    refine RL.nn rfl rfl ?_
    refine RL.nn rfl rfl ?_
    refine RL.nn rfl rfl ?_
    refine RL.nn rfl rfl ?_
    refine RL.s (Vl.pickF rfl rfl) rfl ?_
    refine RL.s (Vl.assign rfl) rfl ?_
    refine RL.nil ?_
    refine RQ.then_n ?_
    refine RC.ret ?_
    have e := h.some
    subst e
    refine RQ.ret0 (vs := [.bool false]) Tryd.results14 ⟨rfl, trivial⟩ ?_
    exact ⟨rfl, (((hS.dropAt 0 rfl).dropAt 0 rfl).dropAt 0 rfl)⟩

/-! ### isochron/isochronlaw05.VmStays: function 7 -/
noncomputable def isochronlaw05vVmStays.j2 (a3650 : api_State) (a3651 : api_Message) (l3796 : List api_Instr) : Option (Bool) := ((vm_Run.f (⟨l3796, 0, [], 0⟩ : api_World) a3650 a3651).bind fun (y3806, y3807, y3808) => (if y3808 = 0 then (if y3806 = a3650 then (if (y3807.length : Int) = 0 then ((isochronlaw05vawake.f).bind fun t3840 => some t3840) else some false) else some false) else (if (y3807.length : Int) = 0 then (if y3806 = (⟨(⟨0, 0, 0, 0, 0, 0, 0, 0⟩ : Arr8xInti64), 0, 0⟩ : api_State) then ((vm_Check.f (⟨l3796, 0, [], 0⟩ : api_World)).bind fun t3848 => (if t3848 = 0 then ((event_Check.f a3651).bind fun t3851 => (if t3851 = 0 then (if (if a3650.Sent < a3650.Draws then a3650.Sent else a3650.Draws) < 0 then ((isochronlaw05vawake.f).bind fun t3855 => some t3855) else (if 1125899906842624 < (if a3650.Draws < a3650.Sent then a3650.Sent else a3650.Draws) then ((isochronlaw05vawake.f).bind fun t3858 => some t3858) else some false)) else ((isochronlaw05vawake.f).bind fun t3860 => some t3860))) else ((isochronlaw05vawake.f).bind fun t3862 => some t3862))) else some false) else some false)))
noncomputable def isochronlaw05vVmStays.f (a3650 : api_State) (a3651 : api_Message) (a3652 : Bool) (a3653 : List api_Instr) : Option (Bool) := (if a3652 = true then (if (([(⟨0, 0, 0, 0⟩ : api_Instr)]).length + a3653.length) * 32 ≤ 140737488355328 then isochronlaw05vVmStays.j2 a3650 a3651 (([(⟨0, 0, 0, 0⟩ : api_Instr)]) ++ a3653) else none) else isochronlaw05vVmStays.j2 a3650 a3651 ([]))
set_option maxRecDepth 100000 in
set_option maxHeartbeats 4000000 in
theorem isochronlaw05vVmStays.ok {B : Base} {w : World} {l : List HProp} {hf : Hp} (a3650 : api_State) (a3651 : api_Message) (a3652 : Bool) (a3653 : List api_Instr) (A3654 : Option Addr) (c3655 : Nat) (hr3656 : SlR E_api_Instr.rep hf A3654 c3655 a3653) (hG0 : GlobAt hf 0 (.iface 118 (.agg #[.pointer (some ⟨1, 71, none⟩)]))) (r : Bool) (h : isochronlaw05vVmStays.f a3650 a3651 a3652 a3653 = some r) (hS : St B w (l) hf) :
    Calls Tryd.prog 7 #[.agg #[.int .i64 a3650.Regs.c0, .int .i64 a3650.Regs.c1, .int .i64 a3650.Regs.c2, .int .i64 a3650.Regs.c3, .int .i64 a3650.Regs.c4, .int .i64 a3650.Regs.c5, .int .i64 a3650.Regs.c6, .int .i64 a3650.Regs.c7, .int .i64 a3650.Draws, .int .i64 a3650.Sent], .agg #[.int .i64 a3651.Key.Time, .int .i64 a3651.Key.From, .int .i64 a3651.Key.Seq, .int .i64 a3651.To, .int .i64 a3651.Value, .int .i64 a3651.Uid, .bool a3651.Anti], .bool a3652, .slice A3654 a3653.length c3655] w (Ret fun v w => v = .bool r ∧ St B w (l) hf) := by
  have h := Holds.of h
  refine enter (args := [.agg #[.int .i64 a3650.Regs.c0, .int .i64 a3650.Regs.c1, .int .i64 a3650.Regs.c2, .int .i64 a3650.Regs.c3, .int .i64 a3650.Regs.c4, .int .i64 a3650.Regs.c5, .int .i64 a3650.Regs.c6, .int .i64 a3650.Regs.c7, .int .i64 a3650.Draws, .int .i64 a3650.Sent], .agg #[.int .i64 a3651.Key.Time, .int .i64 a3651.Key.From, .int .i64 a3651.Key.Seq, .int .i64 a3651.To, .int .i64 a3651.Value, .int .i64 a3651.Uid, .bool a3651.Anti], .bool a3652, .slice A3654 a3653.length c3655]) Tryd.func7 rfl Tryd.ntmps7 (Nat.le_of_ble_eq_true rfl) ?_
  refine RC.seq ?_
  refine RC.region ?_
  refine RL.e (OW.box (cs := [.int .i64 a3650.Regs.c0, .int .i64 a3650.Regs.c1, .int .i64 a3650.Regs.c2, .int .i64 a3650.Regs.c3, .int .i64 a3650.Regs.c4, .int .i64 a3650.Regs.c5, .int .i64 a3650.Regs.c6, .int .i64 a3650.Regs.c7, .int .i64 a3650.Draws, .int .i64 a3650.Sent]) hS rfl rfl) rfl rfl ?_
  rintro _ w ⟨b3783, rfl, hS⟩
  have hS : St B w (Cl b3783 [.int .i64 a3650.Regs.c0, .int .i64 a3650.Regs.c1, .int .i64 a3650.Regs.c2, .int .i64 a3650.Regs.c3, .int .i64 a3650.Regs.c4, .int .i64 a3650.Regs.c5, .int .i64 a3650.Regs.c6, .int .i64 a3650.Regs.c7, .int .i64 a3650.Draws, .int .i64 a3650.Sent] 29 :: l) hf := hS
  refine RL.e (OW.box (cs := [.int .i64 a3651.Key.Time, .int .i64 a3651.Key.From, .int .i64 a3651.Key.Seq, .int .i64 a3651.To, .int .i64 a3651.Value, .int .i64 a3651.Uid, .bool a3651.Anti]) hS rfl rfl) rfl rfl ?_
  rintro _ w ⟨b3785, rfl, hS⟩
  have hS : St B w (Cl b3785 [.int .i64 a3651.Key.Time, .int .i64 a3651.Key.From, .int .i64 a3651.Key.Seq, .int .i64 a3651.To, .int .i64 a3651.Value, .int .i64 a3651.Uid, .bool a3651.Anti] 33 :: Cl b3783 [.int .i64 a3650.Regs.c0, .int .i64 a3650.Regs.c1, .int .i64 a3650.Regs.c2, .int .i64 a3650.Regs.c3, .int .i64 a3650.Regs.c4, .int .i64 a3650.Regs.c5, .int .i64 a3650.Regs.c6, .int .i64 a3650.Regs.c7, .int .i64 a3650.Draws, .int .i64 a3650.Sent] 29 :: l) hf := hS
  refine RL.s (Vl.assign rfl) rfl ?_
  refine RL.nil ?_
  refine RQ.then_n ?_
  refine RC.seq ?_
  refine RC.region ?_
  refine RL.s (Vl.build (v := .agg #[.slice none 0 0, .int .i64 0, .slice none 0 0, .int .u64 0]) (parts := []) rfl (by kernel_rfl)) rfl ?_
  refine RL.e (OW.alloc (cs := [.slice none 0 0, .int .i64 0, .slice none 0 0, .int .u64 0]) hS Tryd.zeroValue26 rfl) rfl rfl ?_
  rintro _ w ⟨b3787, rfl, hS⟩
  have hS : St B w (Cl b3787 [.slice none 0 0, .int .i64 0, .slice none 0 0, .int .u64 0] 26 :: Cl b3785 [.int .i64 a3651.Key.Time, .int .i64 a3651.Key.From, .int .i64 a3651.Key.Seq, .int .i64 a3651.To, .int .i64 a3651.Value, .int .i64 a3651.Uid, .bool a3651.Anti] 33 :: Cl b3783 [.int .i64 a3650.Regs.c0, .int .i64 a3650.Regs.c1, .int .i64 a3650.Regs.c2, .int .i64 a3650.Regs.c3, .int .i64 a3650.Regs.c4, .int .i64 a3650.Regs.c5, .int .i64 a3650.Regs.c6, .int .i64 a3650.Regs.c7, .int .i64 a3650.Draws, .int .i64 a3650.Sent] 29 :: l) hf := hS
  refine RL.e0 (OW.store (cs := [.slice none 0 0, .int .i64 0, .slice none 0 0, .int .u64 0]) (vs := [.slice none 0 0, .int .i64 0, .slice none 0 0, .int .u64 0]) (l' := Cl b3787 [.slice none 0 0, .int .i64 0, .slice none 0 0, .int .u64 0] 26 :: Cl b3785 [.int .i64 a3651.Key.Time, .int .i64 a3651.Key.From, .int .i64 a3651.Key.Seq, .int .i64 a3651.To, .int .i64 a3651.Value, .int .i64 a3651.Uid, .bool a3651.Anti] 33 :: Cl b3783 [.int .i64 a3650.Regs.c0, .int .i64 a3650.Regs.c1, .int .i64 a3650.Regs.c2, .int .i64 a3650.Regs.c3, .int .i64 a3650.Regs.c4, .int .i64 a3650.Regs.c5, .int .i64 a3650.Regs.c6, .int .i64 a3650.Regs.c7, .int .i64 a3650.Draws, .int .i64 a3650.Sent] 29 :: l) 0 hS rfl rfl rfl rfl Tryd.sizeOf26 rfl rfl rfl rfl) rfl ?_
  rintro _ w ⟨rfl, hS⟩
  have hS : St B w (Cl b3787 [.slice none 0 0, .int .i64 0, .slice none 0 0, .int .u64 0] 26 :: Cl b3785 [.int .i64 a3651.Key.Time, .int .i64 a3651.Key.From, .int .i64 a3651.Key.Seq, .int .i64 a3651.To, .int .i64 a3651.Value, .int .i64 a3651.Uid, .bool a3651.Anti] 33 :: Cl b3783 [.int .i64 a3650.Regs.c0, .int .i64 a3650.Regs.c1, .int .i64 a3650.Regs.c2, .int .i64 a3650.Regs.c3, .int .i64 a3650.Regs.c4, .int .i64 a3650.Regs.c5, .int .i64 a3650.Regs.c6, .int .i64 a3650.Regs.c7, .int .i64 a3650.Draws, .int .i64 a3650.Sent] 29 :: l) hf := hS
  refine RL.nil ?_
  refine RQ.then_n ?_
  refine RC.join (fun (s : List api_Instr) a w => ∃ (l3796 : List api_Instr), s = (l3796) ∧ ∃ (A3797 : Option Addr) (c3798 : Nat), Has 78 [(4, .pointer (some ⟨b3783, 0, none⟩)), (5, .pointer (some ⟨b3785, 0, none⟩)), (9, .pointer (some ⟨b3787, 0, none⟩))] a ∧ St B w (OSf E_api_Instr 48 (.slice A3797 l3796.length c3798) l3796 :: Cl b3787 [.slice A3797 l3796.length c3798, .int .i64 0, .slice none 0 0, .int .u64 0] 26 :: Cl b3785 [.int .i64 a3651.Key.Time, .int .i64 a3651.Key.From, .int .i64 a3651.Key.Seq, .int .i64 a3651.To, .int .i64 a3651.Value, .int .i64 a3651.Uid, .bool a3651.Anti] 33 :: Cl b3783 [.int .i64 a3650.Regs.c0, .int .i64 a3650.Regs.c1, .int .i64 a3650.Regs.c2, .int .i64 a3650.Regs.c3, .int .i64 a3650.Regs.c4, .int .i64 a3650.Regs.c5, .int .i64 a3650.Regs.c6, .int .i64 a3650.Regs.c7, .int .i64 a3650.Draws, .int .i64 a3650.Sent] 29 :: l) hf ∧ Holds (· = r) (isochronlaw05vVmStays.j2 a3650 a3651 l3796)) ?_ ?_
  · rintro l3796 a w ⟨_, rfl, A3797, c3798, ha, hS, h⟩
    revert a
    show RC _ _ _ _ _ _
    refine RC.seq ?_
    refine RC.region ?_
    refine RL.s (Vl.loadA (vs := [.slice A3797 l3796.length c3798, .int .i64 0, .slice none 0 0, .int .u64 0]) Tryd.isAgg26 Tryd.sizeOf26 rfl rfl (hS.cellsAt 1 rfl rfl)) rfl ?_
    refine RL.s (Vl.loadA (vs := [.int .i64 a3650.Regs.c0, .int .i64 a3650.Regs.c1, .int .i64 a3650.Regs.c2, .int .i64 a3650.Regs.c3, .int .i64 a3650.Regs.c4, .int .i64 a3650.Regs.c5, .int .i64 a3650.Regs.c6, .int .i64 a3650.Regs.c7, .int .i64 a3650.Draws, .int .i64 a3650.Sent]) Tryd.isAgg29 Tryd.sizeOf29 rfl rfl (hS.cellsAt 3 rfl rfl)) rfl ?_
    refine RL.s (Vl.loadA (vs := [.int .i64 a3651.Key.Time, .int .i64 a3651.Key.From, .int .i64 a3651.Key.Seq, .int .i64 a3651.To, .int .i64 a3651.Value, .int .i64 a3651.Uid, .bool a3651.Anti]) Tryd.isAgg33 Tryd.sizeOf33 rfl rfl (hS.cellsAt 2 rfl rfl)) rfl ?_
    obtain ⟨hf3803, hs3801, hS, hr3800, hb3802⟩ := St.lendSl hS
    obtain ⟨t3804, hg3805, h⟩ := h.bind
    obtain ⟨y3806, y3807, y3808⟩ := t3804
    refine RL.e (OW.callF (ls := [.tmp 21, .tmp 22, .tmp 23]) rfl Tryd.call11 (vm_Run.ok (⟨l3796, 0, [], 0⟩ : api_World) a3650 a3651 A3797 c3798 none 0 hr3800 SlR.nil (hG0.mono hs3801) _ hg3805 hS)) rfl rfl ?_
    rintro _ w ⟨A3809, c3810, rfl, hS⟩
    have hS := hb3802 _ _ hS
    have hS : St B w (OSf E_api_Instr 48 (.slice A3797 l3796.length c3798) l3796 :: OSf E_api_Out 58 (.slice A3809 y3807.length c3810) y3807 :: Cl b3787 [.slice A3797 l3796.length c3798, .int .i64 0, .slice none 0 0, .int .u64 0] 26 :: Cl b3785 [.int .i64 a3651.Key.Time, .int .i64 a3651.Key.From, .int .i64 a3651.Key.Seq, .int .i64 a3651.To, .int .i64 a3651.Value, .int .i64 a3651.Uid, .bool a3651.Anti] 33 :: Cl b3783 [.int .i64 a3650.Regs.c0, .int .i64 a3650.Regs.c1, .int .i64 a3650.Regs.c2, .int .i64 a3650.Regs.c3, .int .i64 a3650.Regs.c4, .int .i64 a3650.Regs.c5, .int .i64 a3650.Regs.c6, .int .i64 a3650.Regs.c7, .int .i64 a3650.Draws, .int .i64 a3650.Sent] 29 :: l) hf := hS
    refine RL.s (Vl.move rfl) rfl ?_
    refine RL.s (Vl.extract rfl rfl) rfl ?_
    refine RL.s (Vl.extract rfl rfl) rfl ?_
    refine RL.s (Vl.extract rfl rfl) rfl ?_
    refine RL.e (OW.alloc (cs := [.int .i64 0, .int .i64 0, .int .i64 0, .int .i64 0, .int .i64 0, .int .i64 0, .int .i64 0, .int .i64 0, .int .i64 0, .int .i64 0]) hS Tryd.zeroValue29 rfl) rfl rfl ?_
    rintro _ w ⟨b3813, rfl, hS⟩
    have hS : St B w (Cl b3813 [.int .i64 0, .int .i64 0, .int .i64 0, .int .i64 0, .int .i64 0, .int .i64 0, .int .i64 0, .int .i64 0, .int .i64 0, .int .i64 0] 29 :: OSf E_api_Instr 48 (.slice A3797 l3796.length c3798) l3796 :: OSf E_api_Out 58 (.slice A3809 y3807.length c3810) y3807 :: Cl b3787 [.slice A3797 l3796.length c3798, .int .i64 0, .slice none 0 0, .int .u64 0] 26 :: Cl b3785 [.int .i64 a3651.Key.Time, .int .i64 a3651.Key.From, .int .i64 a3651.Key.Seq, .int .i64 a3651.To, .int .i64 a3651.Value, .int .i64 a3651.Uid, .bool a3651.Anti] 33 :: Cl b3783 [.int .i64 a3650.Regs.c0, .int .i64 a3650.Regs.c1, .int .i64 a3650.Regs.c2, .int .i64 a3650.Regs.c3, .int .i64 a3650.Regs.c4, .int .i64 a3650.Regs.c5, .int .i64 a3650.Regs.c6, .int .i64 a3650.Regs.c7, .int .i64 a3650.Draws, .int .i64 a3650.Sent] 29 :: l) hf := hS
    refine RL.e0 (OW.store (cs := [.int .i64 0, .int .i64 0, .int .i64 0, .int .i64 0, .int .i64 0, .int .i64 0, .int .i64 0, .int .i64 0, .int .i64 0, .int .i64 0]) (vs := [.int .i64 y3806.Regs.c0, .int .i64 y3806.Regs.c1, .int .i64 y3806.Regs.c2, .int .i64 y3806.Regs.c3, .int .i64 y3806.Regs.c4, .int .i64 y3806.Regs.c5, .int .i64 y3806.Regs.c6, .int .i64 y3806.Regs.c7, .int .i64 y3806.Draws, .int .i64 y3806.Sent]) (l' := Cl b3813 [.int .i64 y3806.Regs.c0, .int .i64 y3806.Regs.c1, .int .i64 y3806.Regs.c2, .int .i64 y3806.Regs.c3, .int .i64 y3806.Regs.c4, .int .i64 y3806.Regs.c5, .int .i64 y3806.Regs.c6, .int .i64 y3806.Regs.c7, .int .i64 y3806.Draws, .int .i64 y3806.Sent] 29 :: OSf E_api_Instr 48 (.slice A3797 l3796.length c3798) l3796 :: OSf E_api_Out 58 (.slice A3809 y3807.length c3810) y3807 :: Cl b3787 [.slice A3797 l3796.length c3798, .int .i64 0, .slice none 0 0, .int .u64 0] 26 :: Cl b3785 [.int .i64 a3651.Key.Time, .int .i64 a3651.Key.From, .int .i64 a3651.Key.Seq, .int .i64 a3651.To, .int .i64 a3651.Value, .int .i64 a3651.Uid, .bool a3651.Anti] 33 :: Cl b3783 [.int .i64 a3650.Regs.c0, .int .i64 a3650.Regs.c1, .int .i64 a3650.Regs.c2, .int .i64 a3650.Regs.c3, .int .i64 a3650.Regs.c4, .int .i64 a3650.Regs.c5, .int .i64 a3650.Regs.c6, .int .i64 a3650.Regs.c7, .int .i64 a3650.Draws, .int .i64 a3650.Sent] 29 :: l) 0 hS rfl rfl rfl rfl Tryd.sizeOf29 rfl rfl rfl rfl) rfl ?_
    rintro _ w ⟨rfl, hS⟩
    have hS : St B w (Cl b3813 [.int .i64 y3806.Regs.c0, .int .i64 y3806.Regs.c1, .int .i64 y3806.Regs.c2, .int .i64 y3806.Regs.c3, .int .i64 y3806.Regs.c4, .int .i64 y3806.Regs.c5, .int .i64 y3806.Regs.c6, .int .i64 y3806.Regs.c7, .int .i64 y3806.Draws, .int .i64 y3806.Sent] 29 :: OSf E_api_Instr 48 (.slice A3797 l3796.length c3798) l3796 :: OSf E_api_Out 58 (.slice A3809 y3807.length c3810) y3807 :: Cl b3787 [.slice A3797 l3796.length c3798, .int .i64 0, .slice none 0 0, .int .u64 0] 26 :: Cl b3785 [.int .i64 a3651.Key.Time, .int .i64 a3651.Key.From, .int .i64 a3651.Key.Seq, .int .i64 a3651.To, .int .i64 a3651.Value, .int .i64 a3651.Uid, .bool a3651.Anti] 33 :: Cl b3783 [.int .i64 a3650.Regs.c0, .int .i64 a3650.Regs.c1, .int .i64 a3650.Regs.c2, .int .i64 a3650.Regs.c3, .int .i64 a3650.Regs.c4, .int .i64 a3650.Regs.c5, .int .i64 a3650.Regs.c6, .int .i64 a3650.Regs.c7, .int .i64 a3650.Draws, .int .i64 a3650.Sent] 29 :: l) hf := hS
    refine RL.s (Vl.assign rfl) rfl ?_
    refine RL.s (Vl.assign rfl) rfl ?_
    refine RL.nil ?_
    refine RQ.then_n ?_
    refine RC.seq ?_
    refine RC.seq ?_
    refine RC.region ?_
    refine RL.s (Vl.move rfl) rfl ?_
    refine RL.s (Vl.int rfl rfl rfl) rfl ?_
    refine RL.nil ?_
    refine RQ.then_n ?_
    by_cases hc3837 : y3808 = 0
    case pos =>
      have h := h.pos hc3837
      refine RC.re 29 rfl (congrArg Value.bool (notdec_pos hc3837)) ?_
      refine RC.condF rfl ?_
      refine RC.skip ?_
      refine RQ.then_n ?_
      refine RC.seq ?_
      refine RC.region ?_
      refine RL.s (Vl.loadA (vs := [.int .i64 y3806.Regs.c0, .int .i64 y3806.Regs.c1, .int .i64 y3806.Regs.c2, .int .i64 y3806.Regs.c3, .int .i64 y3806.Regs.c4, .int .i64 y3806.Regs.c5, .int .i64 y3806.Regs.c6, .int .i64 y3806.Regs.c7, .int .i64 y3806.Draws, .int .i64 y3806.Sent]) Tryd.isAgg29 Tryd.sizeOf29 rfl rfl (hS.cellsAt 0 rfl rfl)) rfl ?_
      refine RL.s (Vl.loadA (vs := [.int .i64 a3650.Regs.c0, .int .i64 a3650.Regs.c1, .int .i64 a3650.Regs.c2, .int .i64 a3650.Regs.c3, .int .i64 a3650.Regs.c4, .int .i64 a3650.Regs.c5, .int .i64 a3650.Regs.c6, .int .i64 a3650.Regs.c7, .int .i64 a3650.Draws, .int .i64 a3650.Sent]) Tryd.isAgg29 Tryd.sizeOf29 rfl rfl (hS.cellsAt 5 rfl rfl)) rfl ?_
      refine RL.s (Vl.eqlS (run_eql_api_State _ _ y3806 a3650) rfl rfl) rfl ?_
      refine RL.s (Vl.move rfl) rfl ?_
      by_cases hc3838 : y3806 = a3650
      case pos =>
        have h := h.pos hc3838
        refine RL.re 70 rfl (congrArg Value.bool (decide_eq_true hc3838)) ?_
        refine RL.sg (Vl.move rfl) rfl rfl ?_
        refine RL.sg (Vl.lenSl Tryd.underlying34 rfl) rfl rfl ?_
        refine RL.sg (Vl.int rfl rfl rfl) rfl rfl ?_
        refine RL.s (Vl.pickT rfl rfl) rfl ?_
        refine RL.s (Vl.move rfl) rfl ?_
        by_cases hc3839 : (y3807.length : Int) = 0
        case pos =>
          have h := h.pos hc3839
          refine RL.re 75 rfl (congrArg Value.bool (decide_eq_true hc3839)) ?_
          obtain ⟨t3840, hg3841, h⟩ := h.bind
          refine RL.e (OW.callF (ls := []) rfl Tryd.call14 (isochronlaw05vawake.ok hG0 _ hg3841 hS)) rfl rfl ?_
          rintro _ w ⟨rfl, hS⟩
          have hS : St B w (Cl b3813 [.int .i64 y3806.Regs.c0, .int .i64 y3806.Regs.c1, .int .i64 y3806.Regs.c2, .int .i64 y3806.Regs.c3, .int .i64 y3806.Regs.c4, .int .i64 y3806.Regs.c5, .int .i64 y3806.Regs.c6, .int .i64 y3806.Regs.c7, .int .i64 y3806.Draws, .int .i64 y3806.Sent] 29 :: OSf E_api_Instr 48 (.slice A3797 l3796.length c3798) l3796 :: OSf E_api_Out 58 (.slice A3809 y3807.length c3810) y3807 :: Cl b3787 [.slice A3797 l3796.length c3798, .int .i64 0, .slice none 0 0, .int .u64 0] 26 :: Cl b3785 [.int .i64 a3651.Key.Time, .int .i64 a3651.Key.From, .int .i64 a3651.Key.Seq, .int .i64 a3651.To, .int .i64 a3651.Value, .int .i64 a3651.Uid, .bool a3651.Anti] 33 :: Cl b3783 [.int .i64 a3650.Regs.c0, .int .i64 a3650.Regs.c1, .int .i64 a3650.Regs.c2, .int .i64 a3650.Regs.c3, .int .i64 a3650.Regs.c4, .int .i64 a3650.Regs.c5, .int .i64 a3650.Regs.c6, .int .i64 a3650.Regs.c7, .int .i64 a3650.Draws, .int .i64 a3650.Sent] 29 :: l) hf := hS
          refine RL.s (Vl.pickT rfl rfl) rfl ?_
          refine RL.s (Vl.assign rfl) rfl ?_
          refine RL.nil ?_
          refine RQ.then_n ?_
          refine RC.ret ?_
          have e := h.some
          subst e
          refine RQ.ret0 (vs := [.bool t3840]) Tryd.results7 ⟨rfl, trivial⟩ ?_
          exact ⟨rfl, ((((((hS.dropAt 0 rfl).dropAt 0 rfl).dropAt 0 rfl).dropAt 0 rfl).dropAt 0 rfl).dropAt 0 rfl)⟩
        case neg =>
          have h := h.neg hc3839
          refine RL.re 75 rfl (congrArg Value.bool (decide_eq_false hc3839)) ?_
          refine RL.nn rfl rfl ?_
          refine RL.s (Vl.pickF rfl rfl) rfl ?_
          refine RL.s (Vl.assign rfl) rfl ?_
          refine RL.nil ?_
          refine RQ.then_n ?_
          refine RC.ret ?_
          have e := h.some
          subst e
          refine RQ.ret0 (vs := [.bool false]) Tryd.results7 ⟨rfl, trivial⟩ ?_
          exact ⟨rfl, ((((((hS.dropAt 0 rfl).dropAt 0 rfl).dropAt 0 rfl).dropAt 0 rfl).dropAt 0 rfl).dropAt 0 rfl)⟩
      case neg =>
        have h := h.neg hc3838
        refine RL.re 70 rfl (congrArg Value.bool (decide_eq_false hc3838)) ?_
        refine RL.nn rfl rfl ?_
        refine RL.nn rfl rfl ?_
        refine RL.nn rfl rfl ?_
        refine RL.s (Vl.pickF rfl rfl) rfl ?_
        refine RL.s (Vl.move rfl) rfl ?_
        refine RL.nn rfl rfl ?_
        refine RL.s (Vl.pickF rfl rfl) rfl ?_
        refine RL.s (Vl.assign rfl) rfl ?_
        refine RL.nil ?_
        refine RQ.then_n ?_
        refine RC.ret ?_
        have e := h.some
        subst e
        refine RQ.ret0 (vs := [.bool false]) Tryd.results7 ⟨rfl, trivial⟩ ?_
        exact ⟨rfl, ((((((hS.dropAt 0 rfl).dropAt 0 rfl).dropAt 0 rfl).dropAt 0 rfl).dropAt 0 rfl).dropAt 0 rfl)⟩
    case neg =>
      have h := h.neg hc3837
      refine RC.re 29 rfl (congrArg Value.bool (notdec_neg hc3837)) ?_
      refine RC.condT rfl ?_
      refine RC.seq ?_
      refine RC.region ?_
      refine RL.s (Vl.move rfl) rfl ?_
      refine RL.s (Vl.lenSl Tryd.underlying34 rfl) rfl ?_
      refine RL.s (Vl.int rfl rfl rfl) rfl ?_
      refine RL.s (Vl.move rfl) rfl ?_
      by_cases hc3842 : (y3807.length : Int) = 0
      case pos =>
        have h := h.pos hc3842
        refine RL.re 33 rfl (congrArg Value.bool (decide_eq_true hc3842)) ?_
        refine RL.sg (Vl.loadA (vs := [.int .i64 y3806.Regs.c0, .int .i64 y3806.Regs.c1, .int .i64 y3806.Regs.c2, .int .i64 y3806.Regs.c3, .int .i64 y3806.Regs.c4, .int .i64 y3806.Regs.c5, .int .i64 y3806.Regs.c6, .int .i64 y3806.Regs.c7, .int .i64 y3806.Draws, .int .i64 y3806.Sent]) Tryd.isAgg29 Tryd.sizeOf29 rfl rfl (hS.cellsAt 0 rfl rfl)) rfl rfl ?_
        refine RL.sg (Vl.build (v := .agg #[.int .i64 0, .int .i64 0, .int .i64 0, .int .i64 0, .int .i64 0, .int .i64 0, .int .i64 0, .int .i64 0, .int .i64 0, .int .i64 0]) (parts := []) rfl (by kernel_rfl)) rfl rfl ?_
        refine RL.sg (Vl.eqlS (run_eql_api_State _ _ y3806 (⟨(⟨0, 0, 0, 0, 0, 0, 0, 0⟩ : Arr8xInti64), 0, 0⟩ : api_State)) rfl rfl) rfl rfl ?_
        refine RL.s (Vl.pickT rfl rfl) rfl ?_
        refine RL.s (Vl.move rfl) rfl ?_
        by_cases hc3843 : y3806 = (⟨(⟨0, 0, 0, 0, 0, 0, 0, 0⟩ : Arr8xInti64), 0, 0⟩ : api_State)
        case pos =>
          have h := h.pos hc3843
          refine RL.re 38 rfl (congrArg Value.bool (decide_eq_true hc3843)) ?_
          refine RL.sg (Vl.loadA (vs := [.slice A3797 l3796.length c3798, .int .i64 0, .slice none 0 0, .int .u64 0]) Tryd.isAgg26 Tryd.sizeOf26 rfl rfl (hS.cellsAt 3 rfl rfl)) rfl rfl ?_
          obtain ⟨hf3847, hs3845, hS, hr3844, hb3846⟩ := St.lendSl ((((((hS.pull 5 rfl rfl).pull 5 rfl rfl).pull 5 rfl rfl).pull 5 rfl rfl).pull 4 rfl rfl).pull 5 rfl rfl)
          obtain ⟨t3848, hg3849, h⟩ := h.bind
          refine RL.e (OW.callF (ls := [.tmp 39]) rfl Tryd.call15 (vm_Check.ok (⟨l3796, 0, [], 0⟩ : api_World) A3797 c3798 none 0 hr3844 SlR.nil _ hg3849 hS)) rfl rfl ?_
          rintro _ w ⟨rfl, hS⟩
          have hS := hb3846 _ _ hS
          have hS : St B w (OSf E_api_Instr 48 (.slice A3797 l3796.length c3798) l3796 :: Cl b3813 [.int .i64 y3806.Regs.c0, .int .i64 y3806.Regs.c1, .int .i64 y3806.Regs.c2, .int .i64 y3806.Regs.c3, .int .i64 y3806.Regs.c4, .int .i64 y3806.Regs.c5, .int .i64 y3806.Regs.c6, .int .i64 y3806.Regs.c7, .int .i64 y3806.Draws, .int .i64 y3806.Sent] 29 :: OSf E_api_Out 58 (.slice A3809 y3807.length c3810) y3807 :: Cl b3787 [.slice A3797 l3796.length c3798, .int .i64 0, .slice none 0 0, .int .u64 0] 26 :: Cl b3785 [.int .i64 a3651.Key.Time, .int .i64 a3651.Key.From, .int .i64 a3651.Key.Seq, .int .i64 a3651.To, .int .i64 a3651.Value, .int .i64 a3651.Uid, .bool a3651.Anti] 33 :: Cl b3783 [.int .i64 a3650.Regs.c0, .int .i64 a3650.Regs.c1, .int .i64 a3650.Regs.c2, .int .i64 a3650.Regs.c3, .int .i64 a3650.Regs.c4, .int .i64 a3650.Regs.c5, .int .i64 a3650.Regs.c6, .int .i64 a3650.Regs.c7, .int .i64 a3650.Draws, .int .i64 a3650.Sent] 29 :: l) hf := hS
          refine RL.sg (Vl.int rfl rfl rfl) rfl rfl ?_
          refine RL.sg (Vl.move rfl) rfl rfl ?_
          by_cases hc3850 : t3848 = 0
          case pos =>
            have h := h.pos hc3850
            refine RL.re 42 rfl (congrArg Value.bool (notdec_pos hc3850)) ?_
            refine RL.sg (Vl.loadA (vs := [.int .i64 a3651.Key.Time, .int .i64 a3651.Key.From, .int .i64 a3651.Key.Seq, .int .i64 a3651.To, .int .i64 a3651.Value, .int .i64 a3651.Uid, .bool a3651.Anti]) Tryd.isAgg33 Tryd.sizeOf33 rfl rfl (hS.cellsAt 4 rfl rfl)) rfl rfl ?_
            obtain ⟨t3851, hg3852, h⟩ := h.bind
            refine RL.e (OW.callF (ls := [.tmp 43]) rfl Tryd.call17 (event_Check.ok a3651 _ hg3852 hS)) rfl rfl ?_
            rintro _ w ⟨rfl, hS⟩
            have hS : St B w (OSf E_api_Instr 48 (.slice A3797 l3796.length c3798) l3796 :: Cl b3813 [.int .i64 y3806.Regs.c0, .int .i64 y3806.Regs.c1, .int .i64 y3806.Regs.c2, .int .i64 y3806.Regs.c3, .int .i64 y3806.Regs.c4, .int .i64 y3806.Regs.c5, .int .i64 y3806.Regs.c6, .int .i64 y3806.Regs.c7, .int .i64 y3806.Draws, .int .i64 y3806.Sent] 29 :: OSf E_api_Out 58 (.slice A3809 y3807.length c3810) y3807 :: Cl b3787 [.slice A3797 l3796.length c3798, .int .i64 0, .slice none 0 0, .int .u64 0] 26 :: Cl b3785 [.int .i64 a3651.Key.Time, .int .i64 a3651.Key.From, .int .i64 a3651.Key.Seq, .int .i64 a3651.To, .int .i64 a3651.Value, .int .i64 a3651.Uid, .bool a3651.Anti] 33 :: Cl b3783 [.int .i64 a3650.Regs.c0, .int .i64 a3650.Regs.c1, .int .i64 a3650.Regs.c2, .int .i64 a3650.Regs.c3, .int .i64 a3650.Regs.c4, .int .i64 a3650.Regs.c5, .int .i64 a3650.Regs.c6, .int .i64 a3650.Regs.c7, .int .i64 a3650.Draws, .int .i64 a3650.Sent] 29 :: l) hf := hS
            refine RL.sg (Vl.int rfl rfl rfl) rfl rfl ?_
            refine RL.sg (Vl.pickF rfl rfl) rfl rfl ?_
            refine RL.sg (Vl.move rfl) rfl rfl ?_
            by_cases hc3853 : t3851 = 0
            case pos =>
              have h := h.pos hc3853
              refine RL.re 47 rfl (congrArg Value.bool (notdec_pos hc3853)) ?_
              refine RL.sg (Vl.fieldAddr (a'' := ⟨b3783, 8, none⟩) Tryd.underlying29 rfl Tryd.sizeOf3 rfl rfl) rfl rfl ?_
              refine RL.sg (Vl.load Tryd.isAgg3 rfl (hS.cell 5 rfl rfl)) rfl rfl ?_
              refine RL.sg (Vl.fieldAddr (a'' := ⟨b3783, 9, none⟩) Tryd.underlying29 rfl Tryd.sizeOf3 rfl rfl) rfl rfl ?_
              refine RL.sg (Vl.load Tryd.isAgg3 rfl (hS.cell 5 rfl rfl)) rfl rfl ?_
              refine RL.sg (Vl.min2 rfl rfl) rfl rfl ?_
              refine RL.sg (Vl.int rfl rfl rfl) rfl rfl ?_
              refine RL.sg (Vl.pickF rfl rfl) rfl rfl ?_
              refine RL.sg (Vl.move rfl) rfl rfl ?_
              by_cases hc3854 : (if a3650.Sent < a3650.Draws then a3650.Sent else a3650.Draws) < 0
              case pos =>
                have h := h.pos hc3854
                refine RL.re 55 rfl (congrArg Value.bool (decide_eq_true hc3854)) ?_
                refine RL.nn rfl rfl ?_
                refine RL.nn rfl rfl ?_
                refine RL.nn rfl rfl ?_
                refine RL.nn rfl rfl ?_
                refine RL.nn rfl rfl ?_
                refine RL.nn rfl rfl ?_
                refine RL.sg (Vl.pickT rfl rfl) rfl rfl ?_
                refine RL.s (Vl.pickT rfl rfl) rfl ?_
                refine RL.s (Vl.move rfl) rfl ?_
                obtain ⟨t3855, hg3856, h⟩ := h.bind
                refine RL.e (OW.callF (ls := []) rfl Tryd.call14 (isochronlaw05vawake.ok hG0 _ hg3856 hS)) rfl rfl ?_
                rintro _ w ⟨rfl, hS⟩
                have hS : St B w (OSf E_api_Instr 48 (.slice A3797 l3796.length c3798) l3796 :: Cl b3813 [.int .i64 y3806.Regs.c0, .int .i64 y3806.Regs.c1, .int .i64 y3806.Regs.c2, .int .i64 y3806.Regs.c3, .int .i64 y3806.Regs.c4, .int .i64 y3806.Regs.c5, .int .i64 y3806.Regs.c6, .int .i64 y3806.Regs.c7, .int .i64 y3806.Draws, .int .i64 y3806.Sent] 29 :: OSf E_api_Out 58 (.slice A3809 y3807.length c3810) y3807 :: Cl b3787 [.slice A3797 l3796.length c3798, .int .i64 0, .slice none 0 0, .int .u64 0] 26 :: Cl b3785 [.int .i64 a3651.Key.Time, .int .i64 a3651.Key.From, .int .i64 a3651.Key.Seq, .int .i64 a3651.To, .int .i64 a3651.Value, .int .i64 a3651.Uid, .bool a3651.Anti] 33 :: Cl b3783 [.int .i64 a3650.Regs.c0, .int .i64 a3650.Regs.c1, .int .i64 a3650.Regs.c2, .int .i64 a3650.Regs.c3, .int .i64 a3650.Regs.c4, .int .i64 a3650.Regs.c5, .int .i64 a3650.Regs.c6, .int .i64 a3650.Regs.c7, .int .i64 a3650.Draws, .int .i64 a3650.Sent] 29 :: l) hf := hS
                refine RL.s (Vl.pickT rfl rfl) rfl ?_
                refine RL.s (Vl.assign rfl) rfl ?_
                refine RL.nil ?_
                refine RQ.then_n ?_
                refine RC.ret ?_
                refine RQ.ret ?_
                have e := h.some
                subst e
                refine RQ.ret0 (vs := [.bool t3855]) Tryd.results7 ⟨rfl, trivial⟩ ?_
                exact ⟨rfl, ((((((hS.dropAt 0 rfl).dropAt 0 rfl).dropAt 0 rfl).dropAt 0 rfl).dropAt 0 rfl).dropAt 0 rfl)⟩
              case neg =>
                have h := h.neg hc3854
                refine RL.re 55 rfl (congrArg Value.bool (decide_eq_false hc3854)) ?_
                refine RL.sg (Vl.fieldAddr (a'' := ⟨b3783, 8, none⟩) Tryd.underlying29 rfl Tryd.sizeOf3 rfl rfl) rfl rfl ?_
                refine RL.sg (Vl.load Tryd.isAgg3 rfl (hS.cell 5 rfl rfl)) rfl rfl ?_
                refine RL.sg (Vl.fieldAddr (a'' := ⟨b3783, 9, none⟩) Tryd.underlying29 rfl Tryd.sizeOf3 rfl rfl) rfl rfl ?_
                refine RL.sg (Vl.load Tryd.isAgg3 rfl (hS.cell 5 rfl rfl)) rfl rfl ?_
                refine RL.sg (Vl.max2 rfl rfl) rfl rfl ?_
                refine RL.sg (Vl.int rfl rfl rfl) rfl rfl ?_
                refine RL.sg (Vl.pickF rfl rfl) rfl rfl ?_
                refine RL.s (Vl.pickT rfl rfl) rfl ?_
                refine RL.s (Vl.move rfl) rfl ?_
                by_cases hc3857 : 1125899906842624 < (if a3650.Draws < a3650.Sent then a3650.Sent else a3650.Draws)
                case pos =>
                  have h := h.pos hc3857
                  refine RL.re 64 rfl (congrArg Value.bool (decide_eq_true hc3857)) ?_
                  obtain ⟨t3858, hg3859, h⟩ := h.bind
                  refine RL.e (OW.callF (ls := []) rfl Tryd.call14 (isochronlaw05vawake.ok hG0 _ hg3859 hS)) rfl rfl ?_
                  rintro _ w ⟨rfl, hS⟩
                  have hS : St B w (OSf E_api_Instr 48 (.slice A3797 l3796.length c3798) l3796 :: Cl b3813 [.int .i64 y3806.Regs.c0, .int .i64 y3806.Regs.c1, .int .i64 y3806.Regs.c2, .int .i64 y3806.Regs.c3, .int .i64 y3806.Regs.c4, .int .i64 y3806.Regs.c5, .int .i64 y3806.Regs.c6, .int .i64 y3806.Regs.c7, .int .i64 y3806.Draws, .int .i64 y3806.Sent] 29 :: OSf E_api_Out 58 (.slice A3809 y3807.length c3810) y3807 :: Cl b3787 [.slice A3797 l3796.length c3798, .int .i64 0, .slice none 0 0, .int .u64 0] 26 :: Cl b3785 [.int .i64 a3651.Key.Time, .int .i64 a3651.Key.From, .int .i64 a3651.Key.Seq, .int .i64 a3651.To, .int .i64 a3651.Value, .int .i64 a3651.Uid, .bool a3651.Anti] 33 :: Cl b3783 [.int .i64 a3650.Regs.c0, .int .i64 a3650.Regs.c1, .int .i64 a3650.Regs.c2, .int .i64 a3650.Regs.c3, .int .i64 a3650.Regs.c4, .int .i64 a3650.Regs.c5, .int .i64 a3650.Regs.c6, .int .i64 a3650.Regs.c7, .int .i64 a3650.Draws, .int .i64 a3650.Sent] 29 :: l) hf := hS
                  refine RL.s (Vl.pickT rfl rfl) rfl ?_
                  refine RL.s (Vl.assign rfl) rfl ?_
                  refine RL.nil ?_
                  refine RQ.then_n ?_
                  refine RC.ret ?_
                  refine RQ.ret ?_
                  have e := h.some
                  subst e
                  refine RQ.ret0 (vs := [.bool t3858]) Tryd.results7 ⟨rfl, trivial⟩ ?_
                  exact ⟨rfl, ((((((hS.dropAt 0 rfl).dropAt 0 rfl).dropAt 0 rfl).dropAt 0 rfl).dropAt 0 rfl).dropAt 0 rfl)⟩
                case neg =>
                  have h := h.neg hc3857
                  refine RL.re 64 rfl (congrArg Value.bool (decide_eq_false hc3857)) ?_
                  refine RL.nn rfl rfl ?_
                  refine RL.s (Vl.pickF rfl rfl) rfl ?_
                  refine RL.s (Vl.assign rfl) rfl ?_
                  refine RL.nil ?_
                  refine RQ.then_n ?_
                  refine RC.ret ?_
                  refine RQ.ret ?_
                  have e := h.some
                  subst e
                  refine RQ.ret0 (vs := [.bool false]) Tryd.results7 ⟨rfl, trivial⟩ ?_
                  exact ⟨rfl, ((((((hS.dropAt 0 rfl).dropAt 0 rfl).dropAt 0 rfl).dropAt 0 rfl).dropAt 0 rfl).dropAt 0 rfl)⟩
            case neg =>
              have h := h.neg hc3853
              refine RL.re 47 rfl (congrArg Value.bool (notdec_neg hc3853)) ?_
              refine RL.nn rfl rfl ?_
              refine RL.nn rfl rfl ?_
              refine RL.nn rfl rfl ?_
              refine RL.nn rfl rfl ?_
              refine RL.nn rfl rfl ?_
              refine RL.nn rfl rfl ?_
              refine RL.sg (Vl.pickT rfl rfl) rfl rfl ?_
              refine RL.sg (Vl.move rfl) rfl rfl ?_
              refine RL.nn rfl rfl ?_
              refine RL.nn rfl rfl ?_
              refine RL.nn rfl rfl ?_
              refine RL.nn rfl rfl ?_
              refine RL.nn rfl rfl ?_
              refine RL.nn rfl rfl ?_
              refine RL.sg (Vl.pickT rfl rfl) rfl rfl ?_
              refine RL.s (Vl.pickT rfl rfl) rfl ?_
              refine RL.s (Vl.move rfl) rfl ?_
              obtain ⟨t3860, hg3861, h⟩ := h.bind
              refine RL.e (OW.callF (ls := []) rfl Tryd.call14 (isochronlaw05vawake.ok hG0 _ hg3861 hS)) rfl rfl ?_
              rintro _ w ⟨rfl, hS⟩
              have hS : St B w (OSf E_api_Instr 48 (.slice A3797 l3796.length c3798) l3796 :: Cl b3813 [.int .i64 y3806.Regs.c0, .int .i64 y3806.Regs.c1, .int .i64 y3806.Regs.c2, .int .i64 y3806.Regs.c3, .int .i64 y3806.Regs.c4, .int .i64 y3806.Regs.c5, .int .i64 y3806.Regs.c6, .int .i64 y3806.Regs.c7, .int .i64 y3806.Draws, .int .i64 y3806.Sent] 29 :: OSf E_api_Out 58 (.slice A3809 y3807.length c3810) y3807 :: Cl b3787 [.slice A3797 l3796.length c3798, .int .i64 0, .slice none 0 0, .int .u64 0] 26 :: Cl b3785 [.int .i64 a3651.Key.Time, .int .i64 a3651.Key.From, .int .i64 a3651.Key.Seq, .int .i64 a3651.To, .int .i64 a3651.Value, .int .i64 a3651.Uid, .bool a3651.Anti] 33 :: Cl b3783 [.int .i64 a3650.Regs.c0, .int .i64 a3650.Regs.c1, .int .i64 a3650.Regs.c2, .int .i64 a3650.Regs.c3, .int .i64 a3650.Regs.c4, .int .i64 a3650.Regs.c5, .int .i64 a3650.Regs.c6, .int .i64 a3650.Regs.c7, .int .i64 a3650.Draws, .int .i64 a3650.Sent] 29 :: l) hf := hS
              refine RL.s (Vl.pickT rfl rfl) rfl ?_
              refine RL.s (Vl.assign rfl) rfl ?_
              refine RL.nil ?_
              refine RQ.then_n ?_
              refine RC.ret ?_
              refine RQ.ret ?_
              have e := h.some
              subst e
              refine RQ.ret0 (vs := [.bool t3860]) Tryd.results7 ⟨rfl, trivial⟩ ?_
              exact ⟨rfl, ((((((hS.dropAt 0 rfl).dropAt 0 rfl).dropAt 0 rfl).dropAt 0 rfl).dropAt 0 rfl).dropAt 0 rfl)⟩
          case neg =>
            have h := h.neg hc3850
            refine RL.re 42 rfl (congrArg Value.bool (notdec_neg hc3850)) ?_
            refine RL.nn rfl rfl ?_
            refine RL.nn rfl rfl ?_
            refine RL.nn rfl rfl ?_
            refine RL.sg (Vl.pickT rfl rfl) rfl rfl ?_
            refine RL.sg (Vl.move rfl) rfl rfl ?_
            refine RL.nn rfl rfl ?_
            refine RL.nn rfl rfl ?_
            refine RL.nn rfl rfl ?_
            refine RL.nn rfl rfl ?_
            refine RL.nn rfl rfl ?_
            refine RL.nn rfl rfl ?_
            refine RL.sg (Vl.pickT rfl rfl) rfl rfl ?_
            refine RL.sg (Vl.move rfl) rfl rfl ?_
            refine RL.nn rfl rfl ?_
            refine RL.nn rfl rfl ?_
            refine RL.nn rfl rfl ?_
            refine RL.nn rfl rfl ?_
            refine RL.nn rfl rfl ?_
            refine RL.nn rfl rfl ?_
            refine RL.sg (Vl.pickT rfl rfl) rfl rfl ?_
            refine RL.s (Vl.pickT rfl rfl) rfl ?_
            refine RL.s (Vl.move rfl) rfl ?_
            obtain ⟨t3862, hg3863, h⟩ := h.bind
            refine RL.e (OW.callF (ls := []) rfl Tryd.call14 (isochronlaw05vawake.ok hG0 _ hg3863 hS)) rfl rfl ?_
            rintro _ w ⟨rfl, hS⟩
            have hS : St B w (OSf E_api_Instr 48 (.slice A3797 l3796.length c3798) l3796 :: Cl b3813 [.int .i64 y3806.Regs.c0, .int .i64 y3806.Regs.c1, .int .i64 y3806.Regs.c2, .int .i64 y3806.Regs.c3, .int .i64 y3806.Regs.c4, .int .i64 y3806.Regs.c5, .int .i64 y3806.Regs.c6, .int .i64 y3806.Regs.c7, .int .i64 y3806.Draws, .int .i64 y3806.Sent] 29 :: OSf E_api_Out 58 (.slice A3809 y3807.length c3810) y3807 :: Cl b3787 [.slice A3797 l3796.length c3798, .int .i64 0, .slice none 0 0, .int .u64 0] 26 :: Cl b3785 [.int .i64 a3651.Key.Time, .int .i64 a3651.Key.From, .int .i64 a3651.Key.Seq, .int .i64 a3651.To, .int .i64 a3651.Value, .int .i64 a3651.Uid, .bool a3651.Anti] 33 :: Cl b3783 [.int .i64 a3650.Regs.c0, .int .i64 a3650.Regs.c1, .int .i64 a3650.Regs.c2, .int .i64 a3650.Regs.c3, .int .i64 a3650.Regs.c4, .int .i64 a3650.Regs.c5, .int .i64 a3650.Regs.c6, .int .i64 a3650.Regs.c7, .int .i64 a3650.Draws, .int .i64 a3650.Sent] 29 :: l) hf := hS
            refine RL.s (Vl.pickT rfl rfl) rfl ?_
            refine RL.s (Vl.assign rfl) rfl ?_
            refine RL.nil ?_
            refine RQ.then_n ?_
            refine RC.ret ?_
            refine RQ.ret ?_
            have e := h.some
            subst e
            refine RQ.ret0 (vs := [.bool t3862]) Tryd.results7 ⟨rfl, trivial⟩ ?_
            exact ⟨rfl, ((((((hS.dropAt 0 rfl).dropAt 0 rfl).dropAt 0 rfl).dropAt 0 rfl).dropAt 0 rfl).dropAt 0 rfl)⟩
        case neg =>
          have h := h.neg hc3843
          refine RL.re 38 rfl (congrArg Value.bool (decide_eq_false hc3843)) ?_
          refine RL.nn rfl rfl ?_
          refine RL.nn rfl rfl ?_
          refine RL.nn rfl rfl ?_
          refine RL.nn rfl rfl ?_
          refine RL.nn rfl rfl ?_
          refine RL.nn rfl rfl ?_
          refine RL.nn rfl rfl ?_
          refine RL.nn rfl rfl ?_
          refine RL.nn rfl rfl ?_
          refine RL.nn rfl rfl ?_
          refine RL.nn rfl rfl ?_
          refine RL.nn rfl rfl ?_
          refine RL.nn rfl rfl ?_
          refine RL.nn rfl rfl ?_
          refine RL.nn rfl rfl ?_
          refine RL.nn rfl rfl ?_
          refine RL.nn rfl rfl ?_
          refine RL.nn rfl rfl ?_
          refine RL.nn rfl rfl ?_
          refine RL.nn rfl rfl ?_
          refine RL.nn rfl rfl ?_
          refine RL.nn rfl rfl ?_
          refine RL.nn rfl rfl ?_
          refine RL.nn rfl rfl ?_
          refine RL.s (Vl.pickF rfl rfl) rfl ?_
          refine RL.s (Vl.move rfl) rfl ?_
          refine RL.nn rfl rfl ?_
          refine RL.s (Vl.pickF rfl rfl) rfl ?_
          refine RL.s (Vl.assign rfl) rfl ?_
          refine RL.nil ?_
          refine RQ.then_n ?_
          refine RC.ret ?_
          refine RQ.ret ?_
          have e := h.some
          subst e
          refine RQ.ret0 (vs := [.bool false]) Tryd.results7 ⟨rfl, trivial⟩ ?_
          exact ⟨rfl, ((((((hS.dropAt 0 rfl).dropAt 0 rfl).dropAt 0 rfl).dropAt 0 rfl).dropAt 0 rfl).dropAt 0 rfl)⟩
      case neg =>
        have h := h.neg hc3842
        refine RL.re 33 rfl (congrArg Value.bool (decide_eq_false hc3842)) ?_
        refine RL.nn rfl rfl ?_
        refine RL.nn rfl rfl ?_
        refine RL.nn rfl rfl ?_
        refine RL.s (Vl.pickF rfl rfl) rfl ?_
        refine RL.s (Vl.move rfl) rfl ?_
        refine RL.nn rfl rfl ?_
        refine RL.nn rfl rfl ?_
        refine RL.nn rfl rfl ?_
        refine RL.nn rfl rfl ?_
        refine RL.nn rfl rfl ?_
        refine RL.nn rfl rfl ?_
        refine RL.nn rfl rfl ?_
        refine RL.nn rfl rfl ?_
        refine RL.nn rfl rfl ?_
        refine RL.nn rfl rfl ?_
        refine RL.nn rfl rfl ?_
        refine RL.nn rfl rfl ?_
        refine RL.nn rfl rfl ?_
        refine RL.nn rfl rfl ?_
        refine RL.nn rfl rfl ?_
        refine RL.nn rfl rfl ?_
        refine RL.nn rfl rfl ?_
        refine RL.nn rfl rfl ?_
        refine RL.nn rfl rfl ?_
        refine RL.nn rfl rfl ?_
        refine RL.nn rfl rfl ?_
        refine RL.nn rfl rfl ?_
        refine RL.nn rfl rfl ?_
        refine RL.nn rfl rfl ?_
        refine RL.s (Vl.pickF rfl rfl) rfl ?_
        refine RL.s (Vl.move rfl) rfl ?_
        refine RL.nn rfl rfl ?_
        refine RL.s (Vl.pickF rfl rfl) rfl ?_
        refine RL.s (Vl.assign rfl) rfl ?_
        refine RL.nil ?_
        refine RQ.then_n ?_
        refine RC.ret ?_
        refine RQ.ret ?_
        have e := h.some
        subst e
        refine RQ.ret0 (vs := [.bool false]) Tryd.results7 ⟨rfl, trivial⟩ ?_
        exact ⟨rfl, ((((((hS.dropAt 0 rfl).dropAt 0 rfl).dropAt 0 rfl).dropAt 0 rfl).dropAt 0 rfl).dropAt 0 rfl)⟩
  · refine RC.seq ?_
    refine RC.region ?_
    refine RL.s (Vl.move rfl) rfl ?_
    refine RL.nil ?_
    refine RQ.then_n ?_
    by_cases hc3864 : a3652 = true
    case pos =>
      have h := h.pos hc3864
      refine RC.re 14 rfl (congrArg Value.bool (id hc3864)) ?_
      refine RC.condT rfl ?_
      refine RC.region ?_
      refine RL.s (Vl.build (v := .agg #[.int .i64 0, .int .i64 0, .int .i64 0, .int .i64 0]) (parts := []) rfl (by kernel_rfl)) rfl ?_
      refine RL.e (OW.buildSlice (E := E_api_Instr) (xs := [(⟨0, 0, 0, 0⟩ : api_Instr)]) (cs := [.int .i64 0, .int .i64 0, .int .i64 0, .int .i64 0]) hS Tryd.underlying22 Tryd.zeroValue48 Tryd.sizeOf48 (parts := [(0, .tmp 15)]) rfl rfl (by decide) (by decide) (by kernel_rfl) rfl) rfl rfl ?_
      rintro _ w ⟨b3866, rfl, hS⟩
      have hS : St B w (OSf E_api_Instr 48 (.slice (some ⟨b3866, 0, none⟩) ([(⟨0, 0, 0, 0⟩ : api_Instr)]).length 1) ([(⟨0, 0, 0, 0⟩ : api_Instr)]) :: Cl b3787 [.slice none 0 0, .int .i64 0, .slice none 0 0, .int .u64 0] 26 :: Cl b3785 [.int .i64 a3651.Key.Time, .int .i64 a3651.Key.From, .int .i64 a3651.Key.Seq, .int .i64 a3651.To, .int .i64 a3651.Value, .int .i64 a3651.Uid, .bool a3651.Anti] 33 :: Cl b3783 [.int .i64 a3650.Regs.c0, .int .i64 a3650.Regs.c1, .int .i64 a3650.Regs.c2, .int .i64 a3650.Regs.c3, .int .i64 a3650.Regs.c4, .int .i64 a3650.Regs.c5, .int .i64 a3650.Regs.c6, .int .i64 a3650.Regs.c7, .int .i64 a3650.Draws, .int .i64 a3650.Sent] 29 :: l) hf := hS
      refine RL.s (Vl.move rfl) rfl ?_
      obtain ⟨hq3867, h⟩ := h.req
      refine RL.e (OW.appendV (E := E_api_Instr) (xs := [(⟨0, 0, 0, 0⟩ : api_Instr)]) (ys := a3653) 0 hS rfl Tryd.underlying22 Tryd.type48 rfl rfl rfl rfl (by decide) (by decide) rfl rfl (hr3656.2.world hS.sub) hq3867 rfl) rfl rfl ?_
      rintro v3871 w hS
      obtain ⟨A3868, c3869, rfl, _⟩ := hS.osShape 0 rfl
      have hS : St B w (OSf E_api_Instr 48 (.slice A3868 (([(⟨0, 0, 0, 0⟩ : api_Instr)]) ++ a3653).length c3869) (([(⟨0, 0, 0, 0⟩ : api_Instr)]) ++ a3653) :: Cl b3787 [.slice none 0 0, .int .i64 0, .slice none 0 0, .int .u64 0] 26 :: Cl b3785 [.int .i64 a3651.Key.Time, .int .i64 a3651.Key.From, .int .i64 a3651.Key.Seq, .int .i64 a3651.To, .int .i64 a3651.Value, .int .i64 a3651.Uid, .bool a3651.Anti] 33 :: Cl b3783 [.int .i64 a3650.Regs.c0, .int .i64 a3650.Regs.c1, .int .i64 a3650.Regs.c2, .int .i64 a3650.Regs.c3, .int .i64 a3650.Regs.c4, .int .i64 a3650.Regs.c5, .int .i64 a3650.Regs.c6, .int .i64 a3650.Regs.c7, .int .i64 a3650.Draws, .int .i64 a3650.Sent] 29 :: l) hf := hS
      refine RL.s (Vl.fieldAddr (a'' := ⟨b3787, 0, none⟩) Tryd.underlying26 rfl Tryd.sizeOf22 rfl rfl) rfl ?_
      refine RL.e0 (OW.store (cs := [.slice none 0 0, .int .i64 0, .slice none 0 0, .int .u64 0]) (vs := [.slice A3868 (([(⟨0, 0, 0, 0⟩ : api_Instr)]) ++ a3653).length c3869]) (l' := OSf E_api_Instr 48 (.slice A3868 (([(⟨0, 0, 0, 0⟩ : api_Instr)]) ++ a3653).length c3869) (([(⟨0, 0, 0, 0⟩ : api_Instr)]) ++ a3653) :: Cl b3787 [.slice A3868 (([(⟨0, 0, 0, 0⟩ : api_Instr)]) ++ a3653).length c3869, .int .i64 0, .slice none 0 0, .int .u64 0] 26 :: Cl b3785 [.int .i64 a3651.Key.Time, .int .i64 a3651.Key.From, .int .i64 a3651.Key.Seq, .int .i64 a3651.To, .int .i64 a3651.Value, .int .i64 a3651.Uid, .bool a3651.Anti] 33 :: Cl b3783 [.int .i64 a3650.Regs.c0, .int .i64 a3650.Regs.c1, .int .i64 a3650.Regs.c2, .int .i64 a3650.Regs.c3, .int .i64 a3650.Regs.c4, .int .i64 a3650.Regs.c5, .int .i64 a3650.Regs.c6, .int .i64 a3650.Regs.c7, .int .i64 a3650.Draws, .int .i64 a3650.Sent] 29 :: l) 1 hS rfl rfl rfl rfl Tryd.sizeOf22 rfl rfl rfl rfl) rfl ?_
      rintro _ w ⟨rfl, hS⟩
      have hS : St B w (OSf E_api_Instr 48 (.slice A3868 (([(⟨0, 0, 0, 0⟩ : api_Instr)]) ++ a3653).length c3869) (([(⟨0, 0, 0, 0⟩ : api_Instr)]) ++ a3653) :: Cl b3787 [.slice A3868 (([(⟨0, 0, 0, 0⟩ : api_Instr)]) ++ a3653).length c3869, .int .i64 0, .slice none 0 0, .int .u64 0] 26 :: Cl b3785 [.int .i64 a3651.Key.Time, .int .i64 a3651.Key.From, .int .i64 a3651.Key.Seq, .int .i64 a3651.To, .int .i64 a3651.Value, .int .i64 a3651.Uid, .bool a3651.Anti] 33 :: Cl b3783 [.int .i64 a3650.Regs.c0, .int .i64 a3650.Regs.c1, .int .i64 a3650.Regs.c2, .int .i64 a3650.Regs.c3, .int .i64 a3650.Regs.c4, .int .i64 a3650.Regs.c5, .int .i64 a3650.Regs.c6, .int .i64 a3650.Regs.c7, .int .i64 a3650.Draws, .int .i64 a3650.Sent] 29 :: l) hf := hS
      refine RL.nil ?_
      exact fun a ha => ⟨((([(⟨0, 0, 0, 0⟩ : api_Instr)]) ++ a3653)), (([(⟨0, 0, 0, 0⟩ : api_Instr)]) ++ a3653), rfl, A3868, c3869, ha.to ⟨rfl, rfl, rfl, trivial⟩, hS, h⟩
    case neg =>
      have h := h.neg hc3864
      refine RC.re 14 rfl (congrArg Value.bool (eq_false_of hc3864)) ?_
      refine RC.condF rfl ?_
      refine RC.skip ?_
      have hS := hS.nilSl E_api_Instr 48
      exact fun a ha => ⟨([]), ([]), rfl, none, 0, ha.to ⟨rfl, rfl, rfl, trivial⟩, hS, h⟩

end Go.Proofs.Gx
