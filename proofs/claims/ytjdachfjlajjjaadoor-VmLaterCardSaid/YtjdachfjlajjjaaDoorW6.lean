/-
  The walks of functions, each with what it computes: printed by wip/gx.py.
-/
import Derived.Test.YtjdachfjlajjjaaDoorW0
import Derived.Test.YtjdachfjlajjjaaDoorW4
set_option linter.unusedVariables false
namespace Go.Proofs.Gx
open Go.Sl
/-! ### isochron/isochronlaw05.awake: function 14 -/
noncomputable def isochronlaw05vawake.f  : Option (Bool) := ((vm_Run.f (⟨[(⟨1, 0, 7, 0⟩ : api_Instr)], 0, [], 0⟩ : api_World) (⟨(⟨0, 0, 0, 0, 0, 0, 0, 0⟩ : Arr8xInti64), 0, 0⟩ : api_State) (⟨(⟨0, 0, 0⟩ : api_Key), 0, 0, 0, false⟩ : api_Message)).bind fun (y3728, y3729, y3730) => (if y3730 = 0 then some (decide (y3728.Regs.c0 = 7)) else some false))
set_option maxRecDepth 100000 in
set_option maxHeartbeats 4000000 in
theorem isochronlaw05vawake.ok {B : Base} {w : World} {l : List HProp} {hf : Hp} (hG0 : GlobAt hf 0 (.iface 118 (.agg #[.pointer (some ⟨1, 71, none⟩)]))) (r : Bool) (h : isochronlaw05vawake.f = some r) (hS : St B w (l) hf) :
    Calls Tryd.prog 14 #[] w (Ret fun v w => v = .bool r ∧ St B w (l) hf) := by
  have h := Holds.of h
  refine enter (args := []) Tryd.func14 rfl Tryd.ntmps14 (Nat.le_of_ble_eq_true rfl) ?_
  refine RC.seq ?_
  refine RC.region ?_
  refine RL.s (Vl.assign rfl) rfl ?_
  refine RL.nil ?_
  refine RQ.then_n ?_
  refine RC.seq ?_
  refine RC.region ?_
  refine RL.s (Vl.build (v := .agg #[.int .i64 1, .int .i64 0, .int .i64 7, .int .i64 0]) (parts := [(0, .const (.int .i64 1)), (1, .const (.int .i64 0)), (2, .const (.int .i64 7))]) rfl (by kernel_rfl)) rfl ?_
  refine RL.e (OW.buildSlice (E := E_api_Instr) (xs := [(⟨1, 0, 7, 0⟩ : api_Instr)]) (cs := [.int .i64 1, .int .i64 0, .int .i64 7, .int .i64 0]) hS Tryd.underlying22 Tryd.zeroValue48 Tryd.sizeOf48 (parts := [(0, .tmp 5)]) rfl rfl (by decide) (by decide) (by kernel_rfl) rfl) rfl rfl ?_
  rintro _ w ⟨b3721, rfl, hS⟩
  have hS : St B w (OSf E_api_Instr 48 (.slice (some ⟨b3721, 0, none⟩) ([(⟨1, 0, 7, 0⟩ : api_Instr)]).length 1) ([(⟨1, 0, 7, 0⟩ : api_Instr)]) :: l) hf := hS
  refine RL.s (Vl.build (v := .agg #[.slice (some ⟨b3721, 0, none⟩) ([(⟨1, 0, 7, 0⟩ : api_Instr)]).length 1, .int .i64 0, .slice none 0 0, .int .u64 0]) (parts := [(0, .tmp 6)]) rfl (by kernel_rfl)) rfl ?_
  refine RL.s (Vl.build (v := .agg #[.int .i64 0, .int .i64 0, .int .i64 0, .int .i64 0, .int .i64 0, .int .i64 0, .int .i64 0, .int .i64 0, .int .i64 0, .int .i64 0]) (parts := []) rfl (by kernel_rfl)) rfl ?_
  refine RL.s (Vl.build (v := .agg #[.int .i64 0, .int .i64 0, .int .i64 0, .int .i64 0, .int .i64 0, .int .i64 0, .bool false]) (parts := []) rfl (by kernel_rfl)) rfl ?_
  obtain ⟨hf3725, hs3723, hS, hr3722, hb3724⟩ := St.lendSl hS
  obtain ⟨t3726, hg3727, h⟩ := h.bind
  obtain ⟨y3728, y3729, y3730⟩ := t3726
  refine RL.e (OW.callF (ls := [.tmp 7, .tmp 8, .tmp 9]) rfl Tryd.call11 (vm_Run.ok (⟨[(⟨1, 0, 7, 0⟩ : api_Instr)], 0, [], 0⟩ : api_World) (⟨(⟨0, 0, 0, 0, 0, 0, 0, 0⟩ : Arr8xInti64), 0, 0⟩ : api_State) (⟨(⟨0, 0, 0⟩ : api_Key), 0, 0, 0, false⟩ : api_Message) (some ⟨b3721, 0, none⟩) 1 none 0 hr3722 SlR.nil (hG0.mono hs3723) _ hg3727 hS)) rfl rfl ?_
  rintro _ w ⟨A3731, c3732, rfl, hS⟩
  have hS := hb3724 _ _ hS
  have hS : St B w (OSf E_api_Instr 48 (.slice (some ⟨b3721, 0, none⟩) ([(⟨1, 0, 7, 0⟩ : api_Instr)]).length 1) ([(⟨1, 0, 7, 0⟩ : api_Instr)]) :: OSf E_api_Out 58 (.slice A3731 y3729.length c3732) y3729 :: l) hf := hS
  refine RL.s (Vl.move rfl) rfl ?_
  refine RL.s (Vl.extract rfl rfl) rfl ?_
  refine RL.s (Vl.extract rfl rfl) rfl ?_
  refine RL.s (Vl.extract rfl rfl) rfl ?_
  refine RL.e (OW.alloc (cs := [.int .i64 0, .int .i64 0, .int .i64 0, .int .i64 0, .int .i64 0, .int .i64 0, .int .i64 0, .int .i64 0, .int .i64 0, .int .i64 0]) hS Tryd.zeroValue29 rfl) rfl rfl ?_
  rintro _ w ⟨b3735, rfl, hS⟩
  have hS : St B w (Cl b3735 [.int .i64 0, .int .i64 0, .int .i64 0, .int .i64 0, .int .i64 0, .int .i64 0, .int .i64 0, .int .i64 0, .int .i64 0, .int .i64 0] 29 :: OSf E_api_Instr 48 (.slice (some ⟨b3721, 0, none⟩) ([(⟨1, 0, 7, 0⟩ : api_Instr)]).length 1) ([(⟨1, 0, 7, 0⟩ : api_Instr)]) :: OSf E_api_Out 58 (.slice A3731 y3729.length c3732) y3729 :: l) hf := hS
  refine RL.e0 (OW.store (cs := [.int .i64 0, .int .i64 0, .int .i64 0, .int .i64 0, .int .i64 0, .int .i64 0, .int .i64 0, .int .i64 0, .int .i64 0, .int .i64 0]) (vs := [.int .i64 y3728.Regs.c0, .int .i64 y3728.Regs.c1, .int .i64 y3728.Regs.c2, .int .i64 y3728.Regs.c3, .int .i64 y3728.Regs.c4, .int .i64 y3728.Regs.c5, .int .i64 y3728.Regs.c6, .int .i64 y3728.Regs.c7, .int .i64 y3728.Draws, .int .i64 y3728.Sent]) (l' := Cl b3735 [.int .i64 y3728.Regs.c0, .int .i64 y3728.Regs.c1, .int .i64 y3728.Regs.c2, .int .i64 y3728.Regs.c3, .int .i64 y3728.Regs.c4, .int .i64 y3728.Regs.c5, .int .i64 y3728.Regs.c6, .int .i64 y3728.Regs.c7, .int .i64 y3728.Draws, .int .i64 y3728.Sent] 29 :: OSf E_api_Instr 48 (.slice (some ⟨b3721, 0, none⟩) ([(⟨1, 0, 7, 0⟩ : api_Instr)]).length 1) ([(⟨1, 0, 7, 0⟩ : api_Instr)]) :: OSf E_api_Out 58 (.slice A3731 y3729.length c3732) y3729 :: l) 0 hS rfl rfl rfl rfl Tryd.sizeOf29 rfl rfl rfl rfl) rfl ?_
  rintro _ w ⟨rfl, hS⟩
  have hS : St B w (Cl b3735 [.int .i64 y3728.Regs.c0, .int .i64 y3728.Regs.c1, .int .i64 y3728.Regs.c2, .int .i64 y3728.Regs.c3, .int .i64 y3728.Regs.c4, .int .i64 y3728.Regs.c5, .int .i64 y3728.Regs.c6, .int .i64 y3728.Regs.c7, .int .i64 y3728.Draws, .int .i64 y3728.Sent] 29 :: OSf E_api_Instr 48 (.slice (some ⟨b3721, 0, none⟩) ([(⟨1, 0, 7, 0⟩ : api_Instr)]).length 1) ([(⟨1, 0, 7, 0⟩ : api_Instr)]) :: OSf E_api_Out 58 (.slice A3731 y3729.length c3732) y3729 :: l) hf := hS
  refine RL.s (Vl.assign rfl) rfl ?_
  refine RL.s (Vl.assign rfl) rfl ?_
  refine RL.nil ?_
  refine RQ.then_n ?_
  refine RC.seq ?_
  refine RC.region ?_
  refine RL.s (Vl.move rfl) rfl ?_
  refine RL.s (Vl.int rfl rfl rfl) rfl ?_
  refine RL.s (Vl.move rfl) rfl ?_
  by_cases hc3736 : y3730 = 0
  case pos =>
   have h := h.pos hc3736
   refine RL.re 16 rfl (congrArg Value.bool (decide_eq_true hc3736)) ?_
   refine RL.sg (Vl.fieldAddr (a'' := ⟨b3735, 0, none⟩) Tryd.underlying29 rfl Tryd.sizeOf27 rfl rfl) rfl rfl ?_
   refine RL.sg (Vl.indexAddrA (a'' := ⟨b3735, 0, none⟩) Tryd.underlying27 Tryd.sizeOf2 rfl rfl (by decide) (by decide) rfl) rfl rfl ?_
   refine RL.sg (Vl.load Tryd.isAgg2 rfl (hS.cell 0 rfl rfl)) rfl rfl ?_
   refine RL.sg (Vl.int rfl rfl rfl) rfl rfl ?_
   refine RL.s (Vl.pickT rfl rfl) rfl ?_
   refine RL.s (Vl.assign rfl) rfl ?_
   refine RL.nil ?_
   refine RQ.then_n ?_
   refine RC.ret ?_
   have e := h.some
   subst e
   refine RQ.ret0 (vs := [.bool (decide (y3728.Regs.c0 = 7))]) Tryd.results14 ⟨rfl, trivial⟩ ?_
   exact ⟨rfl, (((hS.dropAt 0 rfl).dropAt 0 rfl).dropAt 0 rfl)⟩
  case neg =>
   have h := h.neg hc3736
   refine RL.re 16 rfl (congrArg Value.bool (decide_eq_false hc3736)) ?_
   refine RL.nn rfl rfl ?_
   refine RL.nn rfl rfl ?_
   refine RL.nn rfl rfl ?_
   refine RL.nn rfl rfl ?_
   refine RL.s (Vl.pickF rfl rfl) rfl ?_
   refine RL.s (Vl.assign rfl) rfl ?_
   refine RL.nil ?_
   refine RQ.then_n ?_
   refine RC.ret ?_
   have e := h.some
   subst e
   refine RQ.ret0 (vs := [.bool false]) Tryd.results14 ⟨rfl, trivial⟩ ?_
   exact ⟨rfl, (((hS.dropAt 0 rfl).dropAt 0 rfl).dropAt 0 rfl)⟩

end Go.Proofs.Gx
