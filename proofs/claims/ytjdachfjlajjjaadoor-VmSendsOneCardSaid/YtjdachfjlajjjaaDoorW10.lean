/-
  The walks of functions, each with what it computes: printed by wip/gx.py.
-/
import Derived.Test.YtjdachfjlajjjaaDoorW0
import Derived.Test.YtjdachfjlajjjaaDoorW1
import Derived.Test.YtjdachfjlajjjaaDoorW4
import Derived.Test.YtjdachfjlajjjaaDoorW6
set_option linter.unusedVariables false
namespace Go.Proofs.Gx
open Go.Sl
/-! ### isochron/isochronlaw05.VmSendsOne: function 9 -/
noncomputable def isochronlaw05vVmSendsOne.j5 (a4279 : Int) (a4280 : Int) (a4281 : Int) (a4282 : Int) (l4573 : List api_Link) : Option (Bool) := ((vm_Run.f (⟨[(⟨1, 8, IntKind.i64.wrap a4279, 0⟩ : api_Instr), (⟨1, 9, IntKind.i64.wrap a4280, 0⟩ : api_Instr), (⟨1, 10, IntKind.i64.wrap a4281, 0⟩ : api_Instr), (⟨12, 8, 9, 10⟩ : api_Instr)], 0, l4573, 0⟩ : api_World) (⟨(⟨0, 0, 0, 0, 0, 0, 0, 0⟩ : Arr8xInti64), 0, 0⟩ : api_State) (⟨(⟨a4282, 0, 0⟩ : api_Key), 0, 0, 0, false⟩ : api_Message)).bind fun (y4591, y4592, y4593) => ((event_Check.f (⟨(⟨a4282, 0, 0⟩ : api_Key), 0, 0, 0, false⟩ : api_Message)).bind fun t4602 => (if t4602 = 0 then (if (l4573.length : Int) = 0 then (if y4593 = 0 then (if (y4592.length : Int) = 0 then (if y4591.Sent = 0 then ((isochronlaw05vawake.f).bind fun t4615 => some t4615) else some false) else some false) else some false) else (if ¬ (l4573.length : Int) = 0 then (if 0 ≤ Int.tmod (IntKind.i64.wrap ((Int.tmod (IntKind.i64.wrap a4279) (l4573.length : Int)) + (l4573.length : Int))) (l4573.length : Int) ∧ Int.tmod (IntKind.i64.wrap ((Int.tmod (IntKind.i64.wrap a4279) (l4573.length : Int)) + (l4573.length : Int))) (l4573.length : Int) < (l4573.length : Int) then (if IntKind.i64.wrap a4280 < (nth l4573 (Int.tmod (IntKind.i64.wrap ((Int.tmod (IntKind.i64.wrap a4279) (l4573.length : Int)) + (l4573.length : Int))) (l4573.length : Int))).Look then (if y4593 = 50 then some (decide ((y4592.length : Int) = 0)) else some false) else (if IntKind.i64.wrap (4611686018427387903 - a4282) < IntKind.i64.wrap a4280 then (if y4593 = 10 then some (decide ((y4592.length : Int) = 0)) else some false) else (if y4593 = 0 then (if (y4592.length : Int) = 1 then (if y4591.Sent = 1 then (if 0 < (y4592.length : Int) then some (decide (nth y4592 0 = (⟨Int.tmod (IntKind.i64.wrap ((Int.tmod (IntKind.i64.wrap a4279) (l4573.length : Int)) + (l4573.length : Int))) (l4573.length : Int), IntKind.i64.wrap a4280, IntKind.i64.wrap a4281⟩ : api_Out))) else none) else some false) else some false) else some false))) else none) else none)) else some (decide (y4593 = 1)))))
noncomputable def isochronlaw05vVmSendsOne.l6b (a4275 : List Int) (a4279 : Int) (a4280 : Int) (a4281 : Int) (a4282 : Int) : List api_Link × Int → Option ((List api_Link × Int) ⊕ (Bool))
  | (l4657, x4661) => (if x4661 < (a4275.length : Int) then (if x4661 < 10 then (if 0 ≤ x4661 then (if (l4657.length + 1) * 32 ≤ 140737488355328 then some (.inl ((l4657 ++ ([(⟨0, x4661, IntKind.i64.wrap (1 + (IntKind.i64.wrap (nth a4275 x4661))), false⟩ : api_Link)])), IntKind.i64.wrap (x4661 + 1))) else none) else none) else (Option.map Sum.inr (isochronlaw05vVmSendsOne.j5 a4279 a4280 a4281 a4282 l4657))) else (Option.map Sum.inr (isochronlaw05vVmSendsOne.j5 a4279 a4280 a4281 a4282 l4657)))
noncomputable def isochronlaw05vVmSendsOne.l6 (a4275 : List Int) (a4279 : Int) (a4280 : Int) (a4281 : Int) (a4282 : Int) (s : List api_Link × Int) : Option (Bool) := loopR (isochronlaw05vVmSendsOne.l6b a4275 a4279 a4280 a4281 a4282) s
noncomputable def isochronlaw05vVmSendsOne.f (a4275 : List Int) (a4279 : Int) (a4280 : Int) (a4281 : Int) (a4282 : Int) : Option (Bool) := isochronlaw05vVmSendsOne.l6 a4275 a4279 a4280 a4281 a4282 ([], 0)
set_option maxRecDepth 100000 in
set_option maxHeartbeats 4000000 in
theorem isochronlaw05vVmSendsOne.ok {B : Base} {w : World} {l : List HProp} {hf : Hp} (a4275 : List Int) (a4279 : Int) (a4280 : Int) (a4281 : Int) (a4282 : Int) (A4276 : Option Addr) (c4277 : Nat) (hr4278 : SlR ((FI .u8).rep) hf A4276 c4277 a4275) (hG0 : GlobAt hf 0 (.iface 118 (.agg #[.pointer (some ⟨1, 71, none⟩)]))) (r : Bool) (h : isochronlaw05vVmSendsOne.f a4275 a4279 a4280 a4281 a4282 = some r) (hS : St B w (l) hf) :
    Calls Tryd.prog 9 #[.slice A4276 a4275.length c4277, .int .i32 a4279, .int .i32 a4280, .int .i32 a4281, .int .i64 a4282] w (Ret fun v w => v = .bool r ∧ St B w (l) hf) := by
  have h := Holds.of h
  refine enter (args := [.slice A4276 a4275.length c4277, .int .i32 a4279, .int .i32 a4280, .int .i32 a4281, .int .i64 a4282]) Tryd.func9 rfl Tryd.ntmps9 (Nat.le_of_ble_eq_true rfl) ?_
  refine RC.seq ?_
  refine RC.region ?_
  refine RL.s (Vl.assign rfl) rfl ?_
  refine RL.nil ?_
  refine RQ.then_n ?_
  refine RC.seq ?_
  refine RC.region ?_
  refine RL.e (OW.alloc (cs := [.slice none 0 0, .int .i64 0, .slice none 0 0, .int .u64 0]) hS Tryd.zeroValue26 rfl) rfl rfl ?_
  rintro _ w ⟨b4497, rfl, hS⟩
  have hS : St B w (Cl b4497 [.slice none 0 0, .int .i64 0, .slice none 0 0, .int .u64 0] 26 :: l) hf := hS
  refine RL.nil ?_
  refine RQ.then_n ?_
  refine RC.join (fun (s : List api_Link) a w => ∃ (l4573 : List api_Link), s = (l4573) ∧ ∃ (A4574 : Option Addr) (c4575 : Nat), Has 152 [(1, .int .i32 a4279), (2, .int .i32 a4280), (3, .int .i32 a4281), (4, .int .i64 a4282), (11, .pointer (some ⟨b4497, 0, none⟩))] a ∧ St B w (OSf E_api_Link 56 (.slice A4574 l4573.length c4575) l4573 :: Cl b4497 [.slice none 0 0, .int .i64 0, .slice A4574 l4573.length c4575, .int .u64 0] 26 :: l) hf ∧ Holds (· = r) (isochronlaw05vVmSendsOne.j5 a4279 a4280 a4281 a4282 l4573)) ?_ ?_
  · rintro l4573 a w ⟨_, rfl, A4574, c4575, ha, hS, h⟩
    revert a
    show RC _ _ _ _ _ _
    refine RC.seq ?_
    refine RC.region ?_
    refine RL.s (Vl.move rfl) rfl ?_
    refine RL.s (Vl.conv Tryd.underlying21 Tryd.underlying3 rfl) rfl ?_
    refine RL.s (Vl.build (v := .agg #[.int .i64 1, .int .i64 8, .int .i64 (IntKind.i64.wrap a4279), .int .i64 0]) (parts := [(0, .const (.int .i64 1)), (1, .const (.int .i64 8)), (2, .tmp 43)]) rfl (by kernel_rfl)) rfl ?_
    refine RL.s (Vl.move rfl) rfl ?_
    refine RL.s (Vl.conv Tryd.underlying21 Tryd.underlying3 rfl) rfl ?_
    refine RL.s (Vl.build (v := .agg #[.int .i64 1, .int .i64 9, .int .i64 (IntKind.i64.wrap a4280), .int .i64 0]) (parts := [(0, .const (.int .i64 1)), (1, .const (.int .i64 9)), (2, .tmp 46)]) rfl (by kernel_rfl)) rfl ?_
    refine RL.s (Vl.move rfl) rfl ?_
    refine RL.s (Vl.conv Tryd.underlying21 Tryd.underlying3 rfl) rfl ?_
    refine RL.s (Vl.build (v := .agg #[.int .i64 1, .int .i64 10, .int .i64 (IntKind.i64.wrap a4281), .int .i64 0]) (parts := [(0, .const (.int .i64 1)), (1, .const (.int .i64 10)), (2, .tmp 49)]) rfl (by kernel_rfl)) rfl ?_
    refine RL.s (Vl.build (v := .agg #[.int .i64 12, .int .i64 8, .int .i64 9, .int .i64 10]) (parts := [(0, .const (.int .i64 12)), (1, .const (.int .i64 8)), (2, .const (.int .i64 9)), (3, .const (.int .i64 10))]) rfl (by kernel_rfl)) rfl ?_
    refine RL.e (OW.buildSlice (E := E_api_Instr) (xs := [(⟨1, 8, IntKind.i64.wrap a4279, 0⟩ : api_Instr), (⟨1, 9, IntKind.i64.wrap a4280, 0⟩ : api_Instr), (⟨1, 10, IntKind.i64.wrap a4281, 0⟩ : api_Instr), (⟨12, 8, 9, 10⟩ : api_Instr)]) (cs := [.int .i64 1, .int .i64 8, .int .i64 (IntKind.i64.wrap a4279), .int .i64 0, .int .i64 1, .int .i64 9, .int .i64 (IntKind.i64.wrap a4280), .int .i64 0, .int .i64 1, .int .i64 10, .int .i64 (IntKind.i64.wrap a4281), .int .i64 0, .int .i64 12, .int .i64 8, .int .i64 9, .int .i64 10]) hS Tryd.underlying22 Tryd.zeroValue48 Tryd.sizeOf48 (parts := [(0, .tmp 44), (1, .tmp 47), (2, .tmp 50), (3, .tmp 51)]) rfl rfl (by decide) (by decide) (by kernel_rfl) rfl) rfl rfl ?_
    rintro _ w ⟨b4578, rfl, hS⟩
    have hS : St B w (OSf E_api_Instr 48 (.slice (some ⟨b4578, 0, none⟩) ([(⟨1, 8, IntKind.i64.wrap a4279, 0⟩ : api_Instr), (⟨1, 9, IntKind.i64.wrap a4280, 0⟩ : api_Instr), (⟨1, 10, IntKind.i64.wrap a4281, 0⟩ : api_Instr), (⟨12, 8, 9, 10⟩ : api_Instr)]).length 4) ([(⟨1, 8, IntKind.i64.wrap a4279, 0⟩ : api_Instr), (⟨1, 9, IntKind.i64.wrap a4280, 0⟩ : api_Instr), (⟨1, 10, IntKind.i64.wrap a4281, 0⟩ : api_Instr), (⟨12, 8, 9, 10⟩ : api_Instr)]) :: OSf E_api_Link 56 (.slice A4574 l4573.length c4575) l4573 :: Cl b4497 [.slice none 0 0, .int .i64 0, .slice A4574 l4573.length c4575, .int .u64 0] 26 :: l) hf := hS
    refine RL.s (Vl.fieldAddr (a'' := ⟨b4497, 0, none⟩) Tryd.underlying26 rfl Tryd.sizeOf22 rfl rfl) rfl ?_
    refine RL.e0 (OW.store (cs := [.slice none 0 0, .int .i64 0, .slice A4574 l4573.length c4575, .int .u64 0]) (vs := [.slice (some ⟨b4578, 0, none⟩) ([(⟨1, 8, IntKind.i64.wrap a4279, 0⟩ : api_Instr), (⟨1, 9, IntKind.i64.wrap a4280, 0⟩ : api_Instr), (⟨1, 10, IntKind.i64.wrap a4281, 0⟩ : api_Instr), (⟨12, 8, 9, 10⟩ : api_Instr)]).length 4]) (l' := OSf E_api_Instr 48 (.slice (some ⟨b4578, 0, none⟩) ([(⟨1, 8, IntKind.i64.wrap a4279, 0⟩ : api_Instr), (⟨1, 9, IntKind.i64.wrap a4280, 0⟩ : api_Instr), (⟨1, 10, IntKind.i64.wrap a4281, 0⟩ : api_Instr), (⟨12, 8, 9, 10⟩ : api_Instr)]).length 4) ([(⟨1, 8, IntKind.i64.wrap a4279, 0⟩ : api_Instr), (⟨1, 9, IntKind.i64.wrap a4280, 0⟩ : api_Instr), (⟨1, 10, IntKind.i64.wrap a4281, 0⟩ : api_Instr), (⟨12, 8, 9, 10⟩ : api_Instr)]) :: OSf E_api_Link 56 (.slice A4574 l4573.length c4575) l4573 :: Cl b4497 [.slice (some ⟨b4578, 0, none⟩) ([(⟨1, 8, IntKind.i64.wrap a4279, 0⟩ : api_Instr), (⟨1, 9, IntKind.i64.wrap a4280, 0⟩ : api_Instr), (⟨1, 10, IntKind.i64.wrap a4281, 0⟩ : api_Instr), (⟨12, 8, 9, 10⟩ : api_Instr)]).length 4, .int .i64 0, .slice A4574 l4573.length c4575, .int .u64 0] 26 :: l) 2 hS rfl rfl rfl rfl Tryd.sizeOf22 rfl rfl rfl rfl) rfl ?_
    rintro _ w ⟨rfl, hS⟩
    have hS : St B w (OSf E_api_Instr 48 (.slice (some ⟨b4578, 0, none⟩) ([(⟨1, 8, IntKind.i64.wrap a4279, 0⟩ : api_Instr), (⟨1, 9, IntKind.i64.wrap a4280, 0⟩ : api_Instr), (⟨1, 10, IntKind.i64.wrap a4281, 0⟩ : api_Instr), (⟨12, 8, 9, 10⟩ : api_Instr)]).length 4) ([(⟨1, 8, IntKind.i64.wrap a4279, 0⟩ : api_Instr), (⟨1, 9, IntKind.i64.wrap a4280, 0⟩ : api_Instr), (⟨1, 10, IntKind.i64.wrap a4281, 0⟩ : api_Instr), (⟨12, 8, 9, 10⟩ : api_Instr)]) :: OSf E_api_Link 56 (.slice A4574 l4573.length c4575) l4573 :: Cl b4497 [.slice (some ⟨b4578, 0, none⟩) ([(⟨1, 8, IntKind.i64.wrap a4279, 0⟩ : api_Instr), (⟨1, 9, IntKind.i64.wrap a4280, 0⟩ : api_Instr), (⟨1, 10, IntKind.i64.wrap a4281, 0⟩ : api_Instr), (⟨12, 8, 9, 10⟩ : api_Instr)]).length 4, .int .i64 0, .slice A4574 l4573.length c4575, .int .u64 0] 26 :: l) hf := hS
    refine RL.nil ?_
    refine RQ.then_n ?_
    refine RC.seq ?_
    refine RC.region ?_
    refine RL.s (Vl.move rfl) rfl ?_
    refine RL.s (Vl.build (v := .agg #[.int .i64 a4282, .int .i64 0, .int .i64 0]) (parts := [(0, .tmp 54)]) rfl (by kernel_rfl)) rfl ?_
    refine RL.s (Vl.build (v := .agg #[.int .i64 a4282, .int .i64 0, .int .i64 0, .int .i64 0, .int .i64 0, .int .i64 0, .bool false]) (parts := [(0, .tmp 55)]) rfl (by kernel_rfl)) rfl ?_
    refine RL.e (OW.alloc (cs := [.int .i64 0, .int .i64 0, .int .i64 0, .int .i64 0, .int .i64 0, .int .i64 0, .bool false]) hS Tryd.zeroValue33 rfl) rfl rfl ?_
    rintro _ w ⟨b4580, rfl, hS⟩
    have hS : St B w (Cl b4580 [.int .i64 0, .int .i64 0, .int .i64 0, .int .i64 0, .int .i64 0, .int .i64 0, .bool false] 33 :: OSf E_api_Instr 48 (.slice (some ⟨b4578, 0, none⟩) ([(⟨1, 8, IntKind.i64.wrap a4279, 0⟩ : api_Instr), (⟨1, 9, IntKind.i64.wrap a4280, 0⟩ : api_Instr), (⟨1, 10, IntKind.i64.wrap a4281, 0⟩ : api_Instr), (⟨12, 8, 9, 10⟩ : api_Instr)]).length 4) ([(⟨1, 8, IntKind.i64.wrap a4279, 0⟩ : api_Instr), (⟨1, 9, IntKind.i64.wrap a4280, 0⟩ : api_Instr), (⟨1, 10, IntKind.i64.wrap a4281, 0⟩ : api_Instr), (⟨12, 8, 9, 10⟩ : api_Instr)]) :: OSf E_api_Link 56 (.slice A4574 l4573.length c4575) l4573 :: Cl b4497 [.slice (some ⟨b4578, 0, none⟩) ([(⟨1, 8, IntKind.i64.wrap a4279, 0⟩ : api_Instr), (⟨1, 9, IntKind.i64.wrap a4280, 0⟩ : api_Instr), (⟨1, 10, IntKind.i64.wrap a4281, 0⟩ : api_Instr), (⟨12, 8, 9, 10⟩ : api_Instr)]).length 4, .int .i64 0, .slice A4574 l4573.length c4575, .int .u64 0] 26 :: l) hf := hS
    refine RL.e0 (OW.store (cs := [.int .i64 0, .int .i64 0, .int .i64 0, .int .i64 0, .int .i64 0, .int .i64 0, .bool false]) (vs := [.int .i64 a4282, .int .i64 0, .int .i64 0, .int .i64 0, .int .i64 0, .int .i64 0, .bool false]) (l' := Cl b4580 [.int .i64 a4282, .int .i64 0, .int .i64 0, .int .i64 0, .int .i64 0, .int .i64 0, .bool false] 33 :: OSf E_api_Instr 48 (.slice (some ⟨b4578, 0, none⟩) ([(⟨1, 8, IntKind.i64.wrap a4279, 0⟩ : api_Instr), (⟨1, 9, IntKind.i64.wrap a4280, 0⟩ : api_Instr), (⟨1, 10, IntKind.i64.wrap a4281, 0⟩ : api_Instr), (⟨12, 8, 9, 10⟩ : api_Instr)]).length 4) ([(⟨1, 8, IntKind.i64.wrap a4279, 0⟩ : api_Instr), (⟨1, 9, IntKind.i64.wrap a4280, 0⟩ : api_Instr), (⟨1, 10, IntKind.i64.wrap a4281, 0⟩ : api_Instr), (⟨12, 8, 9, 10⟩ : api_Instr)]) :: OSf E_api_Link 56 (.slice A4574 l4573.length c4575) l4573 :: Cl b4497 [.slice (some ⟨b4578, 0, none⟩) ([(⟨1, 8, IntKind.i64.wrap a4279, 0⟩ : api_Instr), (⟨1, 9, IntKind.i64.wrap a4280, 0⟩ : api_Instr), (⟨1, 10, IntKind.i64.wrap a4281, 0⟩ : api_Instr), (⟨12, 8, 9, 10⟩ : api_Instr)]).length 4, .int .i64 0, .slice A4574 l4573.length c4575, .int .u64 0] 26 :: l) 0 hS rfl rfl rfl rfl Tryd.sizeOf33 rfl rfl rfl rfl) rfl ?_
    rintro _ w ⟨rfl, hS⟩
    have hS : St B w (Cl b4580 [.int .i64 a4282, .int .i64 0, .int .i64 0, .int .i64 0, .int .i64 0, .int .i64 0, .bool false] 33 :: OSf E_api_Instr 48 (.slice (some ⟨b4578, 0, none⟩) ([(⟨1, 8, IntKind.i64.wrap a4279, 0⟩ : api_Instr), (⟨1, 9, IntKind.i64.wrap a4280, 0⟩ : api_Instr), (⟨1, 10, IntKind.i64.wrap a4281, 0⟩ : api_Instr), (⟨12, 8, 9, 10⟩ : api_Instr)]).length 4) ([(⟨1, 8, IntKind.i64.wrap a4279, 0⟩ : api_Instr), (⟨1, 9, IntKind.i64.wrap a4280, 0⟩ : api_Instr), (⟨1, 10, IntKind.i64.wrap a4281, 0⟩ : api_Instr), (⟨12, 8, 9, 10⟩ : api_Instr)]) :: OSf E_api_Link 56 (.slice A4574 l4573.length c4575) l4573 :: Cl b4497 [.slice (some ⟨b4578, 0, none⟩) ([(⟨1, 8, IntKind.i64.wrap a4279, 0⟩ : api_Instr), (⟨1, 9, IntKind.i64.wrap a4280, 0⟩ : api_Instr), (⟨1, 10, IntKind.i64.wrap a4281, 0⟩ : api_Instr), (⟨12, 8, 9, 10⟩ : api_Instr)]).length 4, .int .i64 0, .slice A4574 l4573.length c4575, .int .u64 0] 26 :: l) hf := hS
    refine RL.nil ?_
    refine RQ.then_n ?_
    refine RC.seq ?_
    refine RC.region ?_
    refine RL.s (Vl.loadA (vs := [.slice (some ⟨b4578, 0, none⟩) ([(⟨1, 8, IntKind.i64.wrap a4279, 0⟩ : api_Instr), (⟨1, 9, IntKind.i64.wrap a4280, 0⟩ : api_Instr), (⟨1, 10, IntKind.i64.wrap a4281, 0⟩ : api_Instr), (⟨12, 8, 9, 10⟩ : api_Instr)]).length 4, .int .i64 0, .slice A4574 l4573.length c4575, .int .u64 0]) Tryd.isAgg26 Tryd.sizeOf26 rfl rfl (hS.cellsAt 3 rfl rfl)) rfl ?_
    refine RL.s (Vl.build (v := .agg #[.int .i64 0, .int .i64 0, .int .i64 0, .int .i64 0, .int .i64 0, .int .i64 0, .int .i64 0, .int .i64 0, .int .i64 0, .int .i64 0]) (parts := []) rfl (by kernel_rfl)) rfl ?_
    refine RL.s (Vl.loadA (vs := [.int .i64 a4282, .int .i64 0, .int .i64 0, .int .i64 0, .int .i64 0, .int .i64 0, .bool false]) Tryd.isAgg33 Tryd.sizeOf33 rfl rfl (hS.cellsAt 0 rfl rfl)) rfl ?_
    obtain ⟨hf4584, hs4582, hS, hr4581, hb4583⟩ := St.lendSl ((((hS.pull 3 rfl rfl).pull 1 rfl rfl).pull 3 rfl rfl).pull 3 rfl rfl)
    obtain ⟨hf4588, hs4586, hS, hr4585, hb4587⟩ := St.lendSl hS
    obtain ⟨t4589, hg4590, h⟩ := h.bind
    obtain ⟨y4591, y4592, y4593⟩ := t4589
    refine RL.e (OW.callF (ls := [.tmp 58, .tmp 59, .tmp 60]) rfl Tryd.call11 (vm_Run.ok (⟨[(⟨1, 8, IntKind.i64.wrap a4279, 0⟩ : api_Instr), (⟨1, 9, IntKind.i64.wrap a4280, 0⟩ : api_Instr), (⟨1, 10, IntKind.i64.wrap a4281, 0⟩ : api_Instr), (⟨12, 8, 9, 10⟩ : api_Instr)], 0, l4573, 0⟩ : api_World) (⟨(⟨0, 0, 0, 0, 0, 0, 0, 0⟩ : Arr8xInti64), 0, 0⟩ : api_State) (⟨(⟨a4282, 0, 0⟩ : api_Key), 0, 0, 0, false⟩ : api_Message) (some ⟨b4578, 0, none⟩) 4 A4574 c4575 (hr4581.mono hs4586) hr4585 ((hG0.mono hs4582).mono hs4586) _ hg4590 hS)) rfl rfl ?_
    rintro _ w ⟨A4594, c4595, rfl, hS⟩
    have hS := hb4587 _ _ hS
    have hS := hb4583 _ _ hS
    have hS : St B w (OSf E_api_Instr 48 (.slice (some ⟨b4578, 0, none⟩) ([(⟨1, 8, IntKind.i64.wrap a4279, 0⟩ : api_Instr), (⟨1, 9, IntKind.i64.wrap a4280, 0⟩ : api_Instr), (⟨1, 10, IntKind.i64.wrap a4281, 0⟩ : api_Instr), (⟨12, 8, 9, 10⟩ : api_Instr)]).length 4) ([(⟨1, 8, IntKind.i64.wrap a4279, 0⟩ : api_Instr), (⟨1, 9, IntKind.i64.wrap a4280, 0⟩ : api_Instr), (⟨1, 10, IntKind.i64.wrap a4281, 0⟩ : api_Instr), (⟨12, 8, 9, 10⟩ : api_Instr)]) :: OSf E_api_Link 56 (.slice A4574 l4573.length c4575) l4573 :: OSf E_api_Out 58 (.slice A4594 y4592.length c4595) y4592 :: Cl b4580 [.int .i64 a4282, .int .i64 0, .int .i64 0, .int .i64 0, .int .i64 0, .int .i64 0, .bool false] 33 :: Cl b4497 [.slice (some ⟨b4578, 0, none⟩) ([(⟨1, 8, IntKind.i64.wrap a4279, 0⟩ : api_Instr), (⟨1, 9, IntKind.i64.wrap a4280, 0⟩ : api_Instr), (⟨1, 10, IntKind.i64.wrap a4281, 0⟩ : api_Instr), (⟨12, 8, 9, 10⟩ : api_Instr)]).length 4, .int .i64 0, .slice A4574 l4573.length c4575, .int .u64 0] 26 :: l) hf := hS
    refine RL.s (Vl.move rfl) rfl ?_
    refine RL.s (Vl.extract rfl rfl) rfl ?_
    refine RL.s (Vl.extract rfl rfl) rfl ?_
    refine RL.s (Vl.extract rfl rfl) rfl ?_
    refine RL.e (OW.alloc (cs := [.int .i64 0, .int .i64 0, .int .i64 0, .int .i64 0, .int .i64 0, .int .i64 0, .int .i64 0, .int .i64 0, .int .i64 0, .int .i64 0]) hS Tryd.zeroValue29 rfl) rfl rfl ?_
    rintro _ w ⟨b4598, rfl, hS⟩
    have hS : St B w (Cl b4598 [.int .i64 0, .int .i64 0, .int .i64 0, .int .i64 0, .int .i64 0, .int .i64 0, .int .i64 0, .int .i64 0, .int .i64 0, .int .i64 0] 29 :: OSf E_api_Instr 48 (.slice (some ⟨b4578, 0, none⟩) ([(⟨1, 8, IntKind.i64.wrap a4279, 0⟩ : api_Instr), (⟨1, 9, IntKind.i64.wrap a4280, 0⟩ : api_Instr), (⟨1, 10, IntKind.i64.wrap a4281, 0⟩ : api_Instr), (⟨12, 8, 9, 10⟩ : api_Instr)]).length 4) ([(⟨1, 8, IntKind.i64.wrap a4279, 0⟩ : api_Instr), (⟨1, 9, IntKind.i64.wrap a4280, 0⟩ : api_Instr), (⟨1, 10, IntKind.i64.wrap a4281, 0⟩ : api_Instr), (⟨12, 8, 9, 10⟩ : api_Instr)]) :: OSf E_api_Link 56 (.slice A4574 l4573.length c4575) l4573 :: OSf E_api_Out 58 (.slice A4594 y4592.length c4595) y4592 :: Cl b4580 [.int .i64 a4282, .int .i64 0, .int .i64 0, .int .i64 0, .int .i64 0, .int .i64 0, .bool false] 33 :: Cl b4497 [.slice (some ⟨b4578, 0, none⟩) ([(⟨1, 8, IntKind.i64.wrap a4279, 0⟩ : api_Instr), (⟨1, 9, IntKind.i64.wrap a4280, 0⟩ : api_Instr), (⟨1, 10, IntKind.i64.wrap a4281, 0⟩ : api_Instr), (⟨12, 8, 9, 10⟩ : api_Instr)]).length 4, .int .i64 0, .slice A4574 l4573.length c4575, .int .u64 0] 26 :: l) hf := hS
    refine RL.e0 (OW.store (cs := [.int .i64 0, .int .i64 0, .int .i64 0, .int .i64 0, .int .i64 0, .int .i64 0, .int .i64 0, .int .i64 0, .int .i64 0, .int .i64 0]) (vs := [.int .i64 y4591.Regs.c0, .int .i64 y4591.Regs.c1, .int .i64 y4591.Regs.c2, .int .i64 y4591.Regs.c3, .int .i64 y4591.Regs.c4, .int .i64 y4591.Regs.c5, .int .i64 y4591.Regs.c6, .int .i64 y4591.Regs.c7, .int .i64 y4591.Draws, .int .i64 y4591.Sent]) (l' := Cl b4598 [.int .i64 y4591.Regs.c0, .int .i64 y4591.Regs.c1, .int .i64 y4591.Regs.c2, .int .i64 y4591.Regs.c3, .int .i64 y4591.Regs.c4, .int .i64 y4591.Regs.c5, .int .i64 y4591.Regs.c6, .int .i64 y4591.Regs.c7, .int .i64 y4591.Draws, .int .i64 y4591.Sent] 29 :: OSf E_api_Instr 48 (.slice (some ⟨b4578, 0, none⟩) ([(⟨1, 8, IntKind.i64.wrap a4279, 0⟩ : api_Instr), (⟨1, 9, IntKind.i64.wrap a4280, 0⟩ : api_Instr), (⟨1, 10, IntKind.i64.wrap a4281, 0⟩ : api_Instr), (⟨12, 8, 9, 10⟩ : api_Instr)]).length 4) ([(⟨1, 8, IntKind.i64.wrap a4279, 0⟩ : api_Instr), (⟨1, 9, IntKind.i64.wrap a4280, 0⟩ : api_Instr), (⟨1, 10, IntKind.i64.wrap a4281, 0⟩ : api_Instr), (⟨12, 8, 9, 10⟩ : api_Instr)]) :: OSf E_api_Link 56 (.slice A4574 l4573.length c4575) l4573 :: OSf E_api_Out 58 (.slice A4594 y4592.length c4595) y4592 :: Cl b4580 [.int .i64 a4282, .int .i64 0, .int .i64 0, .int .i64 0, .int .i64 0, .int .i64 0, .bool false] 33 :: Cl b4497 [.slice (some ⟨b4578, 0, none⟩) ([(⟨1, 8, IntKind.i64.wrap a4279, 0⟩ : api_Instr), (⟨1, 9, IntKind.i64.wrap a4280, 0⟩ : api_Instr), (⟨1, 10, IntKind.i64.wrap a4281, 0⟩ : api_Instr), (⟨12, 8, 9, 10⟩ : api_Instr)]).length 4, .int .i64 0, .slice A4574 l4573.length c4575, .int .u64 0] 26 :: l) 0 hS rfl rfl rfl rfl Tryd.sizeOf29 rfl rfl rfl rfl) rfl ?_
    rintro _ w ⟨rfl, hS⟩
    have hS : St B w (Cl b4598 [.int .i64 y4591.Regs.c0, .int .i64 y4591.Regs.c1, .int .i64 y4591.Regs.c2, .int .i64 y4591.Regs.c3, .int .i64 y4591.Regs.c4, .int .i64 y4591.Regs.c5, .int .i64 y4591.Regs.c6, .int .i64 y4591.Regs.c7, .int .i64 y4591.Draws, .int .i64 y4591.Sent] 29 :: OSf E_api_Instr 48 (.slice (some ⟨b4578, 0, none⟩) ([(⟨1, 8, IntKind.i64.wrap a4279, 0⟩ : api_Instr), (⟨1, 9, IntKind.i64.wrap a4280, 0⟩ : api_Instr), (⟨1, 10, IntKind.i64.wrap a4281, 0⟩ : api_Instr), (⟨12, 8, 9, 10⟩ : api_Instr)]).length 4) ([(⟨1, 8, IntKind.i64.wrap a4279, 0⟩ : api_Instr), (⟨1, 9, IntKind.i64.wrap a4280, 0⟩ : api_Instr), (⟨1, 10, IntKind.i64.wrap a4281, 0⟩ : api_Instr), (⟨12, 8, 9, 10⟩ : api_Instr)]) :: OSf E_api_Link 56 (.slice A4574 l4573.length c4575) l4573 :: OSf E_api_Out 58 (.slice A4594 y4592.length c4595) y4592 :: Cl b4580 [.int .i64 a4282, .int .i64 0, .int .i64 0, .int .i64 0, .int .i64 0, .int .i64 0, .bool false] 33 :: Cl b4497 [.slice (some ⟨b4578, 0, none⟩) ([(⟨1, 8, IntKind.i64.wrap a4279, 0⟩ : api_Instr), (⟨1, 9, IntKind.i64.wrap a4280, 0⟩ : api_Instr), (⟨1, 10, IntKind.i64.wrap a4281, 0⟩ : api_Instr), (⟨12, 8, 9, 10⟩ : api_Instr)]).length 4, .int .i64 0, .slice A4574 l4573.length c4575, .int .u64 0] 26 :: l) hf := hS
    refine RL.s (Vl.assign rfl) rfl ?_
    refine RL.s (Vl.assign rfl) rfl ?_
    refine RL.nil ?_
    refine RQ.then_n ?_
    refine RC.seq ?_
    refine RC.seq ?_
    refine RC.region ?_
    refine RL.s (Vl.loadA (vs := [.int .i64 a4282, .int .i64 0, .int .i64 0, .int .i64 0, .int .i64 0, .int .i64 0, .bool false]) Tryd.isAgg33 Tryd.sizeOf33 rfl rfl (hS.cellsAt 4 rfl rfl)) rfl ?_
    obtain ⟨t4602, hg4603, h⟩ := h.bind
    refine RL.e (OW.callF (ls := [.tmp 65]) rfl Tryd.call17 (event_Check.ok (⟨(⟨a4282, 0, 0⟩ : api_Key), 0, 0, 0, false⟩ : api_Message) _ hg4603 hS)) rfl rfl ?_
    rintro _ w ⟨rfl, hS⟩
    have hS : St B w (Cl b4598 [.int .i64 y4591.Regs.c0, .int .i64 y4591.Regs.c1, .int .i64 y4591.Regs.c2, .int .i64 y4591.Regs.c3, .int .i64 y4591.Regs.c4, .int .i64 y4591.Regs.c5, .int .i64 y4591.Regs.c6, .int .i64 y4591.Regs.c7, .int .i64 y4591.Draws, .int .i64 y4591.Sent] 29 :: OSf E_api_Instr 48 (.slice (some ⟨b4578, 0, none⟩) ([(⟨1, 8, IntKind.i64.wrap a4279, 0⟩ : api_Instr), (⟨1, 9, IntKind.i64.wrap a4280, 0⟩ : api_Instr), (⟨1, 10, IntKind.i64.wrap a4281, 0⟩ : api_Instr), (⟨12, 8, 9, 10⟩ : api_Instr)]).length 4) ([(⟨1, 8, IntKind.i64.wrap a4279, 0⟩ : api_Instr), (⟨1, 9, IntKind.i64.wrap a4280, 0⟩ : api_Instr), (⟨1, 10, IntKind.i64.wrap a4281, 0⟩ : api_Instr), (⟨12, 8, 9, 10⟩ : api_Instr)]) :: OSf E_api_Link 56 (.slice A4574 l4573.length c4575) l4573 :: OSf E_api_Out 58 (.slice A4594 y4592.length c4595) y4592 :: Cl b4580 [.int .i64 a4282, .int .i64 0, .int .i64 0, .int .i64 0, .int .i64 0, .int .i64 0, .bool false] 33 :: Cl b4497 [.slice (some ⟨b4578, 0, none⟩) ([(⟨1, 8, IntKind.i64.wrap a4279, 0⟩ : api_Instr), (⟨1, 9, IntKind.i64.wrap a4280, 0⟩ : api_Instr), (⟨1, 10, IntKind.i64.wrap a4281, 0⟩ : api_Instr), (⟨12, 8, 9, 10⟩ : api_Instr)]).length 4, .int .i64 0, .slice A4574 l4573.length c4575, .int .u64 0] 26 :: l) hf := hS
    refine RL.s (Vl.int rfl rfl rfl) rfl ?_
    refine RL.nil ?_
    refine RQ.then_n ?_
    by_cases hc4604 : t4602 = 0
    case pos =>
     have h := h.pos hc4604
     refine RC.re 67 rfl (congrArg Value.bool (notdec_pos hc4604)) ?_
     refine RC.condF rfl ?_
     refine RC.skip ?_
     refine RQ.then_n ?_
     refine RC.seq ?_
     refine RC.region ?_
     refine RL.s (Vl.fieldAddr (a'' := ⟨b4497, 2, none⟩) Tryd.underlying26 rfl Tryd.sizeOf23 rfl rfl) rfl ?_
     refine RL.s (Vl.load Tryd.isAgg23 rfl (hS.cell 5 rfl rfl)) rfl ?_
     refine RL.s (Vl.lenSl Tryd.underlying23 rfl) rfl ?_
     refine RL.s (Vl.assign rfl) rfl ?_
     refine RL.nil ?_
     refine RQ.then_n ?_
     refine RC.seq ?_
     refine RC.seq ?_
     refine RC.region ?_
     refine RL.s (Vl.move rfl) rfl ?_
     refine RL.s (Vl.int rfl rfl rfl) rfl ?_
     refine RL.nil ?_
     refine RQ.then_n ?_
     by_cases hc4611 : (l4573.length : Int) = 0
     case pos =>
      have h := h.pos hc4611
      refine RC.re 74 rfl (congrArg Value.bool (decide_eq_true hc4611)) ?_
      refine RC.condT rfl ?_
      refine RC.seq ?_
      refine RC.region ?_
      refine RL.s (Vl.move rfl) rfl ?_
      refine RL.s (Vl.int rfl rfl rfl) rfl ?_
      refine RL.s (Vl.move rfl) rfl ?_
      by_cases hc4612 : y4593 = 0
      case pos =>
       have h := h.pos hc4612
       refine RL.re 77 rfl (congrArg Value.bool (decide_eq_true hc4612)) ?_
       refine RL.sg (Vl.move rfl) rfl rfl ?_
       refine RL.sg (Vl.lenSl Tryd.underlying34 rfl) rfl rfl ?_
       refine RL.sg (Vl.int rfl rfl rfl) rfl rfl ?_
       refine RL.s (Vl.pickT rfl rfl) rfl ?_
       refine RL.s (Vl.move rfl) rfl ?_
       by_cases hc4613 : (y4592.length : Int) = 0
       case pos =>
        have h := h.pos hc4613
        refine RL.re 82 rfl (congrArg Value.bool (decide_eq_true hc4613)) ?_
        refine RL.sg (Vl.fieldAddr (a'' := ⟨b4598, 9, none⟩) Tryd.underlying29 rfl Tryd.sizeOf3 rfl rfl) rfl rfl ?_
        refine RL.sg (Vl.load Tryd.isAgg3 rfl (hS.cell 0 rfl rfl)) rfl rfl ?_
        refine RL.sg (Vl.int rfl rfl rfl) rfl rfl ?_
        refine RL.s (Vl.pickT rfl rfl) rfl ?_
        refine RL.s (Vl.move rfl) rfl ?_
        by_cases hc4614 : y4591.Sent = 0
        case pos =>
         have h := h.pos hc4614
         refine RL.re 87 rfl (congrArg Value.bool (decide_eq_true hc4614)) ?_
         obtain ⟨t4615, hg4616, h⟩ := h.bind
         refine RL.e (OW.callF (ls := []) rfl Tryd.call14 (isochronlaw05vawake.ok hG0 _ hg4616 hS)) rfl rfl ?_
         rintro _ w ⟨rfl, hS⟩
         have hS : St B w (Cl b4598 [.int .i64 y4591.Regs.c0, .int .i64 y4591.Regs.c1, .int .i64 y4591.Regs.c2, .int .i64 y4591.Regs.c3, .int .i64 y4591.Regs.c4, .int .i64 y4591.Regs.c5, .int .i64 y4591.Regs.c6, .int .i64 y4591.Regs.c7, .int .i64 y4591.Draws, .int .i64 y4591.Sent] 29 :: OSf E_api_Instr 48 (.slice (some ⟨b4578, 0, none⟩) ([(⟨1, 8, IntKind.i64.wrap a4279, 0⟩ : api_Instr), (⟨1, 9, IntKind.i64.wrap a4280, 0⟩ : api_Instr), (⟨1, 10, IntKind.i64.wrap a4281, 0⟩ : api_Instr), (⟨12, 8, 9, 10⟩ : api_Instr)]).length 4) ([(⟨1, 8, IntKind.i64.wrap a4279, 0⟩ : api_Instr), (⟨1, 9, IntKind.i64.wrap a4280, 0⟩ : api_Instr), (⟨1, 10, IntKind.i64.wrap a4281, 0⟩ : api_Instr), (⟨12, 8, 9, 10⟩ : api_Instr)]) :: OSf E_api_Link 56 (.slice A4574 l4573.length c4575) l4573 :: OSf E_api_Out 58 (.slice A4594 y4592.length c4595) y4592 :: Cl b4580 [.int .i64 a4282, .int .i64 0, .int .i64 0, .int .i64 0, .int .i64 0, .int .i64 0, .bool false] 33 :: Cl b4497 [.slice (some ⟨b4578, 0, none⟩) ([(⟨1, 8, IntKind.i64.wrap a4279, 0⟩ : api_Instr), (⟨1, 9, IntKind.i64.wrap a4280, 0⟩ : api_Instr), (⟨1, 10, IntKind.i64.wrap a4281, 0⟩ : api_Instr), (⟨12, 8, 9, 10⟩ : api_Instr)]).length 4, .int .i64 0, .slice A4574 l4573.length c4575, .int .u64 0] 26 :: l) hf := hS
         refine RL.s (Vl.pickT rfl rfl) rfl ?_
         refine RL.s (Vl.assign rfl) rfl ?_
         refine RL.nil ?_
         refine RQ.then_n ?_
         refine RC.ret ?_
         refine RQ.ret ?_
         have e := h.some
         subst e
         refine RQ.ret0 (vs := [.bool t4615]) Tryd.results9 ⟨rfl, trivial⟩ ?_
         exact ⟨rfl, ((((((hS.dropAt 0 rfl).dropAt 0 rfl).dropAt 0 rfl).dropAt 0 rfl).dropAt 0 rfl).dropAt 0 rfl)⟩
        case neg =>
         have h := h.neg hc4614
         refine RL.re 87 rfl (congrArg Value.bool (decide_eq_false hc4614)) ?_
         refine RL.nn rfl rfl ?_
         refine RL.s (Vl.pickF rfl rfl) rfl ?_
         refine RL.s (Vl.assign rfl) rfl ?_
         refine RL.nil ?_
         refine RQ.then_n ?_
         refine RC.ret ?_
         refine RQ.ret ?_
         have e := h.some
         subst e
         refine RQ.ret0 (vs := [.bool false]) Tryd.results9 ⟨rfl, trivial⟩ ?_
         exact ⟨rfl, ((((((hS.dropAt 0 rfl).dropAt 0 rfl).dropAt 0 rfl).dropAt 0 rfl).dropAt 0 rfl).dropAt 0 rfl)⟩
       case neg =>
        have h := h.neg hc4613
        refine RL.re 82 rfl (congrArg Value.bool (decide_eq_false hc4613)) ?_
        refine RL.nn rfl rfl ?_
        refine RL.nn rfl rfl ?_
        refine RL.nn rfl rfl ?_
        refine RL.s (Vl.pickF rfl rfl) rfl ?_
        refine RL.s (Vl.move rfl) rfl ?_
        refine RL.nn rfl rfl ?_
        refine RL.s (Vl.pickF rfl rfl) rfl ?_
        refine RL.s (Vl.assign rfl) rfl ?_
        refine RL.nil ?_
        refine RQ.then_n ?_
        refine RC.ret ?_
        refine RQ.ret ?_
        have e := h.some
        subst e
        refine RQ.ret0 (vs := [.bool false]) Tryd.results9 ⟨rfl, trivial⟩ ?_
        exact ⟨rfl, ((((((hS.dropAt 0 rfl).dropAt 0 rfl).dropAt 0 rfl).dropAt 0 rfl).dropAt 0 rfl).dropAt 0 rfl)⟩
      case neg =>
       have h := h.neg hc4612
       refine RL.re 77 rfl (congrArg Value.bool (decide_eq_false hc4612)) ?_
       refine RL.nn rfl rfl ?_
       refine RL.nn rfl rfl ?_
       refine RL.nn rfl rfl ?_
       refine RL.s (Vl.pickF rfl rfl) rfl ?_
       refine RL.s (Vl.move rfl) rfl ?_
       refine RL.nn rfl rfl ?_
       refine RL.nn rfl rfl ?_
       refine RL.nn rfl rfl ?_
       refine RL.s (Vl.pickF rfl rfl) rfl ?_
       refine RL.s (Vl.move rfl) rfl ?_
       refine RL.nn rfl rfl ?_
       refine RL.s (Vl.pickF rfl rfl) rfl ?_
       refine RL.s (Vl.assign rfl) rfl ?_
       refine RL.nil ?_
       refine RQ.then_n ?_
       refine RC.ret ?_
       refine RQ.ret ?_
       have e := h.some
       subst e
       refine RQ.ret0 (vs := [.bool false]) Tryd.results9 ⟨rfl, trivial⟩ ?_
       exact ⟨rfl, ((((((hS.dropAt 0 rfl).dropAt 0 rfl).dropAt 0 rfl).dropAt 0 rfl).dropAt 0 rfl).dropAt 0 rfl)⟩
     case neg =>
      have h := h.neg hc4611
      refine RC.re 74 rfl (congrArg Value.bool (decide_eq_false hc4611)) ?_
      refine RC.condF rfl ?_
      refine RC.skip ?_
      refine RQ.then_n ?_
      refine RC.seq ?_
      refine RC.region ?_
      refine RL.s (Vl.move rfl) rfl ?_
      refine RL.s (Vl.conv Tryd.underlying21 Tryd.underlying2 rfl) rfl ?_
      refine RL.s (Vl.move rfl) rfl ?_
      obtain ⟨hq4617, h⟩ := h.req
      refine RL.s (Vl.rem rfl rfl hq4617) rfl ?_
      refine RL.s (Vl.move rfl) rfl ?_
      refine RL.s (Vl.int rfl rfl rfl) rfl ?_
      refine RL.s (Vl.move rfl) rfl ?_
      refine RL.s (Vl.rem rfl rfl hq4617) rfl ?_
      refine RL.s (Vl.assign rfl) rfl ?_
      refine RL.nil ?_
      refine RQ.then_n ?_
      refine RC.seq ?_
      refine RC.block ?_
      refine RC.seq ?_
      refine RC.region ?_
      refine RL.s (Vl.move rfl) rfl ?_
      refine RL.s (Vl.conv Tryd.underlying21 Tryd.underlying2 rfl) rfl ?_
      refine RL.s (Vl.fieldAddr (a'' := ⟨b4497, 2, none⟩) Tryd.underlying26 rfl Tryd.sizeOf23 rfl rfl) rfl ?_
      refine RL.s (Vl.load Tryd.isAgg23 rfl (hS.cell 5 rfl rfl)) rfl ?_
      refine RL.s (Vl.move rfl) rfl ?_
      obtain ⟨⟨hq4624, hq4625⟩, h⟩ := h.req
      refine RL.s (Vl.indexAddr Tryd.underlying23 Tryd.sizeOf56 rfl rfl ((hS.slW 2 rfl).2.2.adr hq4624 hq4625) hq4624 hq4625 rfl) rfl ?_
      refine RL.s (Vl.fieldAddr (a'' := (ad A4574).add ((Int.tmod (IntKind.i64.wrap ((Int.tmod (IntKind.i64.wrap a4279) (l4573.length : Int)) + (l4573.length : Int))) (l4573.length : Int)).toNat * 4 + 2)) Tryd.underlying56 rfl Tryd.sizeOf2 rfl (add_add _ _ _)) rfl ?_
      refine RL.s (Vl.load Tryd.isAgg2 rfl ((hS.slW 2 rfl).2.2.cell (j := 2) hq4624 hq4625 rfl)) rfl ?_
      refine RL.s (Vl.int rfl rfl rfl) rfl ?_
      refine RL.s (Vl.assign rfl) rfl ?_
      refine RL.nil ?_
      refine RQ.then_n ?_
      by_cases hc4626 : IntKind.i64.wrap a4280 < (nth l4573 (Int.tmod (IntKind.i64.wrap ((Int.tmod (IntKind.i64.wrap a4279) (l4573.length : Int)) + (l4573.length : Int))) (l4573.length : Int))).Look
      case pos =>
       have h := h.pos hc4626
       refine RC.re 98 rfl (congrArg Value.bool (decide_eq_true hc4626)) ?_
       refine RC.condT rfl ?_
       refine RC.seq ?_
       refine RC.region ?_
       refine RL.s (Vl.move rfl) rfl ?_
       refine RL.s (Vl.int rfl rfl rfl) rfl ?_
       refine RL.s (Vl.move rfl) rfl ?_
       by_cases hc4627 : y4593 = 50
       case pos =>
        have h := h.pos hc4627
        refine RL.re 110 rfl (congrArg Value.bool (decide_eq_true hc4627)) ?_
        refine RL.sg (Vl.move rfl) rfl rfl ?_
        refine RL.sg (Vl.lenSl Tryd.underlying34 rfl) rfl rfl ?_
        refine RL.sg (Vl.int rfl rfl rfl) rfl rfl ?_
        refine RL.s (Vl.pickT rfl rfl) rfl ?_
        refine RL.s (Vl.assign rfl) rfl ?_
        refine RL.nil ?_
        refine RQ.then_n ?_
        refine RC.ret ?_
        refine RQ.inB_ret ?_
        refine RQ.ret ?_
        have e := h.some
        subst e
        refine RQ.ret0 (vs := [.bool (decide ((y4592.length : Int) = 0))]) Tryd.results9 ⟨rfl, trivial⟩ ?_
        exact ⟨rfl, ((((((hS.dropAt 0 rfl).dropAt 0 rfl).dropAt 0 rfl).dropAt 0 rfl).dropAt 0 rfl).dropAt 0 rfl)⟩
       case neg =>
        have h := h.neg hc4627
        refine RL.re 110 rfl (congrArg Value.bool (decide_eq_false hc4627)) ?_
        refine RL.nn rfl rfl ?_
        refine RL.nn rfl rfl ?_
        refine RL.nn rfl rfl ?_
        refine RL.s (Vl.pickF rfl rfl) rfl ?_
        refine RL.s (Vl.assign rfl) rfl ?_
        refine RL.nil ?_
        refine RQ.then_n ?_
        refine RC.ret ?_
        refine RQ.inB_ret ?_
        refine RQ.ret ?_
        have e := h.some
        subst e
        refine RQ.ret0 (vs := [.bool false]) Tryd.results9 ⟨rfl, trivial⟩ ?_
        exact ⟨rfl, ((((((hS.dropAt 0 rfl).dropAt 0 rfl).dropAt 0 rfl).dropAt 0 rfl).dropAt 0 rfl).dropAt 0 rfl)⟩
      case neg =>
       have h := h.neg hc4626
       refine RC.re 98 rfl (congrArg Value.bool (decide_eq_false hc4626)) ?_
       refine RC.condF rfl ?_
       refine RC.seq ?_
       refine RC.region ?_
       refine RL.s (Vl.move rfl) rfl ?_
       refine RL.s (Vl.conv Tryd.underlying21 Tryd.underlying2 rfl) rfl ?_
       refine RL.s (Vl.move rfl) rfl ?_
       refine RL.s (Vl.int rfl rfl rfl) rfl ?_
       refine RL.s (Vl.int rfl rfl rfl) rfl ?_
       refine RL.s (Vl.assign rfl) rfl ?_
       refine RL.nil ?_
       refine RQ.then_n ?_
       by_cases hc4628 : IntKind.i64.wrap (4611686018427387903 - a4282) < IntKind.i64.wrap a4280
       case pos =>
        have h := h.pos hc4628
        refine RC.re 115 rfl (congrArg Value.bool (decide_eq_true hc4628)) ?_
        refine RC.condT rfl ?_
        refine RC.seq ?_
        refine RC.region ?_
        refine RL.s (Vl.move rfl) rfl ?_
        refine RL.s (Vl.int rfl rfl rfl) rfl ?_
        refine RL.s (Vl.move rfl) rfl ?_
        by_cases hc4629 : y4593 = 10
        case pos =>
         have h := h.pos hc4629
         refine RL.re 123 rfl (congrArg Value.bool (decide_eq_true hc4629)) ?_
         refine RL.sg (Vl.move rfl) rfl rfl ?_
         refine RL.sg (Vl.lenSl Tryd.underlying34 rfl) rfl rfl ?_
         refine RL.sg (Vl.int rfl rfl rfl) rfl rfl ?_
         refine RL.s (Vl.pickT rfl rfl) rfl ?_
         refine RL.s (Vl.assign rfl) rfl ?_
         refine RL.nil ?_
         refine RQ.then_n ?_
         refine RC.ret ?_
         refine RQ.inB_ret ?_
         refine RQ.ret ?_
         have e := h.some
         subst e
         refine RQ.ret0 (vs := [.bool (decide ((y4592.length : Int) = 0))]) Tryd.results9 ⟨rfl, trivial⟩ ?_
         exact ⟨rfl, ((((((hS.dropAt 0 rfl).dropAt 0 rfl).dropAt 0 rfl).dropAt 0 rfl).dropAt 0 rfl).dropAt 0 rfl)⟩
        case neg =>
         have h := h.neg hc4629
         refine RL.re 123 rfl (congrArg Value.bool (decide_eq_false hc4629)) ?_
         refine RL.nn rfl rfl ?_
         refine RL.nn rfl rfl ?_
         refine RL.nn rfl rfl ?_
         refine RL.s (Vl.pickF rfl rfl) rfl ?_
         refine RL.s (Vl.assign rfl) rfl ?_
         refine RL.nil ?_
         refine RQ.then_n ?_
         refine RC.ret ?_
         refine RQ.inB_ret ?_
         refine RQ.ret ?_
         have e := h.some
         subst e
         refine RQ.ret0 (vs := [.bool false]) Tryd.results9 ⟨rfl, trivial⟩ ?_
         exact ⟨rfl, ((((((hS.dropAt 0 rfl).dropAt 0 rfl).dropAt 0 rfl).dropAt 0 rfl).dropAt 0 rfl).dropAt 0 rfl)⟩
       case neg =>
        have h := h.neg hc4628
        refine RC.re 115 rfl (congrArg Value.bool (decide_eq_false hc4628)) ?_
        refine RC.condF rfl ?_
        refine RC.skip ?_
        refine RQ.inB_n ?_
        refine RQ.then_n ?_
        refine RC.seq ?_
        refine RC.region ?_
        refine RL.s (Vl.move rfl) rfl ?_
        refine RL.s (Vl.int rfl rfl rfl) rfl ?_
        refine RL.s (Vl.move rfl) rfl ?_
        by_cases hc4630 : y4593 = 0
        case pos =>
         have h := h.pos hc4630
         refine RL.re 130 rfl (congrArg Value.bool (decide_eq_true hc4630)) ?_
         refine RL.sg (Vl.move rfl) rfl rfl ?_
         refine RL.sg (Vl.lenSl Tryd.underlying34 rfl) rfl rfl ?_
         refine RL.sg (Vl.int rfl rfl rfl) rfl rfl ?_
         refine RL.s (Vl.pickT rfl rfl) rfl ?_
         refine RL.s (Vl.move rfl) rfl ?_
         by_cases hc4631 : (y4592.length : Int) = 1
         case pos =>
          have h := h.pos hc4631
          refine RL.re 135 rfl (congrArg Value.bool (decide_eq_true hc4631)) ?_
          refine RL.sg (Vl.fieldAddr (a'' := ⟨b4598, 9, none⟩) Tryd.underlying29 rfl Tryd.sizeOf3 rfl rfl) rfl rfl ?_
          refine RL.sg (Vl.load Tryd.isAgg3 rfl (hS.cell 0 rfl rfl)) rfl rfl ?_
          refine RL.sg (Vl.int rfl rfl rfl) rfl rfl ?_
          refine RL.s (Vl.pickT rfl rfl) rfl ?_
          refine RL.s (Vl.move rfl) rfl ?_
          by_cases hc4632 : y4591.Sent = 1
          case pos =>
           have h := h.pos hc4632
           refine RL.re 140 rfl (congrArg Value.bool (decide_eq_true hc4632)) ?_
           refine RL.sg (Vl.move rfl) rfl rfl ?_
           obtain ⟨hq4633, h⟩ := h.req
           refine RL.sg (Vl.indexAddr Tryd.underlying34 Tryd.sizeOf58 rfl rfl ((hS.slW 3 rfl).2.2.adr (by decide) hq4633) (by decide) hq4633 rfl) rfl rfl ?_
           refine RL.sg (Vl.loadA Tryd.isAgg58 Tryd.sizeOf58 rfl rfl ((hS.slW 3 rfl).2.2.cells (by decide) hq4633)) rfl rfl ?_
           refine RL.sg (Vl.move rfl) rfl rfl ?_
           refine RL.sg (Vl.move rfl) rfl rfl ?_
           refine RL.sg (Vl.conv Tryd.underlying21 Tryd.underlying2 rfl) rfl rfl ?_
           refine RL.sg (Vl.move rfl) rfl rfl ?_
           refine RL.sg (Vl.conv Tryd.underlying21 Tryd.underlying2 rfl) rfl rfl ?_
           refine RL.sg (Vl.build (v := .agg #[.int .i64 (Int.tmod (IntKind.i64.wrap ((Int.tmod (IntKind.i64.wrap a4279) (l4573.length : Int)) + (l4573.length : Int))) (l4573.length : Int)), .int .i64 (IntKind.i64.wrap a4280), .int .i64 (IntKind.i64.wrap a4281)]) (parts := [(0, .tmp 144), (1, .tmp 146), (2, .tmp 148)]) rfl (by kernel_rfl)) rfl rfl ?_
           refine RL.sg (Vl.eqlS (run_eql_api_Out _ _ (nth y4592 0) (⟨Int.tmod (IntKind.i64.wrap ((Int.tmod (IntKind.i64.wrap a4279) (l4573.length : Int)) + (l4573.length : Int))) (l4573.length : Int), IntKind.i64.wrap a4280, IntKind.i64.wrap a4281⟩ : api_Out)) rfl rfl) rfl rfl ?_
           refine RL.s (Vl.pickT rfl rfl) rfl ?_
           refine RL.s (Vl.assign rfl) rfl ?_
           refine RL.nil ?_
           refine RQ.then_n ?_
           refine RC.ret ?_
           have e := h.some
           subst e
           refine RQ.ret0 (vs := [.bool (decide (nth y4592 0 = (⟨Int.tmod (IntKind.i64.wrap ((Int.tmod (IntKind.i64.wrap a4279) (l4573.length : Int)) + (l4573.length : Int))) (l4573.length : Int), IntKind.i64.wrap a4280, IntKind.i64.wrap a4281⟩ : api_Out)))]) Tryd.results9 ⟨rfl, trivial⟩ ?_
           exact ⟨rfl, ((((((hS.dropAt 0 rfl).dropAt 0 rfl).dropAt 0 rfl).dropAt 0 rfl).dropAt 0 rfl).dropAt 0 rfl)⟩
          case neg =>
           have h := h.neg hc4632
           refine RL.re 140 rfl (congrArg Value.bool (decide_eq_false hc4632)) ?_
           refine RL.nn rfl rfl ?_
           refine RL.nn rfl rfl ?_
           refine RL.nn rfl rfl ?_
           refine RL.nn rfl rfl ?_
           refine RL.nn rfl rfl ?_
           refine RL.nn rfl rfl ?_
           refine RL.nn rfl rfl ?_
           refine RL.nn rfl rfl ?_
           refine RL.nn rfl rfl ?_
           refine RL.nn rfl rfl ?_
           refine RL.s (Vl.pickF rfl rfl) rfl ?_
           refine RL.s (Vl.assign rfl) rfl ?_
           refine RL.nil ?_
           refine RQ.then_n ?_
           refine RC.ret ?_
           have e := h.some
           subst e
           refine RQ.ret0 (vs := [.bool false]) Tryd.results9 ⟨rfl, trivial⟩ ?_
           exact ⟨rfl, ((((((hS.dropAt 0 rfl).dropAt 0 rfl).dropAt 0 rfl).dropAt 0 rfl).dropAt 0 rfl).dropAt 0 rfl)⟩
         case neg =>
          have h := h.neg hc4631
          refine RL.re 135 rfl (congrArg Value.bool (decide_eq_false hc4631)) ?_
          refine RL.nn rfl rfl ?_
          refine RL.nn rfl rfl ?_
          refine RL.nn rfl rfl ?_
          refine RL.s (Vl.pickF rfl rfl) rfl ?_
          refine RL.s (Vl.move rfl) rfl ?_
          refine RL.nn rfl rfl ?_
          refine RL.nn rfl rfl ?_
          refine RL.nn rfl rfl ?_
          refine RL.nn rfl rfl ?_
          refine RL.nn rfl rfl ?_
          refine RL.nn rfl rfl ?_
          refine RL.nn rfl rfl ?_
          refine RL.nn rfl rfl ?_
          refine RL.nn rfl rfl ?_
          refine RL.nn rfl rfl ?_
          refine RL.s (Vl.pickF rfl rfl) rfl ?_
          refine RL.s (Vl.assign rfl) rfl ?_
          refine RL.nil ?_
          refine RQ.then_n ?_
          refine RC.ret ?_
          have e := h.some
          subst e
          refine RQ.ret0 (vs := [.bool false]) Tryd.results9 ⟨rfl, trivial⟩ ?_
          exact ⟨rfl, ((((((hS.dropAt 0 rfl).dropAt 0 rfl).dropAt 0 rfl).dropAt 0 rfl).dropAt 0 rfl).dropAt 0 rfl)⟩
        case neg =>
         have h := h.neg hc4630
         refine RL.re 130 rfl (congrArg Value.bool (decide_eq_false hc4630)) ?_
         refine RL.nn rfl rfl ?_
         refine RL.nn rfl rfl ?_
         refine RL.nn rfl rfl ?_
         refine RL.s (Vl.pickF rfl rfl) rfl ?_
         refine RL.s (Vl.move rfl) rfl ?_
         refine RL.nn rfl rfl ?_
         refine RL.nn rfl rfl ?_
         refine RL.nn rfl rfl ?_
         refine RL.s (Vl.pickF rfl rfl) rfl ?_
         refine RL.s (Vl.move rfl) rfl ?_
         refine RL.nn rfl rfl ?_
         refine RL.nn rfl rfl ?_
         refine RL.nn rfl rfl ?_
         refine RL.nn rfl rfl ?_
         refine RL.nn rfl rfl ?_
         refine RL.nn rfl rfl ?_
         refine RL.nn rfl rfl ?_
         refine RL.nn rfl rfl ?_
         refine RL.nn rfl rfl ?_
         refine RL.nn rfl rfl ?_
         refine RL.s (Vl.pickF rfl rfl) rfl ?_
         refine RL.s (Vl.assign rfl) rfl ?_
         refine RL.nil ?_
         refine RQ.then_n ?_
         refine RC.ret ?_
         have e := h.some
         subst e
         refine RQ.ret0 (vs := [.bool false]) Tryd.results9 ⟨rfl, trivial⟩ ?_
         exact ⟨rfl, ((((((hS.dropAt 0 rfl).dropAt 0 rfl).dropAt 0 rfl).dropAt 0 rfl).dropAt 0 rfl).dropAt 0 rfl)⟩
    case neg =>
     have h := h.neg hc4604
     refine RC.re 67 rfl (congrArg Value.bool (notdec_neg hc4604)) ?_
     refine RC.condT rfl ?_
     refine RC.seq ?_
     refine RC.region ?_
     refine RL.s (Vl.move rfl) rfl ?_
     refine RL.s (Vl.int rfl rfl rfl) rfl ?_
     refine RL.s (Vl.assign rfl) rfl ?_
     refine RL.nil ?_
     refine RQ.then_n ?_
     refine RC.ret ?_
     refine RQ.ret ?_
     have e := h.some
     subst e
     refine RQ.ret0 (vs := [.bool (decide (y4593 = 1))]) Tryd.results9 ⟨rfl, trivial⟩ ?_
     exact ⟨rfl, ((((((hS.dropAt 0 rfl).dropAt 0 rfl).dropAt 0 rfl).dropAt 0 rfl).dropAt 0 rfl).dropAt 0 rfl)⟩
  · refine RC.seq ?_
    refine RC.region ?_
    refine RL.s (Vl.assign rfl) rfl ?_
    refine RL.nil ?_
    refine RQ.then_n ?_
    refine RC.block ?_
    have hS := hS.nilSl E_api_Link 56
    refine fun a ha => RC.loop (N := 152) (body := (isochronlaw05vVmSendsOne.l6b a4275 a4279 a4280 a4281 a4282)) (φ := (· = r)) (fun (s : List api_Link × Int) a w => ∃ (l4657 : List api_Link) (x4661 : Int), s = (l4657, x4661) ∧ ∃ (A4658 : Option Addr) (c4659 : Nat), Has 152 [(0, .slice A4276 a4275.length c4277), (1, .int .i32 a4279), (2, .int .i32 a4280), (3, .int .i32 a4281), (4, .int .i64 a4282), (11, .pointer (some ⟨b4497, 0, none⟩)), (12, .int .i64 x4661)] a ∧ St B w (OSf E_api_Link 56 (.slice A4658 l4657.length c4659) l4657 :: Cl b4497 [.slice none 0 0, .int .i64 0, .slice A4658 l4657.length c4659, .int .u64 0] 26 :: l) hf) ?_ (s0 := ([], 0)) h ⟨([]), 0, rfl, none, 0, ha.to ⟨rfl, rfl, rfl, rfl, rfl, rfl, rfl, trivial⟩, hS⟩
    rintro G4687 _ a w ⟨l4657, x4661, rfl, A4658, c4659, ha, hS⟩ h
    revert a
    show RC _ _ _ _ _ _
    refine RC.seq ?_
    refine RC.seq ?_
    refine RC.region ?_
    refine RL.s (Vl.move rfl) rfl ?_
    refine RL.s (Vl.move rfl) rfl ?_
    refine RL.s (Vl.lenSl Tryd.underlying54 rfl) rfl ?_
    refine RL.s (Vl.int rfl rfl rfl) rfl ?_
    refine RL.s (Vl.move rfl) rfl ?_
    by_cases hc4690 : x4661 < (a4275.length : Int)
    case pos =>
     have h := h.pos hc4690
     refine RL.re 23 rfl (congrArg Value.bool (decide_eq_true hc4690)) ?_
     refine RL.sg (Vl.move rfl) rfl rfl ?_
     refine RL.sg (Vl.int rfl rfl rfl) rfl rfl ?_
     refine RL.s (Vl.pickT rfl rfl) rfl ?_
     refine RL.nil ?_
     refine RQ.then_n ?_
     by_cases hc4691 : x4661 < 10
     case pos =>
      have h := h.pos hc4691
      refine RC.re 26 rfl (congrArg Value.bool (decide_eq_true hc4691)) ?_
      refine RC.condT rfl ?_
      refine RC.skip ?_
      refine RQ.then_n ?_
      refine RC.seq ?_
      refine RC.block ?_
      refine RC.plan (.pure 0 (.cons 1 true (.pure 2 (.pure 3 (.cons 4 false (.cons 5 false (.cons 6 false (.cons 7 false (.cons 8 false (.cons 9 false (.cons 10 false (.cons 11 false (.cons 12 false (.cons 13 false .nil)))))))))))))) [11, 12, 13] (fun w => St B w (OSf E_api_Link 56 (.slice A4658 l4657.length c4659) l4657 :: Cl b4497 [.slice none 0 0, .int .i64 0, .slice A4658 l4657.length c4659, .int .u64 0] 26 :: l) hf) follows rfl (by kernel_rfl) (NoTmp.block (NoTmp.then (NoTmp.then (NoTmp.block (NoTmp.then NoTmp.body))))) ?_
      have hS := hS.same (w' := { w with drawn := w.drawn + 1 }) rfl rfl
      revert hS
      generalize { w with drawn := w.drawn + 1 } = w
      intro hS
      refine RP.s0 0 rfl (fun w => Vl.fieldAddr (a'' := ⟨b4497, 2, none⟩) Tryd.underlying26 rfl Tryd.sizeOf23 rfl rfl) rfl ?_
      refine RP.s 1 rfl rfl hS (fun w hS => Vl.load Tryd.isAgg23 rfl (hS.cell 1 rfl rfl)) rfl ?_
      refine RP.s0 2 rfl (fun w => Vl.move rfl) rfl ?_
      refine RP.s0 3 rfl (fun w => Vl.move rfl) rfl ?_
      refine RP.v1 4 rfl (Vl.move rfl) rfl rfl ?_
      obtain ⟨hq4700, h⟩ := h.req
      refine RP.v1 5 rfl (Vl.indexAddr Tryd.underlying54 Tryd.sizeOf5 rfl rfl ((hr4278.2.world hS.sub).adr hq4700 hc4690) hq4700 hc4690 rfl) rfl rfl ?_
      refine RP.v1 6 rfl (Vl.load Tryd.isAgg5 rfl ((hr4278.2.world hS.sub).cell (j := 0) hq4700 hc4690 rfl)) rfl rfl ?_
      refine RP.v1 7 rfl (Vl.conv Tryd.underlying5 Tryd.underlying2 rfl) rfl rfl ?_
      refine RP.v1 8 rfl (Vl.int rfl rfl rfl) rfl rfl ?_
      refine RP.v1 9 rfl (Vl.build (v := .agg #[.int .i64 0, .int .i64 x4661, .int .i64 (IntKind.i64.wrap (1 + (IntKind.i64.wrap (nth a4275 x4661)))), .bool false]) (parts := [(1, .tmp 31), (2, .tmp 37)]) rfl (by kernel_rfl)) rfl rfl ?_
      refine RP.e 10 rfl (OW.buildSlice (E := E_api_Link) (xs := [(⟨0, x4661, IntKind.i64.wrap (1 + (IntKind.i64.wrap (nth a4275 x4661))), false⟩ : api_Link)]) (cs := [.int .i64 0, .int .i64 x4661, .int .i64 (IntKind.i64.wrap (1 + (IntKind.i64.wrap (nth a4275 x4661)))), .bool false]) hS Tryd.underlying23 Tryd.zeroValue56 Tryd.sizeOf56 (parts := [(0, .tmp 38)]) rfl rfl (by decide) (by decide) (by kernel_rfl) rfl) rfl rfl ?_
      rintro _ w ⟨b4702, rfl, hS⟩
      have hS : St B w (OSf E_api_Link 56 (.slice (some ⟨b4702, 0, none⟩) ([(⟨0, x4661, IntKind.i64.wrap (1 + (IntKind.i64.wrap (nth a4275 x4661))), false⟩ : api_Link)]).length 1) ([(⟨0, x4661, IntKind.i64.wrap (1 + (IntKind.i64.wrap (nth a4275 x4661))), false⟩ : api_Link)]) :: OSf E_api_Link 56 (.slice A4658 l4657.length c4659) l4657 :: Cl b4497 [.slice none 0 0, .int .i64 0, .slice A4658 l4657.length c4659, .int .u64 0] 26 :: l) hf := hS
      refine ⟨fun _ => (hS.dropAt 0 rfl), ?_⟩
      obtain ⟨hq4703, h⟩ := h.req
      refine RP.e 11 rfl (OW.append (E := E_api_Link) (xs := l4657) (ys := [(⟨0, x4661, IntKind.i64.wrap (1 + (IntKind.i64.wrap (nth a4275 x4661))), false⟩ : api_Link)]) 1 hS rfl Tryd.underlying23 Tryd.type56 rfl rfl rfl rfl (by decide) rfl rfl rfl (hS.slW 0 rfl).2.2.flat (by simp only [maxLen, List.length_cons, List.length_nil] at *; omega) hq4703 rfl) rfl rfl ?_
      rintro v4707 w hS
      obtain ⟨A4704, c4705, rfl, _⟩ := hS.osShape 0 rfl
      have hS : St B w (OSf E_api_Link 56 (.slice A4704 (l4657 ++ ([(⟨0, x4661, IntKind.i64.wrap (1 + (IntKind.i64.wrap (nth a4275 x4661))), false⟩ : api_Link)])).length c4705) (l4657 ++ ([(⟨0, x4661, IntKind.i64.wrap (1 + (IntKind.i64.wrap (nth a4275 x4661))), false⟩ : api_Link)])) :: OSf E_api_Link 56 (.slice (some ⟨b4702, 0, none⟩) ([(⟨0, x4661, IntKind.i64.wrap (1 + (IntKind.i64.wrap (nth a4275 x4661))), false⟩ : api_Link)]).length 1) ([(⟨0, x4661, IntKind.i64.wrap (1 + (IntKind.i64.wrap (nth a4275 x4661))), false⟩ : api_Link)]) :: Cl b4497 [.slice none 0 0, .int .i64 0, .slice A4658 l4657.length c4659, .int .u64 0] 26 :: l) hf := hS
      refine ⟨(by intro hx; cases hx), ?_⟩
      refine RP.v1 12 rfl (Vl.fieldAddr (a'' := ⟨b4497, 2, none⟩) Tryd.underlying26 rfl Tryd.sizeOf23 rfl rfl) rfl rfl ?_
      refine RP.e0 13 rfl (OW.store (cs := [.slice none 0 0, .int .i64 0, .slice A4658 l4657.length c4659, .int .u64 0]) (vs := [.slice A4704 (l4657 ++ ([(⟨0, x4661, IntKind.i64.wrap (1 + (IntKind.i64.wrap (nth a4275 x4661))), false⟩ : api_Link)])).length c4705]) (l' := OSf E_api_Link 56 (.slice A4704 (l4657 ++ ([(⟨0, x4661, IntKind.i64.wrap (1 + (IntKind.i64.wrap (nth a4275 x4661))), false⟩ : api_Link)])).length c4705) (l4657 ++ ([(⟨0, x4661, IntKind.i64.wrap (1 + (IntKind.i64.wrap (nth a4275 x4661))), false⟩ : api_Link)])) :: OSf E_api_Link 56 (.slice (some ⟨b4702, 0, none⟩) ([(⟨0, x4661, IntKind.i64.wrap (1 + (IntKind.i64.wrap (nth a4275 x4661))), false⟩ : api_Link)]).length 1) ([(⟨0, x4661, IntKind.i64.wrap (1 + (IntKind.i64.wrap (nth a4275 x4661))), false⟩ : api_Link)]) :: Cl b4497 [.slice none 0 0, .int .i64 0, .slice A4704 (l4657 ++ ([(⟨0, x4661, IntKind.i64.wrap (1 + (IntKind.i64.wrap (nth a4275 x4661))), false⟩ : api_Link)])).length c4705, .int .u64 0] 26 :: l) 2 hS rfl rfl rfl rfl Tryd.sizeOf23 rfl rfl rfl rfl) rfl ?_
      rintro _ w ⟨rfl, hS⟩
      have hS : St B w (OSf E_api_Link 56 (.slice A4704 (l4657 ++ ([(⟨0, x4661, IntKind.i64.wrap (1 + (IntKind.i64.wrap (nth a4275 x4661))), false⟩ : api_Link)])).length c4705) (l4657 ++ ([(⟨0, x4661, IntKind.i64.wrap (1 + (IntKind.i64.wrap (nth a4275 x4661))), false⟩ : api_Link)])) :: OSf E_api_Link 56 (.slice (some ⟨b4702, 0, none⟩) ([(⟨0, x4661, IntKind.i64.wrap (1 + (IntKind.i64.wrap (nth a4275 x4661))), false⟩ : api_Link)]).length 1) ([(⟨0, x4661, IntKind.i64.wrap (1 + (IntKind.i64.wrap (nth a4275 x4661))), false⟩ : api_Link)]) :: Cl b4497 [.slice none 0 0, .int .i64 0, .slice A4704 (l4657 ++ ([(⟨0, x4661, IntKind.i64.wrap (1 + (IntKind.i64.wrap (nth a4275 x4661))), false⟩ : api_Link)])).length c4705, .int .u64 0] 26 :: l) hf := hS
      refine ⟨(by intro hx; cases hx), ?_⟩
      refine RP.nil ?_
      refine RQ.inB_n ?_
      refine RQ.then_n ?_
      refine RC.region ?_
      refine RL.s (Vl.move rfl) rfl ?_
      refine RL.s (Vl.int rfl rfl rfl) rfl ?_
      refine RL.s (Vl.assign rfl) rfl ?_
      refine RL.nil ?_
      exact fun a ha => ⟨((l4657 ++ ([(⟨0, x4661, IntKind.i64.wrap (1 + (IntKind.i64.wrap (nth a4275 x4661))), false⟩ : api_Link)])), IntKind.i64.wrap (x4661 + 1)), ⟨(l4657 ++ ([(⟨0, x4661, IntKind.i64.wrap (1 + (IntKind.i64.wrap (nth a4275 x4661))), false⟩ : api_Link)])), (IntKind.i64.wrap (x4661 + 1)), rfl, A4704, c4705, ha.to ⟨rfl, rfl, rfl, rfl, rfl, rfl, rfl, trivial⟩, (hS.dropAt 1 rfl)⟩, h.some⟩
     case neg =>
      have h := h.neg hc4691
      refine RC.re 26 rfl (congrArg Value.bool (decide_eq_false hc4691)) ?_
      refine RC.condF rfl ?_
      refine RC.exit ?_
      refine RQ.exitT ?_
      have h := h.inr
      refine RQ.exitT ?_
      refine RQ.inB_hit ?_
      exact fun a ha => ⟨(l4657), l4657, rfl, A4658, c4659, ha.to ⟨rfl, rfl, rfl, rfl, rfl, trivial⟩, hS, h⟩
    case neg =>
     have h := h.neg hc4690
     refine RL.re 23 rfl (congrArg Value.bool (decide_eq_false hc4690)) ?_
     refine RL.nn rfl rfl ?_
     refine RL.nn rfl rfl ?_
     refine RL.s (Vl.pickF rfl rfl) rfl ?_
     refine RL.nil ?_
     refine RQ.then_n ?_
     refine RC.condF rfl ?_
     refine RC.exit ?_
     refine RQ.exitT ?_
     have h := h.inr
     refine RQ.exitT ?_
     refine RQ.inB_hit ?_
     exact fun a ha => ⟨(l4657), l4657, rfl, A4658, c4659, ha.to ⟨rfl, rfl, rfl, rfl, rfl, trivial⟩, hS, h⟩

end Go.Proofs.Gx
