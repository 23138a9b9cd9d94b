/-
  The walks of functions, each with what it computes: printed by wip/gx.py.
-/
import Derived.Test.YtjdachfjlajjjaaDoorW0
import Derived.Test.YtjdachfjlajjjaaDoorW16
import Derived.Test.YtjdachfjlajjjaaDoorW4
import Derived.Test.YtjdachfjlajjjaaDoorW6
set_option linter.unusedVariables false
namespace Go.Proofs.Gx
open Go.Sl
/-! ### isochron/isochronlaw05.VmRuns: function 3 -/
noncomputable def isochronlaw05vVmRuns.f (a6106 : api_World) (a6113 : api_State) (a6114 : api_Message) : Option (Bool) := ((vm_Run.f a6106 a6113 a6114).bind fun (y7354, y7355, y7356) => ((isochronref05vRun.f a6106 a6113 a6114).bind fun (y7364, y7365, y7366) => (if y7354 = y7364 then ((isochronlaw05vouts.f y7355 y7365).bind fun t7381 => (if t7381 = true then (if y7356 = y7366 then ((isochronlaw05vawake.f).bind fun t7385 => some t7385) else some false) else some false)) else some false)))
set_option maxRecDepth 100000 in
set_option maxHeartbeats 4000000 in
theorem isochronlaw05vVmRuns.ok {B : Base} {w : World} {l : List HProp} {hf : Hp} (a6106 : api_World) (a6113 : api_State) (a6114 : api_Message) (A6107 : Option Addr) (c6108 : Nat) (A6110 : Option Addr) (c6111 : Nat) (hr6109 : SlR E_api_Instr.rep hf A6107 c6108 a6106.Prog) (hr6112 : SlR E_api_Link.rep hf A6110 c6111 a6106.Links) (hG0 : GlobAt hf 0 (.iface 118 (.agg #[.pointer (some ⟨1, 71, none⟩)]))) (r : Bool) (h : isochronlaw05vVmRuns.f a6106 a6113 a6114 = some r) (hS : St B w (l) hf) :
    Calls Tryd.prog 3 #[.agg #[.slice A6107 a6106.Prog.length c6108, .int .i64 a6106.Self, .slice A6110 a6106.Links.length c6111, .int .u64 a6106.Seed], .agg #[.int .i64 a6113.Regs.c0, .int .i64 a6113.Regs.c1, .int .i64 a6113.Regs.c2, .int .i64 a6113.Regs.c3, .int .i64 a6113.Regs.c4, .int .i64 a6113.Regs.c5, .int .i64 a6113.Regs.c6, .int .i64 a6113.Regs.c7, .int .i64 a6113.Draws, .int .i64 a6113.Sent], .agg #[.int .i64 a6114.Key.Time, .int .i64 a6114.Key.From, .int .i64 a6114.Key.Seq, .int .i64 a6114.To, .int .i64 a6114.Value, .int .i64 a6114.Uid, .bool a6114.Anti]] w (Ret fun v w => v = .bool r ∧ St B w (l) hf) := by
  have h := Holds.of h
  refine enter (args := [.agg #[.slice A6107 a6106.Prog.length c6108, .int .i64 a6106.Self, .slice A6110 a6106.Links.length c6111, .int .u64 a6106.Seed], .agg #[.int .i64 a6113.Regs.c0, .int .i64 a6113.Regs.c1, .int .i64 a6113.Regs.c2, .int .i64 a6113.Regs.c3, .int .i64 a6113.Regs.c4, .int .i64 a6113.Regs.c5, .int .i64 a6113.Regs.c6, .int .i64 a6113.Regs.c7, .int .i64 a6113.Draws, .int .i64 a6113.Sent], .agg #[.int .i64 a6114.Key.Time, .int .i64 a6114.Key.From, .int .i64 a6114.Key.Seq, .int .i64 a6114.To, .int .i64 a6114.Value, .int .i64 a6114.Uid, .bool a6114.Anti]]) Tryd.func3 rfl Tryd.ntmps3 (Nat.le_of_ble_eq_true rfl) ?_
  refine RC.seq ?_
  refine RC.region ?_
  refine RL.e (OW.box (cs := [.slice A6107 a6106.Prog.length c6108, .int .i64 a6106.Self, .slice A6110 a6106.Links.length c6111, .int .u64 a6106.Seed]) hS rfl rfl) rfl rfl ?_
  rintro _ w ⟨b7347, rfl, hS⟩
  have hS : St B w (Cl b7347 [.slice A6107 a6106.Prog.length c6108, .int .i64 a6106.Self, .slice A6110 a6106.Links.length c6111, .int .u64 a6106.Seed] 26 :: l) hf := hS
  refine RL.e (OW.box (cs := [.int .i64 a6113.Regs.c0, .int .i64 a6113.Regs.c1, .int .i64 a6113.Regs.c2, .int .i64 a6113.Regs.c3, .int .i64 a6113.Regs.c4, .int .i64 a6113.Regs.c5, .int .i64 a6113.Regs.c6, .int .i64 a6113.Regs.c7, .int .i64 a6113.Draws, .int .i64 a6113.Sent]) hS rfl rfl) rfl rfl ?_
  rintro _ w ⟨b7349, rfl, hS⟩
  have hS : St B w (Cl b7349 [.int .i64 a6113.Regs.c0, .int .i64 a6113.Regs.c1, .int .i64 a6113.Regs.c2, .int .i64 a6113.Regs.c3, .int .i64 a6113.Regs.c4, .int .i64 a6113.Regs.c5, .int .i64 a6113.Regs.c6, .int .i64 a6113.Regs.c7, .int .i64 a6113.Draws, .int .i64 a6113.Sent] 29 :: Cl b7347 [.slice A6107 a6106.Prog.length c6108, .int .i64 a6106.Self, .slice A6110 a6106.Links.length c6111, .int .u64 a6106.Seed] 26 :: l) hf := hS
  refine RL.e (OW.box (cs := [.int .i64 a6114.Key.Time, .int .i64 a6114.Key.From, .int .i64 a6114.Key.Seq, .int .i64 a6114.To, .int .i64 a6114.Value, .int .i64 a6114.Uid, .bool a6114.Anti]) hS rfl rfl) rfl rfl ?_
  rintro _ w ⟨b7351, rfl, hS⟩
  have hS : St B w (Cl b7351 [.int .i64 a6114.Key.Time, .int .i64 a6114.Key.From, .int .i64 a6114.Key.Seq, .int .i64 a6114.To, .int .i64 a6114.Value, .int .i64 a6114.Uid, .bool a6114.Anti] 33 :: Cl b7349 [.int .i64 a6113.Regs.c0, .int .i64 a6113.Regs.c1, .int .i64 a6113.Regs.c2, .int .i64 a6113.Regs.c3, .int .i64 a6113.Regs.c4, .int .i64 a6113.Regs.c5, .int .i64 a6113.Regs.c6, .int .i64 a6113.Regs.c7, .int .i64 a6113.Draws, .int .i64 a6113.Sent] 29 :: Cl b7347 [.slice A6107 a6106.Prog.length c6108, .int .i64 a6106.Self, .slice A6110 a6106.Links.length c6111, .int .u64 a6106.Seed] 26 :: l) hf := hS
  refine RL.s (Vl.assign rfl) rfl ?_
  refine RL.nil ?_
  refine RQ.then_n ?_
  refine RC.seq ?_
  refine RC.region ?_
  refine RL.s (Vl.loadA (vs := [.slice A6107 a6106.Prog.length c6108, .int .i64 a6106.Self, .slice A6110 a6106.Links.length c6111, .int .u64 a6106.Seed]) Tryd.isAgg26 Tryd.sizeOf26 rfl rfl (hS.cellsAt 2 rfl rfl)) rfl ?_
  refine RL.s (Vl.loadA (vs := [.int .i64 a6113.Regs.c0, .int .i64 a6113.Regs.c1, .int .i64 a6113.Regs.c2, .int .i64 a6113.Regs.c3, .int .i64 a6113.Regs.c4, .int .i64 a6113.Regs.c5, .int .i64 a6113.Regs.c6, .int .i64 a6113.Regs.c7, .int .i64 a6113.Draws, .int .i64 a6113.Sent]) Tryd.isAgg29 Tryd.sizeOf29 rfl rfl (hS.cellsAt 1 rfl rfl)) rfl ?_
  refine RL.s (Vl.loadA (vs := [.int .i64 a6114.Key.Time, .int .i64 a6114.Key.From, .int .i64 a6114.Key.Seq, .int .i64 a6114.To, .int .i64 a6114.Value, .int .i64 a6114.Uid, .bool a6114.Anti]) Tryd.isAgg33 Tryd.sizeOf33 rfl rfl (hS.cellsAt 0 rfl rfl)) rfl ?_
  obtain ⟨t7352, hg7353, h⟩ := h.bind
  obtain ⟨y7354, y7355, y7356⟩ := t7352
  refine RL.e (OW.callF (ls := [.tmp 14, .tmp 15, .tmp 16]) rfl Tryd.call11 (vm_Run.ok a6106 a6113 a6114 A6107 c6108 A6110 c6111 hr6109 hr6112 hG0 _ hg7353 hS)) rfl rfl ?_
  rintro _ w ⟨A7357, c7358, rfl, hS⟩
  have hS : St B w (OSf E_api_Out 58 (.slice A7357 y7355.length c7358) y7355 :: Cl b7351 [.int .i64 a6114.Key.Time, .int .i64 a6114.Key.From, .int .i64 a6114.Key.Seq, .int .i64 a6114.To, .int .i64 a6114.Value, .int .i64 a6114.Uid, .bool a6114.Anti] 33 :: Cl b7349 [.int .i64 a6113.Regs.c0, .int .i64 a6113.Regs.c1, .int .i64 a6113.Regs.c2, .int .i64 a6113.Regs.c3, .int .i64 a6113.Regs.c4, .int .i64 a6113.Regs.c5, .int .i64 a6113.Regs.c6, .int .i64 a6113.Regs.c7, .int .i64 a6113.Draws, .int .i64 a6113.Sent] 29 :: Cl b7347 [.slice A6107 a6106.Prog.length c6108, .int .i64 a6106.Self, .slice A6110 a6106.Links.length c6111, .int .u64 a6106.Seed] 26 :: l) hf := hS
  refine RL.s (Vl.move rfl) rfl ?_
  refine RL.s (Vl.extract rfl rfl) rfl ?_
  refine RL.s (Vl.extract rfl rfl) rfl ?_
  refine RL.s (Vl.extract rfl rfl) rfl ?_
  refine RL.e (OW.alloc (cs := [.int .i64 0, .int .i64 0, .int .i64 0, .int .i64 0, .int .i64 0, .int .i64 0, .int .i64 0, .int .i64 0, .int .i64 0, .int .i64 0]) hS Tryd.zeroValue29 rfl) rfl rfl ?_
  rintro _ w ⟨b7361, rfl, hS⟩
  have hS : St B w (Cl b7361 [.int .i64 0, .int .i64 0, .int .i64 0, .int .i64 0, .int .i64 0, .int .i64 0, .int .i64 0, .int .i64 0, .int .i64 0, .int .i64 0] 29 :: OSf E_api_Out 58 (.slice A7357 y7355.length c7358) y7355 :: Cl b7351 [.int .i64 a6114.Key.Time, .int .i64 a6114.Key.From, .int .i64 a6114.Key.Seq, .int .i64 a6114.To, .int .i64 a6114.Value, .int .i64 a6114.Uid, .bool a6114.Anti] 33 :: Cl b7349 [.int .i64 a6113.Regs.c0, .int .i64 a6113.Regs.c1, .int .i64 a6113.Regs.c2, .int .i64 a6113.Regs.c3, .int .i64 a6113.Regs.c4, .int .i64 a6113.Regs.c5, .int .i64 a6113.Regs.c6, .int .i64 a6113.Regs.c7, .int .i64 a6113.Draws, .int .i64 a6113.Sent] 29 :: Cl b7347 [.slice A6107 a6106.Prog.length c6108, .int .i64 a6106.Self, .slice A6110 a6106.Links.length c6111, .int .u64 a6106.Seed] 26 :: l) hf := hS
  refine RL.e0 (OW.store (cs := [.int .i64 0, .int .i64 0, .int .i64 0, .int .i64 0, .int .i64 0, .int .i64 0, .int .i64 0, .int .i64 0, .int .i64 0, .int .i64 0]) (vs := [.int .i64 y7354.Regs.c0, .int .i64 y7354.Regs.c1, .int .i64 y7354.Regs.c2, .int .i64 y7354.Regs.c3, .int .i64 y7354.Regs.c4, .int .i64 y7354.Regs.c5, .int .i64 y7354.Regs.c6, .int .i64 y7354.Regs.c7, .int .i64 y7354.Draws, .int .i64 y7354.Sent]) (l' := Cl b7361 [.int .i64 y7354.Regs.c0, .int .i64 y7354.Regs.c1, .int .i64 y7354.Regs.c2, .int .i64 y7354.Regs.c3, .int .i64 y7354.Regs.c4, .int .i64 y7354.Regs.c5, .int .i64 y7354.Regs.c6, .int .i64 y7354.Regs.c7, .int .i64 y7354.Draws, .int .i64 y7354.Sent] 29 :: OSf E_api_Out 58 (.slice A7357 y7355.length c7358) y7355 :: Cl b7351 [.int .i64 a6114.Key.Time, .int .i64 a6114.Key.From, .int .i64 a6114.Key.Seq, .int .i64 a6114.To, .int .i64 a6114.Value, .int .i64 a6114.Uid, .bool a6114.Anti] 33 :: Cl b7349 [.int .i64 a6113.Regs.c0, .int .i64 a6113.Regs.c1, .int .i64 a6113.Regs.c2, .int .i64 a6113.Regs.c3, .int .i64 a6113.Regs.c4, .int .i64 a6113.Regs.c5, .int .i64 a6113.Regs.c6, .int .i64 a6113.Regs.c7, .int .i64 a6113.Draws, .int .i64 a6113.Sent] 29 :: Cl b7347 [.slice A6107 a6106.Prog.length c6108, .int .i64 a6106.Self, .slice A6110 a6106.Links.length c6111, .int .u64 a6106.Seed] 26 :: l) 0 hS rfl rfl rfl rfl Tryd.sizeOf29 rfl rfl rfl rfl) rfl ?_
  rintro _ w ⟨rfl, hS⟩
  have hS : St B w (Cl b7361 [.int .i64 y7354.Regs.c0, .int .i64 y7354.Regs.c1, .int .i64 y7354.Regs.c2, .int .i64 y7354.Regs.c3, .int .i64 y7354.Regs.c4, .int .i64 y7354.Regs.c5, .int .i64 y7354.Regs.c6, .int .i64 y7354.Regs.c7, .int .i64 y7354.Draws, .int .i64 y7354.Sent] 29 :: OSf E_api_Out 58 (.slice A7357 y7355.length c7358) y7355 :: Cl b7351 [.int .i64 a6114.Key.Time, .int .i64 a6114.Key.From, .int .i64 a6114.Key.Seq, .int .i64 a6114.To, .int .i64 a6114.Value, .int .i64 a6114.Uid, .bool a6114.Anti] 33 :: Cl b7349 [.int .i64 a6113.Regs.c0, .int .i64 a6113.Regs.c1, .int .i64 a6113.Regs.c2, .int .i64 a6113.Regs.c3, .int .i64 a6113.Regs.c4, .int .i64 a6113.Regs.c5, .int .i64 a6113.Regs.c6, .int .i64 a6113.Regs.c7, .int .i64 a6113.Draws, .int .i64 a6113.Sent] 29 :: Cl b7347 [.slice A6107 a6106.Prog.length c6108, .int .i64 a6106.Self, .slice A6110 a6106.Links.length c6111, .int .u64 a6106.Seed] 26 :: l) hf := hS
  refine RL.s (Vl.assign rfl) rfl ?_
  refine RL.s (Vl.assign rfl) rfl ?_
  refine RL.nil ?_
  refine RQ.then_n ?_
  refine RC.seq ?_
  refine RC.region ?_
  refine RL.s (Vl.loadA (vs := [.slice A6107 a6106.Prog.length c6108, .int .i64 a6106.Self, .slice A6110 a6106.Links.length c6111, .int .u64 a6106.Seed]) Tryd.isAgg26 Tryd.sizeOf26 rfl rfl (hS.cellsAt 4 rfl rfl)) rfl ?_
  refine RL.s (Vl.loadA (vs := [.int .i64 a6113.Regs.c0, .int .i64 a6113.Regs.c1, .int .i64 a6113.Regs.c2, .int .i64 a6113.Regs.c3, .int .i64 a6113.Regs.c4, .int .i64 a6113.Regs.c5, .int .i64 a6113.Regs.c6, .int .i64 a6113.Regs.c7, .int .i64 a6113.Draws, .int .i64 a6113.Sent]) Tryd.isAgg29 Tryd.sizeOf29 rfl rfl (hS.cellsAt 3 rfl rfl)) rfl ?_
  refine RL.s (Vl.loadA (vs := [.int .i64 a6114.Key.Time, .int .i64 a6114.Key.From, .int .i64 a6114.Key.Seq, .int .i64 a6114.To, .int .i64 a6114.Value, .int .i64 a6114.Uid, .bool a6114.Anti]) Tryd.isAgg33 Tryd.sizeOf33 rfl rfl (hS.cellsAt 2 rfl rfl)) rfl ?_
  obtain ⟨t7362, hg7363, h⟩ := h.bind
  obtain ⟨y7364, y7365, y7366⟩ := t7362
  refine RL.e (OW.callF (ls := [.tmp 22, .tmp 23, .tmp 24]) rfl Tryd.call12 (isochronref05vRun.ok a6106 a6113 a6114 A6107 c6108 A6110 c6111 hr6109 hr6112 _ hg7363 hS)) rfl rfl ?_
  rintro _ w ⟨A7367, c7368, rfl, hS⟩
  have hS : St B w (OSf E_api_Out 58 (.slice A7367 y7365.length c7368) y7365 :: Cl b7361 [.int .i64 y7354.Regs.c0, .int .i64 y7354.Regs.c1, .int .i64 y7354.Regs.c2, .int .i64 y7354.Regs.c3, .int .i64 y7354.Regs.c4, .int .i64 y7354.Regs.c5, .int .i64 y7354.Regs.c6, .int .i64 y7354.Regs.c7, .int .i64 y7354.Draws, .int .i64 y7354.Sent] 29 :: OSf E_api_Out 58 (.slice A7357 y7355.length c7358) y7355 :: Cl b7351 [.int .i64 a6114.Key.Time, .int .i64 a6114.Key.From, .int .i64 a6114.Key.Seq, .int .i64 a6114.To, .int .i64 a6114.Value, .int .i64 a6114.Uid, .bool a6114.Anti] 33 :: Cl b7349 [.int .i64 a6113.Regs.c0, .int .i64 a6113.Regs.c1, .int .i64 a6113.Regs.c2, .int .i64 a6113.Regs.c3, .int .i64 a6113.Regs.c4, .int .i64 a6113.Regs.c5, .int .i64 a6113.Regs.c6, .int .i64 a6113.Regs.c7, .int .i64 a6113.Draws, .int .i64 a6113.Sent] 29 :: Cl b7347 [.slice A6107 a6106.Prog.length c6108, .int .i64 a6106.Self, .slice A6110 a6106.Links.length c6111, .int .u64 a6106.Seed] 26 :: l) hf := hS
  refine RL.s (Vl.move rfl) rfl ?_
  refine RL.s (Vl.extract rfl rfl) rfl ?_
  refine RL.s (Vl.extract rfl rfl) rfl ?_
  refine RL.s (Vl.extract rfl rfl) rfl ?_
  refine RL.e (OW.alloc (cs := [.int .i64 0, .int .i64 0, .int .i64 0, .int .i64 0, .int .i64 0, .int .i64 0, .int .i64 0, .int .i64 0, .int .i64 0, .int .i64 0]) hS Tryd.zeroValue29 rfl) rfl rfl ?_
  rintro _ w ⟨b7371, rfl, hS⟩
  have hS : St B w (Cl b7371 [.int .i64 0, .int .i64 0, .int .i64 0, .int .i64 0, .int .i64 0, .int .i64 0, .int .i64 0, .int .i64 0, .int .i64 0, .int .i64 0] 29 :: OSf E_api_Out 58 (.slice A7367 y7365.length c7368) y7365 :: Cl b7361 [.int .i64 y7354.Regs.c0, .int .i64 y7354.Regs.c1, .int .i64 y7354.Regs.c2, .int .i64 y7354.Regs.c3, .int .i64 y7354.Regs.c4, .int .i64 y7354.Regs.c5, .int .i64 y7354.Regs.c6, .int .i64 y7354.Regs.c7, .int .i64 y7354.Draws, .int .i64 y7354.Sent] 29 :: OSf E_api_Out 58 (.slice A7357 y7355.length c7358) y7355 :: Cl b7351 [.int .i64 a6114.Key.Time, .int .i64 a6114.Key.From, .int .i64 a6114.Key.Seq, .int .i64 a6114.To, .int .i64 a6114.Value, .int .i64 a6114.Uid, .bool a6114.Anti] 33 :: Cl b7349 [.int .i64 a6113.Regs.c0, .int .i64 a6113.Regs.c1, .int .i64 a6113.Regs.c2, .int .i64 a6113.Regs.c3, .int .i64 a6113.Regs.c4, .int .i64 a6113.Regs.c5, .int .i64 a6113.Regs.c6, .int .i64 a6113.Regs.c7, .int .i64 a6113.Draws, .int .i64 a6113.Sent] 29 :: Cl b7347 [.slice A6107 a6106.Prog.length c6108, .int .i64 a6106.Self, .slice A6110 a6106.Links.length c6111, .int .u64 a6106.Seed] 26 :: l) hf := hS
  refine RL.e0 (OW.store (cs := [.int .i64 0, .int .i64 0, .int .i64 0, .int .i64 0, .int .i64 0, .int .i64 0, .int .i64 0, .int .i64 0, .int .i64 0, .int .i64 0]) (vs := [.int .i64 y7364.Regs.c0, .int .i64 y7364.Regs.c1, .int .i64 y7364.Regs.c2, .int .i64 y7364.Regs.c3, .int .i64 y7364.Regs.c4, .int .i64 y7364.Regs.c5, .int .i64 y7364.Regs.c6, .int .i64 y7364.Regs.c7, .int .i64 y7364.Draws, .int .i64 y7364.Sent]) (l' := Cl b7371 [.int .i64 y7364.Regs.c0, .int .i64 y7364.Regs.c1, .int .i64 y7364.Regs.c2, .int .i64 y7364.Regs.c3, .int .i64 y7364.Regs.c4, .int .i64 y7364.Regs.c5, .int .i64 y7364.Regs.c6, .int .i64 y7364.Regs.c7, .int .i64 y7364.Draws, .int .i64 y7364.Sent] 29 :: OSf E_api_Out 58 (.slice A7367 y7365.length c7368) y7365 :: Cl b7361 [.int .i64 y7354.Regs.c0, .int .i64 y7354.Regs.c1, .int .i64 y7354.Regs.c2, .int .i64 y7354.Regs.c3, .int .i64 y7354.Regs.c4, .int .i64 y7354.Regs.c5, .int .i64 y7354.Regs.c6, .int .i64 y7354.Regs.c7, .int .i64 y7354.Draws, .int .i64 y7354.Sent] 29 :: OSf E_api_Out 58 (.slice A7357 y7355.length c7358) y7355 :: Cl b7351 [.int .i64 a6114.Key.Time, .int .i64 a6114.Key.From, .int .i64 a6114.Key.Seq, .int .i64 a6114.To, .int .i64 a6114.Value, .int .i64 a6114.Uid, .bool a6114.Anti] 33 :: Cl b7349 [.int .i64 a6113.Regs.c0, .int .i64 a6113.Regs.c1, .int .i64 a6113.Regs.c2, .int .i64 a6113.Regs.c3, .int .i64 a6113.Regs.c4, .int .i64 a6113.Regs.c5, .int .i64 a6113.Regs.c6, .int .i64 a6113.Regs.c7, .int .i64 a6113.Draws, .int .i64 a6113.Sent] 29 :: Cl b7347 [.slice A6107 a6106.Prog.length c6108, .int .i64 a6106.Self, .slice A6110 a6106.Links.length c6111, .int .u64 a6106.Seed] 26 :: l) 0 hS rfl rfl rfl rfl Tryd.sizeOf29 rfl rfl rfl rfl) rfl ?_
  rintro _ w ⟨rfl, hS⟩
  have hS : St B w (Cl b7371 [.int .i64 y7364.Regs.c0, .int .i64 y7364.Regs.c1, .int .i64 y7364.Regs.c2, .int .i64 y7364.Regs.c3, .int .i64 y7364.Regs.c4, .int .i64 y7364.Regs.c5, .int .i64 y7364.Regs.c6, .int .i64 y7364.Regs.c7, .int .i64 y7364.Draws, .int .i64 y7364.Sent] 29 :: OSf E_api_Out 58 (.slice A7367 y7365.length c7368) y7365 :: Cl b7361 [.int .i64 y7354.Regs.c0, .int .i64 y7354.Regs.c1, .int .i64 y7354.Regs.c2, .int .i64 y7354.Regs.c3, .int .i64 y7354.Regs.c4, .int .i64 y7354.Regs.c5, .int .i64 y7354.Regs.c6, .int .i64 y7354.Regs.c7, .int .i64 y7354.Draws, .int .i64 y7354.Sent] 29 :: OSf E_api_Out 58 (.slice A7357 y7355.length c7358) y7355 :: Cl b7351 [.int .i64 a6114.Key.Time, .int .i64 a6114.Key.From, .int .i64 a6114.Key.Seq, .int .i64 a6114.To, .int .i64 a6114.Value, .int .i64 a6114.Uid, .bool a6114.Anti] 33 :: Cl b7349 [.int .i64 a6113.Regs.c0, .int .i64 a6113.Regs.c1, .int .i64 a6113.Regs.c2, .int .i64 a6113.Regs.c3, .int .i64 a6113.Regs.c4, .int .i64 a6113.Regs.c5, .int .i64 a6113.Regs.c6, .int .i64 a6113.Regs.c7, .int .i64 a6113.Draws, .int .i64 a6113.Sent] 29 :: Cl b7347 [.slice A6107 a6106.Prog.length c6108, .int .i64 a6106.Self, .slice A6110 a6106.Links.length c6111, .int .u64 a6106.Seed] 26 :: l) hf := hS
  refine RL.s (Vl.assign rfl) rfl ?_
  refine RL.s (Vl.assign rfl) rfl ?_
  refine RL.nil ?_
  refine RQ.then_n ?_
  refine RC.seq ?_
  refine RC.region ?_
  refine RL.s (Vl.loadA (vs := [.int .i64 y7354.Regs.c0, .int .i64 y7354.Regs.c1, .int .i64 y7354.Regs.c2, .int .i64 y7354.Regs.c3, .int .i64 y7354.Regs.c4, .int .i64 y7354.Regs.c5, .int .i64 y7354.Regs.c6, .int .i64 y7354.Regs.c7, .int .i64 y7354.Draws, .int .i64 y7354.Sent]) Tryd.isAgg29 Tryd.sizeOf29 rfl rfl (hS.cellsAt 2 rfl rfl)) rfl ?_
  refine RL.s (Vl.loadA (vs := [.int .i64 y7364.Regs.c0, .int .i64 y7364.Regs.c1, .int .i64 y7364.Regs.c2, .int .i64 y7364.Regs.c3, .int .i64 y7364.Regs.c4, .int .i64 y7364.Regs.c5, .int .i64 y7364.Regs.c6, .int .i64 y7364.Regs.c7, .int .i64 y7364.Draws, .int .i64 y7364.Sent]) Tryd.isAgg29 Tryd.sizeOf29 rfl rfl (hS.cellsAt 0 rfl rfl)) rfl ?_
  refine RL.s (Vl.eqlS (run_eql_api_State _ _ y7354 y7364) rfl rfl) rfl ?_
  refine RL.s (Vl.move rfl) rfl ?_
  by_cases hc7372 : y7354 = y7364
  case pos =>
   have h := h.pos hc7372
   refine RL.re 32 rfl (congrArg Value.bool (decide_eq_true hc7372)) ?_
   refine RL.sg (Vl.move rfl) rfl rfl ?_
   refine RL.sg (Vl.move rfl) rfl rfl ?_
   obtain ⟨hf7376, hs7374, hS, hr7373, hb7375⟩ := St.lendSl (((((((hS.pull 6 rfl rfl).pull 6 rfl rfl).pull 6 rfl rfl).pull 5 rfl rfl).pull 4 rfl rfl).pull 5 rfl rfl).pull 6 rfl rfl)
   obtain ⟨hf7380, hs7378, hS, hr7377, hb7379⟩ := St.lendSl hS
   obtain ⟨t7381, hg7382, h⟩ := h.bind
   refine RL.e (OW.callF (ls := [.tmp 33, .tmp 34]) rfl Tryd.call13 (isochronlaw05vouts.ok y7355 y7365 A7357 c7358 A7367 c7368 (hr7373.mono hs7378) hr7377 _ hg7382 hS)) rfl rfl ?_
   rintro _ w ⟨rfl, hS⟩
   have hS := hb7379 _ _ hS
   have hS := hb7375 _ _ hS
   have hS : St B w (OSf E_api_Out 58 (.slice A7357 y7355.length c7358) y7355 :: OSf E_api_Out 58 (.slice A7367 y7365.length c7368) y7365 :: Cl b7371 [.int .i64 y7364.Regs.c0, .int .i64 y7364.Regs.c1, .int .i64 y7364.Regs.c2, .int .i64 y7364.Regs.c3, .int .i64 y7364.Regs.c4, .int .i64 y7364.Regs.c5, .int .i64 y7364.Regs.c6, .int .i64 y7364.Regs.c7, .int .i64 y7364.Draws, .int .i64 y7364.Sent] 29 :: Cl b7361 [.int .i64 y7354.Regs.c0, .int .i64 y7354.Regs.c1, .int .i64 y7354.Regs.c2, .int .i64 y7354.Regs.c3, .int .i64 y7354.Regs.c4, .int .i64 y7354.Regs.c5, .int .i64 y7354.Regs.c6, .int .i64 y7354.Regs.c7, .int .i64 y7354.Draws, .int .i64 y7354.Sent] 29 :: Cl b7351 [.int .i64 a6114.Key.Time, .int .i64 a6114.Key.From, .int .i64 a6114.Key.Seq, .int .i64 a6114.To, .int .i64 a6114.Value, .int .i64 a6114.Uid, .bool a6114.Anti] 33 :: Cl b7349 [.int .i64 a6113.Regs.c0, .int .i64 a6113.Regs.c1, .int .i64 a6113.Regs.c2, .int .i64 a6113.Regs.c3, .int .i64 a6113.Regs.c4, .int .i64 a6113.Regs.c5, .int .i64 a6113.Regs.c6, .int .i64 a6113.Regs.c7, .int .i64 a6113.Draws, .int .i64 a6113.Sent] 29 :: Cl b7347 [.slice A6107 a6106.Prog.length c6108, .int .i64 a6106.Self, .slice A6110 a6106.Links.length c6111, .int .u64 a6106.Seed] 26 :: l) hf := hS
   refine RL.s (Vl.pickT rfl rfl) rfl ?_
   refine RL.s (Vl.move rfl) rfl ?_
   by_cases hc7383 : t7381 = true
   case pos =>
    have h := h.pos hc7383
    refine RL.re 37 rfl (congrArg Value.bool (id hc7383)) ?_
    refine RL.sg (Vl.move rfl) rfl rfl ?_
    refine RL.sg (Vl.move rfl) rfl rfl ?_
    refine RL.sg (Vl.int rfl rfl rfl) rfl rfl ?_
    refine RL.s (Vl.pickT rfl rfl) rfl ?_
    refine RL.s (Vl.move rfl) rfl ?_
    by_cases hc7384 : y7356 = y7366
    case pos =>
     have h := h.pos hc7384
     refine RL.re 42 rfl (congrArg Value.bool (decide_eq_true hc7384)) ?_
     obtain ⟨t7385, hg7386, h⟩ := h.bind
     refine RL.e (OW.callF (ls := []) rfl Tryd.call14 (isochronlaw05vawake.ok hG0 _ hg7386 hS)) rfl rfl ?_
     rintro _ w ⟨rfl, hS⟩
     have hS : St B w (OSf E_api_Out 58 (.slice A7357 y7355.length c7358) y7355 :: OSf E_api_Out 58 (.slice A7367 y7365.length c7368) y7365 :: Cl b7371 [.int .i64 y7364.Regs.c0, .int .i64 y7364.Regs.c1, .int .i64 y7364.Regs.c2, .int .i64 y7364.Regs.c3, .int .i64 y7364.Regs.c4, .int .i64 y7364.Regs.c5, .int .i64 y7364.Regs.c6, .int .i64 y7364.Regs.c7, .int .i64 y7364.Draws, .int .i64 y7364.Sent] 29 :: Cl b7361 [.int .i64 y7354.Regs.c0, .int .i64 y7354.Regs.c1, .int .i64 y7354.Regs.c2, .int .i64 y7354.Regs.c3, .int .i64 y7354.Regs.c4, .int .i64 y7354.Regs.c5, .int .i64 y7354.Regs.c6, .int .i64 y7354.Regs.c7, .int .i64 y7354.Draws, .int .i64 y7354.Sent] 29 :: Cl b7351 [.int .i64 a6114.Key.Time, .int .i64 a6114.Key.From, .int .i64 a6114.Key.Seq, .int .i64 a6114.To, .int .i64 a6114.Value, .int .i64 a6114.Uid, .bool a6114.Anti] 33 :: Cl b7349 [.int .i64 a6113.Regs.c0, .int .i64 a6113.Regs.c1, .int .i64 a6113.Regs.c2, .int .i64 a6113.Regs.c3, .int .i64 a6113.Regs.c4, .int .i64 a6113.Regs.c5, .int .i64 a6113.Regs.c6, .int .i64 a6113.Regs.c7, .int .i64 a6113.Draws, .int .i64 a6113.Sent] 29 :: Cl b7347 [.slice A6107 a6106.Prog.length c6108, .int .i64 a6106.Self, .slice A6110 a6106.Links.length c6111, .int .u64 a6106.Seed] 26 :: l) hf := hS
     refine RL.s (Vl.pickT rfl rfl) rfl ?_
     refine RL.s (Vl.assign rfl) rfl ?_
     refine RL.nil ?_
     refine RQ.then_n ?_
     refine RC.ret ?_
     have e := h.some
     subst e
     refine RQ.ret0 (vs := [.bool t7385]) Tryd.results3 ⟨rfl, trivial⟩ ?_
     exact ⟨rfl, (((((((hS.dropAt 0 rfl).dropAt 0 rfl).dropAt 0 rfl).dropAt 0 rfl).dropAt 0 rfl).dropAt 0 rfl).dropAt 0 rfl)⟩
    case neg =>
     have h := h.neg hc7384
     refine RL.re 42 rfl (congrArg Value.bool (decide_eq_false hc7384)) ?_
     refine RL.nn rfl rfl ?_
     refine RL.s (Vl.pickF rfl rfl) rfl ?_
     refine RL.s (Vl.assign rfl) rfl ?_
     refine RL.nil ?_
     refine RQ.then_n ?_
     refine RC.ret ?_
     have e := h.some
     subst e
     refine RQ.ret0 (vs := [.bool false]) Tryd.results3 ⟨rfl, trivial⟩ ?_
     exact ⟨rfl, (((((((hS.dropAt 0 rfl).dropAt 0 rfl).dropAt 0 rfl).dropAt 0 rfl).dropAt 0 rfl).dropAt 0 rfl).dropAt 0 rfl)⟩
   case neg =>
    have h := h.neg hc7383
    refine RL.re 37 rfl (congrArg Value.bool (eq_false_of hc7383)) ?_
    refine RL.nn rfl rfl ?_
    refine RL.nn rfl rfl ?_
    refine RL.nn rfl rfl ?_
    refine RL.s (Vl.pickF rfl rfl) rfl ?_
    refine RL.s (Vl.move rfl) rfl ?_
    refine RL.nn rfl rfl ?_
    refine RL.s (Vl.pickF rfl rfl) rfl ?_
    refine RL.s (Vl.assign rfl) rfl ?_
    refine RL.nil ?_
    refine RQ.then_n ?_
    refine RC.ret ?_
    have e := h.some
    subst e
    refine RQ.ret0 (vs := [.bool false]) Tryd.results3 ⟨rfl, trivial⟩ ?_
    exact ⟨rfl, (((((((hS.dropAt 0 rfl).dropAt 0 rfl).dropAt 0 rfl).dropAt 0 rfl).dropAt 0 rfl).dropAt 0 rfl).dropAt 0 rfl)⟩
  case neg =>
   have h := h.neg hc7372
   refine RL.re 32 rfl (congrArg Value.bool (decide_eq_false hc7372)) ?_
   refine RL.nn rfl rfl ?_
   refine RL.nn rfl rfl ?_
   refine RL.nn rfl rfl ?_
   refine RL.s (Vl.pickF rfl rfl) rfl ?_
   refine RL.s (Vl.move rfl) rfl ?_
   refine RL.nn rfl rfl ?_
   refine RL.nn rfl rfl ?_
   refine RL.nn rfl rfl ?_
   refine RL.s (Vl.pickF rfl rfl) rfl ?_
   refine RL.s (Vl.move rfl) rfl ?_
   refine RL.nn rfl rfl ?_
   refine RL.s (Vl.pickF rfl rfl) rfl ?_
   refine RL.s (Vl.assign rfl) rfl ?_
   refine RL.nil ?_
   refine RQ.then_n ?_
   refine RC.ret ?_
   have e := h.some
   subst e
   refine RQ.ret0 (vs := [.bool false]) Tryd.results3 ⟨rfl, trivial⟩ ?_
   exact ⟨rfl, (((((((hS.dropAt 0 rfl).dropAt 0 rfl).dropAt 0 rfl).dropAt 0 rfl).dropAt 0 rfl).dropAt 0 rfl).dropAt 0 rfl)⟩

end Go.Proofs.Gx
