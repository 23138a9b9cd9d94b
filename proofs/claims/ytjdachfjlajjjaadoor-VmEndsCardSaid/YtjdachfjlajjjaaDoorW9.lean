/-
  The walks of functions, each with what it computes: printed by wip/gx.py.
-/
import Derived.Test.YtjdachfjlajjjaaDoorW0
import Derived.Test.YtjdachfjlajjjaaDoorW4
set_option linter.unusedVariables false
namespace Go.Proofs.Gx
open Go.Sl
/-! ### isochron/isochronlaw05.VmEnds: function 6 -/
noncomputable def isochronlaw05vVmEnds.l4b (a3968 : Int) : List api_Instr × Int → Option ((List api_Instr × Int) ⊕ (Bool))
  | (l4209, x4213) => (if x4213 < IntKind.i64.wrap ((IntKind.i64.wrap (Int.tmod a3968 20)) + 1) then (if (l4209.length + 1) * 32 ≤ 140737488355328 then some (.inl ((l4209 ++ ([(⟨3, 0, 0, 8⟩ : api_Instr)])), IntKind.i64.wrap (x4213 + 1))) else none) else (Option.map Sum.inr (if (l4209.length + 1) * 32 ≤ 140737488355328 then ((vm_Run.f (⟨(l4209 ++ ([(⟨10, 1, 0, 0⟩ : api_Instr)])), 0, [], 0⟩ : api_World) (⟨(⟨0, 0, 0, 0, 0, 0, 0, 0⟩ : Arr8xInti64), 0, 0⟩ : api_State) (⟨(⟨0, 0, 0⟩ : api_Key), 0, 0, 0, false⟩ : api_Message)).bind fun (y4265, y4266, y4267) => (if y4267 = 0 then (if ¬ (IntKind.i64.wrap ((IntKind.i64.wrap ((IntKind.i64.wrap (Int.tmod a3968 20)) + 1)) + 1)) = 0 then some (decide (y4265.Regs.c0 = IntKind.i64.wrap ((IntKind.i64.wrap ((IntKind.i64.wrap (Int.tdiv 4095 (IntKind.i64.wrap ((IntKind.i64.wrap ((IntKind.i64.wrap (Int.tmod a3968 20)) + 1)) + 1)))) * (IntKind.i64.wrap ((IntKind.i64.wrap (Int.tmod a3968 20)) + 1)))) + (if IntKind.i64.wrap ((IntKind.i64.wrap (Int.tmod a3968 20)) + 1) < Int.tmod 4095 (IntKind.i64.wrap ((IntKind.i64.wrap ((IntKind.i64.wrap (Int.tmod a3968 20)) + 1)) + 1)) then IntKind.i64.wrap ((IntKind.i64.wrap (Int.tmod a3968 20)) + 1) else Int.tmod 4095 (IntKind.i64.wrap ((IntKind.i64.wrap ((IntKind.i64.wrap (Int.tmod a3968 20)) + 1)) + 1)))))) else none) else some false)) else none)))
noncomputable def isochronlaw05vVmEnds.l4 (a3968 : Int) (s : List api_Instr × Int) : Option (Bool) := loopR (isochronlaw05vVmEnds.l4b a3968) s
noncomputable def isochronlaw05vVmEnds.f (a3968 : Int) : Option (Bool) := isochronlaw05vVmEnds.l4 a3968 ([(⟨1, 8, 1, 0⟩ : api_Instr)], 0)
set_option maxRecDepth 100000 in
set_option maxHeartbeats 4000000 in
theorem isochronlaw05vVmEnds.ok {B : Base} {w : World} {l : List HProp} {hf : Hp} (a3968 : Int) (hG0 : GlobAt hf 0 (.iface 118 (.agg #[.pointer (some ⟨1, 71, none⟩)]))) (r : Bool) (h : isochronlaw05vVmEnds.f a3968 = some r) (hS : St B w (l) hf) :
    Calls Tryd.prog 6 #[.int .u8 a3968] w (Ret fun v w => v = .bool r ∧ St B w (l) hf) := by
  have h := Holds.of h
  refine enter (args := [.int .u8 a3968]) Tryd.func6 rfl Tryd.ntmps6 (Nat.le_of_ble_eq_true rfl) ?_
  refine RC.seq ?_
  refine RC.region ?_
  refine RL.s (Vl.assign rfl) rfl ?_
  refine RL.nil ?_
  refine RQ.then_n ?_
  refine RC.seq ?_
  refine RC.region ?_
  refine RL.s (Vl.move rfl) rfl ?_
  refine RL.s (Vl.rem rfl rfl (by decide)) rfl ?_
  refine RL.s (Vl.conv Tryd.underlying5 Tryd.underlying3 rfl) rfl ?_
  refine RL.s (Vl.int rfl rfl rfl) rfl ?_
  refine RL.s (Vl.assign rfl) rfl ?_
  refine RL.nil ?_
  refine RQ.then_n ?_
  refine RC.seq ?_
  refine RC.region ?_
  refine RL.s (Vl.build (v := .agg #[.int .i64 1, .int .i64 8, .int .i64 1, .int .i64 0]) (parts := [(0, .const (.int .i64 1)), (1, .const (.int .i64 8)), (2, .const (.int .i64 1))]) rfl (by kernel_rfl)) rfl ?_
  refine RL.e (OW.buildSlice (E := E_api_Instr) (xs := [(⟨1, 8, 1, 0⟩ : api_Instr)]) (cs := [.int .i64 1, .int .i64 8, .int .i64 1, .int .i64 0]) hS Tryd.underlying22 Tryd.zeroValue48 Tryd.sizeOf48 (parts := [(0, .tmp 14)]) rfl rfl (by decide) (by decide) (by kernel_rfl) rfl) rfl rfl ?_
  rintro _ w ⟨b4123, rfl, hS⟩
  have hS : St B w (OSf E_api_Instr 48 (.slice (some ⟨b4123, 0, none⟩) ([(⟨1, 8, 1, 0⟩ : api_Instr)]).length 1) ([(⟨1, 8, 1, 0⟩ : api_Instr)]) :: l) hf := hS
  refine RL.s (Vl.assign rfl) rfl ?_
  refine RL.nil ?_
  refine RQ.then_n ?_
  refine RC.seq ?_
  refine RC.seq ?_
  refine RC.region ?_
  refine RL.s (Vl.assign rfl) rfl ?_
  refine RL.nil ?_
  refine RQ.then_n ?_
  refine RC.block ?_
  refine fun a ha => RC.loop (N := 59) (body := (isochronlaw05vVmEnds.l4b a3968)) (φ := (· = r)) (fun (s : List api_Instr × Int) a w => ∃ (l4209 : List api_Instr) (x4213 : Int), s = (l4209, x4213) ∧ ∃ (A4210 : Option Addr) (c4211 : Nat), Has 59 [(3, .int .i64 (IntKind.i64.wrap ((IntKind.i64.wrap (Int.tmod a3968 20)) + 1))), (4, .slice A4210 l4209.length c4211), (5, .int .i64 x4213)] a ∧ St B w (OSf E_api_Instr 48 (.slice A4210 l4209.length c4211) l4209 :: l) hf) ?_ (s0 := ([(⟨1, 8, 1, 0⟩ : api_Instr)], 0)) h ⟨([(⟨1, 8, 1, 0⟩ : api_Instr)]), 0, rfl, (some ⟨b4123, 0, none⟩), 1, ha.to ⟨rfl, rfl, rfl, trivial⟩, hS⟩
  rintro G4235 _ a w ⟨l4209, x4213, rfl, A4210, c4211, ha, hS⟩ h
  revert a
  show RC _ _ _ _ _ _
  refine RC.seq ?_
  refine RC.seq ?_
  refine RC.region ?_
  refine RL.s (Vl.move rfl) rfl ?_
  refine RL.s (Vl.move rfl) rfl ?_
  refine RL.s (Vl.int rfl rfl rfl) rfl ?_
  refine RL.nil ?_
  refine RQ.then_n ?_
  by_cases hc4237 : x4213 < IntKind.i64.wrap ((IntKind.i64.wrap (Int.tmod a3968 20)) + 1)
  case pos =>
   have h := h.pos hc4237
   refine RC.re 18 rfl (congrArg Value.bool (decide_eq_true hc4237)) ?_
   refine RC.condT rfl ?_
   refine RC.skip ?_
   refine RQ.then_n ?_
   refine RC.seq ?_
   refine RC.block ?_
   refine RC.region ?_
   refine RL.s (Vl.move rfl) rfl ?_
   refine RL.s (Vl.build (v := .agg #[.int .i64 3, .int .i64 0, .int .i64 0, .int .i64 8]) (parts := [(0, .const (.int .i64 3)), (1, .const (.int .i64 0)), (2, .const (.int .i64 0)), (3, .const (.int .i64 8))]) rfl (by kernel_rfl)) rfl ?_
   refine RL.e (OW.buildSlice (E := E_api_Instr) (xs := [(⟨3, 0, 0, 8⟩ : api_Instr)]) (cs := [.int .i64 3, .int .i64 0, .int .i64 0, .int .i64 8]) hS Tryd.underlying22 Tryd.zeroValue48 Tryd.sizeOf48 (parts := [(0, .tmp 22)]) rfl rfl (by decide) (by decide) (by kernel_rfl) rfl) rfl rfl ?_
   rintro _ w ⟨b4246, rfl, hS⟩
   have hS : St B w (OSf E_api_Instr 48 (.slice (some ⟨b4246, 0, none⟩) ([(⟨3, 0, 0, 8⟩ : api_Instr)]).length 1) ([(⟨3, 0, 0, 8⟩ : api_Instr)]) :: OSf E_api_Instr 48 (.slice A4210 l4209.length c4211) l4209 :: l) hf := hS
   obtain ⟨hq4247, h⟩ := h.req
   refine RL.e (OW.append (E := E_api_Instr) (xs := l4209) (ys := [(⟨3, 0, 0, 8⟩ : api_Instr)]) 1 hS rfl Tryd.underlying22 Tryd.type48 rfl rfl rfl rfl (by decide) rfl rfl rfl (hS.slW 0 rfl).2.2.flat (by simp only [maxLen, List.length_cons, List.length_nil] at *; omega) hq4247 rfl) rfl rfl ?_
   rintro v4251 w hS
   obtain ⟨A4248, c4249, rfl, _⟩ := hS.osShape 0 rfl
   have hS : St B w (OSf E_api_Instr 48 (.slice A4248 (l4209 ++ ([(⟨3, 0, 0, 8⟩ : api_Instr)])).length c4249) (l4209 ++ ([(⟨3, 0, 0, 8⟩ : api_Instr)])) :: OSf E_api_Instr 48 (.slice (some ⟨b4246, 0, none⟩) ([(⟨3, 0, 0, 8⟩ : api_Instr)]).length 1) ([(⟨3, 0, 0, 8⟩ : api_Instr)]) :: l) hf := hS
   refine RL.s (Vl.assign rfl) rfl ?_
   refine RL.nil ?_
   refine RQ.inB_n ?_
   refine RQ.then_n ?_
   refine RC.region ?_
   refine RL.s (Vl.move rfl) rfl ?_
   refine RL.s (Vl.int rfl rfl rfl) rfl ?_
   refine RL.s (Vl.assign rfl) rfl ?_
   refine RL.nil ?_
   exact fun a ha => ⟨((l4209 ++ ([(⟨3, 0, 0, 8⟩ : api_Instr)])), IntKind.i64.wrap (x4213 + 1)), ⟨(l4209 ++ ([(⟨3, 0, 0, 8⟩ : api_Instr)])), (IntKind.i64.wrap (x4213 + 1)), rfl, A4248, c4249, ha.to ⟨rfl, rfl, rfl, trivial⟩, (hS.dropAt 1 rfl)⟩, h.some⟩
  case neg =>
   have h := h.neg hc4237
   refine RC.re 18 rfl (congrArg Value.bool (decide_eq_false hc4237)) ?_
   refine RC.condF rfl ?_
   refine RC.exit ?_
   refine RQ.exitT ?_
   have h := h.inr
   refine RQ.exitT ?_
   refine RQ.inB_hit ?_
   refine RQ.then_n ?_
   refine RC.seq ?_
   refine RC.region ?_
   refine RL.s (Vl.move rfl) rfl ?_
   refine RL.s (Vl.build (v := .agg #[.int .i64 10, .int .i64 1, .int .i64 0, .int .i64 0]) (parts := [(0, .const (.int .i64 10)), (1, .const (.int .i64 1))]) rfl (by kernel_rfl)) rfl ?_
   refine RL.e (OW.buildSlice (E := E_api_Instr) (xs := [(⟨10, 1, 0, 0⟩ : api_Instr)]) (cs := [.int .i64 10, .int .i64 1, .int .i64 0, .int .i64 0]) hS Tryd.underlying22 Tryd.zeroValue48 Tryd.sizeOf48 (parts := [(0, .tmp 26)]) rfl rfl (by decide) (by decide) (by kernel_rfl) rfl) rfl rfl ?_
   rintro _ w ⟨b4253, rfl, hS⟩
   have hS : St B w (OSf E_api_Instr 48 (.slice (some ⟨b4253, 0, none⟩) ([(⟨10, 1, 0, 0⟩ : api_Instr)]).length 1) ([(⟨10, 1, 0, 0⟩ : api_Instr)]) :: OSf E_api_Instr 48 (.slice A4210 l4209.length c4211) l4209 :: l) hf := hS
   obtain ⟨hq4254, h⟩ := h.req
   refine RL.e (OW.append (E := E_api_Instr) (xs := l4209) (ys := [(⟨10, 1, 0, 0⟩ : api_Instr)]) 1 hS rfl Tryd.underlying22 Tryd.type48 rfl rfl rfl rfl (by decide) rfl rfl rfl (hS.slW 0 rfl).2.2.flat (by simp only [maxLen, List.length_cons, List.length_nil] at *; omega) hq4254 rfl) rfl rfl ?_
   rintro v4258 w hS
   obtain ⟨A4255, c4256, rfl, _⟩ := hS.osShape 0 rfl
   have hS : St B w (OSf E_api_Instr 48 (.slice A4255 (l4209 ++ ([(⟨10, 1, 0, 0⟩ : api_Instr)])).length c4256) (l4209 ++ ([(⟨10, 1, 0, 0⟩ : api_Instr)])) :: OSf E_api_Instr 48 (.slice (some ⟨b4253, 0, none⟩) ([(⟨10, 1, 0, 0⟩ : api_Instr)]).length 1) ([(⟨10, 1, 0, 0⟩ : api_Instr)]) :: l) hf := hS
   refine RL.s (Vl.assign rfl) rfl ?_
   refine RL.nil ?_
   refine RQ.then_n ?_
   refine RC.seq ?_
   refine RC.region ?_
   refine RL.s (Vl.move rfl) rfl ?_
   refine RL.s (Vl.build (v := .agg #[.slice A4255 (l4209 ++ ([(⟨10, 1, 0, 0⟩ : api_Instr)])).length c4256, .int .i64 0, .slice none 0 0, .int .u64 0]) (parts := [(0, .tmp 30)]) rfl (by kernel_rfl)) rfl ?_
   refine RL.s (Vl.build (v := .agg #[.int .i64 0, .int .i64 0, .int .i64 0, .int .i64 0, .int .i64 0, .int .i64 0, .int .i64 0, .int .i64 0, .int .i64 0, .int .i64 0]) (parts := []) rfl (by kernel_rfl)) rfl ?_
   refine RL.s (Vl.build (v := .agg #[.int .i64 0, .int .i64 0, .int .i64 0, .int .i64 0, .int .i64 0, .int .i64 0, .bool false]) (parts := []) rfl (by kernel_rfl)) rfl ?_
   obtain ⟨hf4262, hs4260, hS, hr4259, hb4261⟩ := St.lendSl hS
   obtain ⟨t4263, hg4264, h⟩ := h.bind
   obtain ⟨y4265, y4266, y4267⟩ := t4263
   refine RL.e (OW.callF (ls := [.tmp 31, .tmp 32, .tmp 33]) rfl Tryd.call11 (vm_Run.ok (⟨(l4209 ++ ([(⟨10, 1, 0, 0⟩ : api_Instr)])), 0, [], 0⟩ : api_World) (⟨(⟨0, 0, 0, 0, 0, 0, 0, 0⟩ : Arr8xInti64), 0, 0⟩ : api_State) (⟨(⟨0, 0, 0⟩ : api_Key), 0, 0, 0, false⟩ : api_Message) A4255 c4256 none 0 hr4259 SlR.nil (hG0.mono hs4260) _ hg4264 hS)) rfl rfl ?_
   rintro _ w ⟨A4268, c4269, rfl, hS⟩
   have hS := hb4261 _ _ hS
   have hS : St B w (OSf E_api_Instr 48 (.slice A4255 (l4209 ++ ([(⟨10, 1, 0, 0⟩ : api_Instr)])).length c4256) (l4209 ++ ([(⟨10, 1, 0, 0⟩ : api_Instr)])) :: OSf E_api_Out 58 (.slice A4268 y4266.length c4269) y4266 :: OSf E_api_Instr 48 (.slice (some ⟨b4253, 0, none⟩) ([(⟨10, 1, 0, 0⟩ : api_Instr)]).length 1) ([(⟨10, 1, 0, 0⟩ : api_Instr)]) :: l) hf := hS
   refine RL.s (Vl.move rfl) rfl ?_
   refine RL.s (Vl.extract rfl rfl) rfl ?_
   refine RL.s (Vl.extract rfl rfl) rfl ?_
   refine RL.s (Vl.extract rfl rfl) rfl ?_
   refine RL.e (OW.alloc (cs := [.int .i64 0, .int .i64 0, .int .i64 0, .int .i64 0, .int .i64 0, .int .i64 0, .int .i64 0, .int .i64 0, .int .i64 0, .int .i64 0]) hS Tryd.zeroValue29 rfl) rfl rfl ?_
   rintro _ w ⟨b4272, rfl, hS⟩
   have hS : St B w (Cl b4272 [.int .i64 0, .int .i64 0, .int .i64 0, .int .i64 0, .int .i64 0, .int .i64 0, .int .i64 0, .int .i64 0, .int .i64 0, .int .i64 0] 29 :: OSf E_api_Instr 48 (.slice A4255 (l4209 ++ ([(⟨10, 1, 0, 0⟩ : api_Instr)])).length c4256) (l4209 ++ ([(⟨10, 1, 0, 0⟩ : api_Instr)])) :: OSf E_api_Out 58 (.slice A4268 y4266.length c4269) y4266 :: OSf E_api_Instr 48 (.slice (some ⟨b4253, 0, none⟩) ([(⟨10, 1, 0, 0⟩ : api_Instr)]).length 1) ([(⟨10, 1, 0, 0⟩ : api_Instr)]) :: l) hf := hS
   refine RL.e0 (OW.store (cs := [.int .i64 0, .int .i64 0, .int .i64 0, .int .i64 0, .int .i64 0, .int .i64 0, .int .i64 0, .int .i64 0, .int .i64 0, .int .i64 0]) (vs := [.int .i64 y4265.Regs.c0, .int .i64 y4265.Regs.c1, .int .i64 y4265.Regs.c2, .int .i64 y4265.Regs.c3, .int .i64 y4265.Regs.c4, .int .i64 y4265.Regs.c5, .int .i64 y4265.Regs.c6, .int .i64 y4265.Regs.c7, .int .i64 y4265.Draws, .int .i64 y4265.Sent]) (l' := Cl b4272 [.int .i64 y4265.Regs.c0, .int .i64 y4265.Regs.c1, .int .i64 y4265.Regs.c2, .int .i64 y4265.Regs.c3, .int .i64 y4265.Regs.c4, .int .i64 y4265.Regs.c5, .int .i64 y4265.Regs.c6, .int .i64 y4265.Regs.c7, .int .i64 y4265.Draws, .int .i64 y4265.Sent] 29 :: OSf E_api_Instr 48 (.slice A4255 (l4209 ++ ([(⟨10, 1, 0, 0⟩ : api_Instr)])).length c4256) (l4209 ++ ([(⟨10, 1, 0, 0⟩ : api_Instr)])) :: OSf E_api_Out 58 (.slice A4268 y4266.length c4269) y4266 :: OSf E_api_Instr 48 (.slice (some ⟨b4253, 0, none⟩) ([(⟨10, 1, 0, 0⟩ : api_Instr)]).length 1) ([(⟨10, 1, 0, 0⟩ : api_Instr)]) :: l) 0 hS rfl rfl rfl rfl Tryd.sizeOf29 rfl rfl rfl rfl) rfl ?_
   rintro _ w ⟨rfl, hS⟩
   have hS : St B w (Cl b4272 [.int .i64 y4265.Regs.c0, .int .i64 y4265.Regs.c1, .int .i64 y4265.Regs.c2, .int .i64 y4265.Regs.c3, .int .i64 y4265.Regs.c4, .int .i64 y4265.Regs.c5, .int .i64 y4265.Regs.c6, .int .i64 y4265.Regs.c7, .int .i64 y4265.Draws, .int .i64 y4265.Sent] 29 :: OSf E_api_Instr 48 (.slice A4255 (l4209 ++ ([(⟨10, 1, 0, 0⟩ : api_Instr)])).length c4256) (l4209 ++ ([(⟨10, 1, 0, 0⟩ : api_Instr)])) :: OSf E_api_Out 58 (.slice A4268 y4266.length c4269) y4266 :: OSf E_api_Instr 48 (.slice (some ⟨b4253, 0, none⟩) ([(⟨10, 1, 0, 0⟩ : api_Instr)]).length 1) ([(⟨10, 1, 0, 0⟩ : api_Instr)]) :: l) hf := hS
   refine RL.s (Vl.assign rfl) rfl ?_
   refine RL.s (Vl.assign rfl) rfl ?_
   refine RL.nil ?_
   refine RQ.then_n ?_
   refine RC.seq ?_
   refine RC.region ?_
   refine RL.s (Vl.assign rfl) rfl ?_
   refine RL.nil ?_
   refine RQ.then_n ?_
   refine RC.seq ?_
   refine RC.plan (.pure 0 (.pure 1 (.pure 2 (.pure 3 (.pure 4 (.cons 5 true (.pure 6 (.pure 7 (.pure 8 (.pure 9 (.pure 10 (.pure 11 (.pure 12 (.pure 13 (.pure 14 (.pure 15 (.cons 16 false (.cons 17 false (.cons 18 false (.cons 19 false (.cons 20 false (.cons 21 false .nil)))))))))))))))))))))) [21] (fun w => St B w (Cl b4272 [.int .i64 y4265.Regs.c0, .int .i64 y4265.Regs.c1, .int .i64 y4265.Regs.c2, .int .i64 y4265.Regs.c3, .int .i64 y4265.Regs.c4, .int .i64 y4265.Regs.c5, .int .i64 y4265.Regs.c6, .int .i64 y4265.Regs.c7, .int .i64 y4265.Draws, .int .i64 y4265.Sent] 29 :: OSf E_api_Instr 48 (.slice A4255 (l4209 ++ ([(⟨10, 1, 0, 0⟩ : api_Instr)])).length c4256) (l4209 ++ ([(⟨10, 1, 0, 0⟩ : api_Instr)])) :: OSf E_api_Out 58 (.slice A4268 y4266.length c4269) y4266 :: OSf E_api_Instr 48 (.slice (some ⟨b4253, 0, none⟩) ([(⟨10, 1, 0, 0⟩ : api_Instr)]).length 1) ([(⟨10, 1, 0, 0⟩ : api_Instr)]) :: l) hf) follows rfl (by kernel_rfl) (NoTmp.then NoTmp.body) ?_
   have hS := hS.same (w' := { w with drawn := w.drawn + 1 }) rfl rfl
   revert hS
   generalize { w with drawn := w.drawn + 1 } = w
   intro hS
   refine RP.s0 0 rfl (fun w => Vl.move rfl) rfl ?_
   refine RP.s0 1 rfl (fun w => Vl.int rfl rfl rfl) rfl ?_
   refine RP.s0 2 rfl (fun w => Vl.move rfl) rfl ?_
   by_cases hc4273 : y4267 = 0
   case pos =>
    have h := h.pos hc4273
    refine RP.re 40 rfl (congrArg Value.bool (decide_eq_true hc4273)) ?_
    refine RP.sg0 3 rfl (fun w => Vl.fieldAddr (a'' := ⟨b4272, 0, none⟩) Tryd.underlying29 rfl Tryd.sizeOf27 rfl rfl) rfl rfl ?_
    refine RP.sg0 4 rfl (fun w => Vl.indexAddrA (a'' := ⟨b4272, 0, none⟩) Tryd.underlying27 Tryd.sizeOf2 rfl rfl (by decide) (by decide) rfl) rfl rfl ?_
    refine RP.sg 5 rfl rfl hS (fun w hS => Vl.load Tryd.isAgg2 rfl (hS.cell 0 rfl rfl)) rfl rfl ?_
    refine RP.sg0 6 rfl (fun w => Vl.move rfl) rfl rfl ?_
    refine RP.sg0 7 rfl (fun w => Vl.move rfl) rfl rfl ?_
    refine RP.sg0 8 rfl (fun w => Vl.int rfl rfl rfl) rfl rfl ?_
    obtain ⟨hq4274, h⟩ := h.req
    refine RP.sg0 9 rfl (fun w => Vl.quo rfl rfl hq4274) rfl rfl ?_
    refine RP.sg0 10 rfl (fun w => Vl.move rfl) rfl rfl ?_
    refine RP.sg0 11 rfl (fun w => Vl.int rfl rfl rfl) rfl rfl ?_
    refine RP.sg0 12 rfl (fun w => Vl.move rfl) rfl rfl ?_
    refine RP.sg0 13 rfl (fun w => Vl.move rfl) rfl rfl ?_
    refine RP.sg0 14 rfl (fun w => Vl.int rfl rfl rfl) rfl rfl ?_
    refine RP.sg0 15 rfl (fun w => Vl.rem rfl rfl hq4274) rfl rfl ?_
    refine RP.v1 16 rfl (Vl.move rfl) rfl rfl ?_
    refine RP.v1 17 rfl (Vl.min2 rfl rfl) rfl rfl ?_
    refine RP.v1 18 rfl (Vl.int rfl rfl rfl) rfl rfl ?_
    refine RP.v1 19 rfl (Vl.int rfl rfl rfl) rfl rfl ?_
    refine RP.v1 20 rfl (Vl.pickT rfl rfl) rfl rfl ?_
    refine RP.v1 21 rfl (Vl.assign rfl) rfl rfl ?_
    refine RP.nil ?_
    refine RQ.then_n ?_
    refine RC.ret ?_
    have e := h.some
    subst e
    refine RQ.ret0 (vs := [.bool (decide (y4265.Regs.c0 = IntKind.i64.wrap ((IntKind.i64.wrap ((IntKind.i64.wrap (Int.tdiv 4095 (IntKind.i64.wrap ((IntKind.i64.wrap ((IntKind.i64.wrap (Int.tmod a3968 20)) + 1)) + 1)))) * (IntKind.i64.wrap ((IntKind.i64.wrap (Int.tmod a3968 20)) + 1)))) + (if IntKind.i64.wrap ((IntKind.i64.wrap (Int.tmod a3968 20)) + 1) < Int.tmod 4095 (IntKind.i64.wrap ((IntKind.i64.wrap ((IntKind.i64.wrap (Int.tmod a3968 20)) + 1)) + 1)) then IntKind.i64.wrap ((IntKind.i64.wrap (Int.tmod a3968 20)) + 1) else Int.tmod 4095 (IntKind.i64.wrap ((IntKind.i64.wrap ((IntKind.i64.wrap (Int.tmod a3968 20)) + 1)) + 1))))))]) Tryd.results6 ⟨rfl, trivial⟩ ?_
    exact ⟨rfl, ((((hS.dropAt 0 rfl).dropAt 0 rfl).dropAt 0 rfl).dropAt 0 rfl)⟩
   case neg =>
    have h := h.neg hc4273
    refine RP.re 40 rfl (congrArg Value.bool (decide_eq_false hc4273)) ?_
    refine RP.nn0 3 rfl rfl rfl ?_
    refine RP.nn0 4 rfl rfl rfl ?_
    refine RP.nn 5 rfl rfl rfl ?_
    refine RP.nn0 6 rfl rfl rfl ?_
    refine RP.nn0 7 rfl rfl rfl ?_
    refine RP.nn0 8 rfl rfl rfl ?_
    refine RP.nn0 9 rfl rfl rfl ?_
    refine RP.nn0 10 rfl rfl rfl ?_
    refine RP.nn0 11 rfl rfl rfl ?_
    refine RP.nn0 12 rfl rfl rfl ?_
    refine RP.nn0 13 rfl rfl rfl ?_
    refine RP.nn0 14 rfl rfl rfl ?_
    refine RP.nn0 15 rfl rfl rfl ?_
    refine RP.n1 16 rfl rfl rfl ?_
    refine RP.n1 17 rfl rfl rfl ?_
    refine RP.n1 18 rfl rfl rfl ?_
    refine RP.n1 19 rfl rfl rfl ?_
    refine RP.v1 20 rfl (Vl.pickF rfl rfl) rfl rfl ?_
    refine RP.v1 21 rfl (Vl.assign rfl) rfl rfl ?_
    refine RP.nil ?_
    refine RQ.then_n ?_
    refine RC.ret ?_
    have e := h.some
    subst e
    refine RQ.ret0 (vs := [.bool false]) Tryd.results6 ⟨rfl, trivial⟩ ?_
    exact ⟨rfl, ((((hS.dropAt 0 rfl).dropAt 0 rfl).dropAt 0 rfl).dropAt 0 rfl)⟩

end Go.Proofs.Gx
