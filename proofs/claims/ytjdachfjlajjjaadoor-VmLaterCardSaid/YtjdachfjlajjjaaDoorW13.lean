/-
  The walks of functions, each with what it computes: printed by wip/gx.py.
-/
import Derived.Test.YtjdachfjlajjjaaDoorW0
set_option linter.unusedVariables false
namespace Go.Proofs.Gx
open Go.Sl
/-! ### isochron/vm.Sends: function 18 -/
noncomputable def vm_Sends.l2b (a5211 : api_World) (a5218 : api_State) (a5219 : api_Message) (a5220 : List api_Out) (a5224 : Int) : List api_Message × Int → Option ((List api_Message × Int) ⊕ (List api_Message))
  | (l5415, x5419) => (if x5419 < (a5220.length : Int) then (if 0 ≤ x5419 then (if 0 ≤ (nth a5220 x5419).Link then (if (nth a5220 x5419).Link < (a5211.Links.length : Int) then (if (nth a5220 x5419).Delay ≤ IntKind.i64.wrap (4611686018427387903 - a5219.Key.Time) then (if (l5415.length + 1) * 56 ≤ 140737488355328 then some (.inl ((l5415 ++ ([(⟨(⟨IntKind.i64.wrap (a5219.Key.Time + ((nth a5220 x5419).Delay)), a5211.Self, IntKind.i64.wrap (a5218.Sent + x5419)⟩ : api_Key), (nth a5211.Links ((nth a5220 x5419).Link)).To, (nth a5220 x5419).Value, IntKind.i64.wrap (a5224 + x5419), false⟩ : api_Message)])), IntKind.i64.wrap (x5419 + 1))) else none) else some (.inl (l5415, IntKind.i64.wrap (x5419 + 1)))) else some (.inl (l5415, IntKind.i64.wrap (x5419 + 1)))) else some (.inl (l5415, IntKind.i64.wrap (x5419 + 1)))) else none) else some (.inr l5415))
noncomputable def vm_Sends.l2 (a5211 : api_World) (a5218 : api_State) (a5219 : api_Message) (a5220 : List api_Out) (a5224 : Int) (s : List api_Message × Int) : Option (List api_Message) := loopR (vm_Sends.l2b a5211 a5218 a5219 a5220 a5224) s
noncomputable def vm_Sends.f (a5211 : api_World) (a5218 : api_State) (a5219 : api_Message) (a5220 : List api_Out) (a5224 : Int) : Option (List api_Message) := vm_Sends.l2 a5211 a5218 a5219 a5220 a5224 ([], 0)
set_option maxRecDepth 100000 in
set_option maxHeartbeats 4000000 in
theorem vm_Sends.ok {B : Base} {w : World} {l : List HProp} {hf : Hp} (a5211 : api_World) (a5218 : api_State) (a5219 : api_Message) (a5220 : List api_Out) (a5224 : Int) (A5212 : Option Addr) (c5213 : Nat) (A5215 : Option Addr) (c5216 : Nat) (A5221 : Option Addr) (c5222 : Nat) (hr5214 : SlR E_api_Instr.rep hf A5212 c5213 a5211.Prog) (hr5217 : SlR E_api_Link.rep hf A5215 c5216 a5211.Links) (hr5223 : SlR E_api_Out.rep hf A5221 c5222 a5220) (r : List api_Message) (h : vm_Sends.f a5211 a5218 a5219 a5220 a5224 = some r) (hS : St B w (l) hf) :
    Calls Tryd.prog 18 #[.agg #[.slice A5212 a5211.Prog.length c5213, .int .i64 a5211.Self, .slice A5215 a5211.Links.length c5216, .int .u64 a5211.Seed], .agg #[.int .i64 a5218.Regs.c0, .int .i64 a5218.Regs.c1, .int .i64 a5218.Regs.c2, .int .i64 a5218.Regs.c3, .int .i64 a5218.Regs.c4, .int .i64 a5218.Regs.c5, .int .i64 a5218.Regs.c6, .int .i64 a5218.Regs.c7, .int .i64 a5218.Draws, .int .i64 a5218.Sent], .agg #[.int .i64 a5219.Key.Time, .int .i64 a5219.Key.From, .int .i64 a5219.Key.Seq, .int .i64 a5219.To, .int .i64 a5219.Value, .int .i64 a5219.Uid, .bool a5219.Anti], .slice A5221 a5220.length c5222, .int .i64 a5224] w (Ret fun v w => ∃ (A_1 : Option Addr) (c_2 : Nat), v = .slice A_1 r.length c_2 ∧ St B w (OSf E_api_Message 33 (.slice A_1 r.length c_2) r :: l) hf) := by
  have h := Holds.of h
  refine enter (args := [.agg #[.slice A5212 a5211.Prog.length c5213, .int .i64 a5211.Self, .slice A5215 a5211.Links.length c5216, .int .u64 a5211.Seed], .agg #[.int .i64 a5218.Regs.c0, .int .i64 a5218.Regs.c1, .int .i64 a5218.Regs.c2, .int .i64 a5218.Regs.c3, .int .i64 a5218.Regs.c4, .int .i64 a5218.Regs.c5, .int .i64 a5218.Regs.c6, .int .i64 a5218.Regs.c7, .int .i64 a5218.Draws, .int .i64 a5218.Sent], .agg #[.int .i64 a5219.Key.Time, .int .i64 a5219.Key.From, .int .i64 a5219.Key.Seq, .int .i64 a5219.To, .int .i64 a5219.Value, .int .i64 a5219.Uid, .bool a5219.Anti], .slice A5221 a5220.length c5222, .int .i64 a5224]) Tryd.func18 rfl Tryd.ntmps18 (Nat.le_of_ble_eq_true rfl) ?_
  refine RC.seq ?_
  refine RC.region ?_
  refine RL.e (OW.box (cs := [.slice A5212 a5211.Prog.length c5213, .int .i64 a5211.Self, .slice A5215 a5211.Links.length c5216, .int .u64 a5211.Seed]) hS rfl rfl) rfl rfl ?_
  rintro _ w ⟨b5373, rfl, hS⟩
  have hS : St B w (Cl b5373 [.slice A5212 a5211.Prog.length c5213, .int .i64 a5211.Self, .slice A5215 a5211.Links.length c5216, .int .u64 a5211.Seed] 26 :: l) hf := hS
  refine RL.e (OW.box (cs := [.int .i64 a5218.Regs.c0, .int .i64 a5218.Regs.c1, .int .i64 a5218.Regs.c2, .int .i64 a5218.Regs.c3, .int .i64 a5218.Regs.c4, .int .i64 a5218.Regs.c5, .int .i64 a5218.Regs.c6, .int .i64 a5218.Regs.c7, .int .i64 a5218.Draws, .int .i64 a5218.Sent]) hS rfl rfl) rfl rfl ?_
  rintro _ w ⟨b5375, rfl, hS⟩
  have hS : St B w (Cl b5375 [.int .i64 a5218.Regs.c0, .int .i64 a5218.Regs.c1, .int .i64 a5218.Regs.c2, .int .i64 a5218.Regs.c3, .int .i64 a5218.Regs.c4, .int .i64 a5218.Regs.c5, .int .i64 a5218.Regs.c6, .int .i64 a5218.Regs.c7, .int .i64 a5218.Draws, .int .i64 a5218.Sent] 29 :: Cl b5373 [.slice A5212 a5211.Prog.length c5213, .int .i64 a5211.Self, .slice A5215 a5211.Links.length c5216, .int .u64 a5211.Seed] 26 :: l) hf := hS
  refine RL.e (OW.box (cs := [.int .i64 a5219.Key.Time, .int .i64 a5219.Key.From, .int .i64 a5219.Key.Seq, .int .i64 a5219.To, .int .i64 a5219.Value, .int .i64 a5219.Uid, .bool a5219.Anti]) hS rfl rfl) rfl rfl ?_
  rintro _ w ⟨b5377, rfl, hS⟩
  have hS : St B w (Cl b5377 [.int .i64 a5219.Key.Time, .int .i64 a5219.Key.From, .int .i64 a5219.Key.Seq, .int .i64 a5219.To, .int .i64 a5219.Value, .int .i64 a5219.Uid, .bool a5219.Anti] 33 :: Cl b5375 [.int .i64 a5218.Regs.c0, .int .i64 a5218.Regs.c1, .int .i64 a5218.Regs.c2, .int .i64 a5218.Regs.c3, .int .i64 a5218.Regs.c4, .int .i64 a5218.Regs.c5, .int .i64 a5218.Regs.c6, .int .i64 a5218.Regs.c7, .int .i64 a5218.Draws, .int .i64 a5218.Sent] 29 :: Cl b5373 [.slice A5212 a5211.Prog.length c5213, .int .i64 a5211.Self, .slice A5215 a5211.Links.length c5216, .int .u64 a5211.Seed] 26 :: l) hf := hS
  refine RL.s (Vl.assign rfl) rfl ?_
  refine RL.nil ?_
  refine RQ.then_n ?_
  refine RC.seq ?_
  refine RC.region ?_
  refine RL.s (Vl.assign rfl) rfl ?_
  refine RL.nil ?_
  refine RQ.then_n ?_
  refine RC.seq ?_
  refine RC.seq ?_
  refine RC.region ?_
  refine RL.s (Vl.move rfl) rfl ?_
  refine RL.s (Vl.lenSl Tryd.underlying34 rfl) rfl ?_
  refine RL.s (Vl.move rfl) rfl ?_
  refine RL.nil ?_
  refine RQ.then_n ?_
  refine RC.block ?_
  have hS := hS.nilSl E_api_Message 33
  refine fun a ha => RC.loop (N := 72) (body := (vm_Sends.l2b a5211 a5218 a5219 a5220 a5224)) (φ := (· = r)) (fun (s : List api_Message × Int) a w => ∃ (l5415 : List api_Message) (x5419 : Int), s = (l5415, x5419) ∧ ∃ (A5416 : Option Addr) (c5417 : Nat), Has 72 [(4, .int .i64 a5224), (5, .pointer (some ⟨b5373, 0, none⟩)), (6, .pointer (some ⟨b5375, 0, none⟩)), (7, .pointer (some ⟨b5377, 0, none⟩)), (11, .slice A5416 l5415.length c5417), (14, .slice A5221 a5220.length c5222), (15, .int .i64 (a5220.length : Int)), (16, .int .i64 x5419)] a ∧ St B w (OSf E_api_Message 33 (.slice A5416 l5415.length c5417) l5415 :: Cl b5377 [.int .i64 a5219.Key.Time, .int .i64 a5219.Key.From, .int .i64 a5219.Key.Seq, .int .i64 a5219.To, .int .i64 a5219.Value, .int .i64 a5219.Uid, .bool a5219.Anti] 33 :: Cl b5375 [.int .i64 a5218.Regs.c0, .int .i64 a5218.Regs.c1, .int .i64 a5218.Regs.c2, .int .i64 a5218.Regs.c3, .int .i64 a5218.Regs.c4, .int .i64 a5218.Regs.c5, .int .i64 a5218.Regs.c6, .int .i64 a5218.Regs.c7, .int .i64 a5218.Draws, .int .i64 a5218.Sent] 29 :: Cl b5373 [.slice A5212 a5211.Prog.length c5213, .int .i64 a5211.Self, .slice A5215 a5211.Links.length c5216, .int .u64 a5211.Seed] 26 :: l) hf) ?_ (s0 := ([], 0)) h ⟨([]), 0, rfl, none, 0, ha.to ⟨rfl, rfl, rfl, rfl, rfl, rfl, rfl, rfl, trivial⟩, hS⟩
  rintro G5471 _ a w ⟨l5415, x5419, rfl, A5416, c5417, ha, hS⟩ h
  revert a
  show RC _ _ _ _ _ _
  refine RC.seq ?_
  refine RC.region ?_
  refine RL.s (Vl.int rfl rfl rfl) rfl ?_
  refine RL.nil ?_
  refine RQ.then_n ?_
  refine RC.seq ?_
  by_cases hc5473 : x5419 < (a5220.length : Int)
  case pos =>
   have h := h.pos hc5473
   refine RC.re 17 rfl (congrArg Value.bool (decide_eq_true hc5473)) ?_
   refine RC.condT rfl ?_
   refine RC.skip ?_
   refine RQ.then_n ?_
   refine RC.seq ?_
   refine RC.block ?_
   refine RC.seq ?_
   refine RC.region ?_
   refine RL.s (Vl.move rfl) rfl ?_
   obtain ⟨hq5498, h⟩ := h.req
   refine RL.s (Vl.indexAddr Tryd.underlying34 Tryd.sizeOf58 rfl rfl ((hr5223.2.world hS.sub).adr hq5498 hc5473) hq5498 hc5473 rfl) rfl ?_
   refine RL.s (Vl.loadA Tryd.isAgg58 Tryd.sizeOf58 rfl rfl ((hr5223.2.world hS.sub).cells hq5498 hc5473)) rfl ?_
   refine RL.e (OW.alloc (cs := [.int .i64 0, .int .i64 0, .int .i64 0]) hS Tryd.zeroValue58 rfl) rfl rfl ?_
   rintro _ w ⟨b5500, rfl, hS⟩
   have hS : St B w (Cl b5500 [.int .i64 0, .int .i64 0, .int .i64 0] 58 :: OSf E_api_Message 33 (.slice A5416 l5415.length c5417) l5415 :: Cl b5377 [.int .i64 a5219.Key.Time, .int .i64 a5219.Key.From, .int .i64 a5219.Key.Seq, .int .i64 a5219.To, .int .i64 a5219.Value, .int .i64 a5219.Uid, .bool a5219.Anti] 33 :: Cl b5375 [.int .i64 a5218.Regs.c0, .int .i64 a5218.Regs.c1, .int .i64 a5218.Regs.c2, .int .i64 a5218.Regs.c3, .int .i64 a5218.Regs.c4, .int .i64 a5218.Regs.c5, .int .i64 a5218.Regs.c6, .int .i64 a5218.Regs.c7, .int .i64 a5218.Draws, .int .i64 a5218.Sent] 29 :: Cl b5373 [.slice A5212 a5211.Prog.length c5213, .int .i64 a5211.Self, .slice A5215 a5211.Links.length c5216, .int .u64 a5211.Seed] 26 :: l) hf := hS
   refine RL.s (Vl.assign rfl) rfl ?_
   refine RL.e0 (OW.store (cs := [.int .i64 0, .int .i64 0, .int .i64 0]) (vs := [.int .i64 ((nth a5220 x5419).Link), .int .i64 ((nth a5220 x5419).Delay), .int .i64 ((nth a5220 x5419).Value)]) (l' := Cl b5500 [.int .i64 ((nth a5220 x5419).Link), .int .i64 ((nth a5220 x5419).Delay), .int .i64 ((nth a5220 x5419).Value)] 58 :: OSf E_api_Message 33 (.slice A5416 l5415.length c5417) l5415 :: Cl b5377 [.int .i64 a5219.Key.Time, .int .i64 a5219.Key.From, .int .i64 a5219.Key.Seq, .int .i64 a5219.To, .int .i64 a5219.Value, .int .i64 a5219.Uid, .bool a5219.Anti] 33 :: Cl b5375 [.int .i64 a5218.Regs.c0, .int .i64 a5218.Regs.c1, .int .i64 a5218.Regs.c2, .int .i64 a5218.Regs.c3, .int .i64 a5218.Regs.c4, .int .i64 a5218.Regs.c5, .int .i64 a5218.Regs.c6, .int .i64 a5218.Regs.c7, .int .i64 a5218.Draws, .int .i64 a5218.Sent] 29 :: Cl b5373 [.slice A5212 a5211.Prog.length c5213, .int .i64 a5211.Self, .slice A5215 a5211.Links.length c5216, .int .u64 a5211.Seed] 26 :: l) 0 hS rfl rfl rfl rfl Tryd.sizeOf58 rfl rfl rfl rfl) rfl ?_
   rintro _ w ⟨rfl, hS⟩
   have hS : St B w (Cl b5500 [.int .i64 ((nth a5220 x5419).Link), .int .i64 ((nth a5220 x5419).Delay), .int .i64 ((nth a5220 x5419).Value)] 58 :: OSf E_api_Message 33 (.slice A5416 l5415.length c5417) l5415 :: Cl b5377 [.int .i64 a5219.Key.Time, .int .i64 a5219.Key.From, .int .i64 a5219.Key.Seq, .int .i64 a5219.To, .int .i64 a5219.Value, .int .i64 a5219.Uid, .bool a5219.Anti] 33 :: Cl b5375 [.int .i64 a5218.Regs.c0, .int .i64 a5218.Regs.c1, .int .i64 a5218.Regs.c2, .int .i64 a5218.Regs.c3, .int .i64 a5218.Regs.c4, .int .i64 a5218.Regs.c5, .int .i64 a5218.Regs.c6, .int .i64 a5218.Regs.c7, .int .i64 a5218.Draws, .int .i64 a5218.Sent] 29 :: Cl b5373 [.slice A5212 a5211.Prog.length c5213, .int .i64 a5211.Self, .slice A5215 a5211.Links.length c5216, .int .u64 a5211.Seed] 26 :: l) hf := hS
   refine RL.nil ?_
   refine RQ.then_n ?_
   refine RC.seq ?_
   refine RC.region ?_
   refine RL.s (Vl.fieldAddr (a'' := ⟨b5500, 0, none⟩) Tryd.underlying58 rfl Tryd.sizeOf3 rfl rfl) rfl ?_
   refine RL.s (Vl.load Tryd.isAgg3 rfl (hS.cell 0 rfl rfl)) rfl ?_
   refine RL.s (Vl.int rfl rfl rfl) rfl ?_
   refine RL.s (Vl.move rfl) rfl ?_
   by_cases hc5501 : 0 ≤ (nth a5220 x5419).Link
   case pos =>
    have h := h.pos hc5501
    refine RL.re 24 rfl (congrArg Value.bool (decide_eq_true hc5501)) ?_
    refine RL.sg (Vl.fieldAddr (a'' := ⟨b5500, 0, none⟩) Tryd.underlying58 rfl Tryd.sizeOf3 rfl rfl) rfl rfl ?_
    refine RL.sg (Vl.load Tryd.isAgg3 rfl (hS.cell 0 rfl rfl)) rfl rfl ?_
    refine RL.sg (Vl.fieldAddr (a'' := ⟨b5373, 2, none⟩) Tryd.underlying26 rfl Tryd.sizeOf23 rfl rfl) rfl rfl ?_
    refine RL.sg (Vl.load Tryd.isAgg23 rfl (hS.cell 4 rfl rfl)) rfl rfl ?_
    refine RL.sg (Vl.lenSl Tryd.underlying23 rfl) rfl rfl ?_
    refine RL.sg (Vl.int rfl rfl rfl) rfl rfl ?_
    refine RL.s (Vl.pickT rfl rfl) rfl ?_
    refine RL.s (Vl.move rfl) rfl ?_
    by_cases hc5502 : (nth a5220 x5419).Link < (a5211.Links.length : Int)
    case pos =>
     have h := h.pos hc5502
     refine RL.re 32 rfl (congrArg Value.bool (decide_eq_true hc5502)) ?_
     refine RL.sg (Vl.fieldAddr (a'' := ⟨b5500, 1, none⟩) Tryd.underlying58 rfl Tryd.sizeOf2 rfl rfl) rfl rfl ?_
     refine RL.sg (Vl.load Tryd.isAgg2 rfl (hS.cell 0 rfl rfl)) rfl rfl ?_
     refine RL.sg (Vl.fieldAddr (a'' := ⟨b5377, 0, none⟩) Tryd.underlying33 rfl Tryd.sizeOf31 rfl rfl) rfl rfl ?_
     refine RL.sg (Vl.fieldAddr (a'' := ⟨b5377, 0, none⟩) Tryd.underlying31 rfl Tryd.sizeOf2 rfl rfl) rfl rfl ?_
     refine RL.sg (Vl.load Tryd.isAgg2 rfl (hS.cell 2 rfl rfl)) rfl rfl ?_
     refine RL.sg (Vl.int rfl rfl rfl) rfl rfl ?_
     refine RL.sg (Vl.int rfl rfl rfl) rfl rfl ?_
     refine RL.s (Vl.pickT rfl rfl) rfl ?_
     refine RL.nil ?_
     refine RQ.then_n ?_
     by_cases hc5503 : (nth a5220 x5419).Delay ≤ IntKind.i64.wrap (4611686018427387903 - a5219.Key.Time)
     case pos =>
      have h := h.pos hc5503
      refine RC.re 40 rfl (congrArg Value.bool (decide_eq_true hc5503)) ?_
      refine RC.condT rfl ?_
      refine RC.plan (.pure 0 (.pure 1 (.pure 2 (.cons 3 true (.pure 4 (.cons 5 true (.pure 6 (.pure 7 (.cons 8 true (.pure 9 (.cons 10 true (.pure 11 (.pure 12 (.pure 13 (.pure 14 (.cons 15 true (.pure 16 (.cons 17 true (.cons 18 true (.pure 19 (.cons 20 true (.pure 21 (.cons 22 true (.pure 23 (.cons 24 false (.cons 25 false (.cons 26 false (.cons 27 false (.cons 28 false (.cons 29 false .nil)))))))))))))))))))))))))))))) [29] (fun w => St B w (Cl b5500 [.int .i64 ((nth a5220 x5419).Link), .int .i64 ((nth a5220 x5419).Delay), .int .i64 ((nth a5220 x5419).Value)] 58 :: Cl b5377 [.int .i64 a5219.Key.Time, .int .i64 a5219.Key.From, .int .i64 a5219.Key.Seq, .int .i64 a5219.To, .int .i64 a5219.Value, .int .i64 a5219.Uid, .bool a5219.Anti] 33 :: Cl b5375 [.int .i64 a5218.Regs.c0, .int .i64 a5218.Regs.c1, .int .i64 a5218.Regs.c2, .int .i64 a5218.Regs.c3, .int .i64 a5218.Regs.c4, .int .i64 a5218.Regs.c5, .int .i64 a5218.Regs.c6, .int .i64 a5218.Regs.c7, .int .i64 a5218.Draws, .int .i64 a5218.Sent] 29 :: Cl b5373 [.slice A5212 a5211.Prog.length c5213, .int .i64 a5211.Self, .slice A5215 a5211.Links.length c5216, .int .u64 a5211.Seed] 26 :: l) hf) follows rfl (by kernel_rfl) (NoTmp.block (NoTmp.then (NoTmp.then (NoTmp.block (NoTmp.then NoTmp.body))))) ?_
      have hS := hS.same (w' := { w with drawn := w.drawn + 1 }) rfl rfl
      revert hS
      generalize { w with drawn := w.drawn + 1 } = w
      intro hS
      refine RP.s0 0 rfl (fun w => Vl.move rfl) rfl ?_
      refine RP.s0 1 rfl (fun w => Vl.fieldAddr (a'' := ⟨b5377, 0, none⟩) Tryd.underlying33 rfl Tryd.sizeOf31 rfl rfl) rfl ?_
      refine RP.s0 2 rfl (fun w => Vl.fieldAddr (a'' := ⟨b5377, 0, none⟩) Tryd.underlying31 rfl Tryd.sizeOf2 rfl rfl) rfl ?_
      refine RP.s 3 rfl rfl (hS.dropAt 1 rfl) (fun w hS => Vl.load Tryd.isAgg2 rfl (hS.cell 1 rfl rfl)) rfl ?_
      refine RP.s0 4 rfl (fun w => Vl.fieldAddr (a'' := ⟨b5500, 1, none⟩) Tryd.underlying58 rfl Tryd.sizeOf2 rfl rfl) rfl ?_
      refine RP.s 5 rfl rfl (hS.dropAt 1 rfl) (fun w hS => Vl.load Tryd.isAgg2 rfl (hS.cell 0 rfl rfl)) rfl ?_
      refine RP.s0 6 rfl (fun w => Vl.int rfl rfl rfl) rfl ?_
      refine RP.s0 7 rfl (fun w => Vl.fieldAddr (a'' := ⟨b5373, 1, none⟩) Tryd.underlying26 rfl Tryd.sizeOf3 rfl rfl) rfl ?_
      refine RP.s 8 rfl rfl (hS.dropAt 1 rfl) (fun w hS => Vl.load Tryd.isAgg3 rfl (hS.cell 3 rfl rfl)) rfl ?_
      refine RP.s0 9 rfl (fun w => Vl.fieldAddr (a'' := ⟨b5375, 9, none⟩) Tryd.underlying29 rfl Tryd.sizeOf3 rfl rfl) rfl ?_
      refine RP.s 10 rfl rfl (hS.dropAt 1 rfl) (fun w hS => Vl.load Tryd.isAgg3 rfl (hS.cell 2 rfl rfl)) rfl ?_
      refine RP.s0 11 rfl (fun w => Vl.move rfl) rfl ?_
      refine RP.s0 12 rfl (fun w => Vl.int rfl rfl rfl) rfl ?_
      refine RP.s0 13 rfl (fun w => Vl.build (v := .agg #[.int .i64 (IntKind.i64.wrap (a5219.Key.Time + ((nth a5220 x5419).Delay))), .int .i64 a5211.Self, .int .i64 (IntKind.i64.wrap (a5218.Sent + x5419))]) (parts := [(0, .tmp 47), (1, .tmp 49), (2, .tmp 53)]) rfl (by kernel_rfl)) rfl ?_
      refine RP.s0 14 rfl (fun w => Vl.fieldAddr (a'' := ⟨b5373, 2, none⟩) Tryd.underlying26 rfl Tryd.sizeOf23 rfl rfl) rfl ?_
      refine RP.s 15 rfl rfl (hS.dropAt 1 rfl) (fun w hS => Vl.load Tryd.isAgg23 rfl (hS.cell 3 rfl rfl)) rfl ?_
      refine RP.s0 16 rfl (fun w => Vl.fieldAddr (a'' := ⟨b5500, 0, none⟩) Tryd.underlying58 rfl Tryd.sizeOf3 rfl rfl) rfl ?_
      refine RP.s 17 rfl rfl (hS.dropAt 1 rfl) (fun w hS => Vl.load Tryd.isAgg3 rfl (hS.cell 0 rfl rfl)) rfl ?_
      refine RP.s 18 rfl rfl (hS.dropAt 1 rfl) (fun w hS => Vl.indexAddr Tryd.underlying23 Tryd.sizeOf56 rfl rfl ((hr5217.2.world hS.sub).adr hc5501 hc5502) hc5501 hc5502 rfl) rfl ?_
      refine RP.s0 19 rfl (fun w => Vl.fieldAddr (a'' := (ad A5215).add (((nth a5220 x5419).Link).toNat * 4 + 1)) Tryd.underlying56 rfl Tryd.sizeOf3 rfl (add_add _ _ _)) rfl ?_
      refine RP.s 20 rfl rfl (hS.dropAt 1 rfl) (fun w hS => Vl.load Tryd.isAgg3 rfl ((hr5217.2.world hS.sub).cell (j := 1) hc5501 hc5502 rfl)) rfl ?_
      refine RP.s0 21 rfl (fun w => Vl.fieldAddr (a'' := ⟨b5500, 2, none⟩) Tryd.underlying58 rfl Tryd.sizeOf2 rfl rfl) rfl ?_
      refine RP.s 22 rfl rfl (hS.dropAt 1 rfl) (fun w hS => Vl.load Tryd.isAgg2 rfl (hS.cell 0 rfl rfl)) rfl ?_
      refine RP.s0 23 rfl (fun w => Vl.move rfl) rfl ?_
      refine RP.v1 24 rfl (Vl.move rfl) rfl rfl ?_
      refine RP.v1 25 rfl (Vl.int rfl rfl rfl) rfl rfl ?_
      refine RP.v1 26 rfl (Vl.build (v := .agg #[.int .i64 (IntKind.i64.wrap (a5219.Key.Time + ((nth a5220 x5419).Delay))), .int .i64 a5211.Self, .int .i64 (IntKind.i64.wrap (a5218.Sent + x5419)), .int .i64 ((nth a5211.Links ((nth a5220 x5419).Link)).To), .int .i64 ((nth a5220 x5419).Value), .int .i64 (IntKind.i64.wrap (a5224 + x5419)), .bool false]) (parts := [(0, .tmp 54), (1, .tmp 61), (2, .tmp 63), (3, .tmp 66)]) rfl (by kernel_rfl)) rfl rfl ?_
      refine RP.e 27 rfl (OW.buildSlice (E := E_api_Message) (xs := [(⟨(⟨IntKind.i64.wrap (a5219.Key.Time + ((nth a5220 x5419).Delay)), a5211.Self, IntKind.i64.wrap (a5218.Sent + x5419)⟩ : api_Key), (nth a5211.Links ((nth a5220 x5419).Link)).To, (nth a5220 x5419).Value, IntKind.i64.wrap (a5224 + x5419), false⟩ : api_Message)]) (cs := [.int .i64 (IntKind.i64.wrap (a5219.Key.Time + ((nth a5220 x5419).Delay))), .int .i64 a5211.Self, .int .i64 (IntKind.i64.wrap (a5218.Sent + x5419)), .int .i64 ((nth a5211.Links ((nth a5220 x5419).Link)).To), .int .i64 ((nth a5220 x5419).Value), .int .i64 (IntKind.i64.wrap (a5224 + x5419)), .bool false]) hS Tryd.underlying60 Tryd.zeroValue33 Tryd.sizeOf33 (parts := [(0, .tmp 67)]) rfl rfl (by decide) (by decide) (by kernel_rfl) rfl) rfl rfl ?_
      rintro _ w ⟨b5512, rfl, hS⟩
      have hS : St B w (OSf E_api_Message 33 (.slice (some ⟨b5512, 0, none⟩) ([(⟨(⟨IntKind.i64.wrap (a5219.Key.Time + ((nth a5220 x5419).Delay)), a5211.Self, IntKind.i64.wrap (a5218.Sent + x5419)⟩ : api_Key), (nth a5211.Links ((nth a5220 x5419).Link)).To, (nth a5220 x5419).Value, IntKind.i64.wrap (a5224 + x5419), false⟩ : api_Message)]).length 1) ([(⟨(⟨IntKind.i64.wrap (a5219.Key.Time + ((nth a5220 x5419).Delay)), a5211.Self, IntKind.i64.wrap (a5218.Sent + x5419)⟩ : api_Key), (nth a5211.Links ((nth a5220 x5419).Link)).To, (nth a5220 x5419).Value, IntKind.i64.wrap (a5224 + x5419), false⟩ : api_Message)]) :: Cl b5500 [.int .i64 ((nth a5220 x5419).Link), .int .i64 ((nth a5220 x5419).Delay), .int .i64 ((nth a5220 x5419).Value)] 58 :: OSf E_api_Message 33 (.slice A5416 l5415.length c5417) l5415 :: Cl b5377 [.int .i64 a5219.Key.Time, .int .i64 a5219.Key.From, .int .i64 a5219.Key.Seq, .int .i64 a5219.To, .int .i64 a5219.Value, .int .i64 a5219.Uid, .bool a5219.Anti] 33 :: Cl b5375 [.int .i64 a5218.Regs.c0, .int .i64 a5218.Regs.c1, .int .i64 a5218.Regs.c2, .int .i64 a5218.Regs.c3, .int .i64 a5218.Regs.c4, .int .i64 a5218.Regs.c5, .int .i64 a5218.Regs.c6, .int .i64 a5218.Regs.c7, .int .i64 a5218.Draws, .int .i64 a5218.Sent] 29 :: Cl b5373 [.slice A5212 a5211.Prog.length c5213, .int .i64 a5211.Self, .slice A5215 a5211.Links.length c5216, .int .u64 a5211.Seed] 26 :: l) hf := hS
      refine ⟨fun _ => ((hS.dropAt 0 rfl).dropAt 1 rfl), ?_⟩
      obtain ⟨hq5513, h⟩ := h.req
      refine RP.e 28 rfl (OW.append (E := E_api_Message) (xs := l5415) (ys := [(⟨(⟨IntKind.i64.wrap (a5219.Key.Time + ((nth a5220 x5419).Delay)), a5211.Self, IntKind.i64.wrap (a5218.Sent + x5419)⟩ : api_Key), (nth a5211.Links ((nth a5220 x5419).Link)).To, (nth a5220 x5419).Value, IntKind.i64.wrap (a5224 + x5419), false⟩ : api_Message)]) 2 hS rfl Tryd.underlying60 Tryd.type33 rfl rfl rfl rfl (by decide) rfl rfl rfl (hS.slW 0 rfl).2.2.flat (by simp only [maxLen, List.length_cons, List.length_nil] at *; omega) hq5513 rfl) rfl rfl ?_
      rintro v5517 w hS
      obtain ⟨A5514, c5515, rfl, _⟩ := hS.osShape 0 rfl
      have hS : St B w (OSf E_api_Message 33 (.slice A5514 (l5415 ++ ([(⟨(⟨IntKind.i64.wrap (a5219.Key.Time + ((nth a5220 x5419).Delay)), a5211.Self, IntKind.i64.wrap (a5218.Sent + x5419)⟩ : api_Key), (nth a5211.Links ((nth a5220 x5419).Link)).To, (nth a5220 x5419).Value, IntKind.i64.wrap (a5224 + x5419), false⟩ : api_Message)])).length c5515) (l5415 ++ ([(⟨(⟨IntKind.i64.wrap (a5219.Key.Time + ((nth a5220 x5419).Delay)), a5211.Self, IntKind.i64.wrap (a5218.Sent + x5419)⟩ : api_Key), (nth a5211.Links ((nth a5220 x5419).Link)).To, (nth a5220 x5419).Value, IntKind.i64.wrap (a5224 + x5419), false⟩ : api_Message)])) :: OSf E_api_Message 33 (.slice (some ⟨b5512, 0, none⟩) ([(⟨(⟨IntKind.i64.wrap (a5219.Key.Time + ((nth a5220 x5419).Delay)), a5211.Self, IntKind.i64.wrap (a5218.Sent + x5419)⟩ : api_Key), (nth a5211.Links ((nth a5220 x5419).Link)).To, (nth a5220 x5419).Value, IntKind.i64.wrap (a5224 + x5419), false⟩ : api_Message)]).length 1) ([(⟨(⟨IntKind.i64.wrap (a5219.Key.Time + ((nth a5220 x5419).Delay)), a5211.Self, IntKind.i64.wrap (a5218.Sent + x5419)⟩ : api_Key), (nth a5211.Links ((nth a5220 x5419).Link)).To, (nth a5220 x5419).Value, IntKind.i64.wrap (a5224 + x5419), false⟩ : api_Message)]) :: Cl b5500 [.int .i64 ((nth a5220 x5419).Link), .int .i64 ((nth a5220 x5419).Delay), .int .i64 ((nth a5220 x5419).Value)] 58 :: Cl b5377 [.int .i64 a5219.Key.Time, .int .i64 a5219.Key.From, .int .i64 a5219.Key.Seq, .int .i64 a5219.To, .int .i64 a5219.Value, .int .i64 a5219.Uid, .bool a5219.Anti] 33 :: Cl b5375 [.int .i64 a5218.Regs.c0, .int .i64 a5218.Regs.c1, .int .i64 a5218.Regs.c2, .int .i64 a5218.Regs.c3, .int .i64 a5218.Regs.c4, .int .i64 a5218.Regs.c5, .int .i64 a5218.Regs.c6, .int .i64 a5218.Regs.c7, .int .i64 a5218.Draws, .int .i64 a5218.Sent] 29 :: Cl b5373 [.slice A5212 a5211.Prog.length c5213, .int .i64 a5211.Self, .slice A5215 a5211.Links.length c5216, .int .u64 a5211.Seed] 26 :: l) hf := hS
      refine ⟨fun _ => ((hS.dropAt 0 rfl).dropAt 0 rfl), ?_⟩
      refine RP.v1 29 rfl (Vl.assign rfl) rfl rfl ?_
      refine RP.nil ?_
      refine RQ.inB_n ?_
      refine RQ.then_n ?_
      refine RC.region ?_
      refine RL.s (Vl.int rfl rfl rfl) rfl ?_
      refine RL.s (Vl.move rfl) rfl ?_
      refine RL.nil ?_
      exact fun a ha => ⟨((l5415 ++ ([(⟨(⟨IntKind.i64.wrap (a5219.Key.Time + ((nth a5220 x5419).Delay)), a5211.Self, IntKind.i64.wrap (a5218.Sent + x5419)⟩ : api_Key), (nth a5211.Links ((nth a5220 x5419).Link)).To, (nth a5220 x5419).Value, IntKind.i64.wrap (a5224 + x5419), false⟩ : api_Message)])), IntKind.i64.wrap (x5419 + 1)), ⟨(l5415 ++ ([(⟨(⟨IntKind.i64.wrap (a5219.Key.Time + ((nth a5220 x5419).Delay)), a5211.Self, IntKind.i64.wrap (a5218.Sent + x5419)⟩ : api_Key), (nth a5211.Links ((nth a5220 x5419).Link)).To, (nth a5220 x5419).Value, IntKind.i64.wrap (a5224 + x5419), false⟩ : api_Message)])), (IntKind.i64.wrap (x5419 + 1)), rfl, A5514, c5515, ha.to ⟨rfl, rfl, rfl, rfl, rfl, rfl, rfl, rfl, trivial⟩, ((hS.dropAt 1 rfl).dropAt 1 rfl)⟩, h.some⟩
     case neg =>
      have h := h.neg hc5503
      refine RC.re 40 rfl (congrArg Value.bool (decide_eq_false hc5503)) ?_
      refine RC.condF rfl ?_
      refine RC.skip ?_
      refine RQ.inB_n ?_
      refine RQ.then_n ?_
      refine RC.region ?_
      refine RL.s (Vl.int rfl rfl rfl) rfl ?_
      refine RL.s (Vl.move rfl) rfl ?_
      refine RL.nil ?_
      exact fun a ha => ⟨(l5415, IntKind.i64.wrap (x5419 + 1)), ⟨l5415, (IntKind.i64.wrap (x5419 + 1)), rfl, A5416, c5417, ha.to ⟨rfl, rfl, rfl, rfl, rfl, rfl, rfl, rfl, trivial⟩, (hS.dropAt 0 rfl)⟩, h.some⟩
    case neg =>
     have h := h.neg hc5502
     refine RL.re 32 rfl (congrArg Value.bool (decide_eq_false hc5502)) ?_
     refine RL.nn rfl rfl ?_
     refine RL.nn rfl rfl ?_
     refine RL.nn rfl rfl ?_
     refine RL.nn rfl rfl ?_
     refine RL.nn rfl rfl ?_
     refine RL.nn rfl rfl ?_
     refine RL.nn rfl rfl ?_
     refine RL.s (Vl.pickF rfl rfl) rfl ?_
     refine RL.nil ?_
     refine RQ.then_n ?_
     refine RC.condF rfl ?_
     refine RC.skip ?_
     refine RQ.inB_n ?_
     refine RQ.then_n ?_
     refine RC.region ?_
     refine RL.s (Vl.int rfl rfl rfl) rfl ?_
     refine RL.s (Vl.move rfl) rfl ?_
     refine RL.nil ?_
     exact fun a ha => ⟨(l5415, IntKind.i64.wrap (x5419 + 1)), ⟨l5415, (IntKind.i64.wrap (x5419 + 1)), rfl, A5416, c5417, ha.to ⟨rfl, rfl, rfl, rfl, rfl, rfl, rfl, rfl, trivial⟩, (hS.dropAt 0 rfl)⟩, h.some⟩
   case neg =>
    have h := h.neg hc5501
    refine RL.re 24 rfl (congrArg Value.bool (decide_eq_false hc5501)) ?_
    refine RL.nn rfl rfl ?_
    refine RL.nn rfl rfl ?_
    refine RL.nn rfl rfl ?_
    refine RL.nn rfl rfl ?_
    refine RL.nn rfl rfl ?_
    refine RL.nn rfl rfl ?_
    refine RL.s (Vl.pickF rfl rfl) rfl ?_
    refine RL.s (Vl.move rfl) rfl ?_
    refine RL.nn rfl rfl ?_
    refine RL.nn rfl rfl ?_
    refine RL.nn rfl rfl ?_
    refine RL.nn rfl rfl ?_
    refine RL.nn rfl rfl ?_
    refine RL.nn rfl rfl ?_
    refine RL.nn rfl rfl ?_
    refine RL.s (Vl.pickF rfl rfl) rfl ?_
    refine RL.nil ?_
    refine RQ.then_n ?_
    refine RC.condF rfl ?_
    refine RC.skip ?_
    refine RQ.inB_n ?_
    refine RQ.then_n ?_
    refine RC.region ?_
    refine RL.s (Vl.int rfl rfl rfl) rfl ?_
    refine RL.s (Vl.move rfl) rfl ?_
    refine RL.nil ?_
    exact fun a ha => ⟨(l5415, IntKind.i64.wrap (x5419 + 1)), ⟨l5415, (IntKind.i64.wrap (x5419 + 1)), rfl, A5416, c5417, ha.to ⟨rfl, rfl, rfl, rfl, rfl, rfl, rfl, rfl, trivial⟩, (hS.dropAt 0 rfl)⟩, h.some⟩
  case neg =>
   have h := h.neg hc5473
   refine RC.re 17 rfl (congrArg Value.bool (decide_eq_false hc5473)) ?_
   refine RC.condF rfl ?_
   refine RC.exit ?_
   refine RQ.exitT ?_
   have h := h.inrS
   refine RQ.exitT ?_
   refine RQ.inB_hit ?_
   refine RQ.then_n ?_
   refine RC.seq ?_
   refine RC.region ?_
   refine RL.s (Vl.move rfl) rfl ?_
   refine RL.s (Vl.assign rfl) rfl ?_
   refine RL.nil ?_
   refine RQ.then_n ?_
   refine RC.ret ?_
   have e := h.some
   subst e
   refine RQ.ret0 (vs := [.slice A5416 l5415.length c5417]) Tryd.results18 ⟨rfl, trivial⟩ ?_
   exact ⟨A5416, c5417, rfl, (((hS.dropAt 1 rfl).dropAt 1 rfl).dropAt 1 rfl)⟩

/-! ### cmp.isNaN[int64]: function 47 -/
noncomputable def cmp_isNaN_int64.f (a5544 : Int) : Option (Bool) := some (!decide (a5544 = a5544))
set_option maxRecDepth 100000 in
set_option maxHeartbeats 4000000 in
theorem cmp_isNaN_int64.ok {B : Base} {w : World} {l : List HProp} {hf : Hp} (a5544 : Int) (r : Bool) (h : cmp_isNaN_int64.f a5544 = some r) (hS : St B w (l) hf) :
    Calls Tryd.prog 47 #[.int .i64 a5544] w (Ret fun v w => v = .bool r ∧ St B w (l) hf) := by
  have h := Holds.of h
  refine enter (args := [.int .i64 a5544]) Tryd.func47 rfl Tryd.ntmps47 (Nat.le_of_ble_eq_true rfl) ?_
  refine RC.seq ?_
  refine RC.region ?_
  refine RL.s (Vl.assign rfl) rfl ?_
  refine RL.nil ?_
  refine RQ.then_n ?_
  refine RC.seq ?_
  refine RC.region ?_
  refine RL.s (Vl.move rfl) rfl ?_
  refine RL.s (Vl.move rfl) rfl ?_
  refine RL.s (Vl.int rfl rfl rfl) rfl ?_
  refine RL.s (Vl.assign rfl) rfl ?_
  refine RL.nil ?_
  refine RQ.then_n ?_
  refine RC.ret ?_
  have e := h.some
  subst e
  refine RQ.ret0 (vs := [.bool (!decide (a5544 = a5544))]) Tryd.results47 ⟨rfl, trivial⟩ ?_
  exact ⟨rfl, hS⟩

/-! ### cmp.Compare[int64]: function 31 -/
noncomputable def cmp_Compare_int64.f (a5542 : Int) (a5543 : Int) : Option (Int) := ((cmp_isNaN_int64.f a5542).bind fun t5558 => ((cmp_isNaN_int64.f a5543).bind fun t5560 => (if t5558 = true then (if t5560 = true then some 0 else some (-1)) else (if t5560 = true then some 1 else (if a5542 < a5543 then some (-1) else (if a5543 < a5542 then some 1 else some 0))))))
set_option maxRecDepth 100000 in
set_option maxHeartbeats 4000000 in
theorem cmp_Compare_int64.ok {B : Base} {w : World} {l : List HProp} {hf : Hp} (a5542 : Int) (a5543 : Int) (r : Int) (h : cmp_Compare_int64.f a5542 a5543 = some r) (hS : St B w (l) hf) :
    Calls Tryd.prog 31 #[.int .i64 a5542, .int .i64 a5543] w (Ret fun v w => v = .int .i64 r ∧ St B w (l) hf) := by
  have h := Holds.of h
  refine enter (args := [.int .i64 a5542, .int .i64 a5543]) Tryd.func31 rfl Tryd.ntmps31 (Nat.le_of_ble_eq_true rfl) ?_
  refine RC.seq ?_
  refine RC.region ?_
  refine RL.s (Vl.assign rfl) rfl ?_
  refine RL.nil ?_
  refine RQ.then_n ?_
  refine RC.seq ?_
  refine RC.region ?_
  refine RL.s (Vl.move rfl) rfl ?_
  obtain ⟨t5558, hg5559, h⟩ := h.bind
  refine RL.e (OW.callF (ls := [.tmp 7]) rfl Tryd.call47 (cmp_isNaN_int64.ok a5542 _ hg5559 hS)) rfl rfl ?_
  rintro _ w ⟨rfl, hS⟩
  have hS : St B w (l) hf := hS
  refine RL.s (Vl.assign rfl) rfl ?_
  refine RL.nil ?_
  refine RQ.then_n ?_
  refine RC.seq ?_
  refine RC.region ?_
  refine RL.s (Vl.move rfl) rfl ?_
  obtain ⟨t5560, hg5561, h⟩ := h.bind
  refine RL.e (OW.callF (ls := [.tmp 9]) rfl Tryd.call47 (cmp_isNaN_int64.ok a5543 _ hg5561 hS)) rfl rfl ?_
  rintro _ w ⟨rfl, hS⟩
  have hS : St B w (l) hf := hS
  refine RL.s (Vl.assign rfl) rfl ?_
  refine RL.nil ?_
  refine RQ.then_n ?_
  refine RC.seq ?_
  refine RC.seq ?_
  refine RC.region ?_
  refine RL.s (Vl.move rfl) rfl ?_
  refine RL.nil ?_
  refine RQ.then_n ?_
  by_cases hc5564 : t5558 = true
  case pos =>
   have h := h.pos hc5564
   refine RC.re 11 rfl (congrArg Value.bool (id hc5564)) ?_
   refine RC.condT rfl ?_
   refine RC.seq ?_
   refine RC.seq ?_
   refine RC.region ?_
   refine RL.s (Vl.move rfl) rfl ?_
   refine RL.nil ?_
   refine RQ.then_n ?_
   by_cases hc5565 : t5560 = true
   case pos =>
    have h := h.pos hc5565
    refine RC.re 12 rfl (congrArg Value.bool (id hc5565)) ?_
    refine RC.condT rfl ?_
    refine RC.seq ?_
    refine RC.region ?_
    refine RL.s (Vl.assign rfl) rfl ?_
    refine RL.nil ?_
    refine RQ.then_n ?_
    refine RC.ret ?_
    refine RQ.ret ?_
    refine RQ.ret ?_
    have e := h.some
    subst e
    refine RQ.ret0 (vs := [.int .i64 0]) Tryd.results31 ⟨rfl, trivial⟩ ?_
    exact ⟨rfl, hS⟩
   case neg =>
    have h := h.neg hc5565
    refine RC.re 12 rfl (congrArg Value.bool (eq_false_of hc5565)) ?_
    refine RC.condF rfl ?_
    refine RC.skip ?_
    refine RQ.then_n ?_
    refine RC.seq ?_
    refine RC.region ?_
    refine RL.s (Vl.assign rfl) rfl ?_
    refine RL.nil ?_
    refine RQ.then_n ?_
    refine RC.ret ?_
    refine RQ.ret ?_
    have e := h.some
    subst e
    refine RQ.ret0 (vs := [.int .i64 (-1)]) Tryd.results31 ⟨rfl, trivial⟩ ?_
    exact ⟨rfl, hS⟩
  case neg =>
   have h := h.neg hc5564
   refine RC.re 11 rfl (congrArg Value.bool (eq_false_of hc5564)) ?_
   refine RC.condF rfl ?_
   refine RC.skip ?_
   refine RQ.then_n ?_
   refine RC.seq ?_
   refine RC.seq ?_
   refine RC.region ?_
   refine RL.s (Vl.move rfl) rfl ?_
   refine RL.nil ?_
   refine RQ.then_n ?_
   by_cases hc5567 : t5560 = true
   case pos =>
    have h := h.pos hc5567
    refine RC.re 13 rfl (congrArg Value.bool (id hc5567)) ?_
    refine RC.condT rfl ?_
    refine RC.seq ?_
    refine RC.region ?_
    refine RL.s (Vl.assign rfl) rfl ?_
    refine RL.nil ?_
    refine RQ.then_n ?_
    refine RC.ret ?_
    refine RQ.ret ?_
    have e := h.some
    subst e
    refine RQ.ret0 (vs := [.int .i64 1]) Tryd.results31 ⟨rfl, trivial⟩ ?_
    exact ⟨rfl, hS⟩
   case neg =>
    have h := h.neg hc5567
    refine RC.re 13 rfl (congrArg Value.bool (eq_false_of hc5567)) ?_
    refine RC.condF rfl ?_
    refine RC.skip ?_
    refine RQ.then_n ?_
    refine RC.seq ?_
    refine RC.seq ?_
    refine RC.region ?_
    refine RL.s (Vl.move rfl) rfl ?_
    refine RL.s (Vl.move rfl) rfl ?_
    refine RL.s (Vl.int rfl rfl rfl) rfl ?_
    refine RL.nil ?_
    refine RQ.then_n ?_
    by_cases hc5569 : a5542 < a5543
    case pos =>
     have h := h.pos hc5569
     refine RC.re 16 rfl (congrArg Value.bool (decide_eq_true hc5569)) ?_
     refine RC.condT rfl ?_
     refine RC.seq ?_
     refine RC.region ?_
     refine RL.s (Vl.assign rfl) rfl ?_
     refine RL.nil ?_
     refine RQ.then_n ?_
     refine RC.ret ?_
     refine RQ.ret ?_
     have e := h.some
     subst e
     refine RQ.ret0 (vs := [.int .i64 (-1)]) Tryd.results31 ⟨rfl, trivial⟩ ?_
     exact ⟨rfl, hS⟩
    case neg =>
     have h := h.neg hc5569
     refine RC.re 16 rfl (congrArg Value.bool (decide_eq_false hc5569)) ?_
     refine RC.condF rfl ?_
     refine RC.skip ?_
     refine RQ.then_n ?_
     refine RC.seq ?_
     refine RC.seq ?_
     refine RC.region ?_
     refine RL.s (Vl.move rfl) rfl ?_
     refine RL.s (Vl.move rfl) rfl ?_
     refine RL.s (Vl.int rfl rfl rfl) rfl ?_
     refine RL.nil ?_
     refine RQ.then_n ?_
     by_cases hc5570 : a5543 < a5542
     case pos =>
      have h := h.pos hc5570
      refine RC.re 19 rfl (congrArg Value.bool (decide_eq_true hc5570)) ?_
      refine RC.condT rfl ?_
      refine RC.seq ?_
      refine RC.region ?_
      refine RL.s (Vl.assign rfl) rfl ?_
      refine RL.nil ?_
      refine RQ.then_n ?_
      refine RC.ret ?_
      refine RQ.ret ?_
      have e := h.some
      subst e
      refine RQ.ret0 (vs := [.int .i64 1]) Tryd.results31 ⟨rfl, trivial⟩ ?_
      exact ⟨rfl, hS⟩
     case neg =>
      have h := h.neg hc5570
      refine RC.re 19 rfl (congrArg Value.bool (decide_eq_false hc5570)) ?_
      refine RC.condF rfl ?_
      refine RC.skip ?_
      refine RQ.then_n ?_
      refine RC.seq ?_
      refine RC.region ?_
      refine RL.s (Vl.assign rfl) rfl ?_
      refine RL.nil ?_
      refine RQ.then_n ?_
      refine RC.ret ?_
      have e := h.some
      subst e
      refine RQ.ret0 (vs := [.int .i64 0]) Tryd.results31 ⟨rfl, trivial⟩ ?_
      exact ⟨rfl, hS⟩

/-! ### cmp.isNaN[int]: function 48 -/
noncomputable def cmp_isNaN_int.f (a5575 : Int) : Option (Bool) := some (!decide (a5575 = a5575))
set_option maxRecDepth 100000 in
set_option maxHeartbeats 4000000 in
theorem cmp_isNaN_int.ok {B : Base} {w : World} {l : List HProp} {hf : Hp} (a5575 : Int) (r : Bool) (h : cmp_isNaN_int.f a5575 = some r) (hS : St B w (l) hf) :
    Calls Tryd.prog 48 #[.int .i64 a5575] w (Ret fun v w => v = .bool r ∧ St B w (l) hf) := by
  have h := Holds.of h
  refine enter (args := [.int .i64 a5575]) Tryd.func48 rfl Tryd.ntmps48 (Nat.le_of_ble_eq_true rfl) ?_
  refine RC.seq ?_
  refine RC.region ?_
  refine RL.s (Vl.assign rfl) rfl ?_
  refine RL.nil ?_
  refine RQ.then_n ?_
  refine RC.seq ?_
  refine RC.region ?_
  refine RL.s (Vl.move rfl) rfl ?_
  refine RL.s (Vl.move rfl) rfl ?_
  refine RL.s (Vl.int rfl rfl rfl) rfl ?_
  refine RL.s (Vl.assign rfl) rfl ?_
  refine RL.nil ?_
  refine RQ.then_n ?_
  refine RC.ret ?_
  have e := h.some
  subst e
  refine RQ.ret0 (vs := [.bool (!decide (a5575 = a5575))]) Tryd.results48 ⟨rfl, trivial⟩ ?_
  exact ⟨rfl, hS⟩

/-! ### cmp.Compare[int]: function 32 -/
noncomputable def cmp_Compare_int.f (a5573 : Int) (a5574 : Int) : Option (Int) := ((cmp_isNaN_int.f a5573).bind fun t5589 => ((cmp_isNaN_int.f a5574).bind fun t5591 => (if t5589 = true then (if t5591 = true then some 0 else some (-1)) else (if t5591 = true then some 1 else (if a5573 < a5574 then some (-1) else (if a5574 < a5573 then some 1 else some 0))))))
set_option maxRecDepth 100000 in
set_option maxHeartbeats 4000000 in
theorem cmp_Compare_int.ok {B : Base} {w : World} {l : List HProp} {hf : Hp} (a5573 : Int) (a5574 : Int) (r : Int) (h : cmp_Compare_int.f a5573 a5574 = some r) (hS : St B w (l) hf) :
    Calls Tryd.prog 32 #[.int .i64 a5573, .int .i64 a5574] w (Ret fun v w => v = .int .i64 r ∧ St B w (l) hf) := by
  have h := Holds.of h
  refine enter (args := [.int .i64 a5573, .int .i64 a5574]) Tryd.func32 rfl Tryd.ntmps32 (Nat.le_of_ble_eq_true rfl) ?_
  refine RC.seq ?_
  refine RC.region ?_
  refine RL.s (Vl.assign rfl) rfl ?_
  refine RL.nil ?_
  refine RQ.then_n ?_
  refine RC.seq ?_
  refine RC.region ?_
  refine RL.s (Vl.move rfl) rfl ?_
  obtain ⟨t5589, hg5590, h⟩ := h.bind
  refine RL.e (OW.callF (ls := [.tmp 7]) rfl Tryd.call48 (cmp_isNaN_int.ok a5573 _ hg5590 hS)) rfl rfl ?_
  rintro _ w ⟨rfl, hS⟩
  have hS : St B w (l) hf := hS
  refine RL.s (Vl.assign rfl) rfl ?_
  refine RL.nil ?_
  refine RQ.then_n ?_
  refine RC.seq ?_
  refine RC.region ?_
  refine RL.s (Vl.move rfl) rfl ?_
  obtain ⟨t5591, hg5592, h⟩ := h.bind
  refine RL.e (OW.callF (ls := [.tmp 9]) rfl Tryd.call48 (cmp_isNaN_int.ok a5574 _ hg5592 hS)) rfl rfl ?_
  rintro _ w ⟨rfl, hS⟩
  have hS : St B w (l) hf := hS
  refine RL.s (Vl.assign rfl) rfl ?_
  refine RL.nil ?_
  refine RQ.then_n ?_
  refine RC.seq ?_
  refine RC.seq ?_
  refine RC.region ?_
  refine RL.s (Vl.move rfl) rfl ?_
  refine RL.nil ?_
  refine RQ.then_n ?_
  by_cases hc5595 : t5589 = true
  case pos =>
   have h := h.pos hc5595
   refine RC.re 11 rfl (congrArg Value.bool (id hc5595)) ?_
   refine RC.condT rfl ?_
   refine RC.seq ?_
   refine RC.seq ?_
   refine RC.region ?_
   refine RL.s (Vl.move rfl) rfl ?_
   refine RL.nil ?_
   refine RQ.then_n ?_
   by_cases hc5596 : t5591 = true
   case pos =>
    have h := h.pos hc5596
    refine RC.re 12 rfl (congrArg Value.bool (id hc5596)) ?_
    refine RC.condT rfl ?_
    refine RC.seq ?_
    refine RC.region ?_
    refine RL.s (Vl.assign rfl) rfl ?_
    refine RL.nil ?_
    refine RQ.then_n ?_
    refine RC.ret ?_
    refine RQ.ret ?_
    refine RQ.ret ?_
    have e := h.some
    subst e
    refine RQ.ret0 (vs := [.int .i64 0]) Tryd.results32 ⟨rfl, trivial⟩ ?_
    exact ⟨rfl, hS⟩
   case neg =>
    have h := h.neg hc5596
    refine RC.re 12 rfl (congrArg Value.bool (eq_false_of hc5596)) ?_
    refine RC.condF rfl ?_
    refine RC.skip ?_
    refine RQ.then_n ?_
    refine RC.seq ?_
    refine RC.region ?_
    refine RL.s (Vl.assign rfl) rfl ?_
    refine RL.nil ?_
    refine RQ.then_n ?_
    refine RC.ret ?_
    refine RQ.ret ?_
    have e := h.some
    subst e
    refine RQ.ret0 (vs := [.int .i64 (-1)]) Tryd.results32 ⟨rfl, trivial⟩ ?_
    exact ⟨rfl, hS⟩
  case neg =>
   have h := h.neg hc5595
   refine RC.re 11 rfl (congrArg Value.bool (eq_false_of hc5595)) ?_
   refine RC.condF rfl ?_
   refine RC.skip ?_
   refine RQ.then_n ?_
   refine RC.seq ?_
   refine RC.seq ?_
   refine RC.region ?_
   refine RL.s (Vl.move rfl) rfl ?_
   refine RL.nil ?_
   refine RQ.then_n ?_
   by_cases hc5598 : t5591 = true
   case pos =>
    have h := h.pos hc5598
    refine RC.re 13 rfl (congrArg Value.bool (id hc5598)) ?_
    refine RC.condT rfl ?_
    refine RC.seq ?_
    refine RC.region ?_
    refine RL.s (Vl.assign rfl) rfl ?_
    refine RL.nil ?_
    refine RQ.then_n ?_
    refine RC.ret ?_
    refine RQ.ret ?_
    have e := h.some
    subst e
    refine RQ.ret0 (vs := [.int .i64 1]) Tryd.results32 ⟨rfl, trivial⟩ ?_
    exact ⟨rfl, hS⟩
   case neg =>
    have h := h.neg hc5598
    refine RC.re 13 rfl (congrArg Value.bool (eq_false_of hc5598)) ?_
    refine RC.condF rfl ?_
    refine RC.skip ?_
    refine RQ.then_n ?_
    refine RC.seq ?_
    refine RC.seq ?_
    refine RC.region ?_
    refine RL.s (Vl.move rfl) rfl ?_
    refine RL.s (Vl.move rfl) rfl ?_
    refine RL.s (Vl.int rfl rfl rfl) rfl ?_
    refine RL.nil ?_
    refine RQ.then_n ?_
    by_cases hc5600 : a5573 < a5574
    case pos =>
     have h := h.pos hc5600
     refine RC.re 16 rfl (congrArg Value.bool (decide_eq_true hc5600)) ?_
     refine RC.condT rfl ?_
     refine RC.seq ?_
     refine RC.region ?_
     refine RL.s (Vl.assign rfl) rfl ?_
     refine RL.nil ?_
     refine RQ.then_n ?_
     refine RC.ret ?_
     refine RQ.ret ?_
     have e := h.some
     subst e
     refine RQ.ret0 (vs := [.int .i64 (-1)]) Tryd.results32 ⟨rfl, trivial⟩ ?_
     exact ⟨rfl, hS⟩
    case neg =>
     have h := h.neg hc5600
     refine RC.re 16 rfl (congrArg Value.bool (decide_eq_false hc5600)) ?_
     refine RC.condF rfl ?_
     refine RC.skip ?_
     refine RQ.then_n ?_
     refine RC.seq ?_
     refine RC.seq ?_
     refine RC.region ?_
     refine RL.s (Vl.move rfl) rfl ?_
     refine RL.s (Vl.move rfl) rfl ?_
     refine RL.s (Vl.int rfl rfl rfl) rfl ?_
     refine RL.nil ?_
     refine RQ.then_n ?_
     by_cases hc5601 : a5574 < a5573
     case pos =>
      have h := h.pos hc5601
      refine RC.re 19 rfl (congrArg Value.bool (decide_eq_true hc5601)) ?_
      refine RC.condT rfl ?_
      refine RC.seq ?_
      refine RC.region ?_
      refine RL.s (Vl.assign rfl) rfl ?_
      refine RL.nil ?_
      refine RQ.then_n ?_
      refine RC.ret ?_
      refine RQ.ret ?_
      have e := h.some
      subst e
      refine RQ.ret0 (vs := [.int .i64 1]) Tryd.results32 ⟨rfl, trivial⟩ ?_
      exact ⟨rfl, hS⟩
     case neg =>
      have h := h.neg hc5601
      refine RC.re 19 rfl (congrArg Value.bool (decide_eq_false hc5601)) ?_
      refine RC.condF rfl ?_
      refine RC.skip ?_
      refine RQ.then_n ?_
      refine RC.seq ?_
      refine RC.region ?_
      refine RL.s (Vl.assign rfl) rfl ?_
      refine RL.nil ?_
      refine RQ.then_n ?_
      refine RC.ret ?_
      have e := h.some
      subst e
      refine RQ.ret0 (vs := [.int .i64 0]) Tryd.results32 ⟨rfl, trivial⟩ ?_
      exact ⟨rfl, hS⟩

/-! ### cmp.Or[int]: function 30 -/
noncomputable def cmp_Or_int.l2b (a5608 : List Int) : Int → Option ((Int) ⊕ (Int))
  | (x5637) => (if x5637 < (a5608.length : Int) then (if 0 ≤ x5637 then (if nth a5608 x5637 = 0 then some (.inl (IntKind.i64.wrap (x5637 + 1))) else some (.inr (nth a5608 x5637))) else none) else some (.inr 0))
noncomputable def cmp_Or_int.l2 (a5608 : List Int) (s : Int) : Option (Int) := loopR (cmp_Or_int.l2b a5608) s
noncomputable def cmp_Or_int.f (a5608 : List Int) : Option (Int) := cmp_Or_int.l2 a5608 (0)
set_option maxRecDepth 100000 in
set_option maxHeartbeats 4000000 in
theorem cmp_Or_int.ok {B : Base} {w : World} {l : List HProp} {hf : Hp} (a5608 : List Int) (A5609 : Option Addr) (c5610 : Nat) (hr5611 : SlR ((FI .i64).rep) hf A5609 c5610 a5608) (r : Int) (h : cmp_Or_int.f a5608 = some r) (hS : St B w (l) hf) :
    Calls Tryd.prog 30 #[.slice A5609 a5608.length c5610] w (Ret fun v w => v = .int .i64 r ∧ St B w (l) hf) := by
  have h := Holds.of h
  refine enter (args := [.slice A5609 a5608.length c5610]) Tryd.func30 rfl Tryd.ntmps30 (Nat.le_of_ble_eq_true rfl) ?_
  refine RC.seq ?_
  refine RC.region ?_
  refine RL.s (Vl.assign rfl) rfl ?_
  refine RL.nil ?_
  refine RQ.then_n ?_
  refine RC.seq ?_
  refine RC.region ?_
  refine RL.s (Vl.assign rfl) rfl ?_
  refine RL.nil ?_
  refine RQ.then_n ?_
  refine RC.seq ?_
  refine RC.seq ?_
  refine RC.region ?_
  refine RL.s (Vl.move rfl) rfl ?_
  refine RL.s (Vl.lenSl Tryd.underlying46 rfl) rfl ?_
  refine RL.s (Vl.move rfl) rfl ?_
  refine RL.nil ?_
  refine RQ.then_n ?_
  refine RC.block ?_
  refine fun a ha => RC.loop (N := 18) (body := (cmp_Or_int.l2b a5608)) (φ := (· = r)) (fun (s : Int) a w => ∃ (x5637 : Int), s = (x5637) ∧ Has 18 [(3, .int .i64 0), (6, .slice A5609 a5608.length c5610), (7, .int .i64 (a5608.length : Int)), (8, .int .i64 x5637)] a ∧ St B w (l) hf) ?_ (s0 := (0)) h ⟨0, rfl, ha.to ⟨rfl, rfl, rfl, rfl, trivial⟩, hS⟩
  rintro G5645 x5637 a w ⟨_, rfl, ha, hS⟩ h
  revert a
  show RC _ _ _ _ _ _
  refine RC.seq ?_
  refine RC.region ?_
  refine RL.s (Vl.int rfl rfl rfl) rfl ?_
  refine RL.nil ?_
  refine RQ.then_n ?_
  refine RC.seq ?_
  by_cases hc5647 : x5637 < (a5608.length : Int)
  case pos =>
   have h := h.pos hc5647
   refine RC.re 9 rfl (congrArg Value.bool (decide_eq_true hc5647)) ?_
   refine RC.condT rfl ?_
   refine RC.skip ?_
   refine RQ.then_n ?_
   refine RC.seq ?_
   refine RC.block ?_
   refine RC.seq ?_
   refine RC.region ?_
   obtain ⟨hq5650, h⟩ := h.req
   refine RL.s (Vl.indexAddr Tryd.underlying46 Tryd.sizeOf3 rfl rfl ((hr5611.2.world hS.sub).adr hq5650 hc5647) hq5650 hc5647 rfl) rfl ?_
   refine RL.s (Vl.load Tryd.isAgg3 rfl ((hr5611.2.world hS.sub).cell (j := 0) hq5650 hc5647 rfl)) rfl ?_
   refine RL.s (Vl.assign rfl) rfl ?_
   refine RL.nil ?_
   refine RQ.then_n ?_
   refine RC.seq ?_
   refine RC.region ?_
   refine RL.s (Vl.move rfl) rfl ?_
   refine RL.s (Vl.move rfl) rfl ?_
   refine RL.s (Vl.int rfl rfl rfl) rfl ?_
   refine RL.nil ?_
   refine RQ.then_n ?_
   by_cases hc5651 : nth a5608 x5637 = 0
   case pos =>
    have h := h.pos hc5651
    refine RC.re 14 rfl (congrArg Value.bool (notdec_pos hc5651)) ?_
    refine RC.condF rfl ?_
    refine RC.skip ?_
    refine RQ.inB_n ?_
    refine RQ.then_n ?_
    refine RC.region ?_
    refine RL.s (Vl.int rfl rfl rfl) rfl ?_
    refine RL.s (Vl.move rfl) rfl ?_
    refine RL.nil ?_
    exact fun a ha => ⟨(IntKind.i64.wrap (x5637 + 1)), ⟨(IntKind.i64.wrap (x5637 + 1)), rfl, ha.to ⟨rfl, rfl, rfl, rfl, trivial⟩, hS⟩, h.some⟩
   case neg =>
    have h := h.neg hc5651
    refine RC.re 14 rfl (congrArg Value.bool (notdec_neg hc5651)) ?_
    refine RC.condT rfl ?_
    refine RC.seq ?_
    refine RC.region ?_
    refine RL.s (Vl.move rfl) rfl ?_
    refine RL.s (Vl.assign rfl) rfl ?_
    refine RL.nil ?_
    refine RQ.then_n ?_
    refine RC.ret ?_
    refine RQ.inB_ret ?_
    refine RQ.ret ?_
    have h := h.inrS
    refine RQ.ret ?_
    refine RQ.inB_ret ?_
    refine RQ.ret ?_
    have e := h.some
    subst e
    refine RQ.ret0 (vs := [.int .i64 (nth a5608 x5637)]) Tryd.results30 ⟨rfl, trivial⟩ ?_
    exact ⟨rfl, hS⟩
  case neg =>
   have h := h.neg hc5647
   refine RC.re 9 rfl (congrArg Value.bool (decide_eq_false hc5647)) ?_
   refine RC.condF rfl ?_
   refine RC.exit ?_
   refine RQ.exitT ?_
   have h := h.inrS
   refine RQ.exitT ?_
   refine RQ.inB_hit ?_
   refine RQ.then_n ?_
   refine RC.seq ?_
   refine RC.region ?_
   refine RL.s (Vl.move rfl) rfl ?_
   refine RL.s (Vl.assign rfl) rfl ?_
   refine RL.nil ?_
   refine RQ.then_n ?_
   refine RC.ret ?_
   have e := h.some
   subst e
   refine RQ.ret0 (vs := [.int .i64 0]) Tryd.results30 ⟨rfl, trivial⟩ ?_
   exact ⟨rfl, hS⟩

/-! ### isochron/event.Compare: function 19 -/
noncomputable def event_Compare.f (a5534 : api_Key) (a5535 : api_Key) : Option (Int) := (if a5534 = a5535 then some 0 else ((cmp_Compare_int64.f a5534.Time a5535.Time).bind fun t5664 => ((cmp_Compare_int.f a5534.From a5535.From).bind fun t5666 => ((cmp_Compare_int.f a5534.Seq a5535.Seq).bind fun t5668 => ((cmp_Or_int.f ([t5664, t5666, t5668] : List Int)).bind fun t5676 => some t5676)))))
set_option maxRecDepth 100000 in
set_option maxHeartbeats 4000000 in
theorem event_Compare.ok {B : Base} {w : World} {l : List HProp} {hf : Hp} (a5534 : api_Key) (a5535 : api_Key) (r : Int) (h : event_Compare.f a5534 a5535 = some r) (hS : St B w (l) hf) :
    Calls Tryd.prog 19 #[.agg #[.int .i64 a5534.Time, .int .i64 a5534.From, .int .i64 a5534.Seq], .agg #[.int .i64 a5535.Time, .int .i64 a5535.From, .int .i64 a5535.Seq]] w (Ret fun v w => v = .int .i64 r ∧ St B w (l) hf) := by
  have h := Holds.of h
  refine enter (args := [.agg #[.int .i64 a5534.Time, .int .i64 a5534.From, .int .i64 a5534.Seq], .agg #[.int .i64 a5535.Time, .int .i64 a5535.From, .int .i64 a5535.Seq]]) Tryd.func19 rfl Tryd.ntmps19 (Nat.le_of_ble_eq_true rfl) ?_
  refine RC.seq ?_
  refine RC.region ?_
  refine RL.e (OW.box (cs := [.int .i64 a5534.Time, .int .i64 a5534.From, .int .i64 a5534.Seq]) hS rfl rfl) rfl rfl ?_
  rintro _ w ⟨b5659, rfl, hS⟩
  have hS : St B w (Cl b5659 [.int .i64 a5534.Time, .int .i64 a5534.From, .int .i64 a5534.Seq] 31 :: l) hf := hS
  refine RL.e (OW.box (cs := [.int .i64 a5535.Time, .int .i64 a5535.From, .int .i64 a5535.Seq]) hS rfl rfl) rfl rfl ?_
  rintro _ w ⟨b5661, rfl, hS⟩
  have hS : St B w (Cl b5661 [.int .i64 a5535.Time, .int .i64 a5535.From, .int .i64 a5535.Seq] 31 :: Cl b5659 [.int .i64 a5534.Time, .int .i64 a5534.From, .int .i64 a5534.Seq] 31 :: l) hf := hS
  refine RL.s (Vl.assign rfl) rfl ?_
  refine RL.nil ?_
  refine RQ.then_n ?_
  refine RC.seq ?_
  refine RC.seq ?_
  refine RC.region ?_
  refine RL.s (Vl.loadA (vs := [.int .i64 a5534.Time, .int .i64 a5534.From, .int .i64 a5534.Seq]) Tryd.isAgg31 Tryd.sizeOf31 rfl rfl (hS.cellsAt 1 rfl rfl)) rfl ?_
  refine RL.s (Vl.loadA (vs := [.int .i64 a5535.Time, .int .i64 a5535.From, .int .i64 a5535.Seq]) Tryd.isAgg31 Tryd.sizeOf31 rfl rfl (hS.cellsAt 0 rfl rfl)) rfl ?_
  refine RL.s (Vl.eqlS (run_eql_api_Key _ _ a5534 a5535) rfl rfl) rfl ?_
  refine RL.nil ?_
  refine RQ.then_n ?_
  by_cases hc5663 : a5534 = a5535
  case pos =>
   have h := h.pos hc5663
   refine RC.re 7 rfl (congrArg Value.bool (decide_eq_true hc5663)) ?_
   refine RC.condT rfl ?_
   refine RC.seq ?_
   refine RC.region ?_
   refine RL.s (Vl.assign rfl) rfl ?_
   refine RL.nil ?_
   refine RQ.then_n ?_
   refine RC.ret ?_
   refine RQ.ret ?_
   have e := h.some
   subst e
   refine RQ.ret0 (vs := [.int .i64 0]) Tryd.results19 ⟨rfl, trivial⟩ ?_
   exact ⟨rfl, ((hS.dropAt 0 rfl).dropAt 0 rfl)⟩
  case neg =>
   have h := h.neg hc5663
   refine RC.re 7 rfl (congrArg Value.bool (decide_eq_false hc5663)) ?_
   refine RC.condF rfl ?_
   refine RC.skip ?_
   refine RQ.then_n ?_
   refine RC.seq ?_
   refine RC.plan (.pure 0 (.cons 1 true (.pure 2 (.cons 3 true (.pure 5 (.cons 6 true (.pure 7 (.cons 8 true (.pure 10 (.cons 11 true (.pure 12 (.cons 13 true (.cons 4 false (.cons 9 false (.cons 14 false (.cons 15 false (.cons 16 false (.cons 17 false .nil)))))))))))))))))) [17] (fun w => St B w (Cl b5661 [.int .i64 a5535.Time, .int .i64 a5535.From, .int .i64 a5535.Seq] 31 :: Cl b5659 [.int .i64 a5534.Time, .int .i64 a5534.From, .int .i64 a5534.Seq] 31 :: l) hf) follows rfl (by kernel_rfl) (NoTmp.then NoTmp.body) ?_
   have hS := hS.same (w' := { w with drawn := w.drawn + 1 }) rfl rfl
   revert hS
   generalize { w with drawn := w.drawn + 1 } = w
   intro hS
   refine RP.s0 0 rfl (fun w => Vl.fieldAddr (a'' := ⟨b5659, 0, none⟩) Tryd.underlying31 rfl Tryd.sizeOf2 rfl rfl) rfl ?_
   refine RP.s 1 rfl rfl hS (fun w hS => Vl.load Tryd.isAgg2 rfl (hS.cell 1 rfl rfl)) rfl ?_
   refine RP.s0 2 rfl (fun w => Vl.fieldAddr (a'' := ⟨b5661, 0, none⟩) Tryd.underlying31 rfl Tryd.sizeOf2 rfl rfl) rfl ?_
   refine RP.s 3 rfl rfl hS (fun w hS => Vl.load Tryd.isAgg2 rfl (hS.cell 0 rfl rfl)) rfl ?_
   refine RP.s0 5 rfl (fun w => Vl.fieldAddr (a'' := ⟨b5659, 1, none⟩) Tryd.underlying31 rfl Tryd.sizeOf3 rfl rfl) rfl ?_
   refine RP.s 6 rfl rfl hS (fun w hS => Vl.load Tryd.isAgg3 rfl (hS.cell 1 rfl rfl)) rfl ?_
   refine RP.s0 7 rfl (fun w => Vl.fieldAddr (a'' := ⟨b5661, 1, none⟩) Tryd.underlying31 rfl Tryd.sizeOf3 rfl rfl) rfl ?_
   refine RP.s 8 rfl rfl hS (fun w hS => Vl.load Tryd.isAgg3 rfl (hS.cell 0 rfl rfl)) rfl ?_
   refine RP.s0 10 rfl (fun w => Vl.fieldAddr (a'' := ⟨b5659, 2, none⟩) Tryd.underlying31 rfl Tryd.sizeOf3 rfl rfl) rfl ?_
   refine RP.s 11 rfl rfl hS (fun w hS => Vl.load Tryd.isAgg3 rfl (hS.cell 1 rfl rfl)) rfl ?_
   refine RP.s0 12 rfl (fun w => Vl.fieldAddr (a'' := ⟨b5661, 2, none⟩) Tryd.underlying31 rfl Tryd.sizeOf3 rfl rfl) rfl ?_
   refine RP.s 13 rfl rfl hS (fun w hS => Vl.load Tryd.isAgg3 rfl (hS.cell 0 rfl rfl)) rfl ?_
   obtain ⟨t5664, hg5665, h⟩ := h.bind
   refine RP.e 4 rfl (OW.callF (ls := [.tmp 9, .tmp 11]) rfl Tryd.call31 (cmp_Compare_int64.ok a5534.Time a5535.Time _ hg5665 hS)) rfl rfl ?_
   rintro _ w ⟨rfl, hS⟩
   have hS : St B w (Cl b5661 [.int .i64 a5535.Time, .int .i64 a5535.From, .int .i64 a5535.Seq] 31 :: Cl b5659 [.int .i64 a5534.Time, .int .i64 a5534.From, .int .i64 a5534.Seq] 31 :: l) hf := hS
   refine ⟨fun _ => hS, ?_⟩
   obtain ⟨t5666, hg5667, h⟩ := h.bind
   refine RP.e 9 rfl (OW.callF (ls := [.tmp 14, .tmp 16]) rfl Tryd.call32 (cmp_Compare_int.ok a5534.From a5535.From _ hg5667 hS)) rfl rfl ?_
   rintro _ w ⟨rfl, hS⟩
   have hS : St B w (Cl b5661 [.int .i64 a5535.Time, .int .i64 a5535.From, .int .i64 a5535.Seq] 31 :: Cl b5659 [.int .i64 a5534.Time, .int .i64 a5534.From, .int .i64 a5534.Seq] 31 :: l) hf := hS
   refine ⟨fun _ => hS, ?_⟩
   obtain ⟨t5668, hg5669, h⟩ := h.bind
   refine RP.e 14 rfl (OW.callF (ls := [.tmp 19, .tmp 21]) rfl Tryd.call32 (cmp_Compare_int.ok a5534.Seq a5535.Seq _ hg5669 hS)) rfl rfl ?_
   rintro _ w ⟨rfl, hS⟩
   have hS : St B w (Cl b5661 [.int .i64 a5535.Time, .int .i64 a5535.From, .int .i64 a5535.Seq] 31 :: Cl b5659 [.int .i64 a5534.Time, .int .i64 a5534.From, .int .i64 a5534.Seq] 31 :: l) hf := hS
   refine ⟨fun _ => hS, ?_⟩
   refine RP.e 15 rfl (OW.buildSlice (E := (FI .i64)) (xs := ([t5664, t5666, t5668] : List Int)) (cs := [.int .i64 t5664, .int .i64 t5666, .int .i64 t5668]) hS Tryd.underlying46 Tryd.zeroValue3 Tryd.sizeOf3 (parts := [(0, .tmp 12), (1, .tmp 17), (2, .tmp 22)]) rfl rfl (by decide) (by decide) (by kernel_rfl) rfl) rfl rfl ?_
   rintro _ w ⟨b5671, rfl, hS⟩
   have hS : St B w (OSf (FI .i64) 3 (.slice (some ⟨b5671, 0, none⟩) ([t5664, t5666, t5668] : List Int).length 3) ([t5664, t5666, t5668] : List Int) :: Cl b5661 [.int .i64 a5535.Time, .int .i64 a5535.From, .int .i64 a5535.Seq] 31 :: Cl b5659 [.int .i64 a5534.Time, .int .i64 a5534.From, .int .i64 a5534.Seq] 31 :: l) hf := hS
   refine ⟨fun _ => (hS.dropAt 0 rfl), ?_⟩
   obtain ⟨hf5675, hs5673, hS, hr5672, hb5674⟩ := St.lendSl hS
   obtain ⟨t5676, hg5677, h⟩ := h.bind
   refine RP.e 16 rfl (OW.callF (ls := [.tmp 23]) rfl Tryd.call30 (cmp_Or_int.ok ([t5664, t5666, t5668] : List Int) (some ⟨b5671, 0, none⟩) 3 hr5672 _ hg5677 hS)) rfl rfl ?_
   rintro _ w ⟨rfl, hS⟩
   have hS := hb5674 _ _ hS
   have hS : St B w (OSf (FI .i64) 3 (.slice (some ⟨b5671, 0, none⟩) ([t5664, t5666, t5668] : List Int).length 3) ([t5664, t5666, t5668] : List Int) :: Cl b5661 [.int .i64 a5535.Time, .int .i64 a5535.From, .int .i64 a5535.Seq] 31 :: Cl b5659 [.int .i64 a5534.Time, .int .i64 a5534.From, .int .i64 a5534.Seq] 31 :: l) hf := hS
   refine ⟨fun _ => (hS.dropAt 0 rfl), ?_⟩
   refine RP.v1 17 rfl (Vl.assign rfl) rfl rfl ?_
   refine RP.nil ?_
   refine RQ.then_n ?_
   refine RC.ret ?_
   have e := h.some
   subst e
   refine RQ.ret0 (vs := [.int .i64 t5676]) Tryd.results19 ⟨rfl, trivial⟩ ?_
   exact ⟨rfl, (((hS.dropAt 0 rfl).dropAt 0 rfl).dropAt 0 rfl)⟩

end Go.Proofs.Gx
