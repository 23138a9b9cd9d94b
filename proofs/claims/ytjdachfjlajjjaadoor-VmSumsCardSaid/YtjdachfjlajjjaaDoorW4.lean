/-
  The walks of functions, each with what it computes: printed by wip/gx.py.
-/
import Derived.Test.YtjdachfjlajjjaaDoorW0
import Derived.Test.YtjdachfjlajjjaaDoorW1
import Derived.Test.YtjdachfjlajjjaaDoorW3
set_option linter.unusedVariables false
namespace Go.Proofs.Gx
open Go.Sl
/-! ### isochron/vm.Run: function 11 -/
noncomputable def vm_Run.j2 (a16 : api_State) (fn3547 : (Nat → Int)) (x3548 : Int) (l3549 : List api_Out) (x3553 : Int) : Option (api_State × List api_Out × Int) := some ((⟨(⟨fn3547 0, fn3547 1, fn3547 2, fn3547 3, fn3547 4, fn3547 5, fn3547 6, fn3547 7⟩ : Arr8xInti64), x3548, IntKind.i64.wrap (a16.Sent + (l3549.length : Int))⟩ : api_State), l3549, 0)
noncomputable def vm_Run.f (a9 : api_World) (a16 : api_State) (a17 : api_Message) : Option (api_State × List api_Out × Int) := ((vm_Check.f a9).bind fun t3497 => (if t3497 = 0 then ((event_Check.f a17).bind fun t3505 => (if t3505 = 0 then (if (if a16.Sent < a16.Draws then a16.Sent else a16.Draws) < 0 then some ((⟨(⟨0, 0, 0, 0, 0, 0, 0, 0⟩ : Arr8xInti64), 0, 0⟩ : api_State), ([] : List api_Out), 1) else (if 1125899906842624 < (if a16.Draws < a16.Sent then a16.Sent else a16.Draws) then some ((⟨(⟨0, 0, 0, 0, 0, 0, 0, 0⟩ : Arr8xInti64), 0, 0⟩ : api_State), ([] : List api_Out), 1) else ((vm_cpu_run.f a9.Prog a9.Self a9.Links a9.Seed a17.Key.Time a17.Key.From a17.Key.Seq a17.To a17.Value a17.Uid a17.Anti a16.Draws ([] : List api_Out) 0 (ovl [a16.Regs.c0, a16.Regs.c1, a16.Regs.c2, a16.Regs.c3, a16.Regs.c4, a16.Regs.c5, a16.Regs.c6, a16.Regs.c7] zfn)).bind fun t3557 => match t3557 with | .inl (y3559, y3560, y3561, y3562) => ((errors_As.f (⟨0, 0⟩ : vm_fault)).bind fun t3566 => (if t3566 = true then some (a16, ([] : List api_Out), 0) else vm_Run.j2 a16 y3559 y3560 y3561 y3562)) | .inr ((y3570, y3571, y3572, y3573, y3574)) => ((errors_As_2.f y3570 (⟨0, 0⟩ : vm_fault)).bind fun (y3585, y3586) => (if y3585 = true then some (a16, ([] : List api_Out), y3586.why) else vm_Run.j2 a16 y3571 y3572 y3573 y3574))))) else some ((⟨(⟨0, 0, 0, 0, 0, 0, 0, 0⟩ : Arr8xInti64), 0, 0⟩ : api_State), ([] : List api_Out), 1))) else some ((⟨(⟨0, 0, 0, 0, 0, 0, 0, 0⟩ : Arr8xInti64), 0, 0⟩ : api_State), ([] : List api_Out), t3497)))
set_option maxRecDepth 100000 in
set_option maxHeartbeats 4000000 in
theorem vm_Run.ok {B : Base} {w : World} {l : List HProp} {hf : Hp} (a9 : api_World) (a16 : api_State) (a17 : api_Message) (A10 : Option Addr) (c11 : Nat) (A13 : Option Addr) (c14 : Nat) (hr12 : SlR E_api_Instr.rep hf A10 c11 a9.Prog) (hr15 : SlR E_api_Link.rep hf A13 c14 a9.Links) (hG0 : GlobAt hf 0 (.iface 118 (.agg #[.pointer (some ⟨1, 71, none⟩)]))) (r : api_State × List api_Out × Int) (h : vm_Run.f a9 a16 a17 = some r) (hS : St B w (l) hf) :
    Calls Tryd.prog 11 #[.agg #[.slice A10 a9.Prog.length c11, .int .i64 a9.Self, .slice A13 a9.Links.length c14, .int .u64 a9.Seed], .agg #[.int .i64 a16.Regs.c0, .int .i64 a16.Regs.c1, .int .i64 a16.Regs.c2, .int .i64 a16.Regs.c3, .int .i64 a16.Regs.c4, .int .i64 a16.Regs.c5, .int .i64 a16.Regs.c6, .int .i64 a16.Regs.c7, .int .i64 a16.Draws, .int .i64 a16.Sent], .agg #[.int .i64 a17.Key.Time, .int .i64 a17.Key.From, .int .i64 a17.Key.Seq, .int .i64 a17.To, .int .i64 a17.Value, .int .i64 a17.Uid, .bool a17.Anti]] w (Ret fun v w => ∃ (A_1 : Option Addr) (c_2 : Nat), v = .tuple #[.agg #[.int .i64 r.1.Regs.c0, .int .i64 r.1.Regs.c1, .int .i64 r.1.Regs.c2, .int .i64 r.1.Regs.c3, .int .i64 r.1.Regs.c4, .int .i64 r.1.Regs.c5, .int .i64 r.1.Regs.c6, .int .i64 r.1.Regs.c7, .int .i64 r.1.Draws, .int .i64 r.1.Sent], .slice A_1 r.2.1.length c_2, .int .i64 r.2.2] ∧ St B w (OSf E_api_Out 58 (.slice A_1 r.2.1.length c_2) r.2.1 :: l) hf) := by
  have h := Holds.of h
  refine enter (args := [.agg #[.slice A10 a9.Prog.length c11, .int .i64 a9.Self, .slice A13 a9.Links.length c14, .int .u64 a9.Seed], .agg #[.int .i64 a16.Regs.c0, .int .i64 a16.Regs.c1, .int .i64 a16.Regs.c2, .int .i64 a16.Regs.c3, .int .i64 a16.Regs.c4, .int .i64 a16.Regs.c5, .int .i64 a16.Regs.c6, .int .i64 a16.Regs.c7, .int .i64 a16.Draws, .int .i64 a16.Sent], .agg #[.int .i64 a17.Key.Time, .int .i64 a17.Key.From, .int .i64 a17.Key.Seq, .int .i64 a17.To, .int .i64 a17.Value, .int .i64 a17.Uid, .bool a17.Anti]]) Tryd.func11 rfl Tryd.ntmps11 (Nat.le_of_ble_eq_true rfl) ?_
  refine RC.seq ?_
  refine RC.region ?_
  refine RL.e (OW.box (cs := [.slice A10 a9.Prog.length c11, .int .i64 a9.Self, .slice A13 a9.Links.length c14, .int .u64 a9.Seed]) hS rfl rfl) rfl rfl ?_
  rintro _ w ⟨b3487, rfl, hS⟩
  have hS : St B w (Cl b3487 [.slice A10 a9.Prog.length c11, .int .i64 a9.Self, .slice A13 a9.Links.length c14, .int .u64 a9.Seed] 26 :: l) hf := hS
  refine RL.e (OW.box (cs := [.int .i64 a16.Regs.c0, .int .i64 a16.Regs.c1, .int .i64 a16.Regs.c2, .int .i64 a16.Regs.c3, .int .i64 a16.Regs.c4, .int .i64 a16.Regs.c5, .int .i64 a16.Regs.c6, .int .i64 a16.Regs.c7, .int .i64 a16.Draws, .int .i64 a16.Sent]) hS rfl rfl) rfl rfl ?_
  rintro _ w ⟨b3489, rfl, hS⟩
  have hS : St B w (Cl b3489 [.int .i64 a16.Regs.c0, .int .i64 a16.Regs.c1, .int .i64 a16.Regs.c2, .int .i64 a16.Regs.c3, .int .i64 a16.Regs.c4, .int .i64 a16.Regs.c5, .int .i64 a16.Regs.c6, .int .i64 a16.Regs.c7, .int .i64 a16.Draws, .int .i64 a16.Sent] 29 :: Cl b3487 [.slice A10 a9.Prog.length c11, .int .i64 a9.Self, .slice A13 a9.Links.length c14, .int .u64 a9.Seed] 26 :: l) hf := hS
  refine RL.e (OW.box (cs := [.int .i64 a17.Key.Time, .int .i64 a17.Key.From, .int .i64 a17.Key.Seq, .int .i64 a17.To, .int .i64 a17.Value, .int .i64 a17.Uid, .bool a17.Anti]) hS rfl rfl) rfl rfl ?_
  rintro _ w ⟨b3491, rfl, hS⟩
  have hS : St B w (Cl b3491 [.int .i64 a17.Key.Time, .int .i64 a17.Key.From, .int .i64 a17.Key.Seq, .int .i64 a17.To, .int .i64 a17.Value, .int .i64 a17.Uid, .bool a17.Anti] 33 :: Cl b3489 [.int .i64 a16.Regs.c0, .int .i64 a16.Regs.c1, .int .i64 a16.Regs.c2, .int .i64 a16.Regs.c3, .int .i64 a16.Regs.c4, .int .i64 a16.Regs.c5, .int .i64 a16.Regs.c6, .int .i64 a16.Regs.c7, .int .i64 a16.Draws, .int .i64 a16.Sent] 29 :: Cl b3487 [.slice A10 a9.Prog.length c11, .int .i64 a9.Self, .slice A13 a9.Links.length c14, .int .u64 a9.Seed] 26 :: l) hf := hS
  refine RL.e (OW.alloc (cs := [.int .i64 0, .int .i64 0, .int .i64 0, .int .i64 0, .int .i64 0, .int .i64 0, .int .i64 0, .int .i64 0, .int .i64 0, .int .i64 0]) hS Tryd.zeroValue29 rfl) rfl rfl ?_
  rintro _ w ⟨b3493, rfl, hS⟩
  have hS : St B w (Cl b3493 [.int .i64 0, .int .i64 0, .int .i64 0, .int .i64 0, .int .i64 0, .int .i64 0, .int .i64 0, .int .i64 0, .int .i64 0, .int .i64 0] 29 :: Cl b3491 [.int .i64 a17.Key.Time, .int .i64 a17.Key.From, .int .i64 a17.Key.Seq, .int .i64 a17.To, .int .i64 a17.Value, .int .i64 a17.Uid, .bool a17.Anti] 33 :: Cl b3489 [.int .i64 a16.Regs.c0, .int .i64 a16.Regs.c1, .int .i64 a16.Regs.c2, .int .i64 a16.Regs.c3, .int .i64 a16.Regs.c4, .int .i64 a16.Regs.c5, .int .i64 a16.Regs.c6, .int .i64 a16.Regs.c7, .int .i64 a16.Draws, .int .i64 a16.Sent] 29 :: Cl b3487 [.slice A10 a9.Prog.length c11, .int .i64 a9.Self, .slice A13 a9.Links.length c14, .int .u64 a9.Seed] 26 :: l) hf := hS
  refine RL.s (Vl.assign rfl) rfl ?_
  refine RL.s (Vl.assign rfl) rfl ?_
  refine RL.nil ?_
  refine RQ.then_n ?_
  refine RC.seq ?_
  refine RC.seq ?_
  refine RC.region ?_
  refine RL.s (Vl.loadA (vs := [.slice A10 a9.Prog.length c11, .int .i64 a9.Self, .slice A13 a9.Links.length c14, .int .u64 a9.Seed]) Tryd.isAgg26 Tryd.sizeOf26 rfl rfl (hS.cellsAt 3 rfl rfl)) rfl ?_
  obtain ⟨t3497, hg3498, h⟩ := h.bind
  refine RL.e (OW.callF (ls := [.tmp 14]) rfl Tryd.call15 (vm_Check.ok a9 A10 c11 A13 c14 hr12 hr15 _ hg3498 hS)) rfl rfl ?_
  rintro _ w ⟨rfl, hS⟩
  have hS : St B w (Cl b3493 [.int .i64 0, .int .i64 0, .int .i64 0, .int .i64 0, .int .i64 0, .int .i64 0, .int .i64 0, .int .i64 0, .int .i64 0, .int .i64 0] 29 :: Cl b3491 [.int .i64 a17.Key.Time, .int .i64 a17.Key.From, .int .i64 a17.Key.Seq, .int .i64 a17.To, .int .i64 a17.Value, .int .i64 a17.Uid, .bool a17.Anti] 33 :: Cl b3489 [.int .i64 a16.Regs.c0, .int .i64 a16.Regs.c1, .int .i64 a16.Regs.c2, .int .i64 a16.Regs.c3, .int .i64 a16.Regs.c4, .int .i64 a16.Regs.c5, .int .i64 a16.Regs.c6, .int .i64 a16.Regs.c7, .int .i64 a16.Draws, .int .i64 a16.Sent] 29 :: Cl b3487 [.slice A10 a9.Prog.length c11, .int .i64 a9.Self, .slice A13 a9.Links.length c14, .int .u64 a9.Seed] 26 :: l) hf := hS
  refine RL.s (Vl.assign rfl) rfl ?_
  refine RL.nil ?_
  refine RQ.then_n ?_
  refine RC.seq ?_
  refine RC.region ?_
  refine RL.s (Vl.move rfl) rfl ?_
  refine RL.s (Vl.int rfl rfl rfl) rfl ?_
  refine RL.nil ?_
  refine RQ.then_n ?_
  by_cases hc3499 : t3497 = 0
  case pos =>
    have h := h.pos hc3499
    refine RC.re 17 rfl (congrArg Value.bool (notdec_pos hc3499)) ?_
    refine RC.condF rfl ?_
    refine RC.skip ?_
    refine RQ.then_n ?_
    refine RC.seq ?_
    refine RC.seq ?_
    refine RC.region ?_
    refine RL.s (Vl.loadA (vs := [.int .i64 a17.Key.Time, .int .i64 a17.Key.From, .int .i64 a17.Key.Seq, .int .i64 a17.To, .int .i64 a17.Value, .int .i64 a17.Uid, .bool a17.Anti]) Tryd.isAgg33 Tryd.sizeOf33 rfl rfl (hS.cellsAt 1 rfl rfl)) rfl ?_
    obtain ⟨t3505, hg3506, h⟩ := h.bind
    refine RL.e (OW.callF (ls := [.tmp 20]) rfl Tryd.call17 (event_Check.ok a17 _ hg3506 hS)) rfl rfl ?_
    rintro _ w ⟨rfl, hS⟩
    have hS : St B w (Cl b3493 [.int .i64 0, .int .i64 0, .int .i64 0, .int .i64 0, .int .i64 0, .int .i64 0, .int .i64 0, .int .i64 0, .int .i64 0, .int .i64 0] 29 :: Cl b3491 [.int .i64 a17.Key.Time, .int .i64 a17.Key.From, .int .i64 a17.Key.Seq, .int .i64 a17.To, .int .i64 a17.Value, .int .i64 a17.Uid, .bool a17.Anti] 33 :: Cl b3489 [.int .i64 a16.Regs.c0, .int .i64 a16.Regs.c1, .int .i64 a16.Regs.c2, .int .i64 a16.Regs.c3, .int .i64 a16.Regs.c4, .int .i64 a16.Regs.c5, .int .i64 a16.Regs.c6, .int .i64 a16.Regs.c7, .int .i64 a16.Draws, .int .i64 a16.Sent] 29 :: Cl b3487 [.slice A10 a9.Prog.length c11, .int .i64 a9.Self, .slice A13 a9.Links.length c14, .int .u64 a9.Seed] 26 :: l) hf := hS
    refine RL.s (Vl.int rfl rfl rfl) rfl ?_
    refine RL.s (Vl.move rfl) rfl ?_
    by_cases hc3507 : t3505 = 0
    case pos =>
      have h := h.pos hc3507
      refine RL.re 23 rfl (congrArg Value.bool (notdec_pos hc3507)) ?_
      refine RL.sg (Vl.fieldAddr (a'' := ⟨b3489, 8, none⟩) Tryd.underlying29 rfl Tryd.sizeOf3 rfl rfl) rfl rfl ?_
      refine RL.sg (Vl.load Tryd.isAgg3 rfl (hS.cell 2 rfl rfl)) rfl rfl ?_
      refine RL.sg (Vl.fieldAddr (a'' := ⟨b3489, 9, none⟩) Tryd.underlying29 rfl Tryd.sizeOf3 rfl rfl) rfl rfl ?_
      refine RL.sg (Vl.load Tryd.isAgg3 rfl (hS.cell 2 rfl rfl)) rfl rfl ?_
      refine RL.sg (Vl.min2 rfl rfl) rfl rfl ?_
      refine RL.sg (Vl.int rfl rfl rfl) rfl rfl ?_
      refine RL.s (Vl.pickF rfl rfl) rfl ?_
      refine RL.s (Vl.move rfl) rfl ?_
      by_cases hc3508 : (if a16.Sent < a16.Draws then a16.Sent else a16.Draws) < 0
      case pos =>
        have h := h.pos hc3508
        refine RL.re 31 rfl (congrArg Value.bool (decide_eq_true hc3508)) ?_
        refine RL.nn rfl rfl ?_
        refine RL.nn rfl rfl ?_
        refine RL.nn rfl rfl ?_
        refine RL.nn rfl rfl ?_
        refine RL.nn rfl rfl ?_
        refine RL.nn rfl rfl ?_
        refine RL.s (Vl.pickT rfl rfl) rfl ?_
        refine RL.nil ?_
        refine RQ.then_n ?_
        refine RC.condT rfl ?_
        refine RC.seq ?_
        refine RC.region ?_
        refine RL.s (Vl.build (v := .agg #[.int .i64 0, .int .i64 0, .int .i64 0, .int .i64 0, .int .i64 0, .int .i64 0, .int .i64 0, .int .i64 0, .int .i64 0, .int .i64 0]) (parts := []) rfl (by kernel_rfl)) rfl ?_
        refine RL.e0 (OW.store (cs := [.int .i64 0, .int .i64 0, .int .i64 0, .int .i64 0, .int .i64 0, .int .i64 0, .int .i64 0, .int .i64 0, .int .i64 0, .int .i64 0]) (vs := [.int .i64 0, .int .i64 0, .int .i64 0, .int .i64 0, .int .i64 0, .int .i64 0, .int .i64 0, .int .i64 0, .int .i64 0, .int .i64 0]) (l' := Cl b3493 [.int .i64 0, .int .i64 0, .int .i64 0, .int .i64 0, .int .i64 0, .int .i64 0, .int .i64 0, .int .i64 0, .int .i64 0, .int .i64 0] 29 :: Cl b3491 [.int .i64 a17.Key.Time, .int .i64 a17.Key.From, .int .i64 a17.Key.Seq, .int .i64 a17.To, .int .i64 a17.Value, .int .i64 a17.Uid, .bool a17.Anti] 33 :: Cl b3489 [.int .i64 a16.Regs.c0, .int .i64 a16.Regs.c1, .int .i64 a16.Regs.c2, .int .i64 a16.Regs.c3, .int .i64 a16.Regs.c4, .int .i64 a16.Regs.c5, .int .i64 a16.Regs.c6, .int .i64 a16.Regs.c7, .int .i64 a16.Draws, .int .i64 a16.Sent] 29 :: Cl b3487 [.slice A10 a9.Prog.length c11, .int .i64 a9.Self, .slice A13 a9.Links.length c14, .int .u64 a9.Seed] 26 :: l) 0 hS rfl rfl rfl rfl Tryd.sizeOf29 rfl rfl rfl rfl) rfl ?_
        rintro _ w ⟨rfl, hS⟩
        have hS : St B w (Cl b3493 [.int .i64 0, .int .i64 0, .int .i64 0, .int .i64 0, .int .i64 0, .int .i64 0, .int .i64 0, .int .i64 0, .int .i64 0, .int .i64 0] 29 :: Cl b3491 [.int .i64 a17.Key.Time, .int .i64 a17.Key.From, .int .i64 a17.Key.Seq, .int .i64 a17.To, .int .i64 a17.Value, .int .i64 a17.Uid, .bool a17.Anti] 33 :: Cl b3489 [.int .i64 a16.Regs.c0, .int .i64 a16.Regs.c1, .int .i64 a16.Regs.c2, .int .i64 a16.Regs.c3, .int .i64 a16.Regs.c4, .int .i64 a16.Regs.c5, .int .i64 a16.Regs.c6, .int .i64 a16.Regs.c7, .int .i64 a16.Draws, .int .i64 a16.Sent] 29 :: Cl b3487 [.slice A10 a9.Prog.length c11, .int .i64 a9.Self, .slice A13 a9.Links.length c14, .int .u64 a9.Seed] 26 :: l) hf := hS
        refine RL.s (Vl.assign rfl) rfl ?_
        refine RL.s (Vl.assign rfl) rfl ?_
        refine RL.nil ?_
        refine RQ.then_n ?_
        refine RC.ret ?_
        refine RQ.ret ?_
        have hS := hS.nilSl E_api_Out 58
        have e := h.some
        subst e
        refine RQ.ret0 (vs := [.agg #[.int .i64 0, .int .i64 0, .int .i64 0, .int .i64 0, .int .i64 0, .int .i64 0, .int .i64 0, .int .i64 0, .int .i64 0, .int .i64 0], .slice none 0 0, .int .i64 1]) Tryd.results11 ⟨⟨_, rfl, run_loadVarA (vs := [.int .i64 0, .int .i64 0, .int .i64 0, .int .i64 0, .int .i64 0, .int .i64 0, .int .i64 0, .int .i64 0, .int .i64 0, .int .i64 0]) Tryd.isAgg29 Tryd.sizeOf29 rfl (hS.cellsAt 1 rfl rfl)⟩, rfl, rfl, trivial⟩ ?_
        exact ⟨none, 0, rfl, ((((hS.dropAt 1 rfl).dropAt 1 rfl).dropAt 1 rfl).dropAt 1 rfl)⟩
      case neg =>
        have h := h.neg hc3508
        refine RL.re 31 rfl (congrArg Value.bool (decide_eq_false hc3508)) ?_
        refine RL.sg (Vl.fieldAddr (a'' := ⟨b3489, 8, none⟩) Tryd.underlying29 rfl Tryd.sizeOf3 rfl rfl) rfl rfl ?_
        refine RL.sg (Vl.load Tryd.isAgg3 rfl (hS.cell 2 rfl rfl)) rfl rfl ?_
        refine RL.sg (Vl.fieldAddr (a'' := ⟨b3489, 9, none⟩) Tryd.underlying29 rfl Tryd.sizeOf3 rfl rfl) rfl rfl ?_
        refine RL.sg (Vl.load Tryd.isAgg3 rfl (hS.cell 2 rfl rfl)) rfl rfl ?_
        refine RL.sg (Vl.max2 rfl rfl) rfl rfl ?_
        refine RL.sg (Vl.int rfl rfl rfl) rfl rfl ?_
        refine RL.s (Vl.pickF rfl rfl) rfl ?_
        refine RL.nil ?_
        refine RQ.then_n ?_
        by_cases hc3510 : 1125899906842624 < (if a16.Draws < a16.Sent then a16.Sent else a16.Draws)
        case pos =>
          have h := h.pos hc3510
          refine RC.re 38 rfl (congrArg Value.bool (decide_eq_true hc3510)) ?_
          refine RC.condT rfl ?_
          refine RC.seq ?_
          refine RC.region ?_
          refine RL.s (Vl.build (v := .agg #[.int .i64 0, .int .i64 0, .int .i64 0, .int .i64 0, .int .i64 0, .int .i64 0, .int .i64 0, .int .i64 0, .int .i64 0, .int .i64 0]) (parts := []) rfl (by kernel_rfl)) rfl ?_
          refine RL.e0 (OW.store (cs := [.int .i64 0, .int .i64 0, .int .i64 0, .int .i64 0, .int .i64 0, .int .i64 0, .int .i64 0, .int .i64 0, .int .i64 0, .int .i64 0]) (vs := [.int .i64 0, .int .i64 0, .int .i64 0, .int .i64 0, .int .i64 0, .int .i64 0, .int .i64 0, .int .i64 0, .int .i64 0, .int .i64 0]) (l' := Cl b3493 [.int .i64 0, .int .i64 0, .int .i64 0, .int .i64 0, .int .i64 0, .int .i64 0, .int .i64 0, .int .i64 0, .int .i64 0, .int .i64 0] 29 :: Cl b3491 [.int .i64 a17.Key.Time, .int .i64 a17.Key.From, .int .i64 a17.Key.Seq, .int .i64 a17.To, .int .i64 a17.Value, .int .i64 a17.Uid, .bool a17.Anti] 33 :: Cl b3489 [.int .i64 a16.Regs.c0, .int .i64 a16.Regs.c1, .int .i64 a16.Regs.c2, .int .i64 a16.Regs.c3, .int .i64 a16.Regs.c4, .int .i64 a16.Regs.c5, .int .i64 a16.Regs.c6, .int .i64 a16.Regs.c7, .int .i64 a16.Draws, .int .i64 a16.Sent] 29 :: Cl b3487 [.slice A10 a9.Prog.length c11, .int .i64 a9.Self, .slice A13 a9.Links.length c14, .int .u64 a9.Seed] 26 :: l) 0 hS rfl rfl rfl rfl Tryd.sizeOf29 rfl rfl rfl rfl) rfl ?_
          rintro _ w ⟨rfl, hS⟩
          have hS : St B w (Cl b3493 [.int .i64 0, .int .i64 0, .int .i64 0, .int .i64 0, .int .i64 0, .int .i64 0, .int .i64 0, .int .i64 0, .int .i64 0, .int .i64 0] 29 :: Cl b3491 [.int .i64 a17.Key.Time, .int .i64 a17.Key.From, .int .i64 a17.Key.Seq, .int .i64 a17.To, .int .i64 a17.Value, .int .i64 a17.Uid, .bool a17.Anti] 33 :: Cl b3489 [.int .i64 a16.Regs.c0, .int .i64 a16.Regs.c1, .int .i64 a16.Regs.c2, .int .i64 a16.Regs.c3, .int .i64 a16.Regs.c4, .int .i64 a16.Regs.c5, .int .i64 a16.Regs.c6, .int .i64 a16.Regs.c7, .int .i64 a16.Draws, .int .i64 a16.Sent] 29 :: Cl b3487 [.slice A10 a9.Prog.length c11, .int .i64 a9.Self, .slice A13 a9.Links.length c14, .int .u64 a9.Seed] 26 :: l) hf := hS
          refine RL.s (Vl.assign rfl) rfl ?_
          refine RL.s (Vl.assign rfl) rfl ?_
          refine RL.nil ?_
          refine RQ.then_n ?_
          refine RC.ret ?_
          refine RQ.ret ?_
          have hS := hS.nilSl E_api_Out 58
          have e := h.some
          subst e
          refine RQ.ret0 (vs := [.agg #[.int .i64 0, .int .i64 0, .int .i64 0, .int .i64 0, .int .i64 0, .int .i64 0, .int .i64 0, .int .i64 0, .int .i64 0, .int .i64 0], .slice none 0 0, .int .i64 1]) Tryd.results11 ⟨⟨_, rfl, run_loadVarA (vs := [.int .i64 0, .int .i64 0, .int .i64 0, .int .i64 0, .int .i64 0, .int .i64 0, .int .i64 0, .int .i64 0, .int .i64 0, .int .i64 0]) Tryd.isAgg29 Tryd.sizeOf29 rfl (hS.cellsAt 1 rfl rfl)⟩, rfl, rfl, trivial⟩ ?_
          exact ⟨none, 0, rfl, ((((hS.dropAt 1 rfl).dropAt 1 rfl).dropAt 1 rfl).dropAt 1 rfl)⟩
        case neg =>
          have h := h.neg hc3510
          refine RC.re 38 rfl (congrArg Value.bool (decide_eq_false hc3510)) ?_
          refine RC.condF rfl ?_
          refine RC.skip ?_
          refine RQ.then_n ?_
          refine RC.seq ?_
          refine RC.region ?_
          refine RL.s (Vl.loadA (vs := [.slice A10 a9.Prog.length c11, .int .i64 a9.Self, .slice A13 a9.Links.length c14, .int .u64 a9.Seed]) Tryd.isAgg26 Tryd.sizeOf26 rfl rfl (hS.cellsAt 3 rfl rfl)) rfl ?_
          refine RL.s (Vl.loadA (vs := [.int .i64 a17.Key.Time, .int .i64 a17.Key.From, .int .i64 a17.Key.Seq, .int .i64 a17.To, .int .i64 a17.Value, .int .i64 a17.Uid, .bool a17.Anti]) Tryd.isAgg33 Tryd.sizeOf33 rfl rfl (hS.cellsAt 1 rfl rfl)) rfl ?_
          refine RL.s (Vl.fieldAddr (a'' := ⟨b3489, 8, none⟩) Tryd.underlying29 rfl Tryd.sizeOf3 rfl rfl) rfl ?_
          refine RL.s (Vl.load Tryd.isAgg3 rfl (hS.cell 2 rfl rfl)) rfl ?_
          refine RL.s (Vl.build (v := .agg #[.slice A10 a9.Prog.length c11, .int .i64 a9.Self, .slice A13 a9.Links.length c14, .int .u64 a9.Seed, .int .i64 a17.Key.Time, .int .i64 a17.Key.From, .int .i64 a17.Key.Seq, .int .i64 a17.To, .int .i64 a17.Value, .int .i64 a17.Uid, .bool a17.Anti, .int .i64 0, .int .i64 0, .int .i64 0, .int .i64 0, .int .i64 0, .int .i64 0, .int .i64 0, .int .i64 0, .int .i64 0, .int .i64 0, .int .i64 0, .int .i64 0, .int .i64 0, .int .i64 0, .int .i64 0, .int .i64 0, .int .i64 a16.Draws, .slice none 0 0, .int .i64 0]) (parts := [(0, .tmp 40), (1, .tmp 41), (3, .tmp 43)]) rfl (by kernel_rfl)) rfl ?_
          refine RL.e (OW.box (cs := [.slice A10 a9.Prog.length c11, .int .i64 a9.Self, .slice A13 a9.Links.length c14, .int .u64 a9.Seed, .int .i64 a17.Key.Time, .int .i64 a17.Key.From, .int .i64 a17.Key.Seq, .int .i64 a17.To, .int .i64 a17.Value, .int .i64 a17.Uid, .bool a17.Anti, .int .i64 0, .int .i64 0, .int .i64 0, .int .i64 0, .int .i64 0, .int .i64 0, .int .i64 0, .int .i64 0, .int .i64 0, .int .i64 0, .int .i64 0, .int .i64 0, .int .i64 0, .int .i64 0, .int .i64 0, .int .i64 0, .int .i64 a16.Draws, .slice none 0 0, .int .i64 0]) hS rfl rfl) rfl rfl ?_
          rintro _ w ⟨b3513, rfl, hS⟩
          have hS : St B w (Cl b3513 [.slice A10 a9.Prog.length c11, .int .i64 a9.Self, .slice A13 a9.Links.length c14, .int .u64 a9.Seed, .int .i64 a17.Key.Time, .int .i64 a17.Key.From, .int .i64 a17.Key.Seq, .int .i64 a17.To, .int .i64 a17.Value, .int .i64 a17.Uid, .bool a17.Anti, .int .i64 (zfn 0), .int .i64 (zfn 1), .int .i64 (zfn 2), .int .i64 (zfn 3), .int .i64 (zfn 4), .int .i64 (zfn 5), .int .i64 (zfn 6), .int .i64 (zfn 7), .int .i64 (zfn 8), .int .i64 (zfn 9), .int .i64 (zfn 10), .int .i64 (zfn 11), .int .i64 (zfn 12), .int .i64 (zfn 13), .int .i64 (zfn 14), .int .i64 (zfn 15), .int .i64 a16.Draws, .slice none 0 0, .int .i64 0] 66 :: Cl b3493 [.int .i64 0, .int .i64 0, .int .i64 0, .int .i64 0, .int .i64 0, .int .i64 0, .int .i64 0, .int .i64 0, .int .i64 0, .int .i64 0] 29 :: Cl b3491 [.int .i64 a17.Key.Time, .int .i64 a17.Key.From, .int .i64 a17.Key.Seq, .int .i64 a17.To, .int .i64 a17.Value, .int .i64 a17.Uid, .bool a17.Anti] 33 :: Cl b3489 [.int .i64 a16.Regs.c0, .int .i64 a16.Regs.c1, .int .i64 a16.Regs.c2, .int .i64 a16.Regs.c3, .int .i64 a16.Regs.c4, .int .i64 a16.Regs.c5, .int .i64 a16.Regs.c6, .int .i64 a16.Regs.c7, .int .i64 a16.Draws, .int .i64 a16.Sent] 29 :: Cl b3487 [.slice A10 a9.Prog.length c11, .int .i64 a9.Self, .slice A13 a9.Links.length c14, .int .u64 a9.Seed] 26 :: l) hf := hS
          refine RL.s (Vl.assign rfl) rfl ?_
          refine RL.nil ?_
          refine RQ.then_n ?_
          refine RC.seq ?_
          refine RC.plan (.pure 0 (.pure 1 (.pure 2 (.cons 3 true (.cons 4 false (.cons 5 false (.cons 6 false .nil))))))) [6] (fun w => St B w (Cl b3513 [.slice A10 a9.Prog.length c11, .int .i64 a9.Self, .slice A13 a9.Links.length c14, .int .u64 a9.Seed, .int .i64 a17.Key.Time, .int .i64 a17.Key.From, .int .i64 a17.Key.Seq, .int .i64 a17.To, .int .i64 a17.Value, .int .i64 a17.Uid, .bool a17.Anti, .int .i64 (zfn 0), .int .i64 (zfn 1), .int .i64 (zfn 2), .int .i64 (zfn 3), .int .i64 (zfn 4), .int .i64 (zfn 5), .int .i64 (zfn 6), .int .i64 (zfn 7), .int .i64 (zfn 8), .int .i64 (zfn 9), .int .i64 (zfn 10), .int .i64 (zfn 11), .int .i64 (zfn 12), .int .i64 (zfn 13), .int .i64 (zfn 14), .int .i64 (zfn 15), .int .i64 a16.Draws, .slice none 0 0, .int .i64 0] 66 :: Cl b3493 [.int .i64 0, .int .i64 0, .int .i64 0, .int .i64 0, .int .i64 0, .int .i64 0, .int .i64 0, .int .i64 0, .int .i64 0, .int .i64 0] 29 :: Cl b3491 [.int .i64 a17.Key.Time, .int .i64 a17.Key.From, .int .i64 a17.Key.Seq, .int .i64 a17.To, .int .i64 a17.Value, .int .i64 a17.Uid, .bool a17.Anti] 33 :: Cl b3489 [.int .i64 a16.Regs.c0, .int .i64 a16.Regs.c1, .int .i64 a16.Regs.c2, .int .i64 a16.Regs.c3, .int .i64 a16.Regs.c4, .int .i64 a16.Regs.c5, .int .i64 a16.Regs.c6, .int .i64 a16.Regs.c7, .int .i64 a16.Draws, .int .i64 a16.Sent] 29 :: Cl b3487 [.slice A10 a9.Prog.length c11, .int .i64 a9.Self, .slice A13 a9.Links.length c14, .int .u64 a9.Seed] 26 :: l) hf) follows rfl (by kernel_rfl) (NoTmp.then NoTmp.body) ?_
          have hS := hS.same (w' := { w with drawn := w.drawn + 1 }) rfl rfl
          revert hS
          generalize { w with drawn := w.drawn + 1 } = w
          intro hS
          refine RP.s0 0 rfl (fun w => Vl.move rfl) rfl ?_
          refine RP.s0 1 rfl (fun w => Vl.nilCheck rfl) rfl ?_
          refine RP.s0 2 rfl (fun w => Vl.fieldAddr (a'' := ⟨b3513, 11, none⟩) Tryd.underlying66 rfl Tryd.sizeOf64 rfl rfl) rfl ?_
          refine RP.s 3 rfl rfl hS (fun w hS => Vl.sliceArr Tryd.underlying64 Tryd.sizeOf2 rfl) rfl ?_
          refine RP.v1 4 rfl (Vl.fieldAddr (a'' := ⟨b3489, 0, none⟩) Tryd.underlying29 rfl Tryd.sizeOf27 rfl rfl) rfl rfl ?_
          refine RP.v1 5 rfl (Vl.sliceArr Tryd.underlying27 Tryd.sizeOf2 rfl) rfl rfl ?_
          refine RP.e 6 rfl (OW.copyB (m := 8) (vs := [.int .i64 a16.Regs.c0, .int .i64 a16.Regs.c1, .int .i64 a16.Regs.c2, .int .i64 a16.Regs.c3, .int .i64 a16.Regs.c4, .int .i64 a16.Regs.c5, .int .i64 a16.Regs.c6, .int .i64 a16.Regs.c7]) (l' := Cl b3513 [.slice A10 a9.Prog.length c11, .int .i64 a9.Self, .slice A13 a9.Links.length c14, .int .u64 a9.Seed, .int .i64 a17.Key.Time, .int .i64 a17.Key.From, .int .i64 a17.Key.Seq, .int .i64 a17.To, .int .i64 a17.Value, .int .i64 a17.Uid, .bool a17.Anti, .int .i64 ((ovl [a16.Regs.c0, a16.Regs.c1, a16.Regs.c2, a16.Regs.c3, a16.Regs.c4, a16.Regs.c5, a16.Regs.c6, a16.Regs.c7] zfn) 0), .int .i64 ((ovl [a16.Regs.c0, a16.Regs.c1, a16.Regs.c2, a16.Regs.c3, a16.Regs.c4, a16.Regs.c5, a16.Regs.c6, a16.Regs.c7] zfn) 1), .int .i64 ((ovl [a16.Regs.c0, a16.Regs.c1, a16.Regs.c2, a16.Regs.c3, a16.Regs.c4, a16.Regs.c5, a16.Regs.c6, a16.Regs.c7] zfn) 2), .int .i64 ((ovl [a16.Regs.c0, a16.Regs.c1, a16.Regs.c2, a16.Regs.c3, a16.Regs.c4, a16.Regs.c5, a16.Regs.c6, a16.Regs.c7] zfn) 3), .int .i64 ((ovl [a16.Regs.c0, a16.Regs.c1, a16.Regs.c2, a16.Regs.c3, a16.Regs.c4, a16.Regs.c5, a16.Regs.c6, a16.Regs.c7] zfn) 4), .int .i64 ((ovl [a16.Regs.c0, a16.Regs.c1, a16.Regs.c2, a16.Regs.c3, a16.Regs.c4, a16.Regs.c5, a16.Regs.c6, a16.Regs.c7] zfn) 5), .int .i64 ((ovl [a16.Regs.c0, a16.Regs.c1, a16.Regs.c2, a16.Regs.c3, a16.Regs.c4, a16.Regs.c5, a16.Regs.c6, a16.Regs.c7] zfn) 6), .int .i64 ((ovl [a16.Regs.c0, a16.Regs.c1, a16.Regs.c2, a16.Regs.c3, a16.Regs.c4, a16.Regs.c5, a16.Regs.c6, a16.Regs.c7] zfn) 7), .int .i64 ((ovl [a16.Regs.c0, a16.Regs.c1, a16.Regs.c2, a16.Regs.c3, a16.Regs.c4, a16.Regs.c5, a16.Regs.c6, a16.Regs.c7] zfn) 8), .int .i64 ((ovl [a16.Regs.c0, a16.Regs.c1, a16.Regs.c2, a16.Regs.c3, a16.Regs.c4, a16.Regs.c5, a16.Regs.c6, a16.Regs.c7] zfn) 9), .int .i64 ((ovl [a16.Regs.c0, a16.Regs.c1, a16.Regs.c2, a16.Regs.c3, a16.Regs.c4, a16.Regs.c5, a16.Regs.c6, a16.Regs.c7] zfn) 10), .int .i64 ((ovl [a16.Regs.c0, a16.Regs.c1, a16.Regs.c2, a16.Regs.c3, a16.Regs.c4, a16.Regs.c5, a16.Regs.c6, a16.Regs.c7] zfn) 11), .int .i64 ((ovl [a16.Regs.c0, a16.Regs.c1, a16.Regs.c2, a16.Regs.c3, a16.Regs.c4, a16.Regs.c5, a16.Regs.c6, a16.Regs.c7] zfn) 12), .int .i64 ((ovl [a16.Regs.c0, a16.Regs.c1, a16.Regs.c2, a16.Regs.c3, a16.Regs.c4, a16.Regs.c5, a16.Regs.c6, a16.Regs.c7] zfn) 13), .int .i64 ((ovl [a16.Regs.c0, a16.Regs.c1, a16.Regs.c2, a16.Regs.c3, a16.Regs.c4, a16.Regs.c5, a16.Regs.c6, a16.Regs.c7] zfn) 14), .int .i64 ((ovl [a16.Regs.c0, a16.Regs.c1, a16.Regs.c2, a16.Regs.c3, a16.Regs.c4, a16.Regs.c5, a16.Regs.c6, a16.Regs.c7] zfn) 15), .int .i64 a16.Draws, .slice none 0 0, .int .i64 0] 66 :: Cl b3493 [.int .i64 0, .int .i64 0, .int .i64 0, .int .i64 0, .int .i64 0, .int .i64 0, .int .i64 0, .int .i64 0, .int .i64 0, .int .i64 0] 29 :: Cl b3491 [.int .i64 a17.Key.Time, .int .i64 a17.Key.From, .int .i64 a17.Key.Seq, .int .i64 a17.To, .int .i64 a17.Value, .int .i64 a17.Uid, .bool a17.Anti] 33 :: Cl b3489 [.int .i64 a16.Regs.c0, .int .i64 a16.Regs.c1, .int .i64 a16.Regs.c2, .int .i64 a16.Regs.c3, .int .i64 a16.Regs.c4, .int .i64 a16.Regs.c5, .int .i64 a16.Regs.c6, .int .i64 a16.Regs.c7, .int .i64 a16.Draws, .int .i64 a16.Sent] 29 :: Cl b3487 [.slice A10 a9.Prog.length c11, .int .i64 a9.Self, .slice A13 a9.Links.length c14, .int .u64 a9.Seed] 26 :: l) 0 3 hS rfl rfl Tryd.underlying67 rfl rfl rfl rfl rfl rfl (Nat.le_of_ble_eq_true rfl) rfl rfl) rfl rfl ?_
          rintro _ w ⟨rfl, hS⟩
          have hS : St B w (Cl b3513 [.slice A10 a9.Prog.length c11, .int .i64 a9.Self, .slice A13 a9.Links.length c14, .int .u64 a9.Seed, .int .i64 a17.Key.Time, .int .i64 a17.Key.From, .int .i64 a17.Key.Seq, .int .i64 a17.To, .int .i64 a17.Value, .int .i64 a17.Uid, .bool a17.Anti, .int .i64 ((ovl [a16.Regs.c0, a16.Regs.c1, a16.Regs.c2, a16.Regs.c3, a16.Regs.c4, a16.Regs.c5, a16.Regs.c6, a16.Regs.c7] zfn) 0), .int .i64 ((ovl [a16.Regs.c0, a16.Regs.c1, a16.Regs.c2, a16.Regs.c3, a16.Regs.c4, a16.Regs.c5, a16.Regs.c6, a16.Regs.c7] zfn) 1), .int .i64 ((ovl [a16.Regs.c0, a16.Regs.c1, a16.Regs.c2, a16.Regs.c3, a16.Regs.c4, a16.Regs.c5, a16.Regs.c6, a16.Regs.c7] zfn) 2), .int .i64 ((ovl [a16.Regs.c0, a16.Regs.c1, a16.Regs.c2, a16.Regs.c3, a16.Regs.c4, a16.Regs.c5, a16.Regs.c6, a16.Regs.c7] zfn) 3), .int .i64 ((ovl [a16.Regs.c0, a16.Regs.c1, a16.Regs.c2, a16.Regs.c3, a16.Regs.c4, a16.Regs.c5, a16.Regs.c6, a16.Regs.c7] zfn) 4), .int .i64 ((ovl [a16.Regs.c0, a16.Regs.c1, a16.Regs.c2, a16.Regs.c3, a16.Regs.c4, a16.Regs.c5, a16.Regs.c6, a16.Regs.c7] zfn) 5), .int .i64 ((ovl [a16.Regs.c0, a16.Regs.c1, a16.Regs.c2, a16.Regs.c3, a16.Regs.c4, a16.Regs.c5, a16.Regs.c6, a16.Regs.c7] zfn) 6), .int .i64 ((ovl [a16.Regs.c0, a16.Regs.c1, a16.Regs.c2, a16.Regs.c3, a16.Regs.c4, a16.Regs.c5, a16.Regs.c6, a16.Regs.c7] zfn) 7), .int .i64 ((ovl [a16.Regs.c0, a16.Regs.c1, a16.Regs.c2, a16.Regs.c3, a16.Regs.c4, a16.Regs.c5, a16.Regs.c6, a16.Regs.c7] zfn) 8), .int .i64 ((ovl [a16.Regs.c0, a16.Regs.c1, a16.Regs.c2, a16.Regs.c3, a16.Regs.c4, a16.Regs.c5, a16.Regs.c6, a16.Regs.c7] zfn) 9), .int .i64 ((ovl [a16.Regs.c0, a16.Regs.c1, a16.Regs.c2, a16.Regs.c3, a16.Regs.c4, a16.Regs.c5, a16.Regs.c6, a16.Regs.c7] zfn) 10), .int .i64 ((ovl [a16.Regs.c0, a16.Regs.c1, a16.Regs.c2, a16.Regs.c3, a16.Regs.c4, a16.Regs.c5, a16.Regs.c6, a16.Regs.c7] zfn) 11), .int .i64 ((ovl [a16.Regs.c0, a16.Regs.c1, a16.Regs.c2, a16.Regs.c3, a16.Regs.c4, a16.Regs.c5, a16.Regs.c6, a16.Regs.c7] zfn) 12), .int .i64 ((ovl [a16.Regs.c0, a16.Regs.c1, a16.Regs.c2, a16.Regs.c3, a16.Regs.c4, a16.Regs.c5, a16.Regs.c6, a16.Regs.c7] zfn) 13), .int .i64 ((ovl [a16.Regs.c0, a16.Regs.c1, a16.Regs.c2, a16.Regs.c3, a16.Regs.c4, a16.Regs.c5, a16.Regs.c6, a16.Regs.c7] zfn) 14), .int .i64 ((ovl [a16.Regs.c0, a16.Regs.c1, a16.Regs.c2, a16.Regs.c3, a16.Regs.c4, a16.Regs.c5, a16.Regs.c6, a16.Regs.c7] zfn) 15), .int .i64 a16.Draws, .slice none 0 0, .int .i64 0] 66 :: Cl b3493 [.int .i64 0, .int .i64 0, .int .i64 0, .int .i64 0, .int .i64 0, .int .i64 0, .int .i64 0, .int .i64 0, .int .i64 0, .int .i64 0] 29 :: Cl b3491 [.int .i64 a17.Key.Time, .int .i64 a17.Key.From, .int .i64 a17.Key.Seq, .int .i64 a17.To, .int .i64 a17.Value, .int .i64 a17.Uid, .bool a17.Anti] 33 :: Cl b3489 [.int .i64 a16.Regs.c0, .int .i64 a16.Regs.c1, .int .i64 a16.Regs.c2, .int .i64 a16.Regs.c3, .int .i64 a16.Regs.c4, .int .i64 a16.Regs.c5, .int .i64 a16.Regs.c6, .int .i64 a16.Regs.c7, .int .i64 a16.Draws, .int .i64 a16.Sent] 29 :: Cl b3487 [.slice A10 a9.Prog.length c11, .int .i64 a9.Self, .slice A13 a9.Links.length c14, .int .u64 a9.Seed] 26 :: l) hf := hS
          refine ⟨(by intro hx; cases hx), ?_⟩
          refine RP.nil ?_
          refine RQ.then_n ?_
          refine RC.seq ?_
          refine RC.region ?_
          refine RL.e (OW.alloc (cs := [.int .i64 0, .int .i64 0]) hS Tryd.zeroValue69 rfl) rfl rfl ?_
          rintro _ w ⟨b3515, rfl, hS⟩
          have hS : St B w (Cl b3515 [.int .i64 0, .int .i64 0] 69 :: Cl b3513 [.slice A10 a9.Prog.length c11, .int .i64 a9.Self, .slice A13 a9.Links.length c14, .int .u64 a9.Seed, .int .i64 a17.Key.Time, .int .i64 a17.Key.From, .int .i64 a17.Key.Seq, .int .i64 a17.To, .int .i64 a17.Value, .int .i64 a17.Uid, .bool a17.Anti, .int .i64 ((ovl [a16.Regs.c0, a16.Regs.c1, a16.Regs.c2, a16.Regs.c3, a16.Regs.c4, a16.Regs.c5, a16.Regs.c6, a16.Regs.c7] zfn) 0), .int .i64 ((ovl [a16.Regs.c0, a16.Regs.c1, a16.Regs.c2, a16.Regs.c3, a16.Regs.c4, a16.Regs.c5, a16.Regs.c6, a16.Regs.c7] zfn) 1), .int .i64 ((ovl [a16.Regs.c0, a16.Regs.c1, a16.Regs.c2, a16.Regs.c3, a16.Regs.c4, a16.Regs.c5, a16.Regs.c6, a16.Regs.c7] zfn) 2), .int .i64 ((ovl [a16.Regs.c0, a16.Regs.c1, a16.Regs.c2, a16.Regs.c3, a16.Regs.c4, a16.Regs.c5, a16.Regs.c6, a16.Regs.c7] zfn) 3), .int .i64 ((ovl [a16.Regs.c0, a16.Regs.c1, a16.Regs.c2, a16.Regs.c3, a16.Regs.c4, a16.Regs.c5, a16.Regs.c6, a16.Regs.c7] zfn) 4), .int .i64 ((ovl [a16.Regs.c0, a16.Regs.c1, a16.Regs.c2, a16.Regs.c3, a16.Regs.c4, a16.Regs.c5, a16.Regs.c6, a16.Regs.c7] zfn) 5), .int .i64 ((ovl [a16.Regs.c0, a16.Regs.c1, a16.Regs.c2, a16.Regs.c3, a16.Regs.c4, a16.Regs.c5, a16.Regs.c6, a16.Regs.c7] zfn) 6), .int .i64 ((ovl [a16.Regs.c0, a16.Regs.c1, a16.Regs.c2, a16.Regs.c3, a16.Regs.c4, a16.Regs.c5, a16.Regs.c6, a16.Regs.c7] zfn) 7), .int .i64 ((ovl [a16.Regs.c0, a16.Regs.c1, a16.Regs.c2, a16.Regs.c3, a16.Regs.c4, a16.Regs.c5, a16.Regs.c6, a16.Regs.c7] zfn) 8), .int .i64 ((ovl [a16.Regs.c0, a16.Regs.c1, a16.Regs.c2, a16.Regs.c3, a16.Regs.c4, a16.Regs.c5, a16.Regs.c6, a16.Regs.c7] zfn) 9), .int .i64 ((ovl [a16.Regs.c0, a16.Regs.c1, a16.Regs.c2, a16.Regs.c3, a16.Regs.c4, a16.Regs.c5, a16.Regs.c6, a16.Regs.c7] zfn) 10), .int .i64 ((ovl [a16.Regs.c0, a16.Regs.c1, a16.Regs.c2, a16.Regs.c3, a16.Regs.c4, a16.Regs.c5, a16.Regs.c6, a16.Regs.c7] zfn) 11), .int .i64 ((ovl [a16.Regs.c0, a16.Regs.c1, a16.Regs.c2, a16.Regs.c3, a16.Regs.c4, a16.Regs.c5, a16.Regs.c6, a16.Regs.c7] zfn) 12), .int .i64 ((ovl [a16.Regs.c0, a16.Regs.c1, a16.Regs.c2, a16.Regs.c3, a16.Regs.c4, a16.Regs.c5, a16.Regs.c6, a16.Regs.c7] zfn) 13), .int .i64 ((ovl [a16.Regs.c0, a16.Regs.c1, a16.Regs.c2, a16.Regs.c3, a16.Regs.c4, a16.Regs.c5, a16.Regs.c6, a16.Regs.c7] zfn) 14), .int .i64 ((ovl [a16.Regs.c0, a16.Regs.c1, a16.Regs.c2, a16.Regs.c3, a16.Regs.c4, a16.Regs.c5, a16.Regs.c6, a16.Regs.c7] zfn) 15), .int .i64 a16.Draws, .slice none 0 0, .int .i64 0] 66 :: Cl b3493 [.int .i64 0, .int .i64 0, .int .i64 0, .int .i64 0, .int .i64 0, .int .i64 0, .int .i64 0, .int .i64 0, .int .i64 0, .int .i64 0] 29 :: Cl b3491 [.int .i64 a17.Key.Time, .int .i64 a17.Key.From, .int .i64 a17.Key.Seq, .int .i64 a17.To, .int .i64 a17.Value, .int .i64 a17.Uid, .bool a17.Anti] 33 :: Cl b3489 [.int .i64 a16.Regs.c0, .int .i64 a16.Regs.c1, .int .i64 a16.Regs.c2, .int .i64 a16.Regs.c3, .int .i64 a16.Regs.c4, .int .i64 a16.Regs.c5, .int .i64 a16.Regs.c6, .int .i64 a16.Regs.c7, .int .i64 a16.Draws, .int .i64 a16.Sent] 29 :: Cl b3487 [.slice A10 a9.Prog.length c11, .int .i64 a9.Self, .slice A13 a9.Links.length c14, .int .u64 a9.Seed] 26 :: l) hf := hS
          refine RL.nil ?_
          refine RQ.then_n ?_
          refine RC.join (fun (s : (Nat → Int) × Int × List api_Out × Int) a w => ∃ (fn3547 : (Nat → Int)) (x3548 : Int) (l3549 : List api_Out) (x3553 : Int), s = (fn3547, x3548, l3549, x3553) ∧ ∃ (A3550 : Option Addr) (c3551 : Nat), Has 86 [(4, .pointer (some ⟨b3489, 0, none⟩)), (6, .pointer (some ⟨b3493, 0, none⟩)), (10, .pointer (some ⟨b3513, 0, none⟩))] a ∧ St B w (OSf E_api_Out 58 (.slice A3550 l3549.length c3551) l3549 :: Cl b3513 [.slice A10 a9.Prog.length c11, .int .i64 a9.Self, .slice A13 a9.Links.length c14, .int .u64 a9.Seed, .int .i64 a17.Key.Time, .int .i64 a17.Key.From, .int .i64 a17.Key.Seq, .int .i64 a17.To, .int .i64 a17.Value, .int .i64 a17.Uid, .bool a17.Anti, .int .i64 (fn3547 0), .int .i64 (fn3547 1), .int .i64 (fn3547 2), .int .i64 (fn3547 3), .int .i64 (fn3547 4), .int .i64 (fn3547 5), .int .i64 (fn3547 6), .int .i64 (fn3547 7), .int .i64 (fn3547 8), .int .i64 (fn3547 9), .int .i64 (fn3547 10), .int .i64 (fn3547 11), .int .i64 (fn3547 12), .int .i64 (fn3547 13), .int .i64 (fn3547 14), .int .i64 (fn3547 15), .int .i64 x3548, .slice A3550 l3549.length c3551, .int .i64 x3553] 66 :: Cl b3493 [.int .i64 0, .int .i64 0, .int .i64 0, .int .i64 0, .int .i64 0, .int .i64 0, .int .i64 0, .int .i64 0, .int .i64 0, .int .i64 0] 29 :: Cl b3489 [.int .i64 a16.Regs.c0, .int .i64 a16.Regs.c1, .int .i64 a16.Regs.c2, .int .i64 a16.Regs.c3, .int .i64 a16.Regs.c4, .int .i64 a16.Regs.c5, .int .i64 a16.Regs.c6, .int .i64 a16.Regs.c7, .int .i64 a16.Draws, .int .i64 a16.Sent] 29 :: l) hf ∧ Holds (· = r) (vm_Run.j2 a16 fn3547 x3548 l3549 x3553)) ?_ ?_
          · rintro _ a w ⟨fn3547, x3548, l3549, x3553, rfl, A3550, c3551, ha, hS, h⟩
            revert a
            show RC _ _ _ _ _ _
            refine RC.seq ?_
            refine RC.plan (.pure 0 (.pure 1 (.pure 2 (.cons 3 true (.pure 4 (.cons 5 true (.pure 6 (.pure 7 (.pure 8 (.cons 9 true (.pure 10 (.pure 11 (.pure 12 (.cons 13 false (.cons 14 false .nil))))))))))))))) [14] (fun w => St B w (OSf E_api_Out 58 (.slice A3550 l3549.length c3551) l3549 :: Cl b3513 [.slice A10 a9.Prog.length c11, .int .i64 a9.Self, .slice A13 a9.Links.length c14, .int .u64 a9.Seed, .int .i64 a17.Key.Time, .int .i64 a17.Key.From, .int .i64 a17.Key.Seq, .int .i64 a17.To, .int .i64 a17.Value, .int .i64 a17.Uid, .bool a17.Anti, .int .i64 (fn3547 0), .int .i64 (fn3547 1), .int .i64 (fn3547 2), .int .i64 (fn3547 3), .int .i64 (fn3547 4), .int .i64 (fn3547 5), .int .i64 (fn3547 6), .int .i64 (fn3547 7), .int .i64 (fn3547 8), .int .i64 (fn3547 9), .int .i64 (fn3547 10), .int .i64 (fn3547 11), .int .i64 (fn3547 12), .int .i64 (fn3547 13), .int .i64 (fn3547 14), .int .i64 (fn3547 15), .int .i64 x3548, .slice A3550 l3549.length c3551, .int .i64 x3553] 66 :: Cl b3493 [.int .i64 0, .int .i64 0, .int .i64 0, .int .i64 0, .int .i64 0, .int .i64 0, .int .i64 0, .int .i64 0, .int .i64 0, .int .i64 0] 29 :: Cl b3489 [.int .i64 a16.Regs.c0, .int .i64 a16.Regs.c1, .int .i64 a16.Regs.c2, .int .i64 a16.Regs.c3, .int .i64 a16.Regs.c4, .int .i64 a16.Regs.c5, .int .i64 a16.Regs.c6, .int .i64 a16.Regs.c7, .int .i64 a16.Draws, .int .i64 a16.Sent] 29 :: l) hf) follows rfl (by kernel_rfl) (NoTmp.then NoTmp.body) ?_
            have hS := hS.same (w' := { w with drawn := w.drawn + 1 }) rfl rfl
            revert hS
            generalize { w with drawn := w.drawn + 1 } = w
            intro hS
            refine RP.s0 0 rfl (fun w => Vl.move rfl) rfl ?_
            refine RP.s0 1 rfl (fun w => Vl.nilCheck rfl) rfl ?_
            refine RP.s0 2 rfl (fun w => Vl.fieldAddr (a'' := ⟨b3513, 27, none⟩) Tryd.underlying66 rfl Tryd.sizeOf3 rfl rfl) rfl ?_
            refine RP.s 3 rfl rfl hS (fun w hS => Vl.load Tryd.isAgg3 rfl (hS.cell 1 rfl rfl)) rfl ?_
            refine RP.s0 4 rfl (fun w => Vl.fieldAddr (a'' := ⟨b3489, 9, none⟩) Tryd.underlying29 rfl Tryd.sizeOf3 rfl rfl) rfl ?_
            refine RP.s 5 rfl rfl hS (fun w hS => Vl.load Tryd.isAgg3 rfl (hS.cell 3 rfl rfl)) rfl ?_
            refine RP.s0 6 rfl (fun w => Vl.move rfl) rfl ?_
            refine RP.s0 7 rfl (fun w => Vl.nilCheck rfl) rfl ?_
            refine RP.s0 8 rfl (fun w => Vl.fieldAddr (a'' := ⟨b3513, 28, none⟩) Tryd.underlying66 rfl Tryd.sizeOf34 rfl rfl) rfl ?_
            refine RP.s 9 rfl rfl hS (fun w hS => Vl.load Tryd.isAgg34 rfl (hS.cell 1 rfl rfl)) rfl ?_
            refine RP.s0 10 rfl (fun w => Vl.lenSl Tryd.underlying34 rfl) rfl ?_
            refine RP.s0 11 rfl (fun w => Vl.int rfl rfl rfl) rfl ?_
            refine RP.s0 12 rfl (fun w => Vl.build (v := .agg #[.int .i64 0, .int .i64 0, .int .i64 0, .int .i64 0, .int .i64 0, .int .i64 0, .int .i64 0, .int .i64 0, .int .i64 x3548, .int .i64 (IntKind.i64.wrap (a16.Sent + (l3549.length : Int)))]) (parts := [(1, .tmp 64), (2, .tmp 72)]) rfl (by kernel_rfl)) rfl ?_
            refine RP.e 13 rfl (OW.alloc (cs := [.int .i64 0, .int .i64 0, .int .i64 0, .int .i64 0, .int .i64 0, .int .i64 0, .int .i64 0, .int .i64 0, .int .i64 0, .int .i64 0]) hS Tryd.zeroValue29 rfl) rfl rfl ?_
            rintro _ w ⟨b3555, rfl, hS⟩
            have hS : St B w (Cl b3555 [.int .i64 0, .int .i64 0, .int .i64 0, .int .i64 0, .int .i64 0, .int .i64 0, .int .i64 0, .int .i64 0, .int .i64 0, .int .i64 0] 29 :: OSf E_api_Out 58 (.slice A3550 l3549.length c3551) l3549 :: Cl b3513 [.slice A10 a9.Prog.length c11, .int .i64 a9.Self, .slice A13 a9.Links.length c14, .int .u64 a9.Seed, .int .i64 a17.Key.Time, .int .i64 a17.Key.From, .int .i64 a17.Key.Seq, .int .i64 a17.To, .int .i64 a17.Value, .int .i64 a17.Uid, .bool a17.Anti, .int .i64 (fn3547 0), .int .i64 (fn3547 1), .int .i64 (fn3547 2), .int .i64 (fn3547 3), .int .i64 (fn3547 4), .int .i64 (fn3547 5), .int .i64 (fn3547 6), .int .i64 (fn3547 7), .int .i64 (fn3547 8), .int .i64 (fn3547 9), .int .i64 (fn3547 10), .int .i64 (fn3547 11), .int .i64 (fn3547 12), .int .i64 (fn3547 13), .int .i64 (fn3547 14), .int .i64 (fn3547 15), .int .i64 x3548, .slice A3550 l3549.length c3551, .int .i64 x3553] 66 :: Cl b3493 [.int .i64 0, .int .i64 0, .int .i64 0, .int .i64 0, .int .i64 0, .int .i64 0, .int .i64 0, .int .i64 0, .int .i64 0, .int .i64 0] 29 :: Cl b3489 [.int .i64 a16.Regs.c0, .int .i64 a16.Regs.c1, .int .i64 a16.Regs.c2, .int .i64 a16.Regs.c3, .int .i64 a16.Regs.c4, .int .i64 a16.Regs.c5, .int .i64 a16.Regs.c6, .int .i64 a16.Regs.c7, .int .i64 a16.Draws, .int .i64 a16.Sent] 29 :: l) hf := hS
            refine ⟨fun _ => (hS.dropAt 0 rfl), ?_⟩
            refine RP.e0 14 rfl (OW.store (cs := [.int .i64 0, .int .i64 0, .int .i64 0, .int .i64 0, .int .i64 0, .int .i64 0, .int .i64 0, .int .i64 0, .int .i64 0, .int .i64 0]) (vs := [.int .i64 0, .int .i64 0, .int .i64 0, .int .i64 0, .int .i64 0, .int .i64 0, .int .i64 0, .int .i64 0, .int .i64 x3548, .int .i64 (IntKind.i64.wrap (a16.Sent + (l3549.length : Int)))]) (l' := Cl b3555 [.int .i64 0, .int .i64 0, .int .i64 0, .int .i64 0, .int .i64 0, .int .i64 0, .int .i64 0, .int .i64 0, .int .i64 x3548, .int .i64 (IntKind.i64.wrap (a16.Sent + (l3549.length : Int)))] 29 :: OSf E_api_Out 58 (.slice A3550 l3549.length c3551) l3549 :: Cl b3513 [.slice A10 a9.Prog.length c11, .int .i64 a9.Self, .slice A13 a9.Links.length c14, .int .u64 a9.Seed, .int .i64 a17.Key.Time, .int .i64 a17.Key.From, .int .i64 a17.Key.Seq, .int .i64 a17.To, .int .i64 a17.Value, .int .i64 a17.Uid, .bool a17.Anti, .int .i64 (fn3547 0), .int .i64 (fn3547 1), .int .i64 (fn3547 2), .int .i64 (fn3547 3), .int .i64 (fn3547 4), .int .i64 (fn3547 5), .int .i64 (fn3547 6), .int .i64 (fn3547 7), .int .i64 (fn3547 8), .int .i64 (fn3547 9), .int .i64 (fn3547 10), .int .i64 (fn3547 11), .int .i64 (fn3547 12), .int .i64 (fn3547 13), .int .i64 (fn3547 14), .int .i64 (fn3547 15), .int .i64 x3548, .slice A3550 l3549.length c3551, .int .i64 x3553] 66 :: Cl b3493 [.int .i64 0, .int .i64 0, .int .i64 0, .int .i64 0, .int .i64 0, .int .i64 0, .int .i64 0, .int .i64 0, .int .i64 0, .int .i64 0] 29 :: Cl b3489 [.int .i64 a16.Regs.c0, .int .i64 a16.Regs.c1, .int .i64 a16.Regs.c2, .int .i64 a16.Regs.c3, .int .i64 a16.Regs.c4, .int .i64 a16.Regs.c5, .int .i64 a16.Regs.c6, .int .i64 a16.Regs.c7, .int .i64 a16.Draws, .int .i64 a16.Sent] 29 :: l) 0 hS rfl rfl rfl rfl Tryd.sizeOf29 rfl rfl rfl rfl) rfl ?_
            rintro _ w ⟨rfl, hS⟩
            have hS : St B w (Cl b3555 [.int .i64 0, .int .i64 0, .int .i64 0, .int .i64 0, .int .i64 0, .int .i64 0, .int .i64 0, .int .i64 0, .int .i64 x3548, .int .i64 (IntKind.i64.wrap (a16.Sent + (l3549.length : Int)))] 29 :: OSf E_api_Out 58 (.slice A3550 l3549.length c3551) l3549 :: Cl b3513 [.slice A10 a9.Prog.length c11, .int .i64 a9.Self, .slice A13 a9.Links.length c14, .int .u64 a9.Seed, .int .i64 a17.Key.Time, .int .i64 a17.Key.From, .int .i64 a17.Key.Seq, .int .i64 a17.To, .int .i64 a17.Value, .int .i64 a17.Uid, .bool a17.Anti, .int .i64 (fn3547 0), .int .i64 (fn3547 1), .int .i64 (fn3547 2), .int .i64 (fn3547 3), .int .i64 (fn3547 4), .int .i64 (fn3547 5), .int .i64 (fn3547 6), .int .i64 (fn3547 7), .int .i64 (fn3547 8), .int .i64 (fn3547 9), .int .i64 (fn3547 10), .int .i64 (fn3547 11), .int .i64 (fn3547 12), .int .i64 (fn3547 13), .int .i64 (fn3547 14), .int .i64 (fn3547 15), .int .i64 x3548, .slice A3550 l3549.length c3551, .int .i64 x3553] 66 :: Cl b3493 [.int .i64 0, .int .i64 0, .int .i64 0, .int .i64 0, .int .i64 0, .int .i64 0, .int .i64 0, .int .i64 0, .int .i64 0, .int .i64 0] 29 :: Cl b3489 [.int .i64 a16.Regs.c0, .int .i64 a16.Regs.c1, .int .i64 a16.Regs.c2, .int .i64 a16.Regs.c3, .int .i64 a16.Regs.c4, .int .i64 a16.Regs.c5, .int .i64 a16.Regs.c6, .int .i64 a16.Regs.c7, .int .i64 a16.Draws, .int .i64 a16.Sent] 29 :: l) hf := hS
            refine ⟨(by intro hx; cases hx), ?_⟩
            refine RP.nil ?_
            refine RQ.then_n ?_
            refine RC.seq ?_
            refine RC.plan (.pure 0 (.cons 1 true (.cons 2 false (.cons 3 false (.cons 4 false (.cons 5 false (.cons 6 false .nil))))))) [6] (fun w => St B w (Cl b3555 [.int .i64 0, .int .i64 0, .int .i64 0, .int .i64 0, .int .i64 0, .int .i64 0, .int .i64 0, .int .i64 0, .int .i64 x3548, .int .i64 (IntKind.i64.wrap (a16.Sent + (l3549.length : Int)))] 29 :: OSf E_api_Out 58 (.slice A3550 l3549.length c3551) l3549 :: Cl b3513 [.slice A10 a9.Prog.length c11, .int .i64 a9.Self, .slice A13 a9.Links.length c14, .int .u64 a9.Seed, .int .i64 a17.Key.Time, .int .i64 a17.Key.From, .int .i64 a17.Key.Seq, .int .i64 a17.To, .int .i64 a17.Value, .int .i64 a17.Uid, .bool a17.Anti, .int .i64 (fn3547 0), .int .i64 (fn3547 1), .int .i64 (fn3547 2), .int .i64 (fn3547 3), .int .i64 (fn3547 4), .int .i64 (fn3547 5), .int .i64 (fn3547 6), .int .i64 (fn3547 7), .int .i64 (fn3547 8), .int .i64 (fn3547 9), .int .i64 (fn3547 10), .int .i64 (fn3547 11), .int .i64 (fn3547 12), .int .i64 (fn3547 13), .int .i64 (fn3547 14), .int .i64 (fn3547 15), .int .i64 x3548, .slice A3550 l3549.length c3551, .int .i64 x3553] 66 :: Cl b3493 [.int .i64 0, .int .i64 0, .int .i64 0, .int .i64 0, .int .i64 0, .int .i64 0, .int .i64 0, .int .i64 0, .int .i64 0, .int .i64 0] 29 :: Cl b3489 [.int .i64 a16.Regs.c0, .int .i64 a16.Regs.c1, .int .i64 a16.Regs.c2, .int .i64 a16.Regs.c3, .int .i64 a16.Regs.c4, .int .i64 a16.Regs.c5, .int .i64 a16.Regs.c6, .int .i64 a16.Regs.c7, .int .i64 a16.Draws, .int .i64 a16.Sent] 29 :: l) hf) follows rfl (by kernel_rfl) (NoTmp.then NoTmp.body) ?_
            have hS := hS.same (w' := { w with drawn := w.drawn + 1 }) rfl rfl
            revert hS
            generalize { w with drawn := w.drawn + 1 } = w
            intro hS
            refine RP.s0 0 rfl (fun w => Vl.fieldAddr (a'' := ⟨b3555, 0, none⟩) Tryd.underlying29 rfl Tryd.sizeOf27 rfl rfl) rfl ?_
            refine RP.s 1 rfl rfl hS (fun w hS => Vl.sliceArr Tryd.underlying27 Tryd.sizeOf2 rfl) rfl ?_
            refine RP.v1 2 rfl (Vl.move rfl) rfl rfl ?_
            refine RP.v1 3 rfl (Vl.nilCheck rfl) rfl rfl ?_
            refine RP.v1 4 rfl (Vl.fieldAddr (a'' := ⟨b3513, 11, none⟩) Tryd.underlying66 rfl Tryd.sizeOf64 rfl rfl) rfl rfl ?_
            refine RP.v1 5 rfl (Vl.sliceArr Tryd.underlying64 Tryd.sizeOf2 rfl) rfl rfl ?_
            refine RP.e 6 rfl (OW.copyB (m := 8) (vs := [.int .i64 (fn3547 0), .int .i64 (fn3547 1), .int .i64 (fn3547 2), .int .i64 (fn3547 3), .int .i64 (fn3547 4), .int .i64 (fn3547 5), .int .i64 (fn3547 6), .int .i64 (fn3547 7)]) (l' := Cl b3555 [.int .i64 (fn3547 0), .int .i64 (fn3547 1), .int .i64 (fn3547 2), .int .i64 (fn3547 3), .int .i64 (fn3547 4), .int .i64 (fn3547 5), .int .i64 (fn3547 6), .int .i64 (fn3547 7), .int .i64 x3548, .int .i64 (IntKind.i64.wrap (a16.Sent + (l3549.length : Int)))] 29 :: OSf E_api_Out 58 (.slice A3550 l3549.length c3551) l3549 :: Cl b3513 [.slice A10 a9.Prog.length c11, .int .i64 a9.Self, .slice A13 a9.Links.length c14, .int .u64 a9.Seed, .int .i64 a17.Key.Time, .int .i64 a17.Key.From, .int .i64 a17.Key.Seq, .int .i64 a17.To, .int .i64 a17.Value, .int .i64 a17.Uid, .bool a17.Anti, .int .i64 (fn3547 0), .int .i64 (fn3547 1), .int .i64 (fn3547 2), .int .i64 (fn3547 3), .int .i64 (fn3547 4), .int .i64 (fn3547 5), .int .i64 (fn3547 6), .int .i64 (fn3547 7), .int .i64 (fn3547 8), .int .i64 (fn3547 9), .int .i64 (fn3547 10), .int .i64 (fn3547 11), .int .i64 (fn3547 12), .int .i64 (fn3547 13), .int .i64 (fn3547 14), .int .i64 (fn3547 15), .int .i64 x3548, .slice A3550 l3549.length c3551, .int .i64 x3553] 66 :: Cl b3493 [.int .i64 0, .int .i64 0, .int .i64 0, .int .i64 0, .int .i64 0, .int .i64 0, .int .i64 0, .int .i64 0, .int .i64 0, .int .i64 0] 29 :: Cl b3489 [.int .i64 a16.Regs.c0, .int .i64 a16.Regs.c1, .int .i64 a16.Regs.c2, .int .i64 a16.Regs.c3, .int .i64 a16.Regs.c4, .int .i64 a16.Regs.c5, .int .i64 a16.Regs.c6, .int .i64 a16.Regs.c7, .int .i64 a16.Draws, .int .i64 a16.Sent] 29 :: l) 0 2 hS rfl rfl Tryd.underlying67 rfl rfl rfl rfl rfl rfl (Nat.le_of_ble_eq_true rfl) rfl rfl) rfl rfl ?_
            rintro _ w ⟨rfl, hS⟩
            have hS : St B w (Cl b3555 [.int .i64 (fn3547 0), .int .i64 (fn3547 1), .int .i64 (fn3547 2), .int .i64 (fn3547 3), .int .i64 (fn3547 4), .int .i64 (fn3547 5), .int .i64 (fn3547 6), .int .i64 (fn3547 7), .int .i64 x3548, .int .i64 (IntKind.i64.wrap (a16.Sent + (l3549.length : Int)))] 29 :: OSf E_api_Out 58 (.slice A3550 l3549.length c3551) l3549 :: Cl b3513 [.slice A10 a9.Prog.length c11, .int .i64 a9.Self, .slice A13 a9.Links.length c14, .int .u64 a9.Seed, .int .i64 a17.Key.Time, .int .i64 a17.Key.From, .int .i64 a17.Key.Seq, .int .i64 a17.To, .int .i64 a17.Value, .int .i64 a17.Uid, .bool a17.Anti, .int .i64 (fn3547 0), .int .i64 (fn3547 1), .int .i64 (fn3547 2), .int .i64 (fn3547 3), .int .i64 (fn3547 4), .int .i64 (fn3547 5), .int .i64 (fn3547 6), .int .i64 (fn3547 7), .int .i64 (fn3547 8), .int .i64 (fn3547 9), .int .i64 (fn3547 10), .int .i64 (fn3547 11), .int .i64 (fn3547 12), .int .i64 (fn3547 13), .int .i64 (fn3547 14), .int .i64 (fn3547 15), .int .i64 x3548, .slice A3550 l3549.length c3551, .int .i64 x3553] 66 :: Cl b3493 [.int .i64 0, .int .i64 0, .int .i64 0, .int .i64 0, .int .i64 0, .int .i64 0, .int .i64 0, .int .i64 0, .int .i64 0, .int .i64 0] 29 :: Cl b3489 [.int .i64 a16.Regs.c0, .int .i64 a16.Regs.c1, .int .i64 a16.Regs.c2, .int .i64 a16.Regs.c3, .int .i64 a16.Regs.c4, .int .i64 a16.Regs.c5, .int .i64 a16.Regs.c6, .int .i64 a16.Regs.c7, .int .i64 a16.Draws, .int .i64 a16.Sent] 29 :: l) hf := hS
            refine ⟨(by intro hx; cases hx), ?_⟩
            refine RP.nil ?_
            refine RQ.then_n ?_
            refine RC.seq ?_
            refine RC.plan (.cons 0 true (.pure 1 (.pure 2 (.pure 3 (.cons 4 true (.cons 5 false (.cons 6 false (.cons 7 false .nil)))))))) [6, 7] (fun w => St B w (Cl b3555 [.int .i64 (fn3547 0), .int .i64 (fn3547 1), .int .i64 (fn3547 2), .int .i64 (fn3547 3), .int .i64 (fn3547 4), .int .i64 (fn3547 5), .int .i64 (fn3547 6), .int .i64 (fn3547 7), .int .i64 x3548, .int .i64 (IntKind.i64.wrap (a16.Sent + (l3549.length : Int)))] 29 :: OSf E_api_Out 58 (.slice A3550 l3549.length c3551) l3549 :: Cl b3513 [.slice A10 a9.Prog.length c11, .int .i64 a9.Self, .slice A13 a9.Links.length c14, .int .u64 a9.Seed, .int .i64 a17.Key.Time, .int .i64 a17.Key.From, .int .i64 a17.Key.Seq, .int .i64 a17.To, .int .i64 a17.Value, .int .i64 a17.Uid, .bool a17.Anti, .int .i64 (fn3547 0), .int .i64 (fn3547 1), .int .i64 (fn3547 2), .int .i64 (fn3547 3), .int .i64 (fn3547 4), .int .i64 (fn3547 5), .int .i64 (fn3547 6), .int .i64 (fn3547 7), .int .i64 (fn3547 8), .int .i64 (fn3547 9), .int .i64 (fn3547 10), .int .i64 (fn3547 11), .int .i64 (fn3547 12), .int .i64 (fn3547 13), .int .i64 (fn3547 14), .int .i64 (fn3547 15), .int .i64 x3548, .slice A3550 l3549.length c3551, .int .i64 x3553] 66 :: Cl b3489 [.int .i64 a16.Regs.c0, .int .i64 a16.Regs.c1, .int .i64 a16.Regs.c2, .int .i64 a16.Regs.c3, .int .i64 a16.Regs.c4, .int .i64 a16.Regs.c5, .int .i64 a16.Regs.c6, .int .i64 a16.Regs.c7, .int .i64 a16.Draws, .int .i64 a16.Sent] 29 :: l) hf) follows rfl (by kernel_rfl) (NoTmp.then NoTmp.body) ?_
            have hS := hS.same (w' := { w with drawn := w.drawn + 1 }) rfl rfl
            revert hS
            generalize { w with drawn := w.drawn + 1 } = w
            intro hS
            refine RP.s 0 rfl rfl (hS.dropAt 3 rfl) (fun w hS => Vl.loadA (vs := [.int .i64 (fn3547 0), .int .i64 (fn3547 1), .int .i64 (fn3547 2), .int .i64 (fn3547 3), .int .i64 (fn3547 4), .int .i64 (fn3547 5), .int .i64 (fn3547 6), .int .i64 (fn3547 7), .int .i64 x3548, .int .i64 (IntKind.i64.wrap (a16.Sent + (l3549.length : Int)))]) Tryd.isAgg29 Tryd.sizeOf29 rfl rfl (hS.cellsAt 0 rfl rfl)) rfl ?_
            refine RP.s0 1 rfl (fun w => Vl.move rfl) rfl ?_
            refine RP.s0 2 rfl (fun w => Vl.nilCheck rfl) rfl ?_
            refine RP.s0 3 rfl (fun w => Vl.fieldAddr (a'' := ⟨b3513, 28, none⟩) Tryd.underlying66 rfl Tryd.sizeOf34 rfl rfl) rfl ?_
            refine RP.s 4 rfl rfl (hS.dropAt 3 rfl) (fun w hS => Vl.load Tryd.isAgg34 rfl (hS.cell 2 rfl rfl)) rfl ?_
            refine RP.e0 5 rfl (OW.store (cs := [.int .i64 0, .int .i64 0, .int .i64 0, .int .i64 0, .int .i64 0, .int .i64 0, .int .i64 0, .int .i64 0, .int .i64 0, .int .i64 0]) (vs := [.int .i64 (fn3547 0), .int .i64 (fn3547 1), .int .i64 (fn3547 2), .int .i64 (fn3547 3), .int .i64 (fn3547 4), .int .i64 (fn3547 5), .int .i64 (fn3547 6), .int .i64 (fn3547 7), .int .i64 x3548, .int .i64 (IntKind.i64.wrap (a16.Sent + (l3549.length : Int)))]) (l' := Cl b3555 [.int .i64 (fn3547 0), .int .i64 (fn3547 1), .int .i64 (fn3547 2), .int .i64 (fn3547 3), .int .i64 (fn3547 4), .int .i64 (fn3547 5), .int .i64 (fn3547 6), .int .i64 (fn3547 7), .int .i64 x3548, .int .i64 (IntKind.i64.wrap (a16.Sent + (l3549.length : Int)))] 29 :: OSf E_api_Out 58 (.slice A3550 l3549.length c3551) l3549 :: Cl b3513 [.slice A10 a9.Prog.length c11, .int .i64 a9.Self, .slice A13 a9.Links.length c14, .int .u64 a9.Seed, .int .i64 a17.Key.Time, .int .i64 a17.Key.From, .int .i64 a17.Key.Seq, .int .i64 a17.To, .int .i64 a17.Value, .int .i64 a17.Uid, .bool a17.Anti, .int .i64 (fn3547 0), .int .i64 (fn3547 1), .int .i64 (fn3547 2), .int .i64 (fn3547 3), .int .i64 (fn3547 4), .int .i64 (fn3547 5), .int .i64 (fn3547 6), .int .i64 (fn3547 7), .int .i64 (fn3547 8), .int .i64 (fn3547 9), .int .i64 (fn3547 10), .int .i64 (fn3547 11), .int .i64 (fn3547 12), .int .i64 (fn3547 13), .int .i64 (fn3547 14), .int .i64 (fn3547 15), .int .i64 x3548, .slice A3550 l3549.length c3551, .int .i64 x3553] 66 :: Cl b3493 [.int .i64 (fn3547 0), .int .i64 (fn3547 1), .int .i64 (fn3547 2), .int .i64 (fn3547 3), .int .i64 (fn3547 4), .int .i64 (fn3547 5), .int .i64 (fn3547 6), .int .i64 (fn3547 7), .int .i64 x3548, .int .i64 (IntKind.i64.wrap (a16.Sent + (l3549.length : Int)))] 29 :: Cl b3489 [.int .i64 a16.Regs.c0, .int .i64 a16.Regs.c1, .int .i64 a16.Regs.c2, .int .i64 a16.Regs.c3, .int .i64 a16.Regs.c4, .int .i64 a16.Regs.c5, .int .i64 a16.Regs.c6, .int .i64 a16.Regs.c7, .int .i64 a16.Draws, .int .i64 a16.Sent] 29 :: l) 3 hS rfl rfl rfl rfl Tryd.sizeOf29 rfl rfl rfl rfl) rfl ?_
            rintro _ w ⟨rfl, hS⟩
            have hS : St B w (Cl b3555 [.int .i64 (fn3547 0), .int .i64 (fn3547 1), .int .i64 (fn3547 2), .int .i64 (fn3547 3), .int .i64 (fn3547 4), .int .i64 (fn3547 5), .int .i64 (fn3547 6), .int .i64 (fn3547 7), .int .i64 x3548, .int .i64 (IntKind.i64.wrap (a16.Sent + (l3549.length : Int)))] 29 :: OSf E_api_Out 58 (.slice A3550 l3549.length c3551) l3549 :: Cl b3513 [.slice A10 a9.Prog.length c11, .int .i64 a9.Self, .slice A13 a9.Links.length c14, .int .u64 a9.Seed, .int .i64 a17.Key.Time, .int .i64 a17.Key.From, .int .i64 a17.Key.Seq, .int .i64 a17.To, .int .i64 a17.Value, .int .i64 a17.Uid, .bool a17.Anti, .int .i64 (fn3547 0), .int .i64 (fn3547 1), .int .i64 (fn3547 2), .int .i64 (fn3547 3), .int .i64 (fn3547 4), .int .i64 (fn3547 5), .int .i64 (fn3547 6), .int .i64 (fn3547 7), .int .i64 (fn3547 8), .int .i64 (fn3547 9), .int .i64 (fn3547 10), .int .i64 (fn3547 11), .int .i64 (fn3547 12), .int .i64 (fn3547 13), .int .i64 (fn3547 14), .int .i64 (fn3547 15), .int .i64 x3548, .slice A3550 l3549.length c3551, .int .i64 x3553] 66 :: Cl b3493 [.int .i64 (fn3547 0), .int .i64 (fn3547 1), .int .i64 (fn3547 2), .int .i64 (fn3547 3), .int .i64 (fn3547 4), .int .i64 (fn3547 5), .int .i64 (fn3547 6), .int .i64 (fn3547 7), .int .i64 x3548, .int .i64 (IntKind.i64.wrap (a16.Sent + (l3549.length : Int)))] 29 :: Cl b3489 [.int .i64 a16.Regs.c0, .int .i64 a16.Regs.c1, .int .i64 a16.Regs.c2, .int .i64 a16.Regs.c3, .int .i64 a16.Regs.c4, .int .i64 a16.Regs.c5, .int .i64 a16.Regs.c6, .int .i64 a16.Regs.c7, .int .i64 a16.Draws, .int .i64 a16.Sent] 29 :: l) hf := hS
            refine ⟨fun _ => (hS.dropAt 3 rfl), ?_⟩
            refine RP.v1 6 rfl (Vl.assign rfl) rfl rfl ?_
            refine RP.v1 7 rfl (Vl.assign rfl) rfl rfl ?_
            refine RP.nil ?_
            refine RQ.then_n ?_
            refine RC.ret ?_
            have e := h.some
            subst e
            refine RQ.ret0 (vs := [.agg #[.int .i64 (fn3547 0), .int .i64 (fn3547 1), .int .i64 (fn3547 2), .int .i64 (fn3547 3), .int .i64 (fn3547 4), .int .i64 (fn3547 5), .int .i64 (fn3547 6), .int .i64 (fn3547 7), .int .i64 x3548, .int .i64 (IntKind.i64.wrap (a16.Sent + (l3549.length : Int)))], .slice A3550 l3549.length c3551, .int .i64 0]) Tryd.results11 ⟨⟨_, rfl, run_loadVarA (vs := [.int .i64 (fn3547 0), .int .i64 (fn3547 1), .int .i64 (fn3547 2), .int .i64 (fn3547 3), .int .i64 (fn3547 4), .int .i64 (fn3547 5), .int .i64 (fn3547 6), .int .i64 (fn3547 7), .int .i64 x3548, .int .i64 (IntKind.i64.wrap (a16.Sent + (l3549.length : Int)))]) Tryd.isAgg29 Tryd.sizeOf29 rfl (hS.cellsAt 3 rfl rfl)⟩, rfl, rfl, trivial⟩ ?_
            exact ⟨A3550, c3551, rfl, ((((hS.dropAt 0 rfl).dropAt 1 rfl).dropAt 1 rfl).dropAt 1 rfl)⟩
          · refine RC.seq ?_
            refine RC.region ?_
            refine RL.s (Vl.move rfl) rfl ?_
            have hS := hS.nilSl E_api_Out 58
            have hS : St B w (OSf E_api_Out 58 (.slice none ([] : List api_Out).length 0) ([] : List api_Out) :: Cl b3515 [.int .i64 0, .int .i64 0] 69 :: Cl b3513 [.slice A10 a9.Prog.length c11, .int .i64 a9.Self, .slice A13 a9.Links.length c14, .int .u64 a9.Seed, .int .i64 a17.Key.Time, .int .i64 a17.Key.From, .int .i64 a17.Key.Seq, .int .i64 a17.To, .int .i64 a17.Value, .int .i64 a17.Uid, .bool a17.Anti, .int .i64 ((ovl [a16.Regs.c0, a16.Regs.c1, a16.Regs.c2, a16.Regs.c3, a16.Regs.c4, a16.Regs.c5, a16.Regs.c6, a16.Regs.c7] zfn) 0), .int .i64 ((ovl [a16.Regs.c0, a16.Regs.c1, a16.Regs.c2, a16.Regs.c3, a16.Regs.c4, a16.Regs.c5, a16.Regs.c6, a16.Regs.c7] zfn) 1), .int .i64 ((ovl [a16.Regs.c0, a16.Regs.c1, a16.Regs.c2, a16.Regs.c3, a16.Regs.c4, a16.Regs.c5, a16.Regs.c6, a16.Regs.c7] zfn) 2), .int .i64 ((ovl [a16.Regs.c0, a16.Regs.c1, a16.Regs.c2, a16.Regs.c3, a16.Regs.c4, a16.Regs.c5, a16.Regs.c6, a16.Regs.c7] zfn) 3), .int .i64 ((ovl [a16.Regs.c0, a16.Regs.c1, a16.Regs.c2, a16.Regs.c3, a16.Regs.c4, a16.Regs.c5, a16.Regs.c6, a16.Regs.c7] zfn) 4), .int .i64 ((ovl [a16.Regs.c0, a16.Regs.c1, a16.Regs.c2, a16.Regs.c3, a16.Regs.c4, a16.Regs.c5, a16.Regs.c6, a16.Regs.c7] zfn) 5), .int .i64 ((ovl [a16.Regs.c0, a16.Regs.c1, a16.Regs.c2, a16.Regs.c3, a16.Regs.c4, a16.Regs.c5, a16.Regs.c6, a16.Regs.c7] zfn) 6), .int .i64 ((ovl [a16.Regs.c0, a16.Regs.c1, a16.Regs.c2, a16.Regs.c3, a16.Regs.c4, a16.Regs.c5, a16.Regs.c6, a16.Regs.c7] zfn) 7), .int .i64 ((ovl [a16.Regs.c0, a16.Regs.c1, a16.Regs.c2, a16.Regs.c3, a16.Regs.c4, a16.Regs.c5, a16.Regs.c6, a16.Regs.c7] zfn) 8), .int .i64 ((ovl [a16.Regs.c0, a16.Regs.c1, a16.Regs.c2, a16.Regs.c3, a16.Regs.c4, a16.Regs.c5, a16.Regs.c6, a16.Regs.c7] zfn) 9), .int .i64 ((ovl [a16.Regs.c0, a16.Regs.c1, a16.Regs.c2, a16.Regs.c3, a16.Regs.c4, a16.Regs.c5, a16.Regs.c6, a16.Regs.c7] zfn) 10), .int .i64 ((ovl [a16.Regs.c0, a16.Regs.c1, a16.Regs.c2, a16.Regs.c3, a16.Regs.c4, a16.Regs.c5, a16.Regs.c6, a16.Regs.c7] zfn) 11), .int .i64 ((ovl [a16.Regs.c0, a16.Regs.c1, a16.Regs.c2, a16.Regs.c3, a16.Regs.c4, a16.Regs.c5, a16.Regs.c6, a16.Regs.c7] zfn) 12), .int .i64 ((ovl [a16.Regs.c0, a16.Regs.c1, a16.Regs.c2, a16.Regs.c3, a16.Regs.c4, a16.Regs.c5, a16.Regs.c6, a16.Regs.c7] zfn) 13), .int .i64 ((ovl [a16.Regs.c0, a16.Regs.c1, a16.Regs.c2, a16.Regs.c3, a16.Regs.c4, a16.Regs.c5, a16.Regs.c6, a16.Regs.c7] zfn) 14), .int .i64 ((ovl [a16.Regs.c0, a16.Regs.c1, a16.Regs.c2, a16.Regs.c3, a16.Regs.c4, a16.Regs.c5, a16.Regs.c6, a16.Regs.c7] zfn) 15), .int .i64 a16.Draws, .slice none ([] : List api_Out).length 0, .int .i64 0] 66 :: Cl b3493 [.int .i64 0, .int .i64 0, .int .i64 0, .int .i64 0, .int .i64 0, .int .i64 0, .int .i64 0, .int .i64 0, .int .i64 0, .int .i64 0] 29 :: Cl b3491 [.int .i64 a17.Key.Time, .int .i64 a17.Key.From, .int .i64 a17.Key.Seq, .int .i64 a17.To, .int .i64 a17.Value, .int .i64 a17.Uid, .bool a17.Anti] 33 :: Cl b3489 [.int .i64 a16.Regs.c0, .int .i64 a16.Regs.c1, .int .i64 a16.Regs.c2, .int .i64 a16.Regs.c3, .int .i64 a16.Regs.c4, .int .i64 a16.Regs.c5, .int .i64 a16.Regs.c6, .int .i64 a16.Regs.c7, .int .i64 a16.Draws, .int .i64 a16.Sent] 29 :: Cl b3487 [.slice A10 a9.Prog.length c11, .int .i64 a9.Self, .slice A13 a9.Links.length c14, .int .u64 a9.Seed] 26 :: l) hf := hS
            obtain ⟨t3557, hg3558, h⟩ := h.bind
            rcases t3557 with ⟨y3559, y3560, y3561, y3562⟩ | ⟨y3570, y3571, y3572, y3573, y3574⟩
            · refine RL.e (OW.callF (ls := [.tmp 53]) rfl Tryd.call20 (vm_cpu_run.ok a9.Prog a9.Self a9.Links a9.Seed a17.Key.Time a17.Key.From a17.Key.Seq a17.To a17.Value a17.Uid a17.Anti a16.Draws ([] : List api_Out) 0 (ovl [a16.Regs.c0, a16.Regs.c1, a16.Regs.c2, a16.Regs.c3, a16.Regs.c4, a16.Regs.c5, a16.Regs.c6, a16.Regs.c7] zfn) b3513 A10 c11 A13 c14 none 0 hr12 hr15 _ hg3558 (((((((hS.pull 6 rfl rfl).pull 6 rfl rfl).pull 6 rfl rfl).pull 6 rfl rfl).pull 5 rfl rfl).pull 5 rfl rfl).pull 6 rfl rfl))) rfl rfl ?_
              rintro _ w ⟨A3563, c3564, rfl, hS⟩
              have hS : St B w (OSf E_api_Out 58 (.slice A3563 y3561.length c3564) y3561 :: Cl b3513 [.slice A10 a9.Prog.length c11, .int .i64 a9.Self, .slice A13 a9.Links.length c14, .int .u64 a9.Seed, .int .i64 a17.Key.Time, .int .i64 a17.Key.From, .int .i64 a17.Key.Seq, .int .i64 a17.To, .int .i64 a17.Value, .int .i64 a17.Uid, .bool a17.Anti, .int .i64 (y3559 0), .int .i64 (y3559 1), .int .i64 (y3559 2), .int .i64 (y3559 3), .int .i64 (y3559 4), .int .i64 (y3559 5), .int .i64 (y3559 6), .int .i64 (y3559 7), .int .i64 (y3559 8), .int .i64 (y3559 9), .int .i64 (y3559 10), .int .i64 (y3559 11), .int .i64 (y3559 12), .int .i64 (y3559 13), .int .i64 (y3559 14), .int .i64 (y3559 15), .int .i64 y3560, .slice A3563 y3561.length c3564, .int .i64 y3562] 66 :: Cl b3515 [.int .i64 0, .int .i64 0] 69 :: Cl b3493 [.int .i64 0, .int .i64 0, .int .i64 0, .int .i64 0, .int .i64 0, .int .i64 0, .int .i64 0, .int .i64 0, .int .i64 0, .int .i64 0] 29 :: Cl b3491 [.int .i64 a17.Key.Time, .int .i64 a17.Key.From, .int .i64 a17.Key.Seq, .int .i64 a17.To, .int .i64 a17.Value, .int .i64 a17.Uid, .bool a17.Anti] 33 :: Cl b3489 [.int .i64 a16.Regs.c0, .int .i64 a16.Regs.c1, .int .i64 a16.Regs.c2, .int .i64 a16.Regs.c3, .int .i64 a16.Regs.c4, .int .i64 a16.Regs.c5, .int .i64 a16.Regs.c6, .int .i64 a16.Regs.c7, .int .i64 a16.Draws, .int .i64 a16.Sent] 29 :: Cl b3487 [.slice A10 a9.Prog.length c11, .int .i64 a9.Self, .slice A13 a9.Links.length c14, .int .u64 a9.Seed] 26 :: l) hf := hS
              refine RL.s (Vl.assign rfl) rfl ?_
              refine RL.nil ?_
              refine RQ.then_n ?_
              refine RC.seq ?_
              refine RC.region ?_
              refine RL.s (Vl.move rfl) rfl ?_
              refine RL.s (Vl.makeIface Tryd.underlying74 rfl rfl) rfl ?_
              obtain ⟨t3566, hg3567, h⟩ := h.bind
              refine RL.e (OW.callF (ls := [.tmp 55, .tmp 56]) rfl Tryd.call21 (errors_As.ok (⟨0, 0⟩ : vm_fault) b3515 _ hg3567 (((((((hS.pull 6 rfl rfl).pull 6 rfl rfl).pull 6 rfl rfl).pull 6 rfl rfl).pull 5 rfl rfl).pull 5 rfl rfl).pull 6 rfl rfl))) rfl rfl ?_
              rintro _ w ⟨rfl, hS⟩
              have hS : St B w (Cl b3515 [.int .i64 0, .int .i64 0] 69 :: OSf E_api_Out 58 (.slice A3563 y3561.length c3564) y3561 :: Cl b3513 [.slice A10 a9.Prog.length c11, .int .i64 a9.Self, .slice A13 a9.Links.length c14, .int .u64 a9.Seed, .int .i64 a17.Key.Time, .int .i64 a17.Key.From, .int .i64 a17.Key.Seq, .int .i64 a17.To, .int .i64 a17.Value, .int .i64 a17.Uid, .bool a17.Anti, .int .i64 (y3559 0), .int .i64 (y3559 1), .int .i64 (y3559 2), .int .i64 (y3559 3), .int .i64 (y3559 4), .int .i64 (y3559 5), .int .i64 (y3559 6), .int .i64 (y3559 7), .int .i64 (y3559 8), .int .i64 (y3559 9), .int .i64 (y3559 10), .int .i64 (y3559 11), .int .i64 (y3559 12), .int .i64 (y3559 13), .int .i64 (y3559 14), .int .i64 (y3559 15), .int .i64 y3560, .slice A3563 y3561.length c3564, .int .i64 y3562] 66 :: Cl b3493 [.int .i64 0, .int .i64 0, .int .i64 0, .int .i64 0, .int .i64 0, .int .i64 0, .int .i64 0, .int .i64 0, .int .i64 0, .int .i64 0] 29 :: Cl b3491 [.int .i64 a17.Key.Time, .int .i64 a17.Key.From, .int .i64 a17.Key.Seq, .int .i64 a17.To, .int .i64 a17.Value, .int .i64 a17.Uid, .bool a17.Anti] 33 :: Cl b3489 [.int .i64 a16.Regs.c0, .int .i64 a16.Regs.c1, .int .i64 a16.Regs.c2, .int .i64 a16.Regs.c3, .int .i64 a16.Regs.c4, .int .i64 a16.Regs.c5, .int .i64 a16.Regs.c6, .int .i64 a16.Regs.c7, .int .i64 a16.Draws, .int .i64 a16.Sent] 29 :: Cl b3487 [.slice A10 a9.Prog.length c11, .int .i64 a9.Self, .slice A13 a9.Links.length c14, .int .u64 a9.Seed] 26 :: l) hf := hS
              refine RL.nil ?_
              refine RQ.then_n ?_
              by_cases hc3568 : t3566 = true
              case pos =>
                have h := h.pos hc3568
                refine RC.re 57 rfl (congrArg Value.bool (id hc3568)) ?_
                refine RC.condT rfl ?_
                refine RC.seq ?_
                refine RC.plan (.cons 0 true (.pure 1 (.cons 2 true (.cons 3 false (.cons 4 false (.cons 5 false .nil)))))) [5] (fun w => St B w (Cl b3515 [.int .i64 0, .int .i64 0] 69 :: OSf E_api_Out 58 (.slice A3563 y3561.length c3564) y3561 :: Cl b3513 [.slice A10 a9.Prog.length c11, .int .i64 a9.Self, .slice A13 a9.Links.length c14, .int .u64 a9.Seed, .int .i64 a17.Key.Time, .int .i64 a17.Key.From, .int .i64 a17.Key.Seq, .int .i64 a17.To, .int .i64 a17.Value, .int .i64 a17.Uid, .bool a17.Anti, .int .i64 (y3559 0), .int .i64 (y3559 1), .int .i64 (y3559 2), .int .i64 (y3559 3), .int .i64 (y3559 4), .int .i64 (y3559 5), .int .i64 (y3559 6), .int .i64 (y3559 7), .int .i64 (y3559 8), .int .i64 (y3559 9), .int .i64 (y3559 10), .int .i64 (y3559 11), .int .i64 (y3559 12), .int .i64 (y3559 13), .int .i64 (y3559 14), .int .i64 (y3559 15), .int .i64 y3560, .slice A3563 y3561.length c3564, .int .i64 y3562] 66 :: Cl b3491 [.int .i64 a17.Key.Time, .int .i64 a17.Key.From, .int .i64 a17.Key.Seq, .int .i64 a17.To, .int .i64 a17.Value, .int .i64 a17.Uid, .bool a17.Anti] 33 :: Cl b3489 [.int .i64 a16.Regs.c0, .int .i64 a16.Regs.c1, .int .i64 a16.Regs.c2, .int .i64 a16.Regs.c3, .int .i64 a16.Regs.c4, .int .i64 a16.Regs.c5, .int .i64 a16.Regs.c6, .int .i64 a16.Regs.c7, .int .i64 a16.Draws, .int .i64 a16.Sent] 29 :: Cl b3487 [.slice A10 a9.Prog.length c11, .int .i64 a9.Self, .slice A13 a9.Links.length c14, .int .u64 a9.Seed] 26 :: l) hf) follows rfl (by kernel_rfl) (NoTmp.then (NoTmp.then NoTmp.body)) ?_
                have hS := hS.same (w' := { w with drawn := w.drawn + 1 }) rfl rfl
                revert hS
                generalize { w with drawn := w.drawn + 1 } = w
                intro hS
                refine RP.s 0 rfl rfl (hS.dropAt 3 rfl) (fun w hS => Vl.loadA (vs := [.int .i64 a16.Regs.c0, .int .i64 a16.Regs.c1, .int .i64 a16.Regs.c2, .int .i64 a16.Regs.c3, .int .i64 a16.Regs.c4, .int .i64 a16.Regs.c5, .int .i64 a16.Regs.c6, .int .i64 a16.Regs.c7, .int .i64 a16.Draws, .int .i64 a16.Sent]) Tryd.isAgg29 Tryd.sizeOf29 rfl rfl (hS.cellsAt 4 rfl rfl)) rfl ?_
                refine RP.s0 1 rfl (fun w => Vl.fieldAddr (a'' := ⟨b3515, 1, none⟩) Tryd.underlying69 rfl Tryd.sizeOf35 rfl rfl) rfl ?_
                refine RP.s 2 rfl rfl (hS.dropAt 3 rfl) (fun w hS => Vl.load Tryd.isAgg35 rfl (hS.cell 0 rfl rfl)) rfl ?_
                refine RP.e0 3 rfl (OW.store (cs := [.int .i64 0, .int .i64 0, .int .i64 0, .int .i64 0, .int .i64 0, .int .i64 0, .int .i64 0, .int .i64 0, .int .i64 0, .int .i64 0]) (vs := [.int .i64 a16.Regs.c0, .int .i64 a16.Regs.c1, .int .i64 a16.Regs.c2, .int .i64 a16.Regs.c3, .int .i64 a16.Regs.c4, .int .i64 a16.Regs.c5, .int .i64 a16.Regs.c6, .int .i64 a16.Regs.c7, .int .i64 a16.Draws, .int .i64 a16.Sent]) (l' := Cl b3515 [.int .i64 0, .int .i64 0] 69 :: OSf E_api_Out 58 (.slice A3563 y3561.length c3564) y3561 :: Cl b3513 [.slice A10 a9.Prog.length c11, .int .i64 a9.Self, .slice A13 a9.Links.length c14, .int .u64 a9.Seed, .int .i64 a17.Key.Time, .int .i64 a17.Key.From, .int .i64 a17.Key.Seq, .int .i64 a17.To, .int .i64 a17.Value, .int .i64 a17.Uid, .bool a17.Anti, .int .i64 (y3559 0), .int .i64 (y3559 1), .int .i64 (y3559 2), .int .i64 (y3559 3), .int .i64 (y3559 4), .int .i64 (y3559 5), .int .i64 (y3559 6), .int .i64 (y3559 7), .int .i64 (y3559 8), .int .i64 (y3559 9), .int .i64 (y3559 10), .int .i64 (y3559 11), .int .i64 (y3559 12), .int .i64 (y3559 13), .int .i64 (y3559 14), .int .i64 (y3559 15), .int .i64 y3560, .slice A3563 y3561.length c3564, .int .i64 y3562] 66 :: Cl b3493 [.int .i64 a16.Regs.c0, .int .i64 a16.Regs.c1, .int .i64 a16.Regs.c2, .int .i64 a16.Regs.c3, .int .i64 a16.Regs.c4, .int .i64 a16.Regs.c5, .int .i64 a16.Regs.c6, .int .i64 a16.Regs.c7, .int .i64 a16.Draws, .int .i64 a16.Sent] 29 :: Cl b3491 [.int .i64 a17.Key.Time, .int .i64 a17.Key.From, .int .i64 a17.Key.Seq, .int .i64 a17.To, .int .i64 a17.Value, .int .i64 a17.Uid, .bool a17.Anti] 33 :: Cl b3489 [.int .i64 a16.Regs.c0, .int .i64 a16.Regs.c1, .int .i64 a16.Regs.c2, .int .i64 a16.Regs.c3, .int .i64 a16.Regs.c4, .int .i64 a16.Regs.c5, .int .i64 a16.Regs.c6, .int .i64 a16.Regs.c7, .int .i64 a16.Draws, .int .i64 a16.Sent] 29 :: Cl b3487 [.slice A10 a9.Prog.length c11, .int .i64 a9.Self, .slice A13 a9.Links.length c14, .int .u64 a9.Seed] 26 :: l) 3 hS rfl rfl rfl rfl Tryd.sizeOf29 rfl rfl rfl rfl) rfl ?_
                rintro _ w ⟨rfl, hS⟩
                have hS : St B w (Cl b3515 [.int .i64 0, .int .i64 0] 69 :: OSf E_api_Out 58 (.slice A3563 y3561.length c3564) y3561 :: Cl b3513 [.slice A10 a9.Prog.length c11, .int .i64 a9.Self, .slice A13 a9.Links.length c14, .int .u64 a9.Seed, .int .i64 a17.Key.Time, .int .i64 a17.Key.From, .int .i64 a17.Key.Seq, .int .i64 a17.To, .int .i64 a17.Value, .int .i64 a17.Uid, .bool a17.Anti, .int .i64 (y3559 0), .int .i64 (y3559 1), .int .i64 (y3559 2), .int .i64 (y3559 3), .int .i64 (y3559 4), .int .i64 (y3559 5), .int .i64 (y3559 6), .int .i64 (y3559 7), .int .i64 (y3559 8), .int .i64 (y3559 9), .int .i64 (y3559 10), .int .i64 (y3559 11), .int .i64 (y3559 12), .int .i64 (y3559 13), .int .i64 (y3559 14), .int .i64 (y3559 15), .int .i64 y3560, .slice A3563 y3561.length c3564, .int .i64 y3562] 66 :: Cl b3493 [.int .i64 a16.Regs.c0, .int .i64 a16.Regs.c1, .int .i64 a16.Regs.c2, .int .i64 a16.Regs.c3, .int .i64 a16.Regs.c4, .int .i64 a16.Regs.c5, .int .i64 a16.Regs.c6, .int .i64 a16.Regs.c7, .int .i64 a16.Draws, .int .i64 a16.Sent] 29 :: Cl b3491 [.int .i64 a17.Key.Time, .int .i64 a17.Key.From, .int .i64 a17.Key.Seq, .int .i64 a17.To, .int .i64 a17.Value, .int .i64 a17.Uid, .bool a17.Anti] 33 :: Cl b3489 [.int .i64 a16.Regs.c0, .int .i64 a16.Regs.c1, .int .i64 a16.Regs.c2, .int .i64 a16.Regs.c3, .int .i64 a16.Regs.c4, .int .i64 a16.Regs.c5, .int .i64 a16.Regs.c6, .int .i64 a16.Regs.c7, .int .i64 a16.Draws, .int .i64 a16.Sent] 29 :: Cl b3487 [.slice A10 a9.Prog.length c11, .int .i64 a9.Self, .slice A13 a9.Links.length c14, .int .u64 a9.Seed] 26 :: l) hf := hS
                refine ⟨fun _ => (hS.dropAt 3 rfl), ?_⟩
                refine RP.v1 4 rfl (Vl.assign rfl) rfl rfl ?_
                refine RP.v1 5 rfl (Vl.assign rfl) rfl rfl ?_
                refine RP.nil ?_
                refine RQ.then_n ?_
                refine RC.ret ?_
                refine RQ.ret ?_
                have hS := hS.nilSl E_api_Out 58
                have e := h.some
                subst e
                refine RQ.ret0 (vs := [.agg #[.int .i64 a16.Regs.c0, .int .i64 a16.Regs.c1, .int .i64 a16.Regs.c2, .int .i64 a16.Regs.c3, .int .i64 a16.Regs.c4, .int .i64 a16.Regs.c5, .int .i64 a16.Regs.c6, .int .i64 a16.Regs.c7, .int .i64 a16.Draws, .int .i64 a16.Sent], .slice none 0 0, .int .i64 0]) Tryd.results11 ⟨⟨_, rfl, run_loadVarA (vs := [.int .i64 a16.Regs.c0, .int .i64 a16.Regs.c1, .int .i64 a16.Regs.c2, .int .i64 a16.Regs.c3, .int .i64 a16.Regs.c4, .int .i64 a16.Regs.c5, .int .i64 a16.Regs.c6, .int .i64 a16.Regs.c7, .int .i64 a16.Draws, .int .i64 a16.Sent]) Tryd.isAgg29 Tryd.sizeOf29 rfl (hS.cellsAt 4 rfl rfl)⟩, rfl, rfl, trivial⟩ ?_
                exact ⟨none, 0, rfl, (((((((hS.dropAt 1 rfl).dropAt 1 rfl).dropAt 1 rfl).dropAt 1 rfl).dropAt 1 rfl).dropAt 1 rfl).dropAt 1 rfl)⟩
              case neg =>
                have h := h.neg hc3568
                refine RC.re 57 rfl (congrArg Value.bool (eq_false_of hc3568)) ?_
                refine RC.condF rfl ?_
                refine RC.skip ?_
                exact fun a ha => ⟨(y3559, y3560, y3561, y3562), y3559, y3560, y3561, y3562, rfl, A3563, c3564, ha.to ⟨rfl, rfl, rfl, trivial⟩, (((hS.dropAt 0 rfl).dropAt 3 rfl).dropAt 4 rfl), h⟩
            · refine RL.e (OW.callF (ls := [.tmp 53]) rfl Tryd.call20 (vm_cpu_run.ok a9.Prog a9.Self a9.Links a9.Seed a17.Key.Time a17.Key.From a17.Key.Seq a17.To a17.Value a17.Uid a17.Anti a16.Draws ([] : List api_Out) 0 (ovl [a16.Regs.c0, a16.Regs.c1, a16.Regs.c2, a16.Regs.c3, a16.Regs.c4, a16.Regs.c5, a16.Regs.c6, a16.Regs.c7] zfn) b3513 A10 c11 A13 c14 none 0 hr12 hr15 _ hg3558 (((((((hS.pull 6 rfl rfl).pull 6 rfl rfl).pull 6 rfl rfl).pull 6 rfl rfl).pull 5 rfl rfl).pull 5 rfl rfl).pull 6 rfl rfl))) rfl rfl ?_
              rintro _ w ⟨b3575, A3577, c3578, A3580, c3581, rfl, hS⟩
              have hS : St B w (Cl b3575 [.slice A3577 1 c3578] 115 :: OSl 71 1 (.slice A3577 1 c3578) 1 [.iface 69 (.agg #[.int .i64 y3570.at_, .int .i64 y3570.why])] :: OSf E_api_Out 58 (.slice A3580 y3573.length c3581) y3573 :: Cl b3513 [.slice A10 a9.Prog.length c11, .int .i64 a9.Self, .slice A13 a9.Links.length c14, .int .u64 a9.Seed, .int .i64 a17.Key.Time, .int .i64 a17.Key.From, .int .i64 a17.Key.Seq, .int .i64 a17.To, .int .i64 a17.Value, .int .i64 a17.Uid, .bool a17.Anti, .int .i64 (y3571 0), .int .i64 (y3571 1), .int .i64 (y3571 2), .int .i64 (y3571 3), .int .i64 (y3571 4), .int .i64 (y3571 5), .int .i64 (y3571 6), .int .i64 (y3571 7), .int .i64 (y3571 8), .int .i64 (y3571 9), .int .i64 (y3571 10), .int .i64 (y3571 11), .int .i64 (y3571 12), .int .i64 (y3571 13), .int .i64 (y3571 14), .int .i64 (y3571 15), .int .i64 y3572, .slice A3580 y3573.length c3581, .int .i64 y3574] 66 :: Cl b3515 [.int .i64 0, .int .i64 0] 69 :: Cl b3493 [.int .i64 0, .int .i64 0, .int .i64 0, .int .i64 0, .int .i64 0, .int .i64 0, .int .i64 0, .int .i64 0, .int .i64 0, .int .i64 0] 29 :: Cl b3491 [.int .i64 a17.Key.Time, .int .i64 a17.Key.From, .int .i64 a17.Key.Seq, .int .i64 a17.To, .int .i64 a17.Value, .int .i64 a17.Uid, .bool a17.Anti] 33 :: Cl b3489 [.int .i64 a16.Regs.c0, .int .i64 a16.Regs.c1, .int .i64 a16.Regs.c2, .int .i64 a16.Regs.c3, .int .i64 a16.Regs.c4, .int .i64 a16.Regs.c5, .int .i64 a16.Regs.c6, .int .i64 a16.Regs.c7, .int .i64 a16.Draws, .int .i64 a16.Sent] 29 :: Cl b3487 [.slice A10 a9.Prog.length c11, .int .i64 a9.Self, .slice A13 a9.Links.length c14, .int .u64 a9.Seed] 26 :: l) hf := hS
              refine RL.s (Vl.assign rfl) rfl ?_
              refine RL.nil ?_
              refine RQ.then_n ?_
              refine RC.seq ?_
              refine RC.region ?_
              refine RL.s (Vl.move rfl) rfl ?_
              refine RL.s (Vl.makeIface Tryd.underlying74 rfl rfl) rfl ?_
              obtain ⟨t3583, hg3584, h⟩ := h.bind
              obtain ⟨y3585, y3586⟩ := t3583
              refine RL.e (OW.callF (ls := [.tmp 55, .tmp 56]) rfl Tryd.call21 (errors_As_2.ok y3570 (⟨0, 0⟩ : vm_fault) b3575 A3577 c3578 b3515 hG0 _ hg3584 (((((((((hS.pull 8 rfl rfl).pull 8 rfl rfl).pull 8 rfl rfl).pull 8 rfl rfl).pull 7 rfl rfl).pull 7 rfl rfl).pull 8 rfl rfl).pull 7 rfl rfl).pull 8 rfl rfl))) rfl rfl ?_
              rintro _ w ⟨rfl, hS⟩
              have hS : St B w (OSl 71 1 (.slice A3577 1 c3578) 1 [.iface 69 (.agg #[.int .i64 y3570.at_, .int .i64 y3570.why])] :: Cl b3575 [.slice A3577 1 c3578] 115 :: Cl b3515 [.int .i64 y3586.at_, .int .i64 y3586.why] 69 :: OSf E_api_Out 58 (.slice A3580 y3573.length c3581) y3573 :: Cl b3513 [.slice A10 a9.Prog.length c11, .int .i64 a9.Self, .slice A13 a9.Links.length c14, .int .u64 a9.Seed, .int .i64 a17.Key.Time, .int .i64 a17.Key.From, .int .i64 a17.Key.Seq, .int .i64 a17.To, .int .i64 a17.Value, .int .i64 a17.Uid, .bool a17.Anti, .int .i64 (y3571 0), .int .i64 (y3571 1), .int .i64 (y3571 2), .int .i64 (y3571 3), .int .i64 (y3571 4), .int .i64 (y3571 5), .int .i64 (y3571 6), .int .i64 (y3571 7), .int .i64 (y3571 8), .int .i64 (y3571 9), .int .i64 (y3571 10), .int .i64 (y3571 11), .int .i64 (y3571 12), .int .i64 (y3571 13), .int .i64 (y3571 14), .int .i64 (y3571 15), .int .i64 y3572, .slice A3580 y3573.length c3581, .int .i64 y3574] 66 :: Cl b3493 [.int .i64 0, .int .i64 0, .int .i64 0, .int .i64 0, .int .i64 0, .int .i64 0, .int .i64 0, .int .i64 0, .int .i64 0, .int .i64 0] 29 :: Cl b3491 [.int .i64 a17.Key.Time, .int .i64 a17.Key.From, .int .i64 a17.Key.Seq, .int .i64 a17.To, .int .i64 a17.Value, .int .i64 a17.Uid, .bool a17.Anti] 33 :: Cl b3489 [.int .i64 a16.Regs.c0, .int .i64 a16.Regs.c1, .int .i64 a16.Regs.c2, .int .i64 a16.Regs.c3, .int .i64 a16.Regs.c4, .int .i64 a16.Regs.c5, .int .i64 a16.Regs.c6, .int .i64 a16.Regs.c7, .int .i64 a16.Draws, .int .i64 a16.Sent] 29 :: Cl b3487 [.slice A10 a9.Prog.length c11, .int .i64 a9.Self, .slice A13 a9.Links.length c14, .int .u64 a9.Seed] 26 :: l) hf := hS
              refine RL.nil ?_
              refine RQ.then_n ?_
              by_cases hc3587 : y3585 = true
              case pos =>
                have h := h.pos hc3587
                refine RC.re 57 rfl (congrArg Value.bool (id hc3587)) ?_
                refine RC.condT rfl ?_
                refine RC.seq ?_
                refine RC.plan (.cons 0 true (.pure 1 (.cons 2 true (.cons 3 false (.cons 4 false (.cons 5 false .nil)))))) [5] (fun w => St B w (OSl 71 1 (.slice A3577 1 c3578) 1 [.iface 69 (.agg #[.int .i64 y3570.at_, .int .i64 y3570.why])] :: Cl b3575 [.slice A3577 1 c3578] 115 :: Cl b3515 [.int .i64 y3586.at_, .int .i64 y3586.why] 69 :: OSf E_api_Out 58 (.slice A3580 y3573.length c3581) y3573 :: Cl b3513 [.slice A10 a9.Prog.length c11, .int .i64 a9.Self, .slice A13 a9.Links.length c14, .int .u64 a9.Seed, .int .i64 a17.Key.Time, .int .i64 a17.Key.From, .int .i64 a17.Key.Seq, .int .i64 a17.To, .int .i64 a17.Value, .int .i64 a17.Uid, .bool a17.Anti, .int .i64 (y3571 0), .int .i64 (y3571 1), .int .i64 (y3571 2), .int .i64 (y3571 3), .int .i64 (y3571 4), .int .i64 (y3571 5), .int .i64 (y3571 6), .int .i64 (y3571 7), .int .i64 (y3571 8), .int .i64 (y3571 9), .int .i64 (y3571 10), .int .i64 (y3571 11), .int .i64 (y3571 12), .int .i64 (y3571 13), .int .i64 (y3571 14), .int .i64 (y3571 15), .int .i64 y3572, .slice A3580 y3573.length c3581, .int .i64 y3574] 66 :: Cl b3491 [.int .i64 a17.Key.Time, .int .i64 a17.Key.From, .int .i64 a17.Key.Seq, .int .i64 a17.To, .int .i64 a17.Value, .int .i64 a17.Uid, .bool a17.Anti] 33 :: Cl b3489 [.int .i64 a16.Regs.c0, .int .i64 a16.Regs.c1, .int .i64 a16.Regs.c2, .int .i64 a16.Regs.c3, .int .i64 a16.Regs.c4, .int .i64 a16.Regs.c5, .int .i64 a16.Regs.c6, .int .i64 a16.Regs.c7, .int .i64 a16.Draws, .int .i64 a16.Sent] 29 :: Cl b3487 [.slice A10 a9.Prog.length c11, .int .i64 a9.Self, .slice A13 a9.Links.length c14, .int .u64 a9.Seed] 26 :: l) hf) follows rfl (by kernel_rfl) (NoTmp.then (NoTmp.then NoTmp.body)) ?_
                have hS := hS.same (w' := { w with drawn := w.drawn + 1 }) rfl rfl
                revert hS
                generalize { w with drawn := w.drawn + 1 } = w
                intro hS
                refine RP.s 0 rfl rfl (hS.dropAt 5 rfl) (fun w hS => Vl.loadA (vs := [.int .i64 a16.Regs.c0, .int .i64 a16.Regs.c1, .int .i64 a16.Regs.c2, .int .i64 a16.Regs.c3, .int .i64 a16.Regs.c4, .int .i64 a16.Regs.c5, .int .i64 a16.Regs.c6, .int .i64 a16.Regs.c7, .int .i64 a16.Draws, .int .i64 a16.Sent]) Tryd.isAgg29 Tryd.sizeOf29 rfl rfl (hS.cellsAt 6 rfl rfl)) rfl ?_
                refine RP.s0 1 rfl (fun w => Vl.fieldAddr (a'' := ⟨b3515, 1, none⟩) Tryd.underlying69 rfl Tryd.sizeOf35 rfl rfl) rfl ?_
                refine RP.s 2 rfl rfl (hS.dropAt 5 rfl) (fun w hS => Vl.load Tryd.isAgg35 rfl (hS.cell 2 rfl rfl)) rfl ?_
                refine RP.e0 3 rfl (OW.store (cs := [.int .i64 0, .int .i64 0, .int .i64 0, .int .i64 0, .int .i64 0, .int .i64 0, .int .i64 0, .int .i64 0, .int .i64 0, .int .i64 0]) (vs := [.int .i64 a16.Regs.c0, .int .i64 a16.Regs.c1, .int .i64 a16.Regs.c2, .int .i64 a16.Regs.c3, .int .i64 a16.Regs.c4, .int .i64 a16.Regs.c5, .int .i64 a16.Regs.c6, .int .i64 a16.Regs.c7, .int .i64 a16.Draws, .int .i64 a16.Sent]) (l' := OSl 71 1 (.slice A3577 1 c3578) 1 [.iface 69 (.agg #[.int .i64 y3570.at_, .int .i64 y3570.why])] :: Cl b3575 [.slice A3577 1 c3578] 115 :: Cl b3515 [.int .i64 y3586.at_, .int .i64 y3586.why] 69 :: OSf E_api_Out 58 (.slice A3580 y3573.length c3581) y3573 :: Cl b3513 [.slice A10 a9.Prog.length c11, .int .i64 a9.Self, .slice A13 a9.Links.length c14, .int .u64 a9.Seed, .int .i64 a17.Key.Time, .int .i64 a17.Key.From, .int .i64 a17.Key.Seq, .int .i64 a17.To, .int .i64 a17.Value, .int .i64 a17.Uid, .bool a17.Anti, .int .i64 (y3571 0), .int .i64 (y3571 1), .int .i64 (y3571 2), .int .i64 (y3571 3), .int .i64 (y3571 4), .int .i64 (y3571 5), .int .i64 (y3571 6), .int .i64 (y3571 7), .int .i64 (y3571 8), .int .i64 (y3571 9), .int .i64 (y3571 10), .int .i64 (y3571 11), .int .i64 (y3571 12), .int .i64 (y3571 13), .int .i64 (y3571 14), .int .i64 (y3571 15), .int .i64 y3572, .slice A3580 y3573.length c3581, .int .i64 y3574] 66 :: Cl b3493 [.int .i64 a16.Regs.c0, .int .i64 a16.Regs.c1, .int .i64 a16.Regs.c2, .int .i64 a16.Regs.c3, .int .i64 a16.Regs.c4, .int .i64 a16.Regs.c5, .int .i64 a16.Regs.c6, .int .i64 a16.Regs.c7, .int .i64 a16.Draws, .int .i64 a16.Sent] 29 :: Cl b3491 [.int .i64 a17.Key.Time, .int .i64 a17.Key.From, .int .i64 a17.Key.Seq, .int .i64 a17.To, .int .i64 a17.Value, .int .i64 a17.Uid, .bool a17.Anti] 33 :: Cl b3489 [.int .i64 a16.Regs.c0, .int .i64 a16.Regs.c1, .int .i64 a16.Regs.c2, .int .i64 a16.Regs.c3, .int .i64 a16.Regs.c4, .int .i64 a16.Regs.c5, .int .i64 a16.Regs.c6, .int .i64 a16.Regs.c7, .int .i64 a16.Draws, .int .i64 a16.Sent] 29 :: Cl b3487 [.slice A10 a9.Prog.length c11, .int .i64 a9.Self, .slice A13 a9.Links.length c14, .int .u64 a9.Seed] 26 :: l) 5 hS rfl rfl rfl rfl Tryd.sizeOf29 rfl rfl rfl rfl) rfl ?_
                rintro _ w ⟨rfl, hS⟩
                have hS : St B w (OSl 71 1 (.slice A3577 1 c3578) 1 [.iface 69 (.agg #[.int .i64 y3570.at_, .int .i64 y3570.why])] :: Cl b3575 [.slice A3577 1 c3578] 115 :: Cl b3515 [.int .i64 y3586.at_, .int .i64 y3586.why] 69 :: OSf E_api_Out 58 (.slice A3580 y3573.length c3581) y3573 :: Cl b3513 [.slice A10 a9.Prog.length c11, .int .i64 a9.Self, .slice A13 a9.Links.length c14, .int .u64 a9.Seed, .int .i64 a17.Key.Time, .int .i64 a17.Key.From, .int .i64 a17.Key.Seq, .int .i64 a17.To, .int .i64 a17.Value, .int .i64 a17.Uid, .bool a17.Anti, .int .i64 (y3571 0), .int .i64 (y3571 1), .int .i64 (y3571 2), .int .i64 (y3571 3), .int .i64 (y3571 4), .int .i64 (y3571 5), .int .i64 (y3571 6), .int .i64 (y3571 7), .int .i64 (y3571 8), .int .i64 (y3571 9), .int .i64 (y3571 10), .int .i64 (y3571 11), .int .i64 (y3571 12), .int .i64 (y3571 13), .int .i64 (y3571 14), .int .i64 (y3571 15), .int .i64 y3572, .slice A3580 y3573.length c3581, .int .i64 y3574] 66 :: Cl b3493 [.int .i64 a16.Regs.c0, .int .i64 a16.Regs.c1, .int .i64 a16.Regs.c2, .int .i64 a16.Regs.c3, .int .i64 a16.Regs.c4, .int .i64 a16.Regs.c5, .int .i64 a16.Regs.c6, .int .i64 a16.Regs.c7, .int .i64 a16.Draws, .int .i64 a16.Sent] 29 :: Cl b3491 [.int .i64 a17.Key.Time, .int .i64 a17.Key.From, .int .i64 a17.Key.Seq, .int .i64 a17.To, .int .i64 a17.Value, .int .i64 a17.Uid, .bool a17.Anti] 33 :: Cl b3489 [.int .i64 a16.Regs.c0, .int .i64 a16.Regs.c1, .int .i64 a16.Regs.c2, .int .i64 a16.Regs.c3, .int .i64 a16.Regs.c4, .int .i64 a16.Regs.c5, .int .i64 a16.Regs.c6, .int .i64 a16.Regs.c7, .int .i64 a16.Draws, .int .i64 a16.Sent] 29 :: Cl b3487 [.slice A10 a9.Prog.length c11, .int .i64 a9.Self, .slice A13 a9.Links.length c14, .int .u64 a9.Seed] 26 :: l) hf := hS
                refine ⟨fun _ => (hS.dropAt 5 rfl), ?_⟩
                refine RP.v1 4 rfl (Vl.assign rfl) rfl rfl ?_
                refine RP.v1 5 rfl (Vl.assign rfl) rfl rfl ?_
                refine RP.nil ?_
                refine RQ.then_n ?_
                refine RC.ret ?_
                refine RQ.ret ?_
                have hS := hS.nilSl E_api_Out 58
                have e := h.some
                subst e
                refine RQ.ret0 (vs := [.agg #[.int .i64 a16.Regs.c0, .int .i64 a16.Regs.c1, .int .i64 a16.Regs.c2, .int .i64 a16.Regs.c3, .int .i64 a16.Regs.c4, .int .i64 a16.Regs.c5, .int .i64 a16.Regs.c6, .int .i64 a16.Regs.c7, .int .i64 a16.Draws, .int .i64 a16.Sent], .slice none 0 0, .int .i64 y3586.why]) Tryd.results11 ⟨⟨_, rfl, run_loadVarA (vs := [.int .i64 a16.Regs.c0, .int .i64 a16.Regs.c1, .int .i64 a16.Regs.c2, .int .i64 a16.Regs.c3, .int .i64 a16.Regs.c4, .int .i64 a16.Regs.c5, .int .i64 a16.Regs.c6, .int .i64 a16.Regs.c7, .int .i64 a16.Draws, .int .i64 a16.Sent]) Tryd.isAgg29 Tryd.sizeOf29 rfl (hS.cellsAt 6 rfl rfl)⟩, rfl, rfl, trivial⟩ ?_
                exact ⟨none, 0, rfl, (((((((((hS.dropAt 1 rfl).dropAt 1 rfl).dropAt 1 rfl).dropAt 1 rfl).dropAt 1 rfl).dropAt 1 rfl).dropAt 1 rfl).dropAt 1 rfl).dropAt 1 rfl)⟩
              case neg =>
                have h := h.neg hc3587
                refine RC.re 57 rfl (congrArg Value.bool (eq_false_of hc3587)) ?_
                refine RC.condF rfl ?_
                refine RC.skip ?_
                exact fun a ha => ⟨(y3571, y3572, y3573, y3574), y3571, y3572, y3573, y3574, rfl, A3580, c3581, ha.to ⟨rfl, rfl, rfl, trivial⟩, (((((hS.dropAt 0 rfl).dropAt 0 rfl).dropAt 0 rfl).dropAt 3 rfl).dropAt 4 rfl), h⟩
    case neg =>
      have h := h.neg hc3507
      refine RL.re 23 rfl (congrArg Value.bool (notdec_neg hc3507)) ?_
      refine RL.nn rfl rfl ?_
      refine RL.nn rfl rfl ?_
      refine RL.nn rfl rfl ?_
      refine RL.nn rfl rfl ?_
      refine RL.nn rfl rfl ?_
      refine RL.nn rfl rfl ?_
      refine RL.s (Vl.pickT rfl rfl) rfl ?_
      refine RL.s (Vl.move rfl) rfl ?_
      refine RL.nn rfl rfl ?_
      refine RL.nn rfl rfl ?_
      refine RL.nn rfl rfl ?_
      refine RL.nn rfl rfl ?_
      refine RL.nn rfl rfl ?_
      refine RL.nn rfl rfl ?_
      refine RL.s (Vl.pickT rfl rfl) rfl ?_
      refine RL.nil ?_
      refine RQ.then_n ?_
      refine RC.condT rfl ?_
      refine RC.seq ?_
      refine RC.region ?_
      refine RL.s (Vl.build (v := .agg #[.int .i64 0, .int .i64 0, .int .i64 0, .int .i64 0, .int .i64 0, .int .i64 0, .int .i64 0, .int .i64 0, .int .i64 0, .int .i64 0]) (parts := []) rfl (by kernel_rfl)) rfl ?_
      refine RL.e0 (OW.store (cs := [.int .i64 0, .int .i64 0, .int .i64 0, .int .i64 0, .int .i64 0, .int .i64 0, .int .i64 0, .int .i64 0, .int .i64 0, .int .i64 0]) (vs := [.int .i64 0, .int .i64 0, .int .i64 0, .int .i64 0, .int .i64 0, .int .i64 0, .int .i64 0, .int .i64 0, .int .i64 0, .int .i64 0]) (l' := Cl b3493 [.int .i64 0, .int .i64 0, .int .i64 0, .int .i64 0, .int .i64 0, .int .i64 0, .int .i64 0, .int .i64 0, .int .i64 0, .int .i64 0] 29 :: Cl b3491 [.int .i64 a17.Key.Time, .int .i64 a17.Key.From, .int .i64 a17.Key.Seq, .int .i64 a17.To, .int .i64 a17.Value, .int .i64 a17.Uid, .bool a17.Anti] 33 :: Cl b3489 [.int .i64 a16.Regs.c0, .int .i64 a16.Regs.c1, .int .i64 a16.Regs.c2, .int .i64 a16.Regs.c3, .int .i64 a16.Regs.c4, .int .i64 a16.Regs.c5, .int .i64 a16.Regs.c6, .int .i64 a16.Regs.c7, .int .i64 a16.Draws, .int .i64 a16.Sent] 29 :: Cl b3487 [.slice A10 a9.Prog.length c11, .int .i64 a9.Self, .slice A13 a9.Links.length c14, .int .u64 a9.Seed] 26 :: l) 0 hS rfl rfl rfl rfl Tryd.sizeOf29 rfl rfl rfl rfl) rfl ?_
      rintro _ w ⟨rfl, hS⟩
      have hS : St B w (Cl b3493 [.int .i64 0, .int .i64 0, .int .i64 0, .int .i64 0, .int .i64 0, .int .i64 0, .int .i64 0, .int .i64 0, .int .i64 0, .int .i64 0] 29 :: Cl b3491 [.int .i64 a17.Key.Time, .int .i64 a17.Key.From, .int .i64 a17.Key.Seq, .int .i64 a17.To, .int .i64 a17.Value, .int .i64 a17.Uid, .bool a17.Anti] 33 :: Cl b3489 [.int .i64 a16.Regs.c0, .int .i64 a16.Regs.c1, .int .i64 a16.Regs.c2, .int .i64 a16.Regs.c3, .int .i64 a16.Regs.c4, .int .i64 a16.Regs.c5, .int .i64 a16.Regs.c6, .int .i64 a16.Regs.c7, .int .i64 a16.Draws, .int .i64 a16.Sent] 29 :: Cl b3487 [.slice A10 a9.Prog.length c11, .int .i64 a9.Self, .slice A13 a9.Links.length c14, .int .u64 a9.Seed] 26 :: l) hf := hS
      refine RL.s (Vl.assign rfl) rfl ?_
      refine RL.s (Vl.assign rfl) rfl ?_
      refine RL.nil ?_
      refine RQ.then_n ?_
      refine RC.ret ?_
      refine RQ.ret ?_
      have hS := hS.nilSl E_api_Out 58
      have e := h.some
      subst e
      refine RQ.ret0 (vs := [.agg #[.int .i64 0, .int .i64 0, .int .i64 0, .int .i64 0, .int .i64 0, .int .i64 0, .int .i64 0, .int .i64 0, .int .i64 0, .int .i64 0], .slice none 0 0, .int .i64 1]) Tryd.results11 ⟨⟨_, rfl, run_loadVarA (vs := [.int .i64 0, .int .i64 0, .int .i64 0, .int .i64 0, .int .i64 0, .int .i64 0, .int .i64 0, .int .i64 0, .int .i64 0, .int .i64 0]) Tryd.isAgg29 Tryd.sizeOf29 rfl (hS.cellsAt 1 rfl rfl)⟩, rfl, rfl, trivial⟩ ?_
      exact ⟨none, 0, rfl, ((((hS.dropAt 1 rfl).dropAt 1 rfl).dropAt 1 rfl).dropAt 1 rfl)⟩
  case neg =>
    have h := h.neg hc3499
    refine RC.re 17 rfl (congrArg Value.bool (notdec_neg hc3499)) ?_
    refine RC.condT rfl ?_
    refine RC.seq ?_
    refine RC.region ?_
    refine RL.s (Vl.build (v := .agg #[.int .i64 0, .int .i64 0, .int .i64 0, .int .i64 0, .int .i64 0, .int .i64 0, .int .i64 0, .int .i64 0, .int .i64 0, .int .i64 0]) (parts := []) rfl (by kernel_rfl)) rfl ?_
    refine RL.s (Vl.move rfl) rfl ?_
    refine RL.e0 (OW.store (cs := [.int .i64 0, .int .i64 0, .int .i64 0, .int .i64 0, .int .i64 0, .int .i64 0, .int .i64 0, .int .i64 0, .int .i64 0, .int .i64 0]) (vs := [.int .i64 0, .int .i64 0, .int .i64 0, .int .i64 0, .int .i64 0, .int .i64 0, .int .i64 0, .int .i64 0, .int .i64 0, .int .i64 0]) (l' := Cl b3493 [.int .i64 0, .int .i64 0, .int .i64 0, .int .i64 0, .int .i64 0, .int .i64 0, .int .i64 0, .int .i64 0, .int .i64 0, .int .i64 0] 29 :: Cl b3491 [.int .i64 a17.Key.Time, .int .i64 a17.Key.From, .int .i64 a17.Key.Seq, .int .i64 a17.To, .int .i64 a17.Value, .int .i64 a17.Uid, .bool a17.Anti] 33 :: Cl b3489 [.int .i64 a16.Regs.c0, .int .i64 a16.Regs.c1, .int .i64 a16.Regs.c2, .int .i64 a16.Regs.c3, .int .i64 a16.Regs.c4, .int .i64 a16.Regs.c5, .int .i64 a16.Regs.c6, .int .i64 a16.Regs.c7, .int .i64 a16.Draws, .int .i64 a16.Sent] 29 :: Cl b3487 [.slice A10 a9.Prog.length c11, .int .i64 a9.Self, .slice A13 a9.Links.length c14, .int .u64 a9.Seed] 26 :: l) 0 hS rfl rfl rfl rfl Tryd.sizeOf29 rfl rfl rfl rfl) rfl ?_
    rintro _ w ⟨rfl, hS⟩
    have hS : St B w (Cl b3493 [.int .i64 0, .int .i64 0, .int .i64 0, .int .i64 0, .int .i64 0, .int .i64 0, .int .i64 0, .int .i64 0, .int .i64 0, .int .i64 0] 29 :: Cl b3491 [.int .i64 a17.Key.Time, .int .i64 a17.Key.From, .int .i64 a17.Key.Seq, .int .i64 a17.To, .int .i64 a17.Value, .int .i64 a17.Uid, .bool a17.Anti] 33 :: Cl b3489 [.int .i64 a16.Regs.c0, .int .i64 a16.Regs.c1, .int .i64 a16.Regs.c2, .int .i64 a16.Regs.c3, .int .i64 a16.Regs.c4, .int .i64 a16.Regs.c5, .int .i64 a16.Regs.c6, .int .i64 a16.Regs.c7, .int .i64 a16.Draws, .int .i64 a16.Sent] 29 :: Cl b3487 [.slice A10 a9.Prog.length c11, .int .i64 a9.Self, .slice A13 a9.Links.length c14, .int .u64 a9.Seed] 26 :: l) hf := hS
    refine RL.s (Vl.assign rfl) rfl ?_
    refine RL.s (Vl.assign rfl) rfl ?_
    refine RL.nil ?_
    refine RQ.then_n ?_
    refine RC.ret ?_
    refine RQ.ret ?_
    have hS := hS.nilSl E_api_Out 58
    have e := h.some
    subst e
    refine RQ.ret0 (vs := [.agg #[.int .i64 0, .int .i64 0, .int .i64 0, .int .i64 0, .int .i64 0, .int .i64 0, .int .i64 0, .int .i64 0, .int .i64 0, .int .i64 0], .slice none 0 0, .int .i64 t3497]) Tryd.results11 ⟨⟨_, rfl, run_loadVarA (vs := [.int .i64 0, .int .i64 0, .int .i64 0, .int .i64 0, .int .i64 0, .int .i64 0, .int .i64 0, .int .i64 0, .int .i64 0, .int .i64 0]) Tryd.isAgg29 Tryd.sizeOf29 rfl (hS.cellsAt 1 rfl rfl)⟩, rfl, rfl, trivial⟩ ?_
    exact ⟨none, 0, rfl, ((((hS.dropAt 1 rfl).dropAt 1 rfl).dropAt 1 rfl).dropAt 1 rfl)⟩

/-! ### isochron/isochronlaw05.VmTells: function 8 -/
noncomputable def isochronlaw05vVmTells.f (a1 : api_Message) (a2 : Int) : Option (Bool) := ((vm_Run.f (⟨[(⟨14, 0, 0, 0⟩ : api_Instr), (⟨15, 1, 0, 0⟩ : api_Instr), (⟨16, 2, 0, 0⟩ : api_Instr), (⟨2, 3, 0, 0⟩ : api_Instr)], IntKind.i64.wrap (Int.tmod a2 16), [], 0⟩ : api_World) (⟨(⟨0, 0, 0, 0, 0, 0, 0, 0⟩ : Arr8xInti64), 0, 0⟩ : api_State) a1).bind fun (y3630, y3631, y3632) => (if y3632 = 0 then (if y3630.Regs.c0 = a1.Value then (if y3630.Regs.c1 = a1.Key.Time then (if y3630.Regs.c2 = IntKind.i64.wrap (Int.tmod a2 16) then (if y3630.Regs.c3 = a1.Value then some (decide (y3630.Regs.c4 = 0)) else some false) else some false) else some false) else some false) else (if y3632 = 1 then ((event_Check.f a1).bind fun t3648 => some (decide (t3648 = y3632))) else some false)))
set_option maxRecDepth 100000 in
set_option maxHeartbeats 4000000 in
theorem isochronlaw05vVmTells.ok {B : Base} {w : World} {l : List HProp} {hf : Hp} (a1 : api_Message) (a2 : Int) (hG0 : GlobAt hf 0 (.iface 118 (.agg #[.pointer (some ⟨1, 71, none⟩)]))) (r : Bool) (h : isochronlaw05vVmTells.f a1 a2 = some r) (hS : St B w (l) hf) :
    Calls Tryd.prog 8 #[.agg #[.int .i64 a1.Key.Time, .int .i64 a1.Key.From, .int .i64 a1.Key.Seq, .int .i64 a1.To, .int .i64 a1.Value, .int .i64 a1.Uid, .bool a1.Anti], .int .u8 a2] w (Ret fun v w => v = .bool r ∧ St B w (l) hf) := by
  have h := Holds.of h
  refine enter (args := [.agg #[.int .i64 a1.Key.Time, .int .i64 a1.Key.From, .int .i64 a1.Key.Seq, .int .i64 a1.To, .int .i64 a1.Value, .int .i64 a1.Uid, .bool a1.Anti], .int .u8 a2]) Tryd.func8 rfl Tryd.ntmps8 (Nat.le_of_ble_eq_true rfl) ?_
  refine RC.seq ?_
  refine RC.region ?_
  refine RL.e (OW.box (cs := [.int .i64 a1.Key.Time, .int .i64 a1.Key.From, .int .i64 a1.Key.Seq, .int .i64 a1.To, .int .i64 a1.Value, .int .i64 a1.Uid, .bool a1.Anti]) hS rfl rfl) rfl rfl ?_
  rintro _ w ⟨b3619, rfl, hS⟩
  have hS : St B w (Cl b3619 [.int .i64 a1.Key.Time, .int .i64 a1.Key.From, .int .i64 a1.Key.Seq, .int .i64 a1.To, .int .i64 a1.Value, .int .i64 a1.Uid, .bool a1.Anti] 33 :: l) hf := hS
  refine RL.s (Vl.assign rfl) rfl ?_
  refine RL.nil ?_
  refine RQ.then_n ?_
  refine RC.seq ?_
  refine RC.region ?_
  refine RL.s (Vl.build (v := .agg #[.int .i64 14, .int .i64 0, .int .i64 0, .int .i64 0]) (parts := [(0, .const (.int .i64 14)), (1, .const (.int .i64 0))]) rfl (by kernel_rfl)) rfl ?_
  refine RL.s (Vl.build (v := .agg #[.int .i64 15, .int .i64 1, .int .i64 0, .int .i64 0]) (parts := [(0, .const (.int .i64 15)), (1, .const (.int .i64 1))]) rfl (by kernel_rfl)) rfl ?_
  refine RL.s (Vl.build (v := .agg #[.int .i64 16, .int .i64 2, .int .i64 0, .int .i64 0]) (parts := [(0, .const (.int .i64 16)), (1, .const (.int .i64 2))]) rfl (by kernel_rfl)) rfl ?_
  refine RL.s (Vl.build (v := .agg #[.int .i64 2, .int .i64 3, .int .i64 0, .int .i64 0]) (parts := [(0, .const (.int .i64 2)), (1, .const (.int .i64 3)), (2, .const (.int .i64 0))]) rfl (by kernel_rfl)) rfl ?_
  refine RL.e (OW.buildSlice (E := E_api_Instr) (xs := [(⟨14, 0, 0, 0⟩ : api_Instr), (⟨15, 1, 0, 0⟩ : api_Instr), (⟨16, 2, 0, 0⟩ : api_Instr), (⟨2, 3, 0, 0⟩ : api_Instr)]) (cs := [.int .i64 14, .int .i64 0, .int .i64 0, .int .i64 0, .int .i64 15, .int .i64 1, .int .i64 0, .int .i64 0, .int .i64 16, .int .i64 2, .int .i64 0, .int .i64 0, .int .i64 2, .int .i64 3, .int .i64 0, .int .i64 0]) hS Tryd.underlying22 Tryd.zeroValue48 Tryd.sizeOf48 (parts := [(0, .tmp 9), (1, .tmp 10), (2, .tmp 11), (3, .tmp 12)]) rfl rfl (by decide) (by decide) (by kernel_rfl) rfl) rfl rfl ?_
  rintro _ w ⟨b3621, rfl, hS⟩
  have hS : St B w (OSf E_api_Instr 48 (.slice (some ⟨b3621, 0, none⟩) ([(⟨14, 0, 0, 0⟩ : api_Instr), (⟨15, 1, 0, 0⟩ : api_Instr), (⟨16, 2, 0, 0⟩ : api_Instr), (⟨2, 3, 0, 0⟩ : api_Instr)]).length 4) ([(⟨14, 0, 0, 0⟩ : api_Instr), (⟨15, 1, 0, 0⟩ : api_Instr), (⟨16, 2, 0, 0⟩ : api_Instr), (⟨2, 3, 0, 0⟩ : api_Instr)]) :: Cl b3619 [.int .i64 a1.Key.Time, .int .i64 a1.Key.From, .int .i64 a1.Key.Seq, .int .i64 a1.To, .int .i64 a1.Value, .int .i64 a1.Uid, .bool a1.Anti] 33 :: l) hf := hS
  refine RL.s (Vl.move rfl) rfl ?_
  refine RL.s (Vl.rem rfl rfl (by decide)) rfl ?_
  refine RL.s (Vl.conv Tryd.underlying5 Tryd.underlying3 rfl) rfl ?_
  refine RL.s (Vl.build (v := .agg #[.slice (some ⟨b3621, 0, none⟩) ([(⟨14, 0, 0, 0⟩ : api_Instr), (⟨15, 1, 0, 0⟩ : api_Instr), (⟨16, 2, 0, 0⟩ : api_Instr), (⟨2, 3, 0, 0⟩ : api_Instr)]).length 4, .int .i64 (IntKind.i64.wrap (Int.tmod a2 16)), .slice none 0 0, .int .u64 0]) (parts := [(0, .tmp 13), (1, .tmp 16)]) rfl (by kernel_rfl)) rfl ?_
  refine RL.e (OW.alloc (cs := [.slice none 0 0, .int .i64 0, .slice none 0 0, .int .u64 0]) hS Tryd.zeroValue26 rfl) rfl rfl ?_
  rintro _ w ⟨b3623, rfl, hS⟩
  have hS : St B w (Cl b3623 [.slice none 0 0, .int .i64 0, .slice none 0 0, .int .u64 0] 26 :: OSf E_api_Instr 48 (.slice (some ⟨b3621, 0, none⟩) ([(⟨14, 0, 0, 0⟩ : api_Instr), (⟨15, 1, 0, 0⟩ : api_Instr), (⟨16, 2, 0, 0⟩ : api_Instr), (⟨2, 3, 0, 0⟩ : api_Instr)]).length 4) ([(⟨14, 0, 0, 0⟩ : api_Instr), (⟨15, 1, 0, 0⟩ : api_Instr), (⟨16, 2, 0, 0⟩ : api_Instr), (⟨2, 3, 0, 0⟩ : api_Instr)]) :: Cl b3619 [.int .i64 a1.Key.Time, .int .i64 a1.Key.From, .int .i64 a1.Key.Seq, .int .i64 a1.To, .int .i64 a1.Value, .int .i64 a1.Uid, .bool a1.Anti] 33 :: l) hf := hS
  refine RL.e0 (OW.store (cs := [.slice none 0 0, .int .i64 0, .slice none 0 0, .int .u64 0]) (vs := [.slice (some ⟨b3621, 0, none⟩) ([(⟨14, 0, 0, 0⟩ : api_Instr), (⟨15, 1, 0, 0⟩ : api_Instr), (⟨16, 2, 0, 0⟩ : api_Instr), (⟨2, 3, 0, 0⟩ : api_Instr)]).length 4, .int .i64 (IntKind.i64.wrap (Int.tmod a2 16)), .slice none 0 0, .int .u64 0]) (l' := Cl b3623 [.slice (some ⟨b3621, 0, none⟩) ([(⟨14, 0, 0, 0⟩ : api_Instr), (⟨15, 1, 0, 0⟩ : api_Instr), (⟨16, 2, 0, 0⟩ : api_Instr), (⟨2, 3, 0, 0⟩ : api_Instr)]).length 4, .int .i64 (IntKind.i64.wrap (Int.tmod a2 16)), .slice none 0 0, .int .u64 0] 26 :: OSf E_api_Instr 48 (.slice (some ⟨b3621, 0, none⟩) ([(⟨14, 0, 0, 0⟩ : api_Instr), (⟨15, 1, 0, 0⟩ : api_Instr), (⟨16, 2, 0, 0⟩ : api_Instr), (⟨2, 3, 0, 0⟩ : api_Instr)]).length 4) ([(⟨14, 0, 0, 0⟩ : api_Instr), (⟨15, 1, 0, 0⟩ : api_Instr), (⟨16, 2, 0, 0⟩ : api_Instr), (⟨2, 3, 0, 0⟩ : api_Instr)]) :: Cl b3619 [.int .i64 a1.Key.Time, .int .i64 a1.Key.From, .int .i64 a1.Key.Seq, .int .i64 a1.To, .int .i64 a1.Value, .int .i64 a1.Uid, .bool a1.Anti] 33 :: l) 0 hS rfl rfl rfl rfl Tryd.sizeOf26 rfl rfl rfl rfl) rfl ?_
  rintro _ w ⟨rfl, hS⟩
  have hS : St B w (Cl b3623 [.slice (some ⟨b3621, 0, none⟩) ([(⟨14, 0, 0, 0⟩ : api_Instr), (⟨15, 1, 0, 0⟩ : api_Instr), (⟨16, 2, 0, 0⟩ : api_Instr), (⟨2, 3, 0, 0⟩ : api_Instr)]).length 4, .int .i64 (IntKind.i64.wrap (Int.tmod a2 16)), .slice none 0 0, .int .u64 0] 26 :: OSf E_api_Instr 48 (.slice (some ⟨b3621, 0, none⟩) ([(⟨14, 0, 0, 0⟩ : api_Instr), (⟨15, 1, 0, 0⟩ : api_Instr), (⟨16, 2, 0, 0⟩ : api_Instr), (⟨2, 3, 0, 0⟩ : api_Instr)]).length 4) ([(⟨14, 0, 0, 0⟩ : api_Instr), (⟨15, 1, 0, 0⟩ : api_Instr), (⟨16, 2, 0, 0⟩ : api_Instr), (⟨2, 3, 0, 0⟩ : api_Instr)]) :: Cl b3619 [.int .i64 a1.Key.Time, .int .i64 a1.Key.From, .int .i64 a1.Key.Seq, .int .i64 a1.To, .int .i64 a1.Value, .int .i64 a1.Uid, .bool a1.Anti] 33 :: l) hf := hS
  refine RL.nil ?_
  refine RQ.then_n ?_
  refine RC.seq ?_
  refine RC.region ?_
  refine RL.s (Vl.loadA (vs := [.slice (some ⟨b3621, 0, none⟩) ([(⟨14, 0, 0, 0⟩ : api_Instr), (⟨15, 1, 0, 0⟩ : api_Instr), (⟨16, 2, 0, 0⟩ : api_Instr), (⟨2, 3, 0, 0⟩ : api_Instr)]).length 4, .int .i64 (IntKind.i64.wrap (Int.tmod a2 16)), .slice none 0 0, .int .u64 0]) Tryd.isAgg26 Tryd.sizeOf26 rfl rfl (hS.cellsAt 0 rfl rfl)) rfl ?_
  refine RL.s (Vl.build (v := .agg #[.int .i64 0, .int .i64 0, .int .i64 0, .int .i64 0, .int .i64 0, .int .i64 0, .int .i64 0, .int .i64 0, .int .i64 0, .int .i64 0]) (parts := []) rfl (by kernel_rfl)) rfl ?_
  refine RL.s (Vl.loadA (vs := [.int .i64 a1.Key.Time, .int .i64 a1.Key.From, .int .i64 a1.Key.Seq, .int .i64 a1.To, .int .i64 a1.Value, .int .i64 a1.Uid, .bool a1.Anti]) Tryd.isAgg33 Tryd.sizeOf33 rfl rfl (hS.cellsAt 2 rfl rfl)) rfl ?_
  obtain ⟨hf3627, hs3625, hS, hr3624, hb3626⟩ := St.lendSl (((hS.pull 2 rfl rfl).pull 1 rfl rfl).pull 2 rfl rfl)
  obtain ⟨t3628, hg3629, h⟩ := h.bind
  obtain ⟨y3630, y3631, y3632⟩ := t3628
  refine RL.e (OW.callF (ls := [.tmp 19, .tmp 20, .tmp 21]) rfl Tryd.call11 (vm_Run.ok (⟨[(⟨14, 0, 0, 0⟩ : api_Instr), (⟨15, 1, 0, 0⟩ : api_Instr), (⟨16, 2, 0, 0⟩ : api_Instr), (⟨2, 3, 0, 0⟩ : api_Instr)], IntKind.i64.wrap (Int.tmod a2 16), [], 0⟩ : api_World) (⟨(⟨0, 0, 0, 0, 0, 0, 0, 0⟩ : Arr8xInti64), 0, 0⟩ : api_State) a1 (some ⟨b3621, 0, none⟩) 4 none 0 hr3624 SlR.nil (hG0.mono hs3625) _ hg3629 hS)) rfl rfl ?_
  rintro _ w ⟨A3633, c3634, rfl, hS⟩
  have hS := hb3626 _ _ hS
  have hS : St B w (OSf E_api_Instr 48 (.slice (some ⟨b3621, 0, none⟩) ([(⟨14, 0, 0, 0⟩ : api_Instr), (⟨15, 1, 0, 0⟩ : api_Instr), (⟨16, 2, 0, 0⟩ : api_Instr), (⟨2, 3, 0, 0⟩ : api_Instr)]).length 4) ([(⟨14, 0, 0, 0⟩ : api_Instr), (⟨15, 1, 0, 0⟩ : api_Instr), (⟨16, 2, 0, 0⟩ : api_Instr), (⟨2, 3, 0, 0⟩ : api_Instr)]) :: OSf E_api_Out 58 (.slice A3633 y3631.length c3634) y3631 :: Cl b3623 [.slice (some ⟨b3621, 0, none⟩) ([(⟨14, 0, 0, 0⟩ : api_Instr), (⟨15, 1, 0, 0⟩ : api_Instr), (⟨16, 2, 0, 0⟩ : api_Instr), (⟨2, 3, 0, 0⟩ : api_Instr)]).length 4, .int .i64 (IntKind.i64.wrap (Int.tmod a2 16)), .slice none 0 0, .int .u64 0] 26 :: Cl b3619 [.int .i64 a1.Key.Time, .int .i64 a1.Key.From, .int .i64 a1.Key.Seq, .int .i64 a1.To, .int .i64 a1.Value, .int .i64 a1.Uid, .bool a1.Anti] 33 :: l) hf := hS
  refine RL.s (Vl.move rfl) rfl ?_
  refine RL.s (Vl.extract rfl rfl) rfl ?_
  refine RL.s (Vl.extract rfl rfl) rfl ?_
  refine RL.s (Vl.extract rfl rfl) rfl ?_
  refine RL.e (OW.alloc (cs := [.int .i64 0, .int .i64 0, .int .i64 0, .int .i64 0, .int .i64 0, .int .i64 0, .int .i64 0, .int .i64 0, .int .i64 0, .int .i64 0]) hS Tryd.zeroValue29 rfl) rfl rfl ?_
  rintro _ w ⟨b3637, rfl, hS⟩
  have hS : St B w (Cl b3637 [.int .i64 0, .int .i64 0, .int .i64 0, .int .i64 0, .int .i64 0, .int .i64 0, .int .i64 0, .int .i64 0, .int .i64 0, .int .i64 0] 29 :: OSf E_api_Instr 48 (.slice (some ⟨b3621, 0, none⟩) ([(⟨14, 0, 0, 0⟩ : api_Instr), (⟨15, 1, 0, 0⟩ : api_Instr), (⟨16, 2, 0, 0⟩ : api_Instr), (⟨2, 3, 0, 0⟩ : api_Instr)]).length 4) ([(⟨14, 0, 0, 0⟩ : api_Instr), (⟨15, 1, 0, 0⟩ : api_Instr), (⟨16, 2, 0, 0⟩ : api_Instr), (⟨2, 3, 0, 0⟩ : api_Instr)]) :: OSf E_api_Out 58 (.slice A3633 y3631.length c3634) y3631 :: Cl b3623 [.slice (some ⟨b3621, 0, none⟩) ([(⟨14, 0, 0, 0⟩ : api_Instr), (⟨15, 1, 0, 0⟩ : api_Instr), (⟨16, 2, 0, 0⟩ : api_Instr), (⟨2, 3, 0, 0⟩ : api_Instr)]).length 4, .int .i64 (IntKind.i64.wrap (Int.tmod a2 16)), .slice none 0 0, .int .u64 0] 26 :: Cl b3619 [.int .i64 a1.Key.Time, .int .i64 a1.Key.From, .int .i64 a1.Key.Seq, .int .i64 a1.To, .int .i64 a1.Value, .int .i64 a1.Uid, .bool a1.Anti] 33 :: l) hf := hS
  refine RL.e0 (OW.store (cs := [.int .i64 0, .int .i64 0, .int .i64 0, .int .i64 0, .int .i64 0, .int .i64 0, .int .i64 0, .int .i64 0, .int .i64 0, .int .i64 0]) (vs := [.int .i64 y3630.Regs.c0, .int .i64 y3630.Regs.c1, .int .i64 y3630.Regs.c2, .int .i64 y3630.Regs.c3, .int .i64 y3630.Regs.c4, .int .i64 y3630.Regs.c5, .int .i64 y3630.Regs.c6, .int .i64 y3630.Regs.c7, .int .i64 y3630.Draws, .int .i64 y3630.Sent]) (l' := Cl b3637 [.int .i64 y3630.Regs.c0, .int .i64 y3630.Regs.c1, .int .i64 y3630.Regs.c2, .int .i64 y3630.Regs.c3, .int .i64 y3630.Regs.c4, .int .i64 y3630.Regs.c5, .int .i64 y3630.Regs.c6, .int .i64 y3630.Regs.c7, .int .i64 y3630.Draws, .int .i64 y3630.Sent] 29 :: OSf E_api_Instr 48 (.slice (some ⟨b3621, 0, none⟩) ([(⟨14, 0, 0, 0⟩ : api_Instr), (⟨15, 1, 0, 0⟩ : api_Instr), (⟨16, 2, 0, 0⟩ : api_Instr), (⟨2, 3, 0, 0⟩ : api_Instr)]).length 4) ([(⟨14, 0, 0, 0⟩ : api_Instr), (⟨15, 1, 0, 0⟩ : api_Instr), (⟨16, 2, 0, 0⟩ : api_Instr), (⟨2, 3, 0, 0⟩ : api_Instr)]) :: OSf E_api_Out 58 (.slice A3633 y3631.length c3634) y3631 :: Cl b3623 [.slice (some ⟨b3621, 0, none⟩) ([(⟨14, 0, 0, 0⟩ : api_Instr), (⟨15, 1, 0, 0⟩ : api_Instr), (⟨16, 2, 0, 0⟩ : api_Instr), (⟨2, 3, 0, 0⟩ : api_Instr)]).length 4, .int .i64 (IntKind.i64.wrap (Int.tmod a2 16)), .slice none 0 0, .int .u64 0] 26 :: Cl b3619 [.int .i64 a1.Key.Time, .int .i64 a1.Key.From, .int .i64 a1.Key.Seq, .int .i64 a1.To, .int .i64 a1.Value, .int .i64 a1.Uid, .bool a1.Anti] 33 :: l) 0 hS rfl rfl rfl rfl Tryd.sizeOf29 rfl rfl rfl rfl) rfl ?_
  rintro _ w ⟨rfl, hS⟩
  have hS : St B w (Cl b3637 [.int .i64 y3630.Regs.c0, .int .i64 y3630.Regs.c1, .int .i64 y3630.Regs.c2, .int .i64 y3630.Regs.c3, .int .i64 y3630.Regs.c4, .int .i64 y3630.Regs.c5, .int .i64 y3630.Regs.c6, .int .i64 y3630.Regs.c7, .int .i64 y3630.Draws, .int .i64 y3630.Sent] 29 :: OSf E_api_Instr 48 (.slice (some ⟨b3621, 0, none⟩) ([(⟨14, 0, 0, 0⟩ : api_Instr), (⟨15, 1, 0, 0⟩ : api_Instr), (⟨16, 2, 0, 0⟩ : api_Instr), (⟨2, 3, 0, 0⟩ : api_Instr)]).length 4) ([(⟨14, 0, 0, 0⟩ : api_Instr), (⟨15, 1, 0, 0⟩ : api_Instr), (⟨16, 2, 0, 0⟩ : api_Instr), (⟨2, 3, 0, 0⟩ : api_Instr)]) :: OSf E_api_Out 58 (.slice A3633 y3631.length c3634) y3631 :: Cl b3623 [.slice (some ⟨b3621, 0, none⟩) ([(⟨14, 0, 0, 0⟩ : api_Instr), (⟨15, 1, 0, 0⟩ : api_Instr), (⟨16, 2, 0, 0⟩ : api_Instr), (⟨2, 3, 0, 0⟩ : api_Instr)]).length 4, .int .i64 (IntKind.i64.wrap (Int.tmod a2 16)), .slice none 0 0, .int .u64 0] 26 :: Cl b3619 [.int .i64 a1.Key.Time, .int .i64 a1.Key.From, .int .i64 a1.Key.Seq, .int .i64 a1.To, .int .i64 a1.Value, .int .i64 a1.Uid, .bool a1.Anti] 33 :: l) hf := hS
  refine RL.s (Vl.assign rfl) rfl ?_
  refine RL.s (Vl.assign rfl) rfl ?_
  refine RL.nil ?_
  refine RQ.then_n ?_
  refine RC.seq ?_
  refine RC.seq ?_
  refine RC.region ?_
  refine RL.s (Vl.move rfl) rfl ?_
  refine RL.s (Vl.int rfl rfl rfl) rfl ?_
  refine RL.nil ?_
  refine RQ.then_n ?_
  by_cases hc3642 : y3632 = 0
  case pos =>
    have h := h.pos hc3642
    refine RC.re 27 rfl (congrArg Value.bool (notdec_pos hc3642)) ?_
    refine RC.condF rfl ?_
    refine RC.skip ?_
    refine RQ.then_n ?_
    refine RC.seq ?_
    refine RC.region ?_
    refine RL.s (Vl.fieldAddr (a'' := ⟨b3637, 0, none⟩) Tryd.underlying29 rfl Tryd.sizeOf27 rfl rfl) rfl ?_
    refine RL.s (Vl.indexAddrA (a'' := ⟨b3637, 0, none⟩) Tryd.underlying27 Tryd.sizeOf2 rfl rfl (by decide) (by decide) rfl) rfl ?_
    refine RL.s (Vl.load Tryd.isAgg2 rfl (hS.cell 0 rfl rfl)) rfl ?_
    refine RL.s (Vl.fieldAddr (a'' := ⟨b3619, 4, none⟩) Tryd.underlying33 rfl Tryd.sizeOf2 rfl rfl) rfl ?_
    refine RL.s (Vl.load Tryd.isAgg2 rfl (hS.cell 4 rfl rfl)) rfl ?_
    refine RL.s (Vl.int rfl rfl rfl) rfl ?_
    refine RL.s (Vl.move rfl) rfl ?_
    by_cases hc3643 : y3630.Regs.c0 = a1.Value
    case pos =>
      have h := h.pos hc3643
      refine RL.re 42 rfl (congrArg Value.bool (decide_eq_true hc3643)) ?_
      refine RL.sg (Vl.fieldAddr (a'' := ⟨b3637, 0, none⟩) Tryd.underlying29 rfl Tryd.sizeOf27 rfl rfl) rfl rfl ?_
      refine RL.sg (Vl.indexAddrA (a'' := ⟨b3637, 1, none⟩) Tryd.underlying27 Tryd.sizeOf2 rfl rfl (by decide) (by decide) rfl) rfl rfl ?_
      refine RL.sg (Vl.load Tryd.isAgg2 rfl (hS.cell 0 rfl rfl)) rfl rfl ?_
      refine RL.sg (Vl.fieldAddr (a'' := ⟨b3619, 0, none⟩) Tryd.underlying33 rfl Tryd.sizeOf31 rfl rfl) rfl rfl ?_
      refine RL.sg (Vl.fieldAddr (a'' := ⟨b3619, 0, none⟩) Tryd.underlying31 rfl Tryd.sizeOf2 rfl rfl) rfl rfl ?_
      refine RL.sg (Vl.load Tryd.isAgg2 rfl (hS.cell 4 rfl rfl)) rfl rfl ?_
      refine RL.sg (Vl.int rfl rfl rfl) rfl rfl ?_
      refine RL.s (Vl.pickT rfl rfl) rfl ?_
      refine RL.s (Vl.move rfl) rfl ?_
      by_cases hc3644 : y3630.Regs.c1 = a1.Key.Time
      case pos =>
        have h := h.pos hc3644
        refine RL.re 51 rfl (congrArg Value.bool (decide_eq_true hc3644)) ?_
        refine RL.sg (Vl.fieldAddr (a'' := ⟨b3637, 0, none⟩) Tryd.underlying29 rfl Tryd.sizeOf27 rfl rfl) rfl rfl ?_
        refine RL.sg (Vl.indexAddrA (a'' := ⟨b3637, 2, none⟩) Tryd.underlying27 Tryd.sizeOf2 rfl rfl (by decide) (by decide) rfl) rfl rfl ?_
        refine RL.sg (Vl.load Tryd.isAgg2 rfl (hS.cell 0 rfl rfl)) rfl rfl ?_
        refine RL.sg (Vl.move rfl) rfl rfl ?_
        refine RL.sg (Vl.rem rfl rfl (by decide)) rfl rfl ?_
        refine RL.sg (Vl.conv Tryd.underlying5 Tryd.underlying2 rfl) rfl rfl ?_
        refine RL.sg (Vl.int rfl rfl rfl) rfl rfl ?_
        refine RL.s (Vl.pickT rfl rfl) rfl ?_
        refine RL.s (Vl.move rfl) rfl ?_
        by_cases hc3645 : y3630.Regs.c2 = IntKind.i64.wrap (Int.tmod a2 16)
        case pos =>
          have h := h.pos hc3645
          refine RL.re 60 rfl (congrArg Value.bool (decide_eq_true hc3645)) ?_
          refine RL.sg (Vl.fieldAddr (a'' := ⟨b3637, 0, none⟩) Tryd.underlying29 rfl Tryd.sizeOf27 rfl rfl) rfl rfl ?_
          refine RL.sg (Vl.indexAddrA (a'' := ⟨b3637, 3, none⟩) Tryd.underlying27 Tryd.sizeOf2 rfl rfl (by decide) (by decide) rfl) rfl rfl ?_
          refine RL.sg (Vl.load Tryd.isAgg2 rfl (hS.cell 0 rfl rfl)) rfl rfl ?_
          refine RL.sg (Vl.fieldAddr (a'' := ⟨b3619, 4, none⟩) Tryd.underlying33 rfl Tryd.sizeOf2 rfl rfl) rfl rfl ?_
          refine RL.sg (Vl.load Tryd.isAgg2 rfl (hS.cell 4 rfl rfl)) rfl rfl ?_
          refine RL.sg (Vl.int rfl rfl rfl) rfl rfl ?_
          refine RL.s (Vl.pickT rfl rfl) rfl ?_
          refine RL.s (Vl.move rfl) rfl ?_
          by_cases hc3646 : y3630.Regs.c3 = a1.Value
          case pos =>
            have h := h.pos hc3646
            refine RL.re 68 rfl (congrArg Value.bool (decide_eq_true hc3646)) ?_
            refine RL.sg (Vl.fieldAddr (a'' := ⟨b3637, 0, none⟩) Tryd.underlying29 rfl Tryd.sizeOf27 rfl rfl) rfl rfl ?_
            refine RL.sg (Vl.indexAddrA (a'' := ⟨b3637, 4, none⟩) Tryd.underlying27 Tryd.sizeOf2 rfl rfl (by decide) (by decide) rfl) rfl rfl ?_
            refine RL.sg (Vl.load Tryd.isAgg2 rfl (hS.cell 0 rfl rfl)) rfl rfl ?_
            refine RL.sg (Vl.int rfl rfl rfl) rfl rfl ?_
            refine RL.s (Vl.pickT rfl rfl) rfl ?_
            refine RL.s (Vl.assign rfl) rfl ?_
            refine RL.nil ?_
            refine RQ.then_n ?_
            refine RC.ret ?_
            have e := h.some
            subst e
            refine RQ.ret0 (vs := [.bool (decide (y3630.Regs.c4 = 0))]) Tryd.results8 ⟨rfl, trivial⟩ ?_
            exact ⟨rfl, (((((hS.dropAt 0 rfl).dropAt 0 rfl).dropAt 0 rfl).dropAt 0 rfl).dropAt 0 rfl)⟩
          case neg =>
            have h := h.neg hc3646
            refine RL.re 68 rfl (congrArg Value.bool (decide_eq_false hc3646)) ?_
            refine RL.nn rfl rfl ?_
            refine RL.nn rfl rfl ?_
            refine RL.nn rfl rfl ?_
            refine RL.nn rfl rfl ?_
            refine RL.s (Vl.pickF rfl rfl) rfl ?_
            refine RL.s (Vl.assign rfl) rfl ?_
            refine RL.nil ?_
            refine RQ.then_n ?_
            refine RC.ret ?_
            have e := h.some
            subst e
            refine RQ.ret0 (vs := [.bool false]) Tryd.results8 ⟨rfl, trivial⟩ ?_
            exact ⟨rfl, (((((hS.dropAt 0 rfl).dropAt 0 rfl).dropAt 0 rfl).dropAt 0 rfl).dropAt 0 rfl)⟩
        case neg =>
          have h := h.neg hc3645
          refine RL.re 60 rfl (congrArg Value.bool (decide_eq_false hc3645)) ?_
          refine RL.nn rfl rfl ?_
          refine RL.nn rfl rfl ?_
          refine RL.nn rfl rfl ?_
          refine RL.nn rfl rfl ?_
          refine RL.nn rfl rfl ?_
          refine RL.nn rfl rfl ?_
          refine RL.s (Vl.pickF rfl rfl) rfl ?_
          refine RL.s (Vl.move rfl) rfl ?_
          refine RL.nn rfl rfl ?_
          refine RL.nn rfl rfl ?_
          refine RL.nn rfl rfl ?_
          refine RL.nn rfl rfl ?_
          refine RL.s (Vl.pickF rfl rfl) rfl ?_
          refine RL.s (Vl.assign rfl) rfl ?_
          refine RL.nil ?_
          refine RQ.then_n ?_
          refine RC.ret ?_
          have e := h.some
          subst e
          refine RQ.ret0 (vs := [.bool false]) Tryd.results8 ⟨rfl, trivial⟩ ?_
          exact ⟨rfl, (((((hS.dropAt 0 rfl).dropAt 0 rfl).dropAt 0 rfl).dropAt 0 rfl).dropAt 0 rfl)⟩
      case neg =>
        have h := h.neg hc3644
        refine RL.re 51 rfl (congrArg Value.bool (decide_eq_false hc3644)) ?_
        refine RL.nn rfl rfl ?_
        refine RL.nn rfl rfl ?_
        refine RL.nn rfl rfl ?_
        refine RL.nn rfl rfl ?_
        refine RL.nn rfl rfl ?_
        refine RL.nn rfl rfl ?_
        refine RL.nn rfl rfl ?_
        refine RL.s (Vl.pickF rfl rfl) rfl ?_
        refine RL.s (Vl.move rfl) rfl ?_
        refine RL.nn rfl rfl ?_
        refine RL.nn rfl rfl ?_
        refine RL.nn rfl rfl ?_
        refine RL.nn rfl rfl ?_
        refine RL.nn rfl rfl ?_
        refine RL.nn rfl rfl ?_
        refine RL.s (Vl.pickF rfl rfl) rfl ?_
        refine RL.s (Vl.move rfl) rfl ?_
        refine RL.nn rfl rfl ?_
        refine RL.nn rfl rfl ?_
        refine RL.nn rfl rfl ?_
        refine RL.nn rfl rfl ?_
        refine RL.s (Vl.pickF rfl rfl) rfl ?_
        refine RL.s (Vl.assign rfl) rfl ?_
        refine RL.nil ?_
        refine RQ.then_n ?_
        refine RC.ret ?_
        have e := h.some
        subst e
        refine RQ.ret0 (vs := [.bool false]) Tryd.results8 ⟨rfl, trivial⟩ ?_
        exact ⟨rfl, (((((hS.dropAt 0 rfl).dropAt 0 rfl).dropAt 0 rfl).dropAt 0 rfl).dropAt 0 rfl)⟩
    case neg =>
      have h := h.neg hc3643
      refine RL.re 42 rfl (congrArg Value.bool (decide_eq_false hc3643)) ?_
      refine RL.nn rfl rfl ?_
      refine RL.nn rfl rfl ?_
      refine RL.nn rfl rfl ?_
      refine RL.nn rfl rfl ?_
      refine RL.nn rfl rfl ?_
      refine RL.nn rfl rfl ?_
      refine RL.nn rfl rfl ?_
      refine RL.s (Vl.pickF rfl rfl) rfl ?_
      refine RL.s (Vl.move rfl) rfl ?_
      refine RL.nn rfl rfl ?_
      refine RL.nn rfl rfl ?_
      refine RL.nn rfl rfl ?_
      refine RL.nn rfl rfl ?_
      refine RL.nn rfl rfl ?_
      refine RL.nn rfl rfl ?_
      refine RL.nn rfl rfl ?_
      refine RL.s (Vl.pickF rfl rfl) rfl ?_
      refine RL.s (Vl.move rfl) rfl ?_
      refine RL.nn rfl rfl ?_
      refine RL.nn rfl rfl ?_
      refine RL.nn rfl rfl ?_
      refine RL.nn rfl rfl ?_
      refine RL.nn rfl rfl ?_
      refine RL.nn rfl rfl ?_
      refine RL.s (Vl.pickF rfl rfl) rfl ?_
      refine RL.s (Vl.move rfl) rfl ?_
      refine RL.nn rfl rfl ?_
      refine RL.nn rfl rfl ?_
      refine RL.nn rfl rfl ?_
      refine RL.nn rfl rfl ?_
      refine RL.s (Vl.pickF rfl rfl) rfl ?_
      refine RL.s (Vl.assign rfl) rfl ?_
      refine RL.nil ?_
      refine RQ.then_n ?_
      refine RC.ret ?_
      have e := h.some
      subst e
      refine RQ.ret0 (vs := [.bool false]) Tryd.results8 ⟨rfl, trivial⟩ ?_
      exact ⟨rfl, (((((hS.dropAt 0 rfl).dropAt 0 rfl).dropAt 0 rfl).dropAt 0 rfl).dropAt 0 rfl)⟩
  case neg =>
    have h := h.neg hc3642
    refine RC.re 27 rfl (congrArg Value.bool (notdec_neg hc3642)) ?_
    refine RC.condT rfl ?_
    refine RC.seq ?_
    refine RC.region ?_
    refine RL.s (Vl.move rfl) rfl ?_
    refine RL.s (Vl.int rfl rfl rfl) rfl ?_
    refine RL.s (Vl.move rfl) rfl ?_
    by_cases hc3647 : y3632 = 1
    case pos =>
      have h := h.pos hc3647
      refine RL.re 30 rfl (congrArg Value.bool (decide_eq_true hc3647)) ?_
      refine RL.sg (Vl.loadA (vs := [.int .i64 a1.Key.Time, .int .i64 a1.Key.From, .int .i64 a1.Key.Seq, .int .i64 a1.To, .int .i64 a1.Value, .int .i64 a1.Uid, .bool a1.Anti]) Tryd.isAgg33 Tryd.sizeOf33 rfl rfl (hS.cellsAt 4 rfl rfl)) rfl rfl ?_
      obtain ⟨t3648, hg3649, h⟩ := h.bind
      refine RL.e (OW.callF (ls := [.tmp 31]) rfl Tryd.call17 (event_Check.ok a1 _ hg3649 hS)) rfl rfl ?_
      rintro _ w ⟨rfl, hS⟩
      have hS : St B w (Cl b3637 [.int .i64 y3630.Regs.c0, .int .i64 y3630.Regs.c1, .int .i64 y3630.Regs.c2, .int .i64 y3630.Regs.c3, .int .i64 y3630.Regs.c4, .int .i64 y3630.Regs.c5, .int .i64 y3630.Regs.c6, .int .i64 y3630.Regs.c7, .int .i64 y3630.Draws, .int .i64 y3630.Sent] 29 :: OSf E_api_Instr 48 (.slice (some ⟨b3621, 0, none⟩) ([(⟨14, 0, 0, 0⟩ : api_Instr), (⟨15, 1, 0, 0⟩ : api_Instr), (⟨16, 2, 0, 0⟩ : api_Instr), (⟨2, 3, 0, 0⟩ : api_Instr)]).length 4) ([(⟨14, 0, 0, 0⟩ : api_Instr), (⟨15, 1, 0, 0⟩ : api_Instr), (⟨16, 2, 0, 0⟩ : api_Instr), (⟨2, 3, 0, 0⟩ : api_Instr)]) :: OSf E_api_Out 58 (.slice A3633 y3631.length c3634) y3631 :: Cl b3623 [.slice (some ⟨b3621, 0, none⟩) ([(⟨14, 0, 0, 0⟩ : api_Instr), (⟨15, 1, 0, 0⟩ : api_Instr), (⟨16, 2, 0, 0⟩ : api_Instr), (⟨2, 3, 0, 0⟩ : api_Instr)]).length 4, .int .i64 (IntKind.i64.wrap (Int.tmod a2 16)), .slice none 0 0, .int .u64 0] 26 :: Cl b3619 [.int .i64 a1.Key.Time, .int .i64 a1.Key.From, .int .i64 a1.Key.Seq, .int .i64 a1.To, .int .i64 a1.Value, .int .i64 a1.Uid, .bool a1.Anti] 33 :: l) hf := hS
      refine RL.sg (Vl.move rfl) rfl rfl ?_
      refine RL.sg (Vl.int rfl rfl rfl) rfl rfl ?_
      refine RL.s (Vl.pickT rfl rfl) rfl ?_
      refine RL.s (Vl.assign rfl) rfl ?_
      refine RL.nil ?_
      refine RQ.then_n ?_
      refine RC.ret ?_
      refine RQ.ret ?_
      have e := h.some
      subst e
      refine RQ.ret0 (vs := [.bool (decide (t3648 = y3632))]) Tryd.results8 ⟨rfl, trivial⟩ ?_
      exact ⟨rfl, (((((hS.dropAt 0 rfl).dropAt 0 rfl).dropAt 0 rfl).dropAt 0 rfl).dropAt 0 rfl)⟩
    case neg =>
      have h := h.neg hc3647
      refine RL.re 30 rfl (congrArg Value.bool (decide_eq_false hc3647)) ?_
      refine RL.nn rfl rfl ?_
      refine RL.nn rfl rfl ?_
      refine RL.nn rfl rfl ?_
      refine RL.nn rfl rfl ?_
      refine RL.s (Vl.pickF rfl rfl) rfl ?_
      refine RL.s (Vl.assign rfl) rfl ?_
      refine RL.nil ?_
      refine RQ.then_n ?_
      refine RC.ret ?_
      refine RQ.ret ?_
      have e := h.some
      subst e
      refine RQ.ret0 (vs := [.bool false]) Tryd.results8 ⟨rfl, trivial⟩ ?_
      exact ⟨rfl, (((((hS.dropAt 0 rfl).dropAt 0 rfl).dropAt 0 rfl).dropAt 0 rfl).dropAt 0 rfl)⟩

end Go.Proofs.Gx
