/-
  The walks of functions, each with what it computes: printed by wip/gx.py.
-/
import Derived.Test.YtioiognklelipaaDoorW0
import Derived.Test.YtioiognklelipaaDoorW1
import Derived.Test.YtioiognklelipaaDoorW2
import Derived.Test.YtioiognklelipaaDoorW5
set_option linter.unusedVariables false
set_option maxRecDepth 100000
set_option maxHeartbeats 4000000
namespace Go.Proofs.Gx
open Go.Sl Tryd
variable {B : Base} {w : World} {l : List HProp} {hf : Hp}
/-! ### (*isochron/log.Log).run: function 22 -/
noncomputable def log_Log_run.j32 (l543 : List api_Message) (x549 : Int) (y611 : List api_Message) (x615 x616 : Int) : Option ((Int × List api_Message × List api_Message × Int) ⊕ (log_done × api_State)) := some (.inl (x615, (setL l543 x549 (⟨(nth l543 x549).Key, (nth l543 x549).To, (nth l543 x549).Value, x616, ((nth l543 x549).Anti)⟩ : api_Message)), y611, IntKind.i64.wrap (x549 + 1)))
noncomputable def log_Log_run.l30b (a13 : api_Message) (x357 x358 x359 x360 x361 x362 x363 x364 x365 x366 x370 : Int) (l390 : List api_Message) : Int × List api_Message × List api_Message × Int → Option ((Int × List api_Message × List api_Message × Int) ⊕ (log_done × api_State))
  | (x542, l543, l546, x549) => (if x549 < (l390.length : Int) then (if 0 ≤ x549 ∧ x549 < (l543.length : Int) then ((log_Log_run_1.f (⟨(nth l543 x549).Key, (nth l543 x549).To, (nth l543 x549).Value, (nth l543 x549).Uid, ((nth l543 x549).Anti)⟩ : api_Message) l546).bind fun (y609, y610, y611) => (if y610 = true then log_Log_run.j32 l543 x549 y611 x542 y609 else log_Log_run.j32 l543 x549 y611 (IntKind.i64.wrap (x542 + 1)) x542)) else none) else some (.inr ((⟨a13, x370, l543, (⟨false, default⟩ : Pt api_State)⟩ : log_done), (⟨(⟨x357, x358, x359, x360, x361, x362, x363, x364⟩ : Arr8xInti64), x365, x366⟩ : api_State))))
noncomputable def log_Log_run.l30 (a13 : api_Message) (x357 x358 x359 x360 x361 x362 x363 x364 x365 x366 x370 : Int) (l390 : List api_Message) (s : Int × List api_Message × List api_Message × Int) : Option (log_done × api_State) := loopR (log_Log_run.l30b a13 x357 x358 x359 x360 x361 x362 x363 x364 x365 x366 x370 l390) s
noncomputable def log_Log_run.j18 (a13 : api_Message) (a14 : Int) (a15 : List api_Message) (x357 x358 x359 x360 x361 x362 x363 x364 x365 x366 x370 : Int) (l390 : List api_Message) : Option (log_done × api_State) := (if (([] : List api_Message).length + a15.length) * 56 ≤ 140737488355328 then log_Log_run.l30 a13 x357 x358 x359 x360 x361 x362 x363 x364 x365 x366 x370 l390 (a14, l390, (([] : List api_Message) ++ a15), 0) else none)
noncomputable def log_Log_run.j17 (a2 : log_Log) (a13 : api_Message) (a14 : Int) (a15 : List api_Message) (x357 x358 x359 x360 x361 x362 x363 x364 x365 x366 : Int) (l367 : List api_Out) (x370 : Int) : Option (log_done × api_State) := ((vm_Sends.f a2.w a2.state a13 l367 0).bind fun t623 => log_Log_run.j18 a13 a14 a15 x357 x358 x359 x360 x361 x362 x363 x364 x365 x366 x370 t623)
noncomputable def log_Log_run.f (a2 : log_Log) (a13 : api_Message) (a14 : Int) (a15 : List api_Message) : Option (log_done × api_State) := ((vm_Run.f a2.w a2.state a13).bind fun (y639, y640, y641) => log_Log_run.j17 a2 a13 a14 a15 y639.Regs.c0 y639.Regs.c1 y639.Regs.c2 y639.Regs.c3 y639.Regs.c4 y639.Regs.c5 y639.Regs.c6 y639.Regs.c7 y639.Draws y639.Sent y640 y641)
theorem log_Log_run.ok {a2 : log_Log} {a13 : api_Message} {a14 : Int} {a15 : List api_Message} {b1 : Nat} {A3 : Option Addr} {c4 : Nat} {A6 : Option Addr} {c7 : Nat} {A9 : Option Addr} {c10 : Nat} {cs11 : List Value} {A16 : Option Addr} {c17 : Nat} (hr5 : SlR E_api_Instr.rep hf A3 c4 a2.w.Prog) (hr8 : SlR E_api_Link.rep hf A6 c7 a2.w.Links) (hx12 : RepL R_log_done hf cs11 a2.l) (hr18 : SlR E_api_Message.rep hf A16 c17 a15) (hG0 : GlobAt hf 0 (.iface 115 (.agg #[.pointer (some ⟨1, 75, none⟩)]))) {r : log_done × api_State} (h : log_Log_run.f a2 a13 a14 a15 = some r) (hS : St B w (Cl b1 [.slice A3 a2.w.Prog.length c4, .int .i64 a2.w.Self, .slice A6 a2.w.Links.length c7, .int .u64 a2.w.Seed, .bool a2.made, .int .i64 a2.state.Regs.c0, .int .i64 a2.state.Regs.c1, .int .i64 a2.state.Regs.c2, .int .i64 a2.state.Regs.c3, .int .i64 a2.state.Regs.c4, .int .i64 a2.state.Regs.c5, .int .i64 a2.state.Regs.c6, .int .i64 a2.state.Regs.c7, .int .i64 a2.state.Draws, .int .i64 a2.state.Sent, .int .i64 a2.every, .slice A9 a2.l.length c10, .bool a2.stuck] 58 :: OSl 67 10 (.slice A9 a2.l.length c10) a2.l.length cs11 :: l) hf) :
    Calls prog 22 #[.pointer (some ⟨b1, 0, none⟩), .agg #[.int .i64 a13.Key.Time, .int .i64 a13.Key.From, .int .i64 a13.Key.Seq, .int .i64 a13.To, .int .i64 a13.Value, .int .i64 a13.Uid, .bool a13.Anti], .int .i64 a14, .slice A16 a15.length c17] w (Ret fun v w => ∃ (A_1 : Option Addr) (c_2 : Nat), v = .tuple #[.agg #[.int .i64 r.1.event.Key.Time, .int .i64 r.1.event.Key.From, .int .i64 r.1.event.Key.Seq, .int .i64 r.1.event.To, .int .i64 r.1.event.Value, .int .i64 r.1.event.Uid, .bool r.1.event.Anti, .int .i64 r.1.fault, .slice A_1 r.1.sent.length c_2, .pointer none], .agg #[.int .i64 r.2.Regs.c0, .int .i64 r.2.Regs.c1, .int .i64 r.2.Regs.c2, .int .i64 r.2.Regs.c3, .int .i64 r.2.Regs.c4, .int .i64 r.2.Regs.c5, .int .i64 r.2.Regs.c6, .int .i64 r.2.Regs.c7, .int .i64 r.2.Draws, .int .i64 r.2.Sent]] ∧ St B w (OSf E_api_Message 30 (.slice A_1 r.1.sent.length c_2) r.1.sent :: Cl b1 [.slice A3 a2.w.Prog.length c4, .int .i64 a2.w.Self, .slice A6 a2.w.Links.length c7, .int .u64 a2.w.Seed, .bool a2.made, .int .i64 a2.state.Regs.c0, .int .i64 a2.state.Regs.c1, .int .i64 a2.state.Regs.c2, .int .i64 a2.state.Regs.c3, .int .i64 a2.state.Regs.c4, .int .i64 a2.state.Regs.c5, .int .i64 a2.state.Regs.c6, .int .i64 a2.state.Regs.c7, .int .i64 a2.state.Draws, .int .i64 a2.state.Sent, .int .i64 a2.every, .slice A9 a2.l.length c10, .bool a2.stuck] 58 :: OSl 67 10 (.slice A9 a2.l.length c10) a2.l.length cs11 :: l) hf) := by
  have h := Holds.of h
  refine en func22 rfl ntmps22 rfl (sr (bx hS rfl rfl rfl rfl fun b336 w hS => bx hS rfl rfl rfl rfl fun b337 w hS => al hS zeroValue67 rfl rfl rfl fun b338 w hS => al hS zeroValue38 rfl rfl rfl fun b339 w hS => ln ?_))
  refine RC.join (fun (s : Int × Int × Int × Int × Int × Int × Int × Int × Int × Int × List api_Out × Int) a w => ∃ (x357 : Int) (x358 : Int) (x359 : Int) (x360 : Int) (x361 : Int) (x362 : Int) (x363 : Int) (x364 : Int) (x365 : Int) (x366 : Int) (l367 : List api_Out) (x370 : Int), s = (x357, x358, x359, x360, x361, x362, x363, x364, x365, x366, l367, x370) ∧ ∃ (b356 : Nat) (A368 : Option Addr) (c369 : Nat), Has 79 [(0, .pointer (some ⟨b1, 0, none⟩)), (2, .int .i64 a14), (5, .pointer (some ⟨b336, 0, none⟩)), (7, .pointer (some ⟨b337, 0, none⟩)), (8, .pointer (some ⟨b338, 0, none⟩)), (9, .pointer (some ⟨b339, 0, none⟩)), (10, .pointer (some ⟨b356, 0, none⟩)), (11, .slice A368 l367.length c369), (12, .int .i64 x370)] a ∧ St B w (OSl 67 10 (.slice A9 a2.l.length c10) a2.l.length cs11 :: OSf E_api_Out 110 (.slice A368 l367.length c369) l367 :: Cl b339 [.int .i64 0, .int .i64 0, .int .i64 0, .int .i64 0, .int .i64 0, .int .i64 0, .int .i64 0, .int .i64 0, .int .i64 0, .int .i64 0] 38 :: Cl b338 [.int .i64 0, .int .i64 0, .int .i64 0, .int .i64 0, .int .i64 0, .int .i64 0, .bool false, .int .i64 0, .slice none 0 0, .pointer none] 67 :: Cl b337 [.slice A16 a15.length c17] 41 :: Cl b336 [.int .i64 a13.Key.Time, .int .i64 a13.Key.From, .int .i64 a13.Key.Seq, .int .i64 a13.To, .int .i64 a13.Value, .int .i64 a13.Uid, .bool a13.Anti] 30 :: Cl b1 [.slice A3 a2.w.Prog.length c4, .int .i64 a2.w.Self, .slice A6 a2.w.Links.length c7, .int .u64 a2.w.Seed, .bool a2.made, .int .i64 a2.state.Regs.c0, .int .i64 a2.state.Regs.c1, .int .i64 a2.state.Regs.c2, .int .i64 a2.state.Regs.c3, .int .i64 a2.state.Regs.c4, .int .i64 a2.state.Regs.c5, .int .i64 a2.state.Regs.c6, .int .i64 a2.state.Regs.c7, .int .i64 a2.state.Draws, .int .i64 a2.state.Sent, .int .i64 a2.every, .slice A9 a2.l.length c10, .bool a2.stuck] 58 :: Cl b356 [.int .i64 x357, .int .i64 x358, .int .i64 x359, .int .i64 x360, .int .i64 x361, .int .i64 x362, .int .i64 x363, .int .i64 x364, .int .i64 x365, .int .i64 x366] 38 :: l) hf ∧ Holds (· = r) (log_Log_run.j17 a2 a13 a14 a15 x357 x358 x359 x360 x361 x362 x363 x364 x365 x366 l367 x370)) ?_ ?_
  · rintro _ a w ⟨x357, x358, x359, x360, x361, x362, x363, x364, x365, x366, l367, x370, rfl, b356, A368, c369, ha, hS, h⟩
    revert a
    show RC _ _ _ _ _ _
    refine RC.join (fun (s : List api_Message) a w => ∃ (l390 : List api_Message), s = (l390) ∧ ∃ (b389 : Nat) (A391 : Option Addr) (c392 : Nat), Has 79 [(2, .int .i64 a14), (7, .pointer (some ⟨b337, 0, none⟩)), (8, .pointer (some ⟨b338, 0, none⟩)), (9, .pointer (some ⟨b339, 0, none⟩)), (10, .pointer (some ⟨b356, 0, none⟩)), (13, .pointer (some ⟨b389, 0, none⟩))] a ∧ St B w (OSf E_api_Message 30 (.slice A391 l390.length c392) l390 :: OSl 67 10 (.slice A9 a2.l.length c10) a2.l.length cs11 :: Cl b339 [.int .i64 0, .int .i64 0, .int .i64 0, .int .i64 0, .int .i64 0, .int .i64 0, .int .i64 0, .int .i64 0, .int .i64 0, .int .i64 0] 38 :: Cl b338 [.int .i64 0, .int .i64 0, .int .i64 0, .int .i64 0, .int .i64 0, .int .i64 0, .bool false, .int .i64 0, .slice none 0 0, .pointer none] 67 :: Cl b337 [.slice A16 a15.length c17] 41 :: Cl b1 [.slice A3 a2.w.Prog.length c4, .int .i64 a2.w.Self, .slice A6 a2.w.Links.length c7, .int .u64 a2.w.Seed, .bool a2.made, .int .i64 a2.state.Regs.c0, .int .i64 a2.state.Regs.c1, .int .i64 a2.state.Regs.c2, .int .i64 a2.state.Regs.c3, .int .i64 a2.state.Regs.c4, .int .i64 a2.state.Regs.c5, .int .i64 a2.state.Regs.c6, .int .i64 a2.state.Regs.c7, .int .i64 a2.state.Draws, .int .i64 a2.state.Sent, .int .i64 a2.every, .slice A9 a2.l.length c10, .bool a2.stuck] 58 :: Cl b356 [.int .i64 x357, .int .i64 x358, .int .i64 x359, .int .i64 x360, .int .i64 x361, .int .i64 x362, .int .i64 x363, .int .i64 x364, .int .i64 x365, .int .i64 x366] 38 :: Cl b389 [.int .i64 a13.Key.Time, .int .i64 a13.Key.From, .int .i64 a13.Key.Seq, .int .i64 a13.To, .int .i64 a13.Value, .int .i64 a13.Uid, .bool a13.Anti, .int .i64 x370, .slice A391 l390.length c392, .pointer none] 67 :: l) hf ∧ Holds (· = r) (log_Log_run.j18 a13 a14 a15 x357 x358 x359 x360 x361 x362 x363 x364 x365 x366 x370 l390)) ?_ ?_
    · rintro l390 a w ⟨_, rfl, b389, A391, c392, ha, hS, h⟩
      revert a
      show RC _ _ _ _ _ _
      refine sr (RL.s (Vl.ld 4 hS isAgg41 rfl rfl rfl) rfl ?_)
      obtain ⟨hq393, h⟩ := h.req
      have hS := hS.nilSl E_api_Message 30
      refine RL.e (OW.appendV (E := E_api_Message) (xs := ([] : List api_Message)) (ys := a15) 0 hS rfl underlying41 type30 rfl rfl rfl rfl (by decide) (by decide) rfl rfl (hr18.2.world hS.sub) hq393 rfl) rfl rfl ?_
      rintro v396 w hS
      obtain ⟨A394, c395, rfl, _⟩ := hS.osShape 0 rfl
      have hS : St B w (_ :: _ :: _ :: _ :: _ :: _ :: _ :: _ :: _ :: l) hf := hS
      refine RL.e0 (OW.store (vs := [.slice A394 (([] : List api_Message) ++ a15).length c395]) 5 hS rfl rfl rfl rfl sizeOf41 rfl rfl rfl rfl) rfl ?_
      rintro _ w ⟨rfl, hS⟩
      have hS : St B w (_ :: _ :: _ :: _ :: _ :: Cl _ [_] _ :: _ :: _ :: _ :: l) hf := hS
      refine lnsr (RL.s (Vl.makeFunc (fi := []) (ca := [.tmp 7]) rfl rfl) rfl (pn 1 rfl (ln (RC.seq (sr (RL.s (Vl.fa 8 underlying67 rfl sizeOf41 rfl rfl) rfl (RL.s (Vl.ld 8 hS isAgg41 rfl rfl rfl) rfl (RL.s (Vl.lenSl underlying41 rfl) rfl (pn 1 rfl (RL.nil ?_))))))))))
      refine RQ.then_n (RC.block ?_)
      refine fun a ha => RC.loop (N := 79) (body := (log_Log_run.l30b a13 x357 x358 x359 x360 x361 x362 x363 x364 x365 x366 x370 l390)) (φ := (· = r)) (fun (s : Int × List api_Message × List api_Message × Int) a w => ∃ (x542 : Int) (l543 : List api_Message) (l546 : List api_Message) (x549 : Int), s = (x542, l543, l546, x549) ∧ ∃ (A544 : Option Addr) (c545 : Nat) (A547 : Option Addr) (c548 : Nat), Has 79 [(2, .int .i64 x542), (8, .pointer (some ⟨b338, 0, none⟩)), (9, .pointer (some ⟨b339, 0, none⟩)), (10, .pointer (some ⟨b356, 0, none⟩)), (13, .pointer (some ⟨b389, 0, none⟩)), (14, .func (.func 34) #[] #[.pointer (some ⟨b337, 0, none⟩)]), (51, .int .i64 (l390.length : Int)), (52, .int .i64 x549)] a ∧ St B w (OSf E_api_Message 30 (.slice A544 l543.length c545) l543 :: OSf E_api_Message 30 (.slice A547 l546.length c548) l546 :: OSl 67 10 (.slice A9 a2.l.length c10) a2.l.length cs11 :: Cl b339 [.int .i64 0, .int .i64 0, .int .i64 0, .int .i64 0, .int .i64 0, .int .i64 0, .int .i64 0, .int .i64 0, .int .i64 0, .int .i64 0] 38 :: Cl b338 [.int .i64 0, .int .i64 0, .int .i64 0, .int .i64 0, .int .i64 0, .int .i64 0, .bool false, .int .i64 0, .slice none 0 0, .pointer none] 67 :: Cl b337 [.slice A547 l546.length c548] 41 :: Cl b1 [.slice A3 a2.w.Prog.length c4, .int .i64 a2.w.Self, .slice A6 a2.w.Links.length c7, .int .u64 a2.w.Seed, .bool a2.made, .int .i64 a2.state.Regs.c0, .int .i64 a2.state.Regs.c1, .int .i64 a2.state.Regs.c2, .int .i64 a2.state.Regs.c3, .int .i64 a2.state.Regs.c4, .int .i64 a2.state.Regs.c5, .int .i64 a2.state.Regs.c6, .int .i64 a2.state.Regs.c7, .int .i64 a2.state.Draws, .int .i64 a2.state.Sent, .int .i64 a2.every, .slice A9 a2.l.length c10, .bool a2.stuck] 58 :: Cl b356 [.int .i64 x357, .int .i64 x358, .int .i64 x359, .int .i64 x360, .int .i64 x361, .int .i64 x362, .int .i64 x363, .int .i64 x364, .int .i64 x365, .int .i64 x366] 38 :: Cl b389 [.int .i64 a13.Key.Time, .int .i64 a13.Key.From, .int .i64 a13.Key.Seq, .int .i64 a13.To, .int .i64 a13.Value, .int .i64 a13.Uid, .bool a13.Anti, .int .i64 x370, .slice A544 l543.length c545, .pointer none] 67 :: l) hf) ?_ (s0 := (a14, l390, (([] : List api_Message) ++ a15), 0)) h ⟨a14, l390, (([] : List api_Message) ++ a15), 0, rfl, A391, c392, A394, c395, ha.to ⟨rfl, rfl, rfl, rfl, rfl, rfl, rfl, rfl, trivial⟩, hS.p1⟩
      rintro G588 _ a w ⟨x542, l543, l546, x549, rfl, A544, c545, A547, c548, ha, hS⟩ h
      revert a
      show RC _ _ _ _ _ _
      refine sr (pn 1 rfl (ln (RC.seq ?_)))
      refine RC.iteP 53 rfl h (fun hc590 h => ?_) fun hc590 h => ?_
      next =>
       refine RC.condT rfl (sk (RC.seq (RC.block (sr (pn 2 rfl (lnsr (pn 1 rfl (RL.s (Vl.fa 8 underlying67 rfl sizeOf41 rfl rfl) rfl (RL.s (Vl.ld 8 hS isAgg41 rfl rfl rfl) rfl (pn 1 rfl ?_))))))))))
       obtain ⟨⟨hq605, hq606⟩, h⟩ := h.req
       refine RL.s (Vl.indexOwn 0 hS rfl underlying41 sizeOf30 rfl rfl hq605 hq606) rfl (RL.s (Vl.loadA isAgg30 sizeOf30 rfl rfl ((hS.slW 0 rfl).2.2.cells hq605 hq606)) rfl ?_)
       obtain ⟨t607, hg608, h⟩ := h.bind
       have hc := log_Log_run_1.ok hg608 hS.p1.p5
       obtain ⟨y609, y610, y611⟩ := t607
       refine RL.e (OW.call (ls := [.tmp 61]) rfl rfl call34 rfl hc) rfl rfl ?_
       rintro _ w ⟨A612, c613, rfl, hS⟩
       refine pn 5 rfl (ln ?_)
       refine RC.join (fun (s : Int × Int) a w => ∃ (x615 : Int) (x616 : Int), s = (x615, x616) ∧ Has 79 [(2, .int .i64 x615), (8, .pointer (some ⟨b338, 0, none⟩)), (9, .pointer (some ⟨b339, 0, none⟩)), (10, .pointer (some ⟨b356, 0, none⟩)), (13, .pointer (some ⟨b389, 0, none⟩)), (14, .func (.func 34) #[] #[.pointer (some ⟨b337, 0, none⟩)]), (15, .int .i64 x549), (16, .int .i64 x616), (51, .int .i64 (l390.length : Int)), (52, .int .i64 x549)] a ∧ St B w (OSf E_api_Message 30 (.slice A544 l543.length c545) l543 :: OSf E_api_Message 30 (.slice A612 y611.length c613) y611 :: OSl 67 10 (.slice A9 a2.l.length c10) a2.l.length cs11 :: Cl b337 [.slice A612 y611.length c613] 41 :: Cl b339 [.int .i64 0, .int .i64 0, .int .i64 0, .int .i64 0, .int .i64 0, .int .i64 0, .int .i64 0, .int .i64 0, .int .i64 0, .int .i64 0] 38 :: Cl b338 [.int .i64 0, .int .i64 0, .int .i64 0, .int .i64 0, .int .i64 0, .int .i64 0, .bool false, .int .i64 0, .slice none 0 0, .pointer none] 67 :: Cl b1 [.slice A3 a2.w.Prog.length c4, .int .i64 a2.w.Self, .slice A6 a2.w.Links.length c7, .int .u64 a2.w.Seed, .bool a2.made, .int .i64 a2.state.Regs.c0, .int .i64 a2.state.Regs.c1, .int .i64 a2.state.Regs.c2, .int .i64 a2.state.Regs.c3, .int .i64 a2.state.Regs.c4, .int .i64 a2.state.Regs.c5, .int .i64 a2.state.Regs.c6, .int .i64 a2.state.Regs.c7, .int .i64 a2.state.Draws, .int .i64 a2.state.Sent, .int .i64 a2.every, .slice A9 a2.l.length c10, .bool a2.stuck] 58 :: Cl b356 [.int .i64 x357, .int .i64 x358, .int .i64 x359, .int .i64 x360, .int .i64 x361, .int .i64 x362, .int .i64 x363, .int .i64 x364, .int .i64 x365, .int .i64 x366] 38 :: Cl b389 [.int .i64 a13.Key.Time, .int .i64 a13.Key.From, .int .i64 a13.Key.Seq, .int .i64 a13.To, .int .i64 a13.Value, .int .i64 a13.Uid, .bool a13.Anti, .int .i64 x370, .slice A544 l543.length c545, .pointer none] 67 :: l) hf ∧ Holds (Sum.elim G588 (· = r)) (log_Log_run.j32 l543 x549 y611 x615 x616)) ?_ ?_
       · rintro _ a w ⟨x615, x616, rfl, ha, hS, h⟩
         revert a
         show RC _ _ _ _ _ _
         refine RC.region (RL.s (Vl.fa 8 underlying67 rfl sizeOf41 rfl rfl) rfl (RL.s (Vl.ld 8 hS isAgg41 rfl rfl rfl) rfl (pn 2 rfl (RL.s (Vl.indexOwn 0 hS rfl underlying41 sizeOf30 rfl rfl hq605 hq606) rfl (RL.s (Vl.fieldAddr (a'' := (ad A544).add (x549.toNat * 7 + 5)) underlying30 rfl sizeOf3 rfl (add_add _ _ _)) rfl (RL.e0 (OW.storeOwn (E := E_api_Message) (off := 5) (j := x549) (x' := (⟨(nth l543 x549).Key, (nth l543 x549).To, (nth l543 x549).Value, x616, ((nth l543 x549).Anti)⟩ : api_Message)) (vs := [.int .i64 x616]) 0 hS rfl rfl rfl rfl sizeOf3 rfl (Nat.succ_pos _) hq605 hq606 (Nat.le_of_ble_eq_true rfl) rfl rfl) rfl ?_))))))
         rintro _ w ⟨rfl, hS⟩
         have he617 := (hS.osN 0 rfl).1
         have hS : St B w (_ :: _ :: _ :: _ :: _ :: _ :: _ :: _ :: _ :: l) hf := (congrArg (fun k_ : Nat => St B w (OSf E_api_Message 30 (.slice A544 k_ c545) (setL l543 x549 (⟨(nth l543 x549).Key, (nth l543 x549).To, (nth l543 x549).Value, x616, ((nth l543 x549).Anti)⟩ : api_Message)) :: OSf E_api_Message 30 (.slice A612 y611.length c613) y611 :: OSl 67 10 (.slice A9 a2.l.length c10) a2.l.length cs11 :: Cl b337 [.slice A612 y611.length c613] 41 :: Cl b339 [.int .i64 0, .int .i64 0, .int .i64 0, .int .i64 0, .int .i64 0, .int .i64 0, .int .i64 0, .int .i64 0, .int .i64 0, .int .i64 0] 38 :: Cl b338 [.int .i64 0, .int .i64 0, .int .i64 0, .int .i64 0, .int .i64 0, .int .i64 0, .bool false, .int .i64 0, .slice none 0 0, .pointer none] 67 :: Cl b1 [.slice A3 a2.w.Prog.length c4, .int .i64 a2.w.Self, .slice A6 a2.w.Links.length c7, .int .u64 a2.w.Seed, .bool a2.made, .int .i64 a2.state.Regs.c0, .int .i64 a2.state.Regs.c1, .int .i64 a2.state.Regs.c2, .int .i64 a2.state.Regs.c3, .int .i64 a2.state.Regs.c4, .int .i64 a2.state.Regs.c5, .int .i64 a2.state.Regs.c6, .int .i64 a2.state.Regs.c7, .int .i64 a2.state.Draws, .int .i64 a2.state.Sent, .int .i64 a2.every, .slice A9 a2.l.length c10, .bool a2.stuck] 58 :: Cl b356 [.int .i64 x357, .int .i64 x358, .int .i64 x359, .int .i64 x360, .int .i64 x361, .int .i64 x362, .int .i64 x363, .int .i64 x364, .int .i64 x365, .int .i64 x366] 38 :: Cl b389 [.int .i64 a13.Key.Time, .int .i64 a13.Key.From, .int .i64 a13.Key.Seq, .int .i64 a13.To, .int .i64 a13.Value, .int .i64 a13.Uid, .bool a13.Anti, .int .i64 x370, .slice A544 k_ c545, .pointer none] 67 :: l) hf) he617).mp hS
         refine RL.re 71 rfl (congrArg (fun k_ : Nat => (.slice A544 k_ c545 : Value)) he617) (RL.nil (RQ.inB_n (RQ.then_n (RC.region (pn 2 rfl (RL.nil ?_))))))
         exact fun a ha => ⟨(x615, (setL l543 x549 (⟨(nth l543 x549).Key, (nth l543 x549).To, (nth l543 x549).Value, x616, ((nth l543 x549).Anti)⟩ : api_Message)), y611, IntKind.i64.wrap (x549 + 1)), ⟨x615, (setL l543 x549 (⟨(nth l543 x549).Key, (nth l543 x549).To, (nth l543 x549).Value, x616, ((nth l543 x549).Anti)⟩ : api_Message)), y611, (IntKind.i64.wrap (x549 + 1)), rfl, A544, c545, A612, c613, ha.to ⟨rfl, rfl, rfl, rfl, rfl, rfl, rfl, rfl, trivial⟩, hS.p5.p5.p4.p4.p4⟩, h.some⟩
       · refine RC.seq ?_
         refine RC.region (pn 2 rfl (ln ?_))
         refine RC.iteM 66 rfl h (fun hc618 h => ?_) fun hc618 h => ?_
         next =>
          refine RC.condF rfl (RC.skip ?_)
          exact fun a ha => ⟨(x542, y609), x542, y609, rfl, ha.to ⟨rfl, rfl, rfl, rfl, rfl, rfl, rfl, rfl, rfl, rfl, trivial⟩, hS.p3.p1.p3, h⟩
         next =>
          refine RC.condT rfl (sr (pn 2 rfl (ln (RC.region (pn 3 rfl (RL.nil ?_))))))
          exact fun a ha => ⟨(IntKind.i64.wrap (x542 + 1), x542), (IntKind.i64.wrap (x542 + 1)), x542, rfl, ha.to ⟨rfl, rfl, rfl, rfl, rfl, rfl, rfl, rfl, rfl, rfl, trivial⟩, hS.p3.p1.p3, h⟩
      next =>
       refine RC.condF rfl (RC.exit (RQ.exitT ?_))
       have h := h.inrS
       refine RQ.exitT (RQ.inB_hit (RQ.then_n (RC.seq (RC.planS (plD [1, 4, 8, 11]) [3] hS (fun w hS => hS.d4) follows rfl (by kernel_rfl) (NoTmp.then NoTmp.body) fun w hS => RP.s 0 0 rfl rfl hS.d4 (fun w hS => Vl.lw 7 hS isAgg67 sizeOf67 rfl rfl rfl) rfl (RP.s 0 1 rfl rfl hS.d4 (fun w hS => Vl.lw 6 hS isAgg38 sizeOf38 rfl rfl rfl) rfl (RP.e0 2 rfl (OW.store (vs := [.int .i64 a13.Key.Time, .int .i64 a13.Key.From, .int .i64 a13.Key.Seq, .int .i64 a13.To, .int .i64 a13.Value, .int .i64 a13.Uid, .bool a13.Anti, .int .i64 x370, .slice A544 l543.length c545, .pointer none]) 4 hS rfl rfl rfl rfl sizeOf67 rfl rfl rfl rfl) rfl ?_))))))
       rintro _ w ⟨rfl, hS⟩
       have hS : St B w (_ :: _ :: _ :: _ :: Cl _ [_, _, _, _, _, _, _, _, _, _] _ :: _ :: _ :: _ :: _ :: l) hf := hS
       refine ⟨kp ⟨fun _ => hS.d4, trivial⟩, ?_⟩
       refine RP.e0 3 rfl (OW.store (vs := [.int .i64 x357, .int .i64 x358, .int .i64 x359, .int .i64 x360, .int .i64 x361, .int .i64 x362, .int .i64 x363, .int .i64 x364, .int .i64 x365, .int .i64 x366]) 3 hS rfl rfl rfl rfl sizeOf38 rfl rfl rfl rfl) rfl ?_
       rintro _ w ⟨rfl, hS⟩
       have hS : St B w (_ :: _ :: _ :: Cl _ [_, _, _, _, _, _, _, _, _, _] _ :: _ :: _ :: _ :: _ :: _ :: l) hf := hS
       refine ⟨kp ⟨(by intro hx; cases hx), trivial⟩, ?_⟩
       refine RP.nil (tr ?_)
       obtain rfl := h.some
       refine RQ.ret0 (vs := [.agg #[.int .i64 a13.Key.Time, .int .i64 a13.Key.From, .int .i64 a13.Key.Seq, .int .i64 a13.To, .int .i64 a13.Value, .int .i64 a13.Uid, .bool a13.Anti, .int .i64 x370, .slice A544 l543.length c545, .pointer none], .agg #[.int .i64 x357, .int .i64 x358, .int .i64 x359, .int .i64 x360, .int .i64 x361, .int .i64 x362, .int .i64 x363, .int .i64 x364, .int .i64 x365, .int .i64 x366]]) results22 ⟨⟨_, rfl, run_loadVarA (vs := [.int .i64 a13.Key.Time, .int .i64 a13.Key.From, .int .i64 a13.Key.Seq, .int .i64 a13.To, .int .i64 a13.Value, .int .i64 a13.Uid, .bool a13.Anti, .int .i64 x370, .slice A544 l543.length c545, .pointer none]) isAgg67 sizeOf67 rfl (hS.cellsAt 4 rfl rfl)⟩, ⟨_, rfl, run_loadVarA (vs := [.int .i64 x357, .int .i64 x358, .int .i64 x359, .int .i64 x360, .int .i64 x361, .int .i64 x362, .int .i64 x363, .int .i64 x364, .int .i64 x365, .int .i64 x366]) isAgg38 sizeOf38 rfl (hS.cellsAt 3 rfl rfl)⟩, trivial⟩ ?_
       exact ⟨A544, c545, rfl, hS.d1.d2.d2.d2.d3.d3.p2.p1⟩
    · refine RC.planS (.early 0 0 (.pure 1 (.pure 2 (.pure 3 (.pure 4 (.early 5 0 (.pure 6 (.pure 7 (.pure 8 (.early 9 0 (.early 10 0 (.pure 11 (.fork 12 14 (.pure 13 (.last 14 (.last 15 .nil))) (.last 12 (.last 13 (.last 15 .nil)))))))))))))))) [15] hS (fun w hS => hS) follows rfl (by kernel_rfl) (NoTmp.then NoTmp.body) fun w hS => ?_
      refine RP.s 0 0 rfl rfl hS (fun w hS => Vl.lw 5 hS isAgg30 sizeOf30 rfl rfl rfl) rfl (pp 3 rfl (RP.s0 4 rfl (fun w => Vl.fa 0 underlying58 rfl sizeOf26 rfl rfl) rfl (RP.s 0 5 rfl rfl hS (fun w hS => Vl.loadA (vs := [.slice A3 a2.w.Prog.length c4, .int .i64 a2.w.Self, .slice A6 a2.w.Links.length c7, .int .u64 a2.w.Seed]) isAgg26 sizeOf26 rfl rfl (hS.cellsAt 6 rfl rfl)) rfl (pp 2 rfl (RP.s0 8 rfl (fun w => Vl.fa 5 underlying58 rfl sizeOf38 rfl rfl) rfl (RP.s 0 9 rfl rfl hS (fun w hS => Vl.loadA (vs := [.int .i64 a2.state.Regs.c0, .int .i64 a2.state.Regs.c1, .int .i64 a2.state.Regs.c2, .int .i64 a2.state.Regs.c3, .int .i64 a2.state.Regs.c4, .int .i64 a2.state.Regs.c5, .int .i64 a2.state.Regs.c6, .int .i64 a2.state.Regs.c7, .int .i64 a2.state.Draws, .int .i64 a2.state.Sent]) isAgg38 sizeOf38 rfl rfl (hS.cellsAt 6 rfl rfl)) rfl (RP.s 0 10 rfl rfl hS (fun w hS => Vl.lw 5 hS isAgg30 sizeOf30 rfl rfl rfl) rfl (pp 1 rfl ?_))))))))
      refine RP.fork ?_ ?_
      · obtain ⟨hf622, hs620, hS, hr619, hb621⟩ := St.lendSl hS.p1
        obtain ⟨t623, hg624, h⟩ := h.bind
        have hc := vm_Sends.ok (hr5.mono hs620) (hr8.mono hs620) hr619 hg624 hS
        refine RPW.e 12 rfl (OW.callF (ls := [.tmp 37, .tmp 41, .tmp 42, .tmp 43, .const (.int .i64 0)]) rfl call33 hc) rfl rfl ?_
        rintro _ w ⟨A625, c626, rfl, hS⟩
        have hS := hb621 _ _ hS
        have hS : St B w (_ :: _ :: _ :: _ :: _ :: _ :: _ :: _ :: _ :: l) hf := hS
        refine ⟨kp ⟨fun _ => hS.d1.p1, trivial⟩, ?_⟩
        refine RP.s0 13 rfl (fun w => Vl.build (v := .agg #[.int .i64 a13.Key.Time, .int .i64 a13.Key.From, .int .i64 a13.Key.Seq, .int .i64 a13.To, .int .i64 a13.Value, .int .i64 a13.Uid, .bool a13.Anti, .int .i64 x370, .slice A625 t623.length c626, .pointer none]) (parts := [(0, .tmp 32), (1, .tmp 33), (2, .tmp 44)]) rfl (by kernel_rfl)) rfl (RP.e 14 rfl (OW.alloc (cs := [.int .i64 0, .int .i64 0, .int .i64 0, .int .i64 0, .int .i64 0, .int .i64 0, .bool false, .int .i64 0, .slice none 0 0, .pointer none]) hS zeroValue67 rfl) rfl rfl ?_)
        rintro _ w ⟨b627, rfl, hS⟩
        refine ⟨kp ⟨fun _ => hS.d0.d1.p1, trivial⟩, ?_⟩
        refine RP.e0 15 rfl (OW.store (vs := [.int .i64 a13.Key.Time, .int .i64 a13.Key.From, .int .i64 a13.Key.Seq, .int .i64 a13.To, .int .i64 a13.Value, .int .i64 a13.Uid, .bool a13.Anti, .int .i64 x370, .slice A625 t623.length c626, .pointer none]) 0 hS rfl rfl rfl rfl sizeOf67 rfl rfl rfl rfl) rfl ?_
        rintro _ w ⟨rfl, hS⟩
        have hS : St B w (Cl _ [_, _, _, _, _, _, _, _, _, _] _ :: _ :: _ :: _ :: _ :: _ :: _ :: _ :: _ :: _ :: l) hf := hS
        refine ⟨kp ⟨(by intro hx; cases hx), trivial⟩, ?_⟩
        refine RP.nil ?_
        exact fun a ha => ⟨(t623), t623, rfl, b627, A625, c626, ha.to ⟨rfl, rfl, rfl, rfl, rfl, rfl, trivial⟩, hS.d1.d6.p7.p7.p7.p7.p7.p7.p7, h⟩
      · refine RPW.e 14 rfl (OW.alloc (cs := [.int .i64 0, .int .i64 0, .int .i64 0, .int .i64 0, .int .i64 0, .int .i64 0, .bool false, .int .i64 0, .slice none 0 0, .pointer none]) hS zeroValue67 rfl) rfl rfl ?_
        rintro _ w ⟨b628, rfl, hS⟩
        refine ⟨kp ⟨fun _ => hS.d0, trivial⟩, ?_⟩
        obtain ⟨hf632, hs630, hS, hr629, hb631⟩ := St.lendSl hS.p2
        obtain ⟨t633, hg634, h⟩ := h.bind
        have hc := vm_Sends.ok (hr5.mono hs630) (hr8.mono hs630) hr629 hg634 hS
        refine RP.e 12 rfl (OW.callF (ls := [.tmp 37, .tmp 41, .tmp 42, .tmp 43, .const (.int .i64 0)]) rfl call33 hc) rfl rfl ?_
        rintro _ w ⟨A635, c636, rfl, hS⟩
        have hS := hb631 _ _ hS
        have hS : St B w (_ :: _ :: _ :: _ :: _ :: _ :: _ :: _ :: _ :: _ :: l) hf := hS
        refine ⟨kp ⟨fun _ => hS.d1.d1.p1, trivial⟩, ?_⟩
        refine RP.v1 13 rfl (Vl.build (v := .agg #[.int .i64 a13.Key.Time, .int .i64 a13.Key.From, .int .i64 a13.Key.Seq, .int .i64 a13.To, .int .i64 a13.Value, .int .i64 a13.Uid, .bool a13.Anti, .int .i64 x370, .slice A635 t633.length c636, .pointer none]) (parts := [(0, .tmp 32), (1, .tmp 33), (2, .tmp 44)]) rfl (by kernel_rfl)) rfl rfl (RP.e0 15 rfl (OW.store (vs := [.int .i64 a13.Key.Time, .int .i64 a13.Key.From, .int .i64 a13.Key.Seq, .int .i64 a13.To, .int .i64 a13.Value, .int .i64 a13.Uid, .bool a13.Anti, .int .i64 x370, .slice A635 t633.length c636, .pointer none]) 2 hS rfl rfl rfl rfl sizeOf67 rfl rfl rfl rfl) rfl ?_)
        rintro _ w ⟨rfl, hS⟩
        have hS : St B w (_ :: _ :: Cl _ [_, _, _, _, _, _, _, _, _, _] _ :: _ :: _ :: _ :: _ :: _ :: _ :: _ :: l) hf := hS
        refine ⟨kp ⟨(by intro hx; cases hx), trivial⟩, ?_⟩
        refine RP.nil ?_
        exact fun a ha => ⟨(t633), t633, rfl, b628, A635, c636, ha.to ⟨rfl, rfl, rfl, rfl, rfl, rfl, trivial⟩, hS.d0.d6.p7.p7.p7.p7.p7.p7.p6, h⟩
  · refine RC.planS (.pure 0 (.pure 1 (.pure 2 (.early 3 0 (.pure 4 (.pure 5 (.pure 6 (.early 7 0 (.early 8 0 (.fork 9 14 (.pure 10 (.pure 11 (.pure 12 (.pure 13 (.last 14 (.last 15 (.last 16 (.last 17 .nil)))))))) (.last 9 (.pure 10 (.pure 11 (.pure 12 (.pure 13 (.last 15 (.last 16 (.last 17 .nil)))))))))))))))))) [15, 16, 17] hS (fun w hS => hS) follows rfl (by kernel_rfl) (NoTmp.then NoTmp.body) fun w hS => ?_
    refine pp 2 rfl (RP.s0 2 rfl (fun w => Vl.fa 0 underlying58 rfl sizeOf26 rfl rfl) rfl (RP.s 0 3 rfl rfl hS (fun w hS => Vl.loadA (vs := [.slice A3 a2.w.Prog.length c4, .int .i64 a2.w.Self, .slice A6 a2.w.Links.length c7, .int .u64 a2.w.Seed]) isAgg26 sizeOf26 rfl rfl (hS.cellsAt 4 rfl rfl)) rfl (pp 2 rfl (RP.s0 6 rfl (fun w => Vl.fa 5 underlying58 rfl sizeOf38 rfl rfl) rfl (RP.s 0 7 rfl rfl hS (fun w hS => Vl.loadA (vs := [.int .i64 a2.state.Regs.c0, .int .i64 a2.state.Regs.c1, .int .i64 a2.state.Regs.c2, .int .i64 a2.state.Regs.c3, .int .i64 a2.state.Regs.c4, .int .i64 a2.state.Regs.c5, .int .i64 a2.state.Regs.c6, .int .i64 a2.state.Regs.c7, .int .i64 a2.state.Draws, .int .i64 a2.state.Sent]) isAgg38 sizeOf38 rfl rfl (hS.cellsAt 4 rfl rfl)) rfl (RP.s 0 8 rfl rfl hS (fun w hS => Vl.lw 3 hS isAgg30 sizeOf30 rfl rfl rfl) rfl ?_))))))
    refine RP.fork ?_ ?_
    · obtain ⟨t637, hg638, h⟩ := h.bind
      have hc := vm_Run.ok hr5 hr8 hG0 hg638 hS
      obtain ⟨y639, y640, y641⟩ := t637
      refine RPW.e 9 rfl (OW.callF (ls := [.tmp 22, .tmp 26, .tmp 27]) rfl call32 hc) rfl rfl ?_
      rintro _ w ⟨A642, c643, rfl, hS⟩
      refine ⟨kp ⟨fun _ => hS.d0, trivial⟩, ?_⟩
      refine pp 4 rfl (RP.e 14 rfl (OW.alloc (cs := [.int .i64 0, .int .i64 0, .int .i64 0, .int .i64 0, .int .i64 0, .int .i64 0, .int .i64 0, .int .i64 0, .int .i64 0, .int .i64 0]) hS zeroValue38 rfl) rfl rfl ?_)
      rintro _ w ⟨b644, rfl, hS⟩
      refine ⟨kp ⟨fun _ => hS.d0.d0, trivial⟩, ?_⟩
      refine RP.e0 15 rfl (OW.store (vs := [.int .i64 y639.Regs.c0, .int .i64 y639.Regs.c1, .int .i64 y639.Regs.c2, .int .i64 y639.Regs.c3, .int .i64 y639.Regs.c4, .int .i64 y639.Regs.c5, .int .i64 y639.Regs.c6, .int .i64 y639.Regs.c7, .int .i64 y639.Draws, .int .i64 y639.Sent]) 0 hS rfl rfl rfl rfl sizeOf38 rfl rfl rfl rfl) rfl ?_
      rintro _ w ⟨rfl, hS⟩
      have hS : St B w (Cl _ [_, _, _, _, _, _, _, _, _, _] _ :: _ :: _ :: _ :: _ :: _ :: _ :: _ :: l) hf := hS
      refine ⟨kp ⟨(by intro hx; cases hx), trivial⟩, ?_⟩
      refine RP.v1 16 rfl (Vl.assign rfl) rfl rfl (RP.v1 17 rfl (Vl.assign rfl) rfl rfl (RP.nil ?_))
      exact fun a ha => ⟨(y639.Regs.c0, y639.Regs.c1, y639.Regs.c2, y639.Regs.c3, y639.Regs.c4, y639.Regs.c5, y639.Regs.c6, y639.Regs.c7, y639.Draws, y639.Sent, y640, y641), y639.Regs.c0, y639.Regs.c1, y639.Regs.c2, y639.Regs.c3, y639.Regs.c4, y639.Regs.c5, y639.Regs.c6, y639.Regs.c7, y639.Draws, y639.Sent, y640, y641, rfl, b644, A642, c643, ha.to ⟨rfl, rfl, rfl, rfl, rfl, rfl, rfl, rfl, rfl, trivial⟩, hS.p6.p6.p6.p6.p6.p6.p7, h⟩
    · refine RPW.e 14 rfl (OW.alloc (cs := [.int .i64 0, .int .i64 0, .int .i64 0, .int .i64 0, .int .i64 0, .int .i64 0, .int .i64 0, .int .i64 0, .int .i64 0, .int .i64 0]) hS zeroValue38 rfl) rfl rfl ?_
      rintro _ w ⟨b645, rfl, hS⟩
      refine ⟨kp ⟨fun _ => hS.d0, trivial⟩, ?_⟩
      obtain ⟨t646, hg647, h⟩ := h.bind
      have hc := vm_Run.ok hr5 hr8 hG0 hg647 hS
      obtain ⟨y648, y649, y650⟩ := t646
      refine RP.e 9 rfl (OW.callF (ls := [.tmp 22, .tmp 26, .tmp 27]) rfl call32 hc) rfl rfl ?_
      rintro _ w ⟨A651, c652, rfl, hS⟩
      refine ⟨kp ⟨fun _ => hS.d0.d0, trivial⟩, ?_⟩
      refine pp 4 rfl (RP.e0 15 rfl (OW.store (vs := [.int .i64 y648.Regs.c0, .int .i64 y648.Regs.c1, .int .i64 y648.Regs.c2, .int .i64 y648.Regs.c3, .int .i64 y648.Regs.c4, .int .i64 y648.Regs.c5, .int .i64 y648.Regs.c6, .int .i64 y648.Regs.c7, .int .i64 y648.Draws, .int .i64 y648.Sent]) 1 hS rfl rfl rfl rfl sizeOf38 rfl rfl rfl rfl) rfl ?_)
      rintro _ w ⟨rfl, hS⟩
      have hS : St B w (_ :: Cl _ [_, _, _, _, _, _, _, _, _, _] _ :: _ :: _ :: _ :: _ :: _ :: _ :: l) hf := hS
      refine ⟨kp ⟨(by intro hx; cases hx), trivial⟩, ?_⟩
      refine RP.v1 16 rfl (Vl.assign rfl) rfl rfl (RP.v1 17 rfl (Vl.assign rfl) rfl rfl (RP.nil ?_))
      exact fun a ha => ⟨(y648.Regs.c0, y648.Regs.c1, y648.Regs.c2, y648.Regs.c3, y648.Regs.c4, y648.Regs.c5, y648.Regs.c6, y648.Regs.c7, y648.Draws, y648.Sent, y649, y650), y648.Regs.c0, y648.Regs.c1, y648.Regs.c2, y648.Regs.c3, y648.Regs.c4, y648.Regs.c5, y648.Regs.c6, y648.Regs.c7, y648.Draws, y648.Sent, y649, y650, rfl, b645, A651, c652, ha.to ⟨rfl, rfl, rfl, rfl, rfl, rfl, rfl, rfl, rfl, trivial⟩, hS.p6.p6.p6.p6.p6.p5.p7, h⟩

/-! ### (isochron/log.done).entry: function 23 -/
noncomputable def log_done_entry.f (a1 : log_done) (a7 : api_State) : Option (api_Entry) := (if (([] : List api_Message).length + a1.sent.length) * 56 ≤ 140737488355328 then some (⟨a1.event, a7, a1.fault, (([] : List api_Message) ++ a1.sent)⟩ : api_Entry) else none)
theorem log_done_entry.ok {a1 : log_done} {a7 : api_State} {A2 : Option Addr} {c3 b5 : Nat} (hr4 : SlR E_api_Message.rep hf A2 c3 a1.sent) (hr6 : PtR E_api_State hf b5 38 a1.ahead) {r : api_Entry} (h : log_done_entry.f a1 a7 = some r) (hS : St B w (l) hf) :
    Calls prog 23 #[.agg #[.int .i64 a1.event.Key.Time, .int .i64 a1.event.Key.From, .int .i64 a1.event.Key.Seq, .int .i64 a1.event.To, .int .i64 a1.event.Value, .int .i64 a1.event.Uid, .bool a1.event.Anti, .int .i64 a1.fault, .slice A2 a1.sent.length c3, .pointer (pz b5 a1.ahead.has)], .agg #[.int .i64 a7.Regs.c0, .int .i64 a7.Regs.c1, .int .i64 a7.Regs.c2, .int .i64 a7.Regs.c3, .int .i64 a7.Regs.c4, .int .i64 a7.Regs.c5, .int .i64 a7.Regs.c6, .int .i64 a7.Regs.c7, .int .i64 a7.Draws, .int .i64 a7.Sent]] w (Ret fun v w => ∃ (A_1 : Option Addr) (c_2 : Nat), v = .agg #[.int .i64 r.Event.Key.Time, .int .i64 r.Event.Key.From, .int .i64 r.Event.Key.Seq, .int .i64 r.Event.To, .int .i64 r.Event.Value, .int .i64 r.Event.Uid, .bool r.Event.Anti, .int .i64 r.Before.Regs.c0, .int .i64 r.Before.Regs.c1, .int .i64 r.Before.Regs.c2, .int .i64 r.Before.Regs.c3, .int .i64 r.Before.Regs.c4, .int .i64 r.Before.Regs.c5, .int .i64 r.Before.Regs.c6, .int .i64 r.Before.Regs.c7, .int .i64 r.Before.Draws, .int .i64 r.Before.Sent, .int .i64 r.Fault, .slice A_1 r.Sent.length c_2] ∧ St B w (OSf E_api_Message 30 (.slice A_1 r.Sent.length c_2) r.Sent :: l) hf) := by
  have h := Holds.of h
  refine en func23 rfl ntmps23 rfl (sr (bx hS rfl rfl rfl rfl fun b15 w hS => bx hS rfl rfl rfl rfl fun b16 w hS => al hS zeroValue43 rfl rfl rfl fun b17 w hS => ln (RC.seq (RC.planS (plD [0, 4, 7, 9, 13, 17, 20, 23, 26, 29]) [8, 9] hS (fun w hS => hS) follows rfl (by kernel_rfl) (NoTmp.then NoTmp.body) fun w hS => RP.s0 0 rfl (fun w => Vl.fa 0 underlying67 rfl sizeOf30 rfl rfl) rfl (RP.s 0 1 rfl rfl hS (fun w hS => Vl.loadA (vs := [.int .i64 a1.event.Key.Time, .int .i64 a1.event.Key.From, .int .i64 a1.event.Key.Seq, .int .i64 a1.event.To, .int .i64 a1.event.Value, .int .i64 a1.event.Uid, .bool a1.event.Anti]) isAgg30 sizeOf30 rfl rfl (hS.cellsAt 2 rfl rfl)) rfl (RP.s 0 2 rfl rfl hS (fun w hS => Vl.lw 1 hS isAgg38 sizeOf38 rfl rfl rfl) rfl (RP.s0 3 rfl (fun w => Vl.fa 7 underlying67 rfl sizeOf33 rfl rfl) rfl (RP.s 0 4 rfl rfl hS (fun w hS => Vl.ld 2 hS isAgg33 rfl rfl rfl) rfl (RP.v1 5 rfl (Vl.fa 8 underlying67 rfl sizeOf41 rfl rfl) rfl rfl ?_)))))))))
  refine RP.v1 6 rfl (Vl.ld 2 hS isAgg41 rfl rfl rfl) rfl rfl ?_
  obtain ⟨hq18, h⟩ := h.req
  have hS := hS.nilSl E_api_Message 30
  refine RP.e 7 rfl (OW.appendV (E := E_api_Message) (xs := ([] : List api_Message)) (ys := a1.sent) 0 hS rfl underlying41 type30 rfl rfl rfl rfl (by decide) (by decide) rfl rfl (hr4.2.world hS.sub) hq18 rfl) rfl rfl ?_
  rintro v21 w hS
  obtain ⟨A19, c20, rfl, _⟩ := hS.osShape 0 rfl
  have hS : St B w (_ :: _ :: _ :: _ :: l) hf := hS
  refine ⟨kp ⟨fun _ => hS.d0, trivial⟩, ?_⟩
  refine RP.v1 8 rfl (Vl.build (v := .agg #[.int .i64 a1.event.Key.Time, .int .i64 a1.event.Key.From, .int .i64 a1.event.Key.Seq, .int .i64 a1.event.To, .int .i64 a1.event.Value, .int .i64 a1.event.Uid, .bool a1.event.Anti, .int .i64 a7.Regs.c0, .int .i64 a7.Regs.c1, .int .i64 a7.Regs.c2, .int .i64 a7.Regs.c3, .int .i64 a7.Regs.c4, .int .i64 a7.Regs.c5, .int .i64 a7.Regs.c6, .int .i64 a7.Regs.c7, .int .i64 a7.Draws, .int .i64 a7.Sent, .int .i64 a1.fault, .slice A19 (([] : List api_Message) ++ a1.sent).length c20]) (parts := [(0, .tmp 6), (1, .tmp 7), (2, .tmp 9), (3, .tmp 12)]) rfl (by kernel_rfl)) rfl rfl (RP.e0 9 rfl (OW.store (vs := [.int .i64 a1.event.Key.Time, .int .i64 a1.event.Key.From, .int .i64 a1.event.Key.Seq, .int .i64 a1.event.To, .int .i64 a1.event.Value, .int .i64 a1.event.Uid, .bool a1.event.Anti, .int .i64 a7.Regs.c0, .int .i64 a7.Regs.c1, .int .i64 a7.Regs.c2, .int .i64 a7.Regs.c3, .int .i64 a7.Regs.c4, .int .i64 a7.Regs.c5, .int .i64 a7.Regs.c6, .int .i64 a7.Regs.c7, .int .i64 a7.Draws, .int .i64 a7.Sent, .int .i64 a1.fault, .slice A19 (([] : List api_Message) ++ a1.sent).length c20]) 1 hS rfl rfl rfl rfl sizeOf43 rfl rfl rfl rfl) rfl ?_)
  rintro _ w ⟨rfl, hS⟩
  have hS : St B w (_ :: Cl _ [_, _, _, _, _, _, _, _, _, _, _, _, _, _, _, _, _, _, _] _ :: _ :: _ :: l) hf := hS
  refine ⟨kp ⟨(by intro hx; cases hx), trivial⟩, ?_⟩
  refine RP.nil (tr ?_)
  obtain rfl := h.some
  refine RQ.ret0 (vs := [.agg #[.int .i64 a1.event.Key.Time, .int .i64 a1.event.Key.From, .int .i64 a1.event.Key.Seq, .int .i64 a1.event.To, .int .i64 a1.event.Value, .int .i64 a1.event.Uid, .bool a1.event.Anti, .int .i64 a7.Regs.c0, .int .i64 a7.Regs.c1, .int .i64 a7.Regs.c2, .int .i64 a7.Regs.c3, .int .i64 a7.Regs.c4, .int .i64 a7.Regs.c5, .int .i64 a7.Regs.c6, .int .i64 a7.Regs.c7, .int .i64 a7.Draws, .int .i64 a7.Sent, .int .i64 a1.fault, .slice A19 (([] : List api_Message) ++ a1.sent).length c20]]) results23 ⟨⟨_, rfl, run_loadVarA (vs := [.int .i64 a1.event.Key.Time, .int .i64 a1.event.Key.From, .int .i64 a1.event.Key.Seq, .int .i64 a1.event.To, .int .i64 a1.event.Value, .int .i64 a1.event.Uid, .bool a1.event.Anti, .int .i64 a7.Regs.c0, .int .i64 a7.Regs.c1, .int .i64 a7.Regs.c2, .int .i64 a7.Regs.c3, .int .i64 a7.Regs.c4, .int .i64 a7.Regs.c5, .int .i64 a7.Regs.c6, .int .i64 a7.Regs.c7, .int .i64 a7.Draws, .int .i64 a7.Sent, .int .i64 a1.fault, .slice A19 (([] : List api_Message) ++ a1.sent).length c20]) isAgg43 sizeOf43 rfl (hS.cellsAt 1 rfl rfl)⟩, trivial⟩ ?_
  exact ⟨A19, c20, rfl, hS.d1.d1.d1⟩

/-! ### (*isochron/log.Log).Try: function 8 -/
noncomputable def log_Log_Try.f (a2 : log_Log) (a13 : api_Message) (a14 : Int) (a15 : List api_Message) : Option (api_Entry × Int) := ((log_Log_none.f a2).bind fun t54 => (if t54 = true then some ((⟨(⟨(⟨0, 0, 0⟩ : api_Key), 0, 0, 0, false⟩ : api_Message), (⟨(⟨0, 0, 0, 0, 0, 0, 0, 0⟩ : Arr8xInti64), 0, 0⟩ : api_State), 0, ([] : List api_Message)⟩ : api_Entry), 7) else ((log_Log_may.f a2 a13 a14).bind fun t60 => (if t60 = 0 then ((log_Log_run.f a2 a13 a14 a15).bind fun (y65, y66) => ((log_done_entry.f (⟨y65.event, y65.fault, y65.sent, (⟨false, default⟩ : Pt api_State)⟩ : log_done) a2.state).bind fun t75 => some (t75, 0))) else some ((⟨(⟨(⟨0, 0, 0⟩ : api_Key), 0, 0, 0, false⟩ : api_Message), (⟨(⟨0, 0, 0, 0, 0, 0, 0, 0⟩ : Arr8xInti64), 0, 0⟩ : api_State), 0, ([] : List api_Message)⟩ : api_Entry), t60)))))
theorem log_Log_Try.ok {a2 : log_Log} {a13 : api_Message} {a14 : Int} {a15 : List api_Message} {b1 : Nat} {A3 : Option Addr} {c4 : Nat} {A6 : Option Addr} {c7 : Nat} {A9 : Option Addr} {c10 : Nat} {cs11 : List Value} {A16 : Option Addr} {c17 : Nat} (hr5 : SlR E_api_Instr.rep hf A3 c4 a2.w.Prog) (hr8 : SlR E_api_Link.rep hf A6 c7 a2.w.Links) (hx12 : RepL R_log_done hf cs11 a2.l) (hr18 : SlR E_api_Message.rep hf A16 c17 a15) (hG0 : GlobAt hf 0 (.iface 115 (.agg #[.pointer (some ⟨1, 75, none⟩)]))) {r : api_Entry × Int} (h : log_Log_Try.f a2 a13 a14 a15 = some r) (hS : St B w (Cl b1 [.slice A3 a2.w.Prog.length c4, .int .i64 a2.w.Self, .slice A6 a2.w.Links.length c7, .int .u64 a2.w.Seed, .bool a2.made, .int .i64 a2.state.Regs.c0, .int .i64 a2.state.Regs.c1, .int .i64 a2.state.Regs.c2, .int .i64 a2.state.Regs.c3, .int .i64 a2.state.Regs.c4, .int .i64 a2.state.Regs.c5, .int .i64 a2.state.Regs.c6, .int .i64 a2.state.Regs.c7, .int .i64 a2.state.Draws, .int .i64 a2.state.Sent, .int .i64 a2.every, .slice A9 a2.l.length c10, .bool a2.stuck] 58 :: OSl 67 10 (.slice A9 a2.l.length c10) a2.l.length cs11 :: l) hf) :
    Calls prog 8 #[.pointer (some ⟨b1, 0, none⟩), .agg #[.int .i64 a13.Key.Time, .int .i64 a13.Key.From, .int .i64 a13.Key.Seq, .int .i64 a13.To, .int .i64 a13.Value, .int .i64 a13.Uid, .bool a13.Anti], .int .i64 a14, .slice A16 a15.length c17] w (Ret fun v w => ∃ (A_1 : Option Addr) (c_2 : Nat), v = .tuple #[.agg #[.int .i64 r.1.Event.Key.Time, .int .i64 r.1.Event.Key.From, .int .i64 r.1.Event.Key.Seq, .int .i64 r.1.Event.To, .int .i64 r.1.Event.Value, .int .i64 r.1.Event.Uid, .bool r.1.Event.Anti, .int .i64 r.1.Before.Regs.c0, .int .i64 r.1.Before.Regs.c1, .int .i64 r.1.Before.Regs.c2, .int .i64 r.1.Before.Regs.c3, .int .i64 r.1.Before.Regs.c4, .int .i64 r.1.Before.Regs.c5, .int .i64 r.1.Before.Regs.c6, .int .i64 r.1.Before.Regs.c7, .int .i64 r.1.Before.Draws, .int .i64 r.1.Before.Sent, .int .i64 r.1.Fault, .slice A_1 r.1.Sent.length c_2], .int .i64 r.2] ∧ St B w (OSf E_api_Message 30 (.slice A_1 r.1.Sent.length c_2) r.1.Sent :: Cl b1 [.slice A3 a2.w.Prog.length c4, .int .i64 a2.w.Self, .slice A6 a2.w.Links.length c7, .int .u64 a2.w.Seed, .bool a2.made, .int .i64 a2.state.Regs.c0, .int .i64 a2.state.Regs.c1, .int .i64 a2.state.Regs.c2, .int .i64 a2.state.Regs.c3, .int .i64 a2.state.Regs.c4, .int .i64 a2.state.Regs.c5, .int .i64 a2.state.Regs.c6, .int .i64 a2.state.Regs.c7, .int .i64 a2.state.Draws, .int .i64 a2.state.Sent, .int .i64 a2.every, .slice A9 a2.l.length c10, .bool a2.stuck] 58 :: OSl 67 10 (.slice A9 a2.l.length c10) a2.l.length cs11 :: l) hf) := by
  have h := Holds.of h
  refine en func8 rfl ntmps8 rfl (sr (bx hS rfl rfl rfl rfl fun b49 w hS => al hS zeroValue43 rfl rfl rfl fun b50 w hS => pn 1 rfl (ln (RC.seq (sr (pn 1 rfl (cF (fun _ hg => log_Log_none.ok hr5 hr8 hx12 hg hS.p3.p3) call20 h rfl rfl rfl ?_)))))))
  rintro t54 h _ w ⟨rfl, hS⟩
  refine ln ?_
  refine RC.iteB 14 rfl h (fun hc56 h => ?_) fun hc56 h => ?_
  next =>
   refine RC.condT rfl (sr (RL.s (Vl.build (v := .agg #[.int .i64 0, .int .i64 0, .int .i64 0, .int .i64 0, .int .i64 0, .int .i64 0, .bool false, .int .i64 0, .int .i64 0, .int .i64 0, .int .i64 0, .int .i64 0, .int .i64 0, .int .i64 0, .int .i64 0, .int .i64 0, .int .i64 0, .int .i64 0, .slice none 0 0]) (parts := []) rfl (by kernel_rfl)) rfl (RL.e0 (OW.store (vs := [.int .i64 0, .int .i64 0, .int .i64 0, .int .i64 0, .int .i64 0, .int .i64 0, .bool false, .int .i64 0, .int .i64 0, .int .i64 0, .int .i64 0, .int .i64 0, .int .i64 0, .int .i64 0, .int .i64 0, .int .i64 0, .int .i64 0, .int .i64 0, .slice none 0 0]) 2 hS rfl rfl rfl rfl sizeOf43 rfl rfl rfl rfl) rfl ?_)))
   rintro _ w ⟨rfl, hS⟩
   have hS : St B w (_ :: _ :: Cl _ [_, _, _, _, _, _, _, _, _, _, _, _, _, _, _, _, _, _, _] _ :: _ :: l) hf := hS
   refine pn 1 rfl (lr (RQ.ret ?_))
   have hS := hS.nilSl E_api_Message 30
   obtain rfl := h.some
   refine RQ.ret0 (vs := [.agg #[.int .i64 0, .int .i64 0, .int .i64 0, .int .i64 0, .int .i64 0, .int .i64 0, .bool false, .int .i64 0, .int .i64 0, .int .i64 0, .int .i64 0, .int .i64 0, .int .i64 0, .int .i64 0, .int .i64 0, .int .i64 0, .int .i64 0, .int .i64 0, .slice none 0 0], .int .i64 7]) results8 ⟨⟨_, rfl, run_loadVarA (vs := [.int .i64 0, .int .i64 0, .int .i64 0, .int .i64 0, .int .i64 0, .int .i64 0, .bool false, .int .i64 0, .int .i64 0, .int .i64 0, .int .i64 0, .int .i64 0, .int .i64 0, .int .i64 0, .int .i64 0, .int .i64 0, .int .i64 0, .int .i64 0, .slice none 0 0]) isAgg43 sizeOf43 rfl (hS.cellsAt 3 rfl rfl)⟩, rfl, trivial⟩ ?_
   exact ⟨none, 0, rfl, hS.d3.d3⟩
  next =>
   refine RC.condF rfl (sk (RC.seq (sr (pn 1 rfl (RL.s (Vl.lw 3 hS isAgg30 sizeOf30 rfl rfl rfl) rfl (pn 1 rfl (cF (fun _ hg => log_Log_may.ok hr5 hr8 hx12 hg hS) call21 h rfl rfl rfl ?_)))))))
   rintro t60 h _ w ⟨rfl, hS⟩
   refine pn 1 rfl (lnsr (pn 2 rfl (ln ?_)))
   refine RC.iteN 21 rfl h (fun hc62 h => ?_) fun hc62 h => ?_
   next =>
    refine RC.condF rfl (sk (sr (pn 1 rfl (RL.s (Vl.lw 3 hS isAgg30 sizeOf30 rfl rfl rfl) rfl (pn 2 rfl (cF (fun _ hg => log_Log_run.ok hr5 hr8 hx12 hr18 hG0 hg hS) call22 h rfl rfl rfl ?_))))))
    rintro ⟨y65, y66⟩ h _ w ⟨A67, c68, rfl, hS⟩
    refine pn 3 rfl (al hS zeroValue67 rfl rfl rfl fun b69 w hS => al hS zeroValue38 rfl rfl rfl fun b70 w hS => RL.e0 (OW.store (vs := [.int .i64 y65.event.Key.Time, .int .i64 y65.event.Key.From, .int .i64 y65.event.Key.Seq, .int .i64 y65.event.To, .int .i64 y65.event.Value, .int .i64 y65.event.Uid, .bool y65.event.Anti, .int .i64 y65.fault, .slice A67 y65.sent.length c68, .pointer none]) 1 hS rfl rfl rfl rfl sizeOf67 rfl rfl rfl rfl) rfl ?_)
    rintro _ w ⟨rfl, hS⟩
    have hS : St B w (_ :: Cl _ [_, _, _, _, _, _, _, _, _, _] _ :: _ :: _ :: _ :: _ :: _ :: l) hf := hS
    refine RL.e0 (OW.store (vs := [.int .i64 y66.Regs.c0, .int .i64 y66.Regs.c1, .int .i64 y66.Regs.c2, .int .i64 y66.Regs.c3, .int .i64 y66.Regs.c4, .int .i64 y66.Regs.c5, .int .i64 y66.Regs.c6, .int .i64 y66.Regs.c7, .int .i64 y66.Draws, .int .i64 y66.Sent]) 0 hS rfl rfl rfl rfl sizeOf38 rfl rfl rfl rfl) rfl ?_
    rintro _ w ⟨rfl, hS⟩
    have hS : St B w (Cl _ [_, _, _, _, _, _, _, _, _, _] _ :: _ :: _ :: _ :: _ :: _ :: _ :: l) hf := hS
    refine ln (RC.seq (RC.planS (plD [1, 5, 8, 11, 14, 17, 20, 23]) [5, 6, 7] hS (fun w hS => hS) follows rfl (by kernel_rfl) (NoTmp.then NoTmp.body) fun w hS => RP.s 0 0 rfl rfl hS (fun w hS => Vl.lw 1 hS isAgg67 sizeOf67 rfl rfl rfl) rfl (RP.v1 1 rfl (Vl.move rfl) rfl rfl (RP.v1 2 rfl (Vl.nilCheck rfl) rfl rfl (RP.v1 3 rfl (Vl.fa 5 underlying58 rfl sizeOf38 rfl rfl) rfl rfl (RP.v1 4 rfl (Vl.loadA (vs := [.int .i64 a2.state.Regs.c0, .int .i64 a2.state.Regs.c1, .int .i64 a2.state.Regs.c2, .int .i64 a2.state.Regs.c3, .int .i64 a2.state.Regs.c4, .int .i64 a2.state.Regs.c5, .int .i64 a2.state.Regs.c6, .int .i64 a2.state.Regs.c7, .int .i64 a2.state.Draws, .int .i64 a2.state.Sent]) isAgg38 sizeOf38 rfl rfl (hS.cellsAt 3 rfl rfl)) rfl rfl ?_))))))
    obtain ⟨hf74, hs72, hS, hr71, hb73⟩ := St.lendSl hS.p2
    obtain ⟨t75, hg76, h⟩ := h.bind
    have hc := log_done_entry.ok (a1 := (⟨y65.event, y65.fault, y65.sent, (⟨false, default⟩ : Pt api_State)⟩ : log_done)) hr71 ((PtR.nil (b := 0)).mono hs72) hg76 hS
    refine RP.e 5 rfl (OW.callF (ls := [.tmp 32, .tmp 36]) rfl call23 hc) rfl rfl ?_
    rintro _ w ⟨A77, c78, rfl, hS⟩
    have hS := hb73 _ _ hS
    have hS : St B w (_ :: _ :: _ :: _ :: _ :: _ :: _ :: _ :: l) hf := hS
    refine ⟨kp ⟨(by intro hx; cases hx), trivial⟩, ?_⟩
    refine RP.e0 6 rfl (OW.store (vs := [.int .i64 t75.Event.Key.Time, .int .i64 t75.Event.Key.From, .int .i64 t75.Event.Key.Seq, .int .i64 t75.Event.To, .int .i64 t75.Event.Value, .int .i64 t75.Event.Uid, .bool t75.Event.Anti, .int .i64 t75.Before.Regs.c0, .int .i64 t75.Before.Regs.c1, .int .i64 t75.Before.Regs.c2, .int .i64 t75.Before.Regs.c3, .int .i64 t75.Before.Regs.c4, .int .i64 t75.Before.Regs.c5, .int .i64 t75.Before.Regs.c6, .int .i64 t75.Before.Regs.c7, .int .i64 t75.Before.Draws, .int .i64 t75.Before.Sent, .int .i64 t75.Fault, .slice A77 t75.Sent.length c78]) 6 hS rfl rfl rfl rfl sizeOf43 rfl rfl rfl rfl) rfl ?_
    rintro _ w ⟨rfl, hS⟩
    have hS : St B w (_ :: _ :: _ :: _ :: _ :: _ :: Cl _ [_, _, _, _, _, _, _, _, _, _, _, _, _, _, _, _, _, _, _] _ :: _ :: l) hf := hS
    refine ⟨kp ⟨(by intro hx; cases hx), trivial⟩, ?_⟩
    refine RP.v1 7 rfl (Vl.assign rfl) rfl rfl (RP.nil (tr ?_))
    obtain rfl := h.some
    refine RQ.ret0 (vs := [.agg #[.int .i64 t75.Event.Key.Time, .int .i64 t75.Event.Key.From, .int .i64 t75.Event.Key.Seq, .int .i64 t75.Event.To, .int .i64 t75.Event.Value, .int .i64 t75.Event.Uid, .bool t75.Event.Anti, .int .i64 t75.Before.Regs.c0, .int .i64 t75.Before.Regs.c1, .int .i64 t75.Before.Regs.c2, .int .i64 t75.Before.Regs.c3, .int .i64 t75.Before.Regs.c4, .int .i64 t75.Before.Regs.c5, .int .i64 t75.Before.Regs.c6, .int .i64 t75.Before.Regs.c7, .int .i64 t75.Before.Draws, .int .i64 t75.Before.Sent, .int .i64 t75.Fault, .slice A77 t75.Sent.length c78], .int .i64 0]) results8 ⟨⟨_, rfl, run_loadVarA (vs := [.int .i64 t75.Event.Key.Time, .int .i64 t75.Event.Key.From, .int .i64 t75.Event.Key.Seq, .int .i64 t75.Event.To, .int .i64 t75.Event.Value, .int .i64 t75.Event.Uid, .bool t75.Event.Anti, .int .i64 t75.Before.Regs.c0, .int .i64 t75.Before.Regs.c1, .int .i64 t75.Before.Regs.c2, .int .i64 t75.Before.Regs.c3, .int .i64 t75.Before.Regs.c4, .int .i64 t75.Before.Regs.c5, .int .i64 t75.Before.Regs.c6, .int .i64 t75.Before.Regs.c7, .int .i64 t75.Before.Draws, .int .i64 t75.Before.Sent, .int .i64 t75.Fault, .slice A77 t75.Sent.length c78]) isAgg43 sizeOf43 rfl (hS.cellsAt 6 rfl rfl)⟩, rfl, trivial⟩ ?_
    exact ⟨A77, c78, rfl, hS.d0.d1.d1.d3.d3⟩
   next =>
    refine RC.condT rfl (sr (RL.s (Vl.build (v := .agg #[.int .i64 0, .int .i64 0, .int .i64 0, .int .i64 0, .int .i64 0, .int .i64 0, .bool false, .int .i64 0, .int .i64 0, .int .i64 0, .int .i64 0, .int .i64 0, .int .i64 0, .int .i64 0, .int .i64 0, .int .i64 0, .int .i64 0, .int .i64 0, .slice none 0 0]) (parts := []) rfl (by kernel_rfl)) rfl (pn 1 rfl (RL.e0 (OW.store (vs := [.int .i64 0, .int .i64 0, .int .i64 0, .int .i64 0, .int .i64 0, .int .i64 0, .bool false, .int .i64 0, .int .i64 0, .int .i64 0, .int .i64 0, .int .i64 0, .int .i64 0, .int .i64 0, .int .i64 0, .int .i64 0, .int .i64 0, .int .i64 0, .slice none 0 0]) 2 hS rfl rfl rfl rfl sizeOf43 rfl rfl rfl rfl) rfl ?_))))
    rintro _ w ⟨rfl, hS⟩
    have hS : St B w (_ :: _ :: Cl _ [_, _, _, _, _, _, _, _, _, _, _, _, _, _, _, _, _, _, _] _ :: _ :: l) hf := hS
    refine pn 1 rfl (lr (RQ.ret ?_))
    have hS := hS.nilSl E_api_Message 30
    obtain rfl := h.some
    refine RQ.ret0 (vs := [.agg #[.int .i64 0, .int .i64 0, .int .i64 0, .int .i64 0, .int .i64 0, .int .i64 0, .bool false, .int .i64 0, .int .i64 0, .int .i64 0, .int .i64 0, .int .i64 0, .int .i64 0, .int .i64 0, .int .i64 0, .int .i64 0, .int .i64 0, .int .i64 0, .slice none 0 0], .int .i64 t60]) results8 ⟨⟨_, rfl, run_loadVarA (vs := [.int .i64 0, .int .i64 0, .int .i64 0, .int .i64 0, .int .i64 0, .int .i64 0, .bool false, .int .i64 0, .int .i64 0, .int .i64 0, .int .i64 0, .int .i64 0, .int .i64 0, .int .i64 0, .int .i64 0, .int .i64 0, .int .i64 0, .int .i64 0, .slice none 0 0]) isAgg43 sizeOf43 rfl (hS.cellsAt 3 rfl rfl)⟩, rfl, trivial⟩ ?_
    exact ⟨none, 0, rfl, hS.d3.d3⟩

/-! ### (*isochron/log.Log).due: function 25 -/
noncomputable def log_Log_due.l2b (a2 : log_Log) : Int → Option ((Int) ⊕ (Bool))
  | (x98) => (if x98 < (a2.l.length : Int) then (if 0 ≤ IntKind.i64.wrap ((IntKind.i64.wrap ((a2.l.length : Int) - 1)) - x98) ∧ IntKind.i64.wrap ((IntKind.i64.wrap ((a2.l.length : Int) - 1)) - x98) < (a2.l.length : Int) then (if ((nth a2.l (IntKind.i64.wrap ((IntKind.i64.wrap ((a2.l.length : Int) - 1)) - x98))).ahead).has = true then some (.inr (decide (a2.every ≤ IntKind.i64.wrap (x98 + 1)))) else some (.inl (IntKind.i64.wrap (x98 + 1)))) else none) else some (.inr true))
noncomputable def log_Log_due.l2 (a2 : log_Log) (s : Int) : Option (Bool) := loopR (log_Log_due.l2b a2) s
noncomputable def log_Log_due.f (a2 : log_Log) : Option (Bool) := log_Log_due.l2 a2 (0)
theorem log_Log_due.ok {a2 : log_Log} {b1 : Nat} {A3 : Option Addr} {c4 : Nat} {A6 : Option Addr} {c7 : Nat} {A9 : Option Addr} {c10 : Nat} {cs11 : List Value} (hr5 : SlR E_api_Instr.rep hf A3 c4 a2.w.Prog) (hr8 : SlR E_api_Link.rep hf A6 c7 a2.w.Links) (hx12 : RepL R_log_done hf cs11 a2.l) {r : Bool} (h : log_Log_due.f a2 = some r) (hS : St B w (Cl b1 [.slice A3 a2.w.Prog.length c4, .int .i64 a2.w.Self, .slice A6 a2.w.Links.length c7, .int .u64 a2.w.Seed, .bool a2.made, .int .i64 a2.state.Regs.c0, .int .i64 a2.state.Regs.c1, .int .i64 a2.state.Regs.c2, .int .i64 a2.state.Regs.c3, .int .i64 a2.state.Regs.c4, .int .i64 a2.state.Regs.c5, .int .i64 a2.state.Regs.c6, .int .i64 a2.state.Regs.c7, .int .i64 a2.state.Draws, .int .i64 a2.state.Sent, .int .i64 a2.every, .slice A9 a2.l.length c10, .bool a2.stuck] 58 :: OSl 67 10 (.slice A9 a2.l.length c10) a2.l.length cs11 :: l) hf) :
    Calls prog 25 #[.pointer (some ⟨b1, 0, none⟩)] w (Ret fun v w => v = .bool r ∧ St B w (Cl b1 [.slice A3 a2.w.Prog.length c4, .int .i64 a2.w.Self, .slice A6 a2.w.Links.length c7, .int .u64 a2.w.Seed, .bool a2.made, .int .i64 a2.state.Regs.c0, .int .i64 a2.state.Regs.c1, .int .i64 a2.state.Regs.c2, .int .i64 a2.state.Regs.c3, .int .i64 a2.state.Regs.c4, .int .i64 a2.state.Regs.c5, .int .i64 a2.state.Regs.c6, .int .i64 a2.state.Regs.c7, .int .i64 a2.state.Draws, .int .i64 a2.state.Sent, .int .i64 a2.every, .slice A9 a2.l.length c10, .bool a2.stuck] 58 :: OSl 67 10 (.slice A9 a2.l.length c10) a2.l.length cs11 :: l) hf) := by
  have h := Holds.of h
  refine en func25 rfl ntmps25 rfl (sr (pn 1 rfl (ln (RC.seq (sr (pn 2 rfl (RL.s (Vl.fa 16 underlying58 rfl sizeOf56 rfl rfl) rfl (RL.s (Vl.ld 0 hS isAgg56 rfl rfl rfl) rfl (RL.s (Vl.lenSl underlying56 rfl) rfl (pn 1 rfl (ln ?_)))))))))))
  refine RC.block ?_
  refine fun a ha => RC.loop (N := 36) (body := (log_Log_due.l2b a2)) (φ := (· = r)) (fun (s : Int) a w => ∃ (x98 : Int), s = (x98) ∧ Has 36 [(0, .pointer (some ⟨b1, 0, none⟩)), (8, .int .i64 (a2.l.length : Int)), (9, .int .i64 x98)] a ∧ St B w (OSl 67 10 (.slice A9 a2.l.length c10) a2.l.length cs11 :: Cl b1 [.slice A3 a2.w.Prog.length c4, .int .i64 a2.w.Self, .slice A6 a2.w.Links.length c7, .int .u64 a2.w.Seed, .bool a2.made, .int .i64 a2.state.Regs.c0, .int .i64 a2.state.Regs.c1, .int .i64 a2.state.Regs.c2, .int .i64 a2.state.Regs.c3, .int .i64 a2.state.Regs.c4, .int .i64 a2.state.Regs.c5, .int .i64 a2.state.Regs.c6, .int .i64 a2.state.Regs.c7, .int .i64 a2.state.Draws, .int .i64 a2.state.Sent, .int .i64 a2.every, .slice A9 a2.l.length c10, .bool a2.stuck] 58 :: l) hf) ?_ (s0 := (0)) h ⟨0, rfl, ha.to ⟨rfl, rfl, rfl, trivial⟩, hS.p1⟩
  rintro G120 x98 a w ⟨_, rfl, ha, hS⟩ h
  revert a
  show RC _ _ _ _ _ _
  refine sr (pn 1 rfl (ln (RC.seq ?_)))
  refine RC.iteP 10 rfl h (fun hc122 h => ?_) fun hc122 h => ?_
  next =>
   refine RC.condT rfl (sk (RC.seq (RC.block (sr (pn 2 rfl (ln (RC.seq (RC.planS (plD [0, 3, 6, 10, 12, 15, 18, 22, 24, 27, 32, 35, 38, 41, 44, 47]) [12, 13, 14, 15] hS (fun w hS => hS) follows rfl (by kernel_rfl) (NoTmp.then (NoTmp.block (NoTmp.then (NoTmp.then (NoTmp.block (NoTmp.then NoTmp.body)))))) fun w hS => pp 2 rfl (RP.s0 2 rfl (fun w => Vl.fa 16 underlying58 rfl sizeOf56 rfl rfl) rfl (RP.s 0 3 rfl rfl hS (fun w hS => Vl.ld 1 hS isAgg56 rfl rfl rfl) rfl (pp 2 rfl ?_)))))))))))
   refine RP.s0 6 rfl (fun w => Vl.fa 16 underlying58 rfl sizeOf56 rfl rfl) rfl (RP.s 0 7 rfl rfl hS (fun w hS => Vl.ld 1 hS isAgg56 rfl rfl rfl) rfl (RP.s0 8 rfl (fun w => Vl.lenSl underlying56 rfl) rfl (pp 1 rfl (RP.v1 10 rfl (Vl.move rfl) rfl rfl (RP.v1 11 rfl (Vl.int rfl rfl rfl) rfl rfl ?_)))))
   obtain ⟨⟨hq132, hq133⟩, h⟩ := h.req
   refine RP.v1 12 rfl (Vl.indexOwn 0 hS rfl underlying56 sizeOf67 rfl rfl hq132 hq133) rfl rfl (RP.v1 13 rfl (Vl.fieldAddr (a'' := (ad A9).add ((IntKind.i64.wrap ((IntKind.i64.wrap ((a2.l.length : Int) - 1)) - x98)).toNat * 10 + 9)) underlying67 rfl sizeOf65 rfl (add_add _ _ _)) rfl rfl ?_)
   obtain ⟨_, ⟨A135, c136, b138, rfl, hr137, hr139⟩, hl134⟩ := RepL.elem R_log_done_ok hx12 hq132 hq133
   refine RP.v1 14 rfl (Vl.load isAgg65 rfl (hS.litCell 0 rfl (hl134 9 _ rfl))) rfl rfl (RP.v1 15 rfl (Vl.ptNeq (fun b w => by kernel_rfl) (fun w => by kernel_rfl) rfl rfl) rfl rfl (RP.nil (RQ.then_n ?_)))
   refine RC.iteB 27 rfl h (fun hc140 h => ?_) fun hc140 h => ?_
   next =>
    refine RC.condT rfl (sr (pn 4 rfl (RL.s (Vl.fa 15 underlying58 rfl sizeOf3 rfl rfl) rfl (RL.s (Vl.ld 1 hS isAgg3 rfl rfl rfl) rfl (pn 2 rfl (lr (RQ.inB_ret (RQ.ret ?_))))))))
    have h := h.inrS
    refine RQ.ret (RQ.inB_ret (RQ.ret ?_))
    obtain rfl := h.some
    exact rt results25 rfl ⟨rfl, hS.p1⟩
   next =>
    refine RC.condF rfl (RC.skip (RQ.inB_n (RQ.then_n (RC.region (pn 2 rfl (RL.nil ?_))))))
    exact fun a ha => ⟨(IntKind.i64.wrap (x98 + 1)), ⟨(IntKind.i64.wrap (x98 + 1)), rfl, ha.to ⟨rfl, rfl, rfl, trivial⟩, hS⟩, h.some⟩
  next =>
   refine RC.condF rfl (RC.exit (RQ.exitT ?_))
   have h := h.inrS
   refine RQ.exitT (RQ.inB_hit (tsr (pn 1 rfl (lr ?_))))
   obtain rfl := h.some
   exact rt results25 rfl ⟨rfl, hS.p1⟩

end Go.Proofs.Gx
