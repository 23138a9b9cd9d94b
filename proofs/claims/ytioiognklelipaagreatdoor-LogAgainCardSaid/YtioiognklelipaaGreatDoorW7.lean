/-
  The walks of functions, each with what it computes: printed by wip/gx.py.
-/
import Derived.Test.YtioiognklelipaaGreatDoorW0
import Derived.Test.YtioiognklelipaaGreatDoorW1
import Derived.Test.YtioiognklelipaaGreatDoorW2
import Derived.Test.YtioiognklelipaaGreatDoorW5
import Derived.Test.YtioiognklelipaaGreatDoorW6
set_option linter.unusedVariables false
set_option maxRecDepth 100000
set_option maxHeartbeats 4000000
namespace Go.Proofs.Gx
open Go.Sl Tryz
variable {B : Base} {w : World} {l : List HProp} {hf : Hp}
/-! ### (*isochron/log.Log).Do: function 9 -/
noncomputable def log_Log_Do.f (a2 : log_Log) (a13 : api_Message) (a14 : Int) (a15 : List api_Message) : Option (api_Entry × Int × log_Log) := ((log_Log_none.f a2).bind fun t147 => (if t147 = true then some ((⟨(⟨(⟨0, 0, 0⟩ : api_Key), 0, 0, 0, false⟩ : api_Message), (⟨(⟨0, 0, 0, 0, 0, 0, 0, 0⟩ : Arr8xInti64), 0, 0⟩ : api_State), 0, ([] : List api_Message)⟩ : api_Entry), 7, a2) else ((log_Log_may.f a2 a13 a14).bind fun t153 => (if t153 = 0 then ((log_Log_run.f a2 a13 a14 a15).bind fun (y158, y159) => ((log_Log_due.f a2).bind fun t170 => (if t170 = true then (if (a2.l.length + ([(⟨y158.event, y158.fault, y158.sent, (⟨true, a2.state⟩ : Pt api_State)⟩ : log_done)]).length) * 96 ≤ 140737488355328 then ((log_done_entry.f (⟨y158.event, y158.fault, y158.sent, (⟨true, a2.state⟩ : Pt api_State)⟩ : log_done) a2.state).bind fun t216 => some (t216, 0, (⟨a2.w, a2.made, y159, a2.every, (a2.l ++ ([(⟨y158.event, y158.fault, y158.sent, (⟨true, a2.state⟩ : Pt api_State)⟩ : log_done)])), (!decide (y158.fault = 0))⟩ : log_Log))) else none) else (if (a2.l.length + ([(⟨y158.event, y158.fault, y158.sent, (⟨false, default⟩ : Pt api_State)⟩ : log_done)]).length) * 96 ≤ 140737488355328 then ((log_done_entry.f (⟨y158.event, y158.fault, y158.sent, (⟨false, default⟩ : Pt api_State)⟩ : log_done) a2.state).bind fun t261 => some (t261, 0, (⟨a2.w, a2.made, y159, a2.every, (a2.l ++ ([(⟨y158.event, y158.fault, y158.sent, (⟨false, default⟩ : Pt api_State)⟩ : log_done)])), (!decide (y158.fault = 0))⟩ : log_Log))) else none)))) else some ((⟨(⟨(⟨0, 0, 0⟩ : api_Key), 0, 0, 0, false⟩ : api_Message), (⟨(⟨0, 0, 0, 0, 0, 0, 0, 0⟩ : Arr8xInti64), 0, 0⟩ : api_State), 0, ([] : List api_Message)⟩ : api_Entry), t153, a2)))))
theorem log_Log_Do.ok {a2 : log_Log} {a13 : api_Message} {a14 : Int} {a15 : List api_Message} {b1 : Nat} {A3 : Option Addr} {c4 : Nat} {A6 : Option Addr} {c7 : Nat} {A9 : Option Addr} {c10 : Nat} {cs11 : List Value} {A16 : Option Addr} {c17 : Nat} (hr5 : SlR E_api_Instr.rep hf A3 c4 a2.w.Prog) (hr8 : SlR E_api_Link.rep hf A6 c7 a2.w.Links) (hx12 : RepL R_log_done hf cs11 a2.l) (hr18 : SlR E_api_Message.rep hf A16 c17 a15) (hG0 : GlobAt hf 0 (.iface 119 (.agg #[.pointer (some ⟨1, 76, none⟩)]))) {r : api_Entry × Int × log_Log} (h : log_Log_Do.f a2 a13 a14 a15 = some r) (hS : St B w (Cl b1 [.slice A3 a2.w.Prog.length c4, .int .i64 a2.w.Self, .slice A6 a2.w.Links.length c7, .int .u64 a2.w.Seed, .bool a2.made, .int .i64 a2.state.Regs.c0, .int .i64 a2.state.Regs.c1, .int .i64 a2.state.Regs.c2, .int .i64 a2.state.Regs.c3, .int .i64 a2.state.Regs.c4, .int .i64 a2.state.Regs.c5, .int .i64 a2.state.Regs.c6, .int .i64 a2.state.Regs.c7, .int .i64 a2.state.Draws, .int .i64 a2.state.Sent, .int .i64 a2.every, .slice A9 a2.l.length c10, .bool a2.stuck] 59 :: OSl 68 10 (.slice A9 a2.l.length c10) a2.l.length cs11 :: l) hf) :
    Calls prog 9 #[.pointer (some ⟨b1, 0, none⟩), .agg #[.int .i64 a13.Key.Time, .int .i64 a13.Key.From, .int .i64 a13.Key.Seq, .int .i64 a13.To, .int .i64 a13.Value, .int .i64 a13.Uid, .bool a13.Anti], .int .i64 a14, .slice A16 a15.length c17] w (Ret fun v w => ∃ hf_ : Hp, Sub hf hf_ ∧ ∃ (A_1 : Option Addr) (c_2 : Nat) (A_3 : Option Addr) (c_4 : Nat) (cs_5 : List Value), v = .tuple #[.agg #[.int .i64 r.1.Event.Key.Time, .int .i64 r.1.Event.Key.From, .int .i64 r.1.Event.Key.Seq, .int .i64 r.1.Event.To, .int .i64 r.1.Event.Value, .int .i64 r.1.Event.Uid, .bool r.1.Event.Anti, .int .i64 r.1.Before.Regs.c0, .int .i64 r.1.Before.Regs.c1, .int .i64 r.1.Before.Regs.c2, .int .i64 r.1.Before.Regs.c3, .int .i64 r.1.Before.Regs.c4, .int .i64 r.1.Before.Regs.c5, .int .i64 r.1.Before.Regs.c6, .int .i64 r.1.Before.Regs.c7, .int .i64 r.1.Before.Draws, .int .i64 r.1.Before.Sent, .int .i64 r.1.Fault, .slice A_1 r.1.Sent.length c_2], .int .i64 r.2.1] ∧ St B w (OSf E_api_Message 42 (.slice A_1 r.1.Sent.length c_2) r.1.Sent :: OSl 68 10 (.slice A_3 r.2.2.l.length c_4) r.2.2.l.length cs_5 :: Cl b1 [.slice A3 a2.w.Prog.length c4, .int .i64 a2.w.Self, .slice A6 a2.w.Links.length c7, .int .u64 a2.w.Seed, .bool a2.made, .int .i64 r.2.2.state.Regs.c0, .int .i64 r.2.2.state.Regs.c1, .int .i64 r.2.2.state.Regs.c2, .int .i64 r.2.2.state.Regs.c3, .int .i64 r.2.2.state.Regs.c4, .int .i64 r.2.2.state.Regs.c5, .int .i64 r.2.2.state.Regs.c6, .int .i64 r.2.2.state.Regs.c7, .int .i64 r.2.2.state.Draws, .int .i64 r.2.2.state.Sent, .int .i64 a2.every, .slice A_3 r.2.2.l.length c_4, .bool r.2.2.stuck] 59 :: l) hf_ ∧ RepL R_log_done hf_ cs_5 r.2.2.l) := by
  have h := Holds.of h
  refine en func9 rfl ntmps9 rfl (sr (bx hS rfl rfl rfl rfl fun b142 w hS => al hS zeroValue44 rfl rfl rfl fun b143 w hS => pn 1 rfl (ln (RC.seq (sr (pn 1 rfl (cF (fun _ hg => log_Log_none.ok hr5 hr8 hx12 hg hS.p3.p3) call21 h rfl rfl rfl ?_)))))))
  rintro t147 h _ w ⟨rfl, hS⟩
  refine ln ?_
  refine RC.iteB 15 rfl h (fun hc149 h => ?_) fun hc149 h => ?_
  next =>
   refine RC.condT rfl (sr (RL.s (Vl.build (v := .agg #[.int .i64 0, .int .i64 0, .int .i64 0, .int .i64 0, .int .i64 0, .int .i64 0, .bool false, .int .i64 0, .int .i64 0, .int .i64 0, .int .i64 0, .int .i64 0, .int .i64 0, .int .i64 0, .int .i64 0, .int .i64 0, .int .i64 0, .int .i64 0, .slice none 0 0]) (parts := []) rfl (by kernel_rfl)) rfl (RL.e0 (OW.store (vs := [.int .i64 0, .int .i64 0, .int .i64 0, .int .i64 0, .int .i64 0, .int .i64 0, .bool false, .int .i64 0, .int .i64 0, .int .i64 0, .int .i64 0, .int .i64 0, .int .i64 0, .int .i64 0, .int .i64 0, .int .i64 0, .int .i64 0, .int .i64 0, .slice none 0 0]) 2 hS rfl rfl rfl rfl sizeOf44 rfl rfl rfl rfl) rfl ?_)))
   rintro _ w ⟨rfl, hS⟩
   have hS : St B w (_ :: _ :: Cl _ [_, _, _, _, _, _, _, _, _, _, _, _, _, _, _, _, _, _, _] _ :: _ :: l) hf := hS
   refine pn 1 rfl (lr (RQ.ret ?_))
   have hS := hS.nilSl E_api_Message 42
   obtain rfl := h.some
   refine RQ.ret0 (vs := [.agg #[.int .i64 0, .int .i64 0, .int .i64 0, .int .i64 0, .int .i64 0, .int .i64 0, .bool false, .int .i64 0, .int .i64 0, .int .i64 0, .int .i64 0, .int .i64 0, .int .i64 0, .int .i64 0, .int .i64 0, .int .i64 0, .int .i64 0, .int .i64 0, .slice none 0 0], .int .i64 7]) results9 ⟨⟨_, rfl, run_loadVarA (vs := [.int .i64 0, .int .i64 0, .int .i64 0, .int .i64 0, .int .i64 0, .int .i64 0, .bool false, .int .i64 0, .int .i64 0, .int .i64 0, .int .i64 0, .int .i64 0, .int .i64 0, .int .i64 0, .int .i64 0, .int .i64 0, .int .i64 0, .int .i64 0, .slice none 0 0]) isAgg44 sizeOf44 rfl (hS.cellsAt 3 rfl rfl)⟩, rfl, trivial⟩ ?_
   exact ⟨_, (Sub.refl _), none, 0, A9, c10, cs11, rfl, hS.d3.d3.p2.p1, hx12⟩
  next =>
   refine RC.condF rfl (sk (RC.seq (sr (pn 1 rfl (RL.s (Vl.lw 3 hS isAgg42 sizeOf42 rfl rfl rfl) rfl (pn 1 rfl (cF (fun _ hg => log_Log_may.ok hr5 hr8 hx12 hg hS) call22 h rfl rfl rfl ?_)))))))
   rintro t153 h _ w ⟨rfl, hS⟩
   refine pn 1 rfl (lnsr (pn 2 rfl (ln ?_)))
   refine RC.iteN 22 rfl h (fun hc155 h => ?_) fun hc155 h => ?_
   next =>
    refine RC.condF rfl (sk (sr (pn 1 rfl (RL.s (Vl.lw 3 hS isAgg42 sizeOf42 rfl rfl rfl) rfl (pn 2 rfl (cF (fun _ hg => log_Log_run.ok hr5 hr8 hx12 hr18 hG0 hg hS) call23 h rfl rfl rfl ?_))))))
    rintro ⟨y158, y159⟩ h _ w ⟨A160, c161, rfl, hS⟩
    refine pn 3 rfl (al hS zeroValue68 rfl rfl rfl fun b162 w hS => al hS zeroValue34 rfl rfl rfl fun b163 w hS => RL.e0 (OW.store (vs := [.int .i64 y158.event.Key.Time, .int .i64 y158.event.Key.From, .int .i64 y158.event.Key.Seq, .int .i64 y158.event.To, .int .i64 y158.event.Value, .int .i64 y158.event.Uid, .bool y158.event.Anti, .int .i64 y158.fault, .slice A160 y158.sent.length c161, .pointer none]) 1 hS rfl rfl rfl rfl sizeOf68 rfl rfl rfl rfl) rfl ?_)
    rintro _ w ⟨rfl, hS⟩
    have hS : St B w (_ :: Cl _ [_, _, _, _, _, _, _, _, _, _] _ :: _ :: _ :: _ :: _ :: _ :: l) hf := hS
    refine RL.e0 (OW.store (vs := [.int .i64 y159.Regs.c0, .int .i64 y159.Regs.c1, .int .i64 y159.Regs.c2, .int .i64 y159.Regs.c3, .int .i64 y159.Regs.c4, .int .i64 y159.Regs.c5, .int .i64 y159.Regs.c6, .int .i64 y159.Regs.c7, .int .i64 y159.Draws, .int .i64 y159.Sent]) 0 hS rfl rfl rfl rfl sizeOf34 rfl rfl rfl rfl) rfl ?_
    rintro _ w ⟨rfl, hS⟩
    have hS : St B w (Cl _ [_, _, _, _, _, _, _, _, _, _] _ :: _ :: _ :: _ :: _ :: _ :: _ :: l) hf := hS
    refine lnsr (pn 2 rfl (RL.s (Vl.fa 5 underlying59 rfl sizeOf34 rfl rfl) rfl (RL.s (Vl.loadA (vs := [.int .i64 a2.state.Regs.c0, .int .i64 a2.state.Regs.c1, .int .i64 a2.state.Regs.c2, .int .i64 a2.state.Regs.c3, .int .i64 a2.state.Regs.c4, .int .i64 a2.state.Regs.c5, .int .i64 a2.state.Regs.c6, .int .i64 a2.state.Regs.c7, .int .i64 a2.state.Draws, .int .i64 a2.state.Sent]) isAgg34 sizeOf34 rfl rfl (hS.cellsAt 3 rfl rfl)) rfl (al hS zeroValue34 rfl rfl rfl fun b164 w hS => RL.e0 (OW.store (vs := [.int .i64 a2.state.Regs.c0, .int .i64 a2.state.Regs.c1, .int .i64 a2.state.Regs.c2, .int .i64 a2.state.Regs.c3, .int .i64 a2.state.Regs.c4, .int .i64 a2.state.Regs.c5, .int .i64 a2.state.Regs.c6, .int .i64 a2.state.Regs.c7, .int .i64 a2.state.Draws, .int .i64 a2.state.Sent]) 0 hS rfl rfl rfl rfl sizeOf34 rfl rfl rfl rfl) rfl ?_))))
    rintro _ w ⟨rfl, hS⟩
    have hS : St B w (Cl _ [_, _, _, _, _, _, _, _, _, _] _ :: _ :: _ :: _ :: _ :: _ :: _ :: _ :: l) hf := hS
    refine ln (RC.seq (sr (pn 1 rfl (cF (fun _ hg => log_Log_due.ok hr5 hr8 hx12 hg hS.p5.p5) call24 h rfl rfl rfl ?_))))
    rintro t170 h _ w ⟨rfl, hS⟩
    refine ln ?_
    refine RC.iteB 38 rfl h (fun hc172 h => ?_) fun hc172 h => ?_
    next =>
     refine RC.condT rfl (RC.region (RL.s (Vl.fa 9 underlying68 rfl sizeOf66 rfl rfl) rfl ?_))
     obtain ⟨hf, hs173, hS, hr174⟩ := St.freeze (E := E_api_State) (x := a2.state) hS.p2 rfl
     refine RL.e0 (OW.store (vs := [.pointer (some ⟨b164, 0, none⟩)]) 3 hS rfl rfl rfl rfl sizeOf66 rfl rfl rfl rfl) rfl ?_
     rintro _ w ⟨rfl, hS⟩
     have hS : St B w (_ :: _ :: _ :: Cl _ [_, _, _, _, _, _, _, _, _, _] _ :: _ :: _ :: _ :: l) hf := hS
     refine ln (RC.seq (RC.planS2 (plD [0, 3, 6, 9, 12, 15, 3019, 22, 31, 33, 37, 39, 26, 29, 44, 47, 50, 53, 56, 59, 62, 65, 68]) [20, 21, 22] [9, 14, 15, 16, 17, 18, 19, 20, 21, 22] hS (fun w hS => hS.d0.d0.d2) (fun w hS => hS.d4) follows rfl (by kernel_rfl) (NoTmp.then NoTmp.body) fun w hS => pp 5 rfl (RP.s0 5 rfl (fun w => Vl.fa 16 underlying59 rfl sizeOf57 rfl rfl) rfl (RP.s 1 6 rfl rfl hS.d4 (fun w hS => Vl.ld 0 hS isAgg57 rfl rfl rfl) rfl (RP.s 0 7 rfl rfl hS.d0.d0.d2 (fun w hS => Vl.lw 1 hS isAgg68 sizeOf68 rfl rfl rfl) rfl (RP.s 0 10 rfl rfl hS.d0.d0.d2 (fun w hS => Vl.lw 0 hS isAgg34 sizeOf34 rfl rfl rfl) rfl (RP.s0 11 rfl (fun w => Vl.fa 7 underlying68 rfl sizeOf29 rfl rfl) rfl (RP.s 0 12 rfl rfl hS.d0.d0.d2 (fun w hS => Vl.ld 1 hS isAgg29 rfl rfl rfl) rfl (pp 1 rfl ?_)))))))))
     obtain ⟨hf, hs205, hS, hr206⟩ := St.promote hS.p4
     have hx208 : RepL R_log_done hf [.int .i64 y158.event.Key.Time, .int .i64 y158.event.Key.From, .int .i64 y158.event.Key.Seq, .int .i64 y158.event.To, .int .i64 y158.event.Value, .int .i64 y158.event.Uid, .bool y158.event.Anti, .int .i64 y158.fault, .slice A160 y158.sent.length c161, .pointer (some ⟨b164, 0, none⟩)] [(⟨y158.event, y158.fault, y158.sent, (⟨true, a2.state⟩ : Pt api_State)⟩ : log_done)] := (RepL.cons (c := [.int .i64 y158.event.Key.Time, .int .i64 y158.event.Key.From, .int .i64 y158.event.Key.Seq, .int .i64 y158.event.To, .int .i64 y158.event.Value, .int .i64 y158.event.Uid, .bool y158.event.Anti, .int .i64 y158.fault, .slice A160 y158.sent.length c161, .pointer (some ⟨b164, 0, none⟩)]) (r := []) ⟨_, _, _, rfl, hr206, (hr174.mono hs205).pt⟩ RepL.nil)
     refine RP.e 8 rfl (OW.buildSliceR (sz := 10) (cs := [.int .i64 y158.event.Key.Time, .int .i64 y158.event.Key.From, .int .i64 y158.event.Key.Seq, .int .i64 y158.event.To, .int .i64 y158.event.Value, .int .i64 y158.event.Uid, .bool y158.event.Anti, .int .i64 y158.fault, .slice A160 y158.sent.length c161, .pointer (some ⟨b164, 0, none⟩)]) hS underlying57 zeroValue68 sizeOf68 (parts := [(0, .tmp 47)]) rfl rfl (by decide) (by decide) (by kernel_rfl)) rfl rfl ?_
     rintro _ w ⟨b207, rfl, hS⟩
     refine ⟨kp ⟨fun _ => (St.down hS.d0.d0.d0 hs205), fun _ => (St.down hS.d0 hs205), trivial⟩, ?_⟩
     obtain ⟨hq211, h⟩ := h.req
     obtain ⟨hf, hs209, hS, hr210⟩ := St.promoteR R_log_done_ok hS rfl hx208
     refine RP.e 9 rfl (OW.appendR (R := R_log_done) R_log_done_ok (xs := a2.l) (ys := [(⟨y158.event, y158.fault, y158.sent, (⟨true, a2.state⟩ : Pt api_State)⟩ : log_done)]) 1 hS rfl underlying57 type68 rfl rfl rfl rfl (by decide) (by decide) (((hx12.mono hs173).mono hs205).mono hs209) rfl rfl hr210 hq211 rfl) rfl rfl ?_
     rintro _ w ⟨cs214, hx215, hS⟩
     obtain ⟨A212, c213, rfl, _⟩ := hS.osShape 0 rfl
     have hS : St B w (_ :: _ :: _ :: _ :: _ :: _ :: l) hf := hS
     refine ⟨kp ⟨fun _ => (St.down hS.d0.d0 (hs205.trans hs209)), (by intro hx; cases hx), trivial⟩, ?_⟩
     refine RP.v1 14 rfl (Vl.nilCheck rfl) rfl rfl (RP.v1 15 rfl (Vl.fa 16 underlying59 rfl sizeOf57 rfl rfl) rfl rfl (RP.e0 16 rfl (OW.store (vs := [.slice A212 (a2.l ++ ([(⟨y158.event, y158.fault, y158.sent, (⟨true, a2.state⟩ : Pt api_State)⟩ : log_done)])).length c213]) 1 hS rfl rfl rfl rfl sizeOf57 rfl rfl rfl rfl) rfl ?_))
     rintro _ w ⟨rfl, hS⟩
     have hS : St B w (_ :: Cl _ [_, _, _, _, _, _, _, _, _, _, _, _, _, _, _, _, _, _] _ :: _ :: _ :: _ :: _ :: l) hf := hS
     refine ⟨kp ⟨fun _ => (St.down hS.d0.d0 (hs205.trans hs209)), (by intro hx; cases hx), trivial⟩, ?_⟩
     refine RP.v1 17 rfl (Vl.nilCheck rfl) rfl rfl (RP.v1 18 rfl (Vl.fa 5 underlying59 rfl sizeOf34 rfl rfl) rfl rfl (RP.e0 19 rfl (OW.store (vs := [.int .i64 y159.Regs.c0, .int .i64 y159.Regs.c1, .int .i64 y159.Regs.c2, .int .i64 y159.Regs.c3, .int .i64 y159.Regs.c4, .int .i64 y159.Regs.c5, .int .i64 y159.Regs.c6, .int .i64 y159.Regs.c7, .int .i64 y159.Draws, .int .i64 y159.Sent]) 1 hS rfl rfl rfl rfl sizeOf34 rfl rfl rfl rfl) rfl ?_))
     rintro _ w ⟨rfl, hS⟩
     have hS : St B w (_ :: Cl _ [_, _, _, _, _, _, _, _, _, _, _, _, _, _, _, _, _, _] _ :: _ :: _ :: _ :: _ :: l) hf := hS
     refine ⟨kp ⟨fun _ => (St.down hS.d0.d0 (hs205.trans hs209)), (by intro hx; cases hx), trivial⟩, ?_⟩
     refine RP.v1 20 rfl (Vl.nilCheck rfl) rfl rfl (RP.v1 21 rfl (Vl.fa 17 underlying59 rfl sizeOf4 rfl rfl) rfl rfl (RP.e0 22 rfl (OW.store (vs := [.bool (!decide (y158.fault = 0))]) 1 hS rfl rfl rfl rfl sizeOf4 rfl rfl rfl rfl) rfl ?_))
     rintro _ w ⟨rfl, hS⟩
     have hS : St B w (_ :: Cl _ [_, _, _, _, _, _, _, _, _, _, _, _, _, _, _, _, _, _] _ :: _ :: _ :: _ :: _ :: l) hf := hS
     refine ⟨kp ⟨(by intro hx; cases hx), (by intro hx; cases hx), trivial⟩, ?_⟩
     refine RP.nil (tsr (RL.s (Vl.lw 3 hS isAgg68 sizeOf68 rfl rfl rfl) rfl (RL.s (Vl.loadA (vs := [.int .i64 a2.state.Regs.c0, .int .i64 a2.state.Regs.c1, .int .i64 a2.state.Regs.c2, .int .i64 a2.state.Regs.c3, .int .i64 a2.state.Regs.c4, .int .i64 a2.state.Regs.c5, .int .i64 a2.state.Regs.c6, .int .i64 a2.state.Regs.c7, .int .i64 a2.state.Draws, .int .i64 a2.state.Sent]) isAgg34 sizeOf34 rfl rfl (((hr174.mono hs205).mono hs209).cells hS.sub)) rfl (cF (fun _ hg => log_done_entry.ok (a1 := (⟨y158.event, y158.fault, y158.sent, (⟨true, a2.state⟩ : Pt api_State)⟩ : log_done)) (hr206.mono hs209) (((hr174.mono hs205).mono hs209).pt) hg hS) call25 h rfl rfl rfl ?_))))
     rintro t216 h _ w ⟨A218, c219, rfl, hS⟩
     refine RL.e0 (OW.store (vs := [.int .i64 t216.Event.Key.Time, .int .i64 t216.Event.Key.From, .int .i64 t216.Event.Key.Seq, .int .i64 t216.Event.To, .int .i64 t216.Event.Value, .int .i64 t216.Event.Uid, .bool t216.Event.Anti, .int .i64 t216.Before.Regs.c0, .int .i64 t216.Before.Regs.c1, .int .i64 t216.Before.Regs.c2, .int .i64 t216.Before.Regs.c3, .int .i64 t216.Before.Regs.c4, .int .i64 t216.Before.Regs.c5, .int .i64 t216.Before.Regs.c6, .int .i64 t216.Before.Regs.c7, .int .i64 t216.Before.Draws, .int .i64 t216.Before.Sent, .int .i64 t216.Fault, .slice A218 t216.Sent.length c219]) 5 hS rfl rfl rfl rfl sizeOf44 rfl rfl rfl rfl) rfl ?_
     rintro _ w ⟨rfl, hS⟩
     have hS : St B w (_ :: _ :: _ :: _ :: _ :: Cl _ [_, _, _, _, _, _, _, _, _, _, _, _, _, _, _, _, _, _, _] _ :: _ :: l) hf := hS
     refine pn 1 rfl (lr ?_)
     obtain rfl := h.some
     refine RQ.ret0 (vs := [.agg #[.int .i64 t216.Event.Key.Time, .int .i64 t216.Event.Key.From, .int .i64 t216.Event.Key.Seq, .int .i64 t216.Event.To, .int .i64 t216.Event.Value, .int .i64 t216.Event.Uid, .bool t216.Event.Anti, .int .i64 t216.Before.Regs.c0, .int .i64 t216.Before.Regs.c1, .int .i64 t216.Before.Regs.c2, .int .i64 t216.Before.Regs.c3, .int .i64 t216.Before.Regs.c4, .int .i64 t216.Before.Regs.c5, .int .i64 t216.Before.Regs.c6, .int .i64 t216.Before.Regs.c7, .int .i64 t216.Before.Draws, .int .i64 t216.Before.Sent, .int .i64 t216.Fault, .slice A218 t216.Sent.length c219], .int .i64 0]) results9 ⟨⟨_, rfl, run_loadVarA (vs := [.int .i64 t216.Event.Key.Time, .int .i64 t216.Event.Key.From, .int .i64 t216.Event.Key.Seq, .int .i64 t216.Event.To, .int .i64 t216.Event.Value, .int .i64 t216.Event.Uid, .bool t216.Event.Anti, .int .i64 t216.Before.Regs.c0, .int .i64 t216.Before.Regs.c1, .int .i64 t216.Before.Regs.c2, .int .i64 t216.Before.Regs.c3, .int .i64 t216.Before.Regs.c4, .int .i64 t216.Before.Regs.c5, .int .i64 t216.Before.Regs.c6, .int .i64 t216.Before.Regs.c7, .int .i64 t216.Before.Draws, .int .i64 t216.Before.Sent, .int .i64 t216.Fault, .slice A218 t216.Sent.length c219]) isAgg44 sizeOf44 rfl (hS.cellsAt 5 rfl rfl)⟩, rfl, trivial⟩ ?_
     exact ⟨_, ((hs173.trans hs205).trans hs209), A218, c219, A212, c213, cs214, rfl, hS.d3.d3.d3.d3, hx215⟩
    next =>
     refine RC.condF rfl (sk (RC.seq (RC.planS2 (plD [0, 3, 6, 9, 12, 15, 3019, 22, 31, 33, 37, 39, 26, 29, 44, 47, 50, 53, 56, 59, 62, 65, 68]) [20, 21, 22] [9, 14, 15, 16, 17, 18, 19, 20, 21, 22] hS (fun w hS => hS.d0.d0.d3) (fun w hS => hS.d5) follows rfl (by kernel_rfl) (NoTmp.then NoTmp.body) fun w hS => pp 5 rfl (RP.s0 5 rfl (fun w => Vl.fa 16 underlying59 rfl sizeOf57 rfl rfl) rfl (RP.s 1 6 rfl rfl hS.d5 (fun w hS => Vl.ld 0 hS isAgg57 rfl rfl rfl) rfl (RP.s 0 7 rfl rfl hS.d0.d0.d3 (fun w hS => Vl.lw 2 hS isAgg68 sizeOf68 rfl rfl rfl) rfl (RP.s 0 10 rfl rfl hS.d0.d0.d3 (fun w hS => Vl.lw 1 hS isAgg34 sizeOf34 rfl rfl rfl) rfl (RP.s0 11 rfl (fun w => Vl.fa 7 underlying68 rfl sizeOf29 rfl rfl) rfl (RP.s 0 12 rfl rfl hS.d0.d0.d3 (fun w hS => Vl.ld 2 hS isAgg29 rfl rfl rfl) rfl (pp 1 rfl ?_))))))))))
     obtain ⟨hf, hs250, hS, hr251⟩ := St.promote hS.p5
     have hx253 : RepL R_log_done hf [.int .i64 y158.event.Key.Time, .int .i64 y158.event.Key.From, .int .i64 y158.event.Key.Seq, .int .i64 y158.event.To, .int .i64 y158.event.Value, .int .i64 y158.event.Uid, .bool y158.event.Anti, .int .i64 y158.fault, .slice A160 y158.sent.length c161, .pointer none] [(⟨y158.event, y158.fault, y158.sent, (⟨false, default⟩ : Pt api_State)⟩ : log_done)] := (RepL.cons (c := [.int .i64 y158.event.Key.Time, .int .i64 y158.event.Key.From, .int .i64 y158.event.Key.Seq, .int .i64 y158.event.To, .int .i64 y158.event.Value, .int .i64 y158.event.Uid, .bool y158.event.Anti, .int .i64 y158.fault, .slice A160 y158.sent.length c161, .pointer none]) (r := []) ⟨_, _, 0, rfl, hr251, PtR.nil⟩ RepL.nil)
     refine RP.e 8 rfl (OW.buildSliceR (sz := 10) (cs := [.int .i64 y158.event.Key.Time, .int .i64 y158.event.Key.From, .int .i64 y158.event.Key.Seq, .int .i64 y158.event.To, .int .i64 y158.event.Value, .int .i64 y158.event.Uid, .bool y158.event.Anti, .int .i64 y158.fault, .slice A160 y158.sent.length c161, .pointer none]) hS underlying57 zeroValue68 sizeOf68 (parts := [(0, .tmp 47)]) rfl rfl (by decide) (by decide) (by kernel_rfl)) rfl rfl ?_
     rintro _ w ⟨b252, rfl, hS⟩
     refine ⟨kp ⟨fun _ => (St.down hS.d0.d0.d0 hs250), fun _ => (St.down hS.d0 hs250), trivial⟩, ?_⟩
     obtain ⟨hq256, h⟩ := h.req
     obtain ⟨hf, hs254, hS, hr255⟩ := St.promoteR R_log_done_ok hS rfl hx253
     refine RP.e 9 rfl (OW.appendR (R := R_log_done) R_log_done_ok (xs := a2.l) (ys := [(⟨y158.event, y158.fault, y158.sent, (⟨false, default⟩ : Pt api_State)⟩ : log_done)]) 1 hS rfl underlying57 type68 rfl rfl rfl rfl (by decide) (by decide) ((hx12.mono hs250).mono hs254) rfl rfl hr255 hq256 rfl) rfl rfl ?_
     rintro _ w ⟨cs259, hx260, hS⟩
     obtain ⟨A257, c258, rfl, _⟩ := hS.osShape 0 rfl
     have hS : St B w (_ :: _ :: _ :: _ :: _ :: _ :: _ :: l) hf := hS
     refine ⟨kp ⟨fun _ => (St.down hS.d0.d0 (hs250.trans hs254)), (by intro hx; cases hx), trivial⟩, ?_⟩
     refine RP.v1 14 rfl (Vl.nilCheck rfl) rfl rfl (RP.v1 15 rfl (Vl.fa 16 underlying59 rfl sizeOf57 rfl rfl) rfl rfl (RP.e0 16 rfl (OW.store (vs := [.slice A257 (a2.l ++ ([(⟨y158.event, y158.fault, y158.sent, (⟨false, default⟩ : Pt api_State)⟩ : log_done)])).length c258]) 1 hS rfl rfl rfl rfl sizeOf57 rfl rfl rfl rfl) rfl ?_))
     rintro _ w ⟨rfl, hS⟩
     have hS : St B w (_ :: Cl _ [_, _, _, _, _, _, _, _, _, _, _, _, _, _, _, _, _, _] _ :: _ :: _ :: _ :: _ :: _ :: l) hf := hS
     refine ⟨kp ⟨fun _ => (St.down hS.d0.d0 (hs250.trans hs254)), (by intro hx; cases hx), trivial⟩, ?_⟩
     refine RP.v1 17 rfl (Vl.nilCheck rfl) rfl rfl (RP.v1 18 rfl (Vl.fa 5 underlying59 rfl sizeOf34 rfl rfl) rfl rfl (RP.e0 19 rfl (OW.store (vs := [.int .i64 y159.Regs.c0, .int .i64 y159.Regs.c1, .int .i64 y159.Regs.c2, .int .i64 y159.Regs.c3, .int .i64 y159.Regs.c4, .int .i64 y159.Regs.c5, .int .i64 y159.Regs.c6, .int .i64 y159.Regs.c7, .int .i64 y159.Draws, .int .i64 y159.Sent]) 1 hS rfl rfl rfl rfl sizeOf34 rfl rfl rfl rfl) rfl ?_))
     rintro _ w ⟨rfl, hS⟩
     have hS : St B w (_ :: Cl _ [_, _, _, _, _, _, _, _, _, _, _, _, _, _, _, _, _, _] _ :: _ :: _ :: _ :: _ :: _ :: l) hf := hS
     refine ⟨kp ⟨fun _ => (St.down hS.d0.d0 (hs250.trans hs254)), (by intro hx; cases hx), trivial⟩, ?_⟩
     refine RP.v1 20 rfl (Vl.nilCheck rfl) rfl rfl (RP.v1 21 rfl (Vl.fa 17 underlying59 rfl sizeOf4 rfl rfl) rfl rfl (RP.e0 22 rfl (OW.store (vs := [.bool (!decide (y158.fault = 0))]) 1 hS rfl rfl rfl rfl sizeOf4 rfl rfl rfl rfl) rfl ?_))
     rintro _ w ⟨rfl, hS⟩
     have hS : St B w (_ :: Cl _ [_, _, _, _, _, _, _, _, _, _, _, _, _, _, _, _, _, _] _ :: _ :: _ :: _ :: _ :: _ :: l) hf := hS
     refine ⟨kp ⟨(by intro hx; cases hx), (by intro hx; cases hx), trivial⟩, ?_⟩
     refine RP.nil (tsr (RL.s (Vl.lw 4 hS isAgg68 sizeOf68 rfl rfl rfl) rfl (RL.s (Vl.lw 2 hS isAgg34 sizeOf34 rfl rfl rfl) rfl (cF (fun _ hg => log_done_entry.ok (a1 := (⟨y158.event, y158.fault, y158.sent, (⟨false, default⟩ : Pt api_State)⟩ : log_done)) (hr251.mono hs254) (PtR.nil (b := 0)) hg hS) call25 h rfl rfl rfl ?_))))
     rintro t261 h _ w ⟨A263, c264, rfl, hS⟩
     refine RL.e0 (OW.store (vs := [.int .i64 t261.Event.Key.Time, .int .i64 t261.Event.Key.From, .int .i64 t261.Event.Key.Seq, .int .i64 t261.Event.To, .int .i64 t261.Event.Value, .int .i64 t261.Event.Uid, .bool t261.Event.Anti, .int .i64 t261.Before.Regs.c0, .int .i64 t261.Before.Regs.c1, .int .i64 t261.Before.Regs.c2, .int .i64 t261.Before.Regs.c3, .int .i64 t261.Before.Regs.c4, .int .i64 t261.Before.Regs.c5, .int .i64 t261.Before.Regs.c6, .int .i64 t261.Before.Regs.c7, .int .i64 t261.Before.Draws, .int .i64 t261.Before.Sent, .int .i64 t261.Fault, .slice A263 t261.Sent.length c264]) 6 hS rfl rfl rfl rfl sizeOf44 rfl rfl rfl rfl) rfl ?_
     rintro _ w ⟨rfl, hS⟩
     have hS : St B w (_ :: _ :: _ :: _ :: _ :: _ :: Cl _ [_, _, _, _, _, _, _, _, _, _, _, _, _, _, _, _, _, _, _] _ :: _ :: l) hf := hS
     refine pn 1 rfl (lr ?_)
     obtain rfl := h.some
     refine RQ.ret0 (vs := [.agg #[.int .i64 t261.Event.Key.Time, .int .i64 t261.Event.Key.From, .int .i64 t261.Event.Key.Seq, .int .i64 t261.Event.To, .int .i64 t261.Event.Value, .int .i64 t261.Event.Uid, .bool t261.Event.Anti, .int .i64 t261.Before.Regs.c0, .int .i64 t261.Before.Regs.c1, .int .i64 t261.Before.Regs.c2, .int .i64 t261.Before.Regs.c3, .int .i64 t261.Before.Regs.c4, .int .i64 t261.Before.Regs.c5, .int .i64 t261.Before.Regs.c6, .int .i64 t261.Before.Regs.c7, .int .i64 t261.Before.Draws, .int .i64 t261.Before.Sent, .int .i64 t261.Fault, .slice A263 t261.Sent.length c264], .int .i64 0]) results9 ⟨⟨_, rfl, run_loadVarA (vs := [.int .i64 t261.Event.Key.Time, .int .i64 t261.Event.Key.From, .int .i64 t261.Event.Key.Seq, .int .i64 t261.Event.To, .int .i64 t261.Event.Value, .int .i64 t261.Event.Uid, .bool t261.Event.Anti, .int .i64 t261.Before.Regs.c0, .int .i64 t261.Before.Regs.c1, .int .i64 t261.Before.Regs.c2, .int .i64 t261.Before.Regs.c3, .int .i64 t261.Before.Regs.c4, .int .i64 t261.Before.Regs.c5, .int .i64 t261.Before.Regs.c6, .int .i64 t261.Before.Regs.c7, .int .i64 t261.Before.Draws, .int .i64 t261.Before.Sent, .int .i64 t261.Fault, .slice A263 t261.Sent.length c264]) isAgg44 sizeOf44 rfl (hS.cellsAt 6 rfl rfl)⟩, rfl, trivial⟩ ?_
     exact ⟨_, (hs250.trans hs254), A263, c264, A257, c258, cs259, rfl, hS.d3.d3.d3.d3.d3, hx260⟩
   next =>
    refine RC.condT rfl (sr (RL.s (Vl.build (v := .agg #[.int .i64 0, .int .i64 0, .int .i64 0, .int .i64 0, .int .i64 0, .int .i64 0, .bool false, .int .i64 0, .int .i64 0, .int .i64 0, .int .i64 0, .int .i64 0, .int .i64 0, .int .i64 0, .int .i64 0, .int .i64 0, .int .i64 0, .int .i64 0, .slice none 0 0]) (parts := []) rfl (by kernel_rfl)) rfl (pn 1 rfl (RL.e0 (OW.store (vs := [.int .i64 0, .int .i64 0, .int .i64 0, .int .i64 0, .int .i64 0, .int .i64 0, .bool false, .int .i64 0, .int .i64 0, .int .i64 0, .int .i64 0, .int .i64 0, .int .i64 0, .int .i64 0, .int .i64 0, .int .i64 0, .int .i64 0, .int .i64 0, .slice none 0 0]) 2 hS rfl rfl rfl rfl sizeOf44 rfl rfl rfl rfl) rfl ?_))))
    rintro _ w ⟨rfl, hS⟩
    have hS : St B w (_ :: _ :: Cl _ [_, _, _, _, _, _, _, _, _, _, _, _, _, _, _, _, _, _, _] _ :: _ :: l) hf := hS
    refine pn 1 rfl (lr (RQ.ret ?_))
    have hS := hS.nilSl E_api_Message 42
    obtain rfl := h.some
    refine RQ.ret0 (vs := [.agg #[.int .i64 0, .int .i64 0, .int .i64 0, .int .i64 0, .int .i64 0, .int .i64 0, .bool false, .int .i64 0, .int .i64 0, .int .i64 0, .int .i64 0, .int .i64 0, .int .i64 0, .int .i64 0, .int .i64 0, .int .i64 0, .int .i64 0, .int .i64 0, .slice none 0 0], .int .i64 t153]) results9 ⟨⟨_, rfl, run_loadVarA (vs := [.int .i64 0, .int .i64 0, .int .i64 0, .int .i64 0, .int .i64 0, .int .i64 0, .bool false, .int .i64 0, .int .i64 0, .int .i64 0, .int .i64 0, .int .i64 0, .int .i64 0, .int .i64 0, .int .i64 0, .int .i64 0, .int .i64 0, .int .i64 0, .slice none 0 0]) isAgg44 sizeOf44 rfl (hS.cellsAt 3 rfl rfl)⟩, rfl, trivial⟩ ?_
    exact ⟨_, (Sub.refl _), none, 0, A9, c10, cs11, rfl, hS.d3.d3.p2.p1, hx12⟩

/-! ### (*isochron/log.Log).states: function 26 -/
noncomputable def log_Log_states.f (a2 : log_Log) (a13 : Int) : Option (Int) := some a13
theorem log_Log_states.ok {a2 : log_Log} {a13 : Int} {b1 : Nat} {A3 : Option Addr} {c4 : Nat} {A6 : Option Addr} {c7 : Nat} {A9 : Option Addr} {c10 : Nat} {cs11 : List Value} (hr5 : SlR E_api_Instr.rep hf A3 c4 a2.w.Prog) (hr8 : SlR E_api_Link.rep hf A6 c7 a2.w.Links) (hx12 : RepL R_log_done hf cs11 a2.l) {r : Int} (h : log_Log_states.f a2 a13 = some r) (hS : St B w (Cl b1 [.slice A3 a2.w.Prog.length c4, .int .i64 a2.w.Self, .slice A6 a2.w.Links.length c7, .int .u64 a2.w.Seed, .bool a2.made, .int .i64 a2.state.Regs.c0, .int .i64 a2.state.Regs.c1, .int .i64 a2.state.Regs.c2, .int .i64 a2.state.Regs.c3, .int .i64 a2.state.Regs.c4, .int .i64 a2.state.Regs.c5, .int .i64 a2.state.Regs.c6, .int .i64 a2.state.Regs.c7, .int .i64 a2.state.Draws, .int .i64 a2.state.Sent, .int .i64 a2.every, .slice A9 a2.l.length c10, .bool a2.stuck] 59 :: OSl 68 10 (.slice A9 a2.l.length c10) a2.l.length cs11 :: l) hf) :
    Calls prog 26 #[.pointer (some ⟨b1, 0, none⟩), .int .i64 a13] w (Ret fun v w => ∃ (b_1 : Nat) (b_2 : Nat), v = .func (.func 35) #[] #[.pointer (some ⟨b_1, 0, none⟩), .pointer (some ⟨b_2, 0, none⟩)] ∧ St B w (Cl b_1 [.int .i64 r] 3 :: Cl b_2 [.pointer (some ⟨b1, 0, none⟩)] 28 :: Cl b1 [.slice A3 a2.w.Prog.length c4, .int .i64 a2.w.Self, .slice A6 a2.w.Links.length c7, .int .u64 a2.w.Seed, .bool a2.made, .int .i64 a2.state.Regs.c0, .int .i64 a2.state.Regs.c1, .int .i64 a2.state.Regs.c2, .int .i64 a2.state.Regs.c3, .int .i64 a2.state.Regs.c4, .int .i64 a2.state.Regs.c5, .int .i64 a2.state.Regs.c6, .int .i64 a2.state.Regs.c7, .int .i64 a2.state.Draws, .int .i64 a2.state.Sent, .int .i64 a2.every, .slice A9 a2.l.length c10, .bool a2.stuck] 59 :: OSl 68 10 (.slice A9 a2.l.length c10) a2.l.length cs11 :: l) hf) := by
  have h := Holds.of h
  refine en func26 rfl ntmps26 rfl (sr (bx hS rfl rfl rfl rfl fun b16 w hS => bx hS rfl rfl rfl rfl fun b17 w hS => pn 1 rfl (lnsr (RL.s (Vl.makeFunc (fi := []) (ca := [.tmp 3, .tmp 2]) rfl rfl) rfl (pn 1 rfl (lr ?_))))))
  obtain rfl := h.some
  exact rt results26 rfl ⟨b17, b16, rfl, hS⟩

/-! ### (*isochron/log.Log).All_round0: function 1000100 -/
noncomputable def log_Log_All_round0.f (a6 : log_Log) (a18 : (List api_Entry)) (a23 : Int) (a24 : api_State) : Option (List api_Entry) := (if 0 ≤ a23 ∧ a23 < (a6.l.length : Int) then ((log_done_entry.f (⟨(⟨((nth a6.l a23).event).Key, ((nth a6.l a23).event).To, ((nth a6.l a23).event).Value, ((nth a6.l a23).event).Uid, (((nth a6.l a23).event).Anti)⟩ : api_Message), (nth a6.l a23).fault, (nth a6.l a23).sent, (nth a6.l a23).ahead⟩ : log_done) a24).bind fun t58 => (if (a18.length + ([t58]).length) * 168 ≤ 140737488355328 then some (a18 ++ ([t58])) else none)) else none)
theorem log_Log_All_round0.ok {a6 : log_Log} {a18 : (List api_Entry)} {a23 : Int} {a24 : api_State} {b1 : Nat} {rc2 : Loop} {b4 b5 : Nat} {A7 : Option Addr} {c8 : Nat} {A10 : Option Addr} {c11 : Nat} {A13 : Option Addr} {c14 : Nat} {cs15 : List Value} {b17 : Nat} {A19 : Option Addr} {c20 : Nat} {cs21 : List Value} (hr9 : SlR E_api_Instr.rep hf A7 c8 a6.w.Prog) (hr12 : SlR E_api_Link.rep hf A10 c11 a6.w.Links) (hx16 : RepL R_log_done hf cs15 a6.l) (hx22 : RepL R_api_Entry hf cs21 a18) (hr3 : RecF f10 0 25 [(1, .pointer (some ⟨b4, 0, none⟩)), (3, .pointer (some ⟨b17, 0, none⟩))] rc2) {r : List api_Entry} (h : log_Log_All_round0.f a6 a18 a23 a24 = some r) (hS : St B w (pts b1 (.loop rc2) :: Cl b5 [.slice A7 a6.w.Prog.length c8, .int .i64 a6.w.Self, .slice A10 a6.w.Links.length c11, .int .u64 a6.w.Seed, .bool a6.made, .int .i64 a6.state.Regs.c0, .int .i64 a6.state.Regs.c1, .int .i64 a6.state.Regs.c2, .int .i64 a6.state.Regs.c3, .int .i64 a6.state.Regs.c4, .int .i64 a6.state.Regs.c5, .int .i64 a6.state.Regs.c6, .int .i64 a6.state.Regs.c7, .int .i64 a6.state.Draws, .int .i64 a6.state.Sent, .int .i64 a6.every, .slice A13 a6.l.length c14, .bool a6.stuck] 59 :: OSl 68 10 (.slice A13 a6.l.length c14) a6.l.length cs15 :: Cl b4 [.pointer (some ⟨b5, 0, none⟩)] 28 :: Cl b17 [.slice A19 a18.length c20] 47 :: OSl 44 19 (.slice A19 a18.length c20) a18.length cs21 :: l) hf) :
    Yld prog b1 [.int .i64 a23, .agg #[.int .i64 a24.Regs.c0, .int .i64 a24.Regs.c1, .int .i64 a24.Regs.c2, .int .i64 a24.Regs.c3, .int .i64 a24.Regs.c4, .int .i64 a24.Regs.c5, .int .i64 a24.Regs.c6, .int .i64 a24.Regs.c7, .int .i64 a24.Draws, .int .i64 a24.Sent]] w (Ret fun v w => ∃ hf_ : Hp, Sub hf hf_ ∧ ∃ (A_1 : Option Addr) (c_2 : Nat) (cs_3 : List Value), v = .bool true ∧ St B w (OSl 44 19 (.slice A_1 r.length c_2) r.length cs_3 :: pts b1 (.loop rc2) :: Cl b5 [.slice A7 a6.w.Prog.length c8, .int .i64 a6.w.Self, .slice A10 a6.w.Links.length c11, .int .u64 a6.w.Seed, .bool a6.made, .int .i64 a6.state.Regs.c0, .int .i64 a6.state.Regs.c1, .int .i64 a6.state.Regs.c2, .int .i64 a6.state.Regs.c3, .int .i64 a6.state.Regs.c4, .int .i64 a6.state.Regs.c5, .int .i64 a6.state.Regs.c6, .int .i64 a6.state.Regs.c7, .int .i64 a6.state.Draws, .int .i64 a6.state.Sent, .int .i64 a6.every, .slice A13 a6.l.length c14, .bool a6.stuck] 59 :: OSl 68 10 (.slice A13 a6.l.length c14) a6.l.length cs15 :: Cl b4 [.pointer (some ⟨b5, 0, none⟩)] 28 :: Cl b17 [.slice A_1 r.length c_2] 47 :: l) hf_ ∧ RepL R_api_Entry hf_ cs_3 r) := by
  have h := Holds.of h
  refine Yld.of (psl := [10, 11]) hS hr3 rfl rfl rfl ?_
  show RC _ ⟨25, [], false⟩ _ _ [(11, .agg #[.int .i64 a24.Regs.c0, .int .i64 a24.Regs.c1, .int .i64 a24.Regs.c2, .int .i64 a24.Regs.c3, .int .i64 a24.Regs.c4, .int .i64 a24.Regs.c5, .int .i64 a24.Regs.c6, .int .i64 a24.Regs.c7, .int .i64 a24.Draws, .int .i64 a24.Sent]), (10, .int .i64 a23), (1, .pointer (some ⟨b4, 0, none⟩)), (3, .pointer (some ⟨b17, 0, none⟩))] w
  refine sr (pn 1 rfl (ln (RC.region (al hS zeroValue34 rfl rfl rfl fun b49 w hS => RL.e0 (OW.store (vs := [.int .i64 a24.Regs.c0, .int .i64 a24.Regs.c1, .int .i64 a24.Regs.c2, .int .i64 a24.Regs.c3, .int .i64 a24.Regs.c4, .int .i64 a24.Regs.c5, .int .i64 a24.Regs.c6, .int .i64 a24.Regs.c7, .int .i64 a24.Draws, .int .i64 a24.Sent]) 0 hS rfl rfl rfl rfl sizeOf34 rfl rfl rfl rfl) rfl ?_))))
  rintro _ w ⟨rfl, hS⟩
  have hS : St B w (Cl _ [_, _, _, _, _, _, _, _, _, _] _ :: _ :: _ :: _ :: _ :: _ :: _ :: l) hf := hS
  refine ln (RQ.bg hS.p1 hr3.state rfl fun w hS => RC.block (RC.planS (plD [1, 4, 6, 9, 13, 15, 19, 22, 26, 29, 32, 35, 38]) [11, 12] hS (fun w hS => hS) follows rfl (by kernel_rfl) (NoTmp.block NoTmp.round) fun w hS => RP.s 0 0 rfl rfl hS (fun w hS => Vl.ld 5 hS isAgg47 rfl rfl rfl) rfl (RP.s 0 1 rfl rfl hS (fun w hS => Vl.ld 4 hS isAgg28 rfl rfl rfl) rfl (pp 1 rfl (RP.s0 3 rfl (fun w => Vl.fa 16 underlying59 rfl sizeOf57 rfl rfl) rfl (RP.s 0 4 rfl rfl hS (fun w hS => Vl.ld 2 hS isAgg57 rfl rfl rfl) rfl (pp 1 rfl ?_)))))))
  obtain ⟨⟨hq50, hq51⟩, h⟩ := h.req
  refine RP.s 0 6 rfl rfl hS (fun w hS => Vl.indexOwn 3 hS rfl underlying57 sizeOf68 rfl rfl hq50 hq51) rfl ?_
  obtain ⟨_, ⟨A53, c54, b56, rfl, hr55, hr57⟩, hl52⟩ := RepL.elem R_log_done_ok hx16 hq50 hq51
  refine RP.s 0 7 rfl rfl hS (fun w hS => Vl.loadA (vs := [.int .i64 ((((nth a6.l a23).event).Key).Time), .int .i64 ((((nth a6.l a23).event).Key).From), .int .i64 ((((nth a6.l a23).event).Key).Seq), .int .i64 (((nth a6.l a23).event).To), .int .i64 (((nth a6.l a23).event).Value), .int .i64 (((nth a6.l a23).event).Uid), .bool (((nth a6.l a23).event).Anti), .int .i64 ((nth a6.l a23).fault), .slice A53 ((nth a6.l a23).sent).length c54, .pointer (pz b56 ((nth a6.l a23).ahead).has)]) isAgg68 sizeOf68 rfl rfl (hS.elemCells 3 rfl hl52 (off := 0) rfl)) rfl (RP.v1 8 rfl (Vl.lw 1 hS isAgg34 sizeOf34 rfl rfl rfl) rfl rfl ?_)
  obtain ⟨t58, hg59, h⟩ := h.bind
  have hc := log_done_entry.ok (a1 := (⟨(⟨((nth a6.l a23).event).Key, ((nth a6.l a23).event).To, ((nth a6.l a23).event).Value, ((nth a6.l a23).event).Uid, (((nth a6.l a23).event).Anti)⟩ : api_Message), (nth a6.l a23).fault, (nth a6.l a23).sent, (nth a6.l a23).ahead⟩ : log_done)) hr55 hr57 hg59 hS
  refine RP.e 9 rfl (OW.callF (ls := [.tmp 19, .tmp 20]) rfl call25 hc) rfl rfl ?_
  rintro _ w ⟨A60, c61, rfl, hS⟩
  refine ⟨kp ⟨fun _ => hS.d0, trivial⟩, ?_⟩
  obtain ⟨hf, hs62, hS, hr63⟩ := St.promote hS
  have hx65 : RepL R_api_Entry hf [.int .i64 t58.Event.Key.Time, .int .i64 t58.Event.Key.From, .int .i64 t58.Event.Key.Seq, .int .i64 t58.Event.To, .int .i64 t58.Event.Value, .int .i64 t58.Event.Uid, .bool t58.Event.Anti, .int .i64 t58.Before.Regs.c0, .int .i64 t58.Before.Regs.c1, .int .i64 t58.Before.Regs.c2, .int .i64 t58.Before.Regs.c3, .int .i64 t58.Before.Regs.c4, .int .i64 t58.Before.Regs.c5, .int .i64 t58.Before.Regs.c6, .int .i64 t58.Before.Regs.c7, .int .i64 t58.Before.Draws, .int .i64 t58.Before.Sent, .int .i64 t58.Fault, .slice A60 t58.Sent.length c61] [t58] := (RepL.cons (c := [.int .i64 t58.Event.Key.Time, .int .i64 t58.Event.Key.From, .int .i64 t58.Event.Key.Seq, .int .i64 t58.Event.To, .int .i64 t58.Event.Value, .int .i64 t58.Event.Uid, .bool t58.Event.Anti, .int .i64 t58.Before.Regs.c0, .int .i64 t58.Before.Regs.c1, .int .i64 t58.Before.Regs.c2, .int .i64 t58.Before.Regs.c3, .int .i64 t58.Before.Regs.c4, .int .i64 t58.Before.Regs.c5, .int .i64 t58.Before.Regs.c6, .int .i64 t58.Before.Regs.c7, .int .i64 t58.Before.Draws, .int .i64 t58.Before.Sent, .int .i64 t58.Fault, .slice A60 t58.Sent.length c61]) (r := []) ⟨_, _, rfl, hr63⟩ RepL.nil)
  refine RP.e 10 rfl (OW.buildSliceR (sz := 19) (cs := [.int .i64 t58.Event.Key.Time, .int .i64 t58.Event.Key.From, .int .i64 t58.Event.Key.Seq, .int .i64 t58.Event.To, .int .i64 t58.Event.Value, .int .i64 t58.Event.Uid, .bool t58.Event.Anti, .int .i64 t58.Before.Regs.c0, .int .i64 t58.Before.Regs.c1, .int .i64 t58.Before.Regs.c2, .int .i64 t58.Before.Regs.c3, .int .i64 t58.Before.Regs.c4, .int .i64 t58.Before.Regs.c5, .int .i64 t58.Before.Regs.c6, .int .i64 t58.Before.Regs.c7, .int .i64 t58.Before.Draws, .int .i64 t58.Before.Sent, .int .i64 t58.Fault, .slice A60 t58.Sent.length c61]) hS underlying47 zeroValue44 sizeOf44 (parts := [(0, .tmp 21)]) rfl rfl (by decide) (by decide) (by kernel_rfl)) rfl rfl ?_
  rintro _ w ⟨b64, rfl, hS⟩
  refine ⟨kp ⟨fun _ => (St.down hS.d0 hs62), trivial⟩, ?_⟩
  obtain ⟨hq68, h⟩ := h.req
  obtain ⟨hf, hs66, hS, hr67⟩ := St.promoteR R_api_Entry_ok hS rfl hx65
  refine RP.e 11 rfl (OW.appendR (R := R_api_Entry) R_api_Entry_ok (xs := a18) (ys := [t58]) 6 hS rfl underlying47 type44 rfl rfl rfl rfl (by decide) (by decide) ((hx22.mono hs62).mono hs66) rfl rfl hr67 hq68 rfl) rfl rfl ?_
  rintro _ w ⟨cs71, hx72, hS⟩
  obtain ⟨A69, c70, rfl, _⟩ := hS.osShape 0 rfl
  have hS : St B w (_ :: _ :: _ :: _ :: _ :: _ :: _ :: l) hf := hS
  refine ⟨kp ⟨(by intro hx; cases hx), trivial⟩, ?_⟩
  refine RP.e0 12 rfl (OW.store (vs := [.slice A69 (a18 ++ ([t58])).length c70]) 6 hS rfl rfl rfl rfl sizeOf47 rfl rfl rfl rfl) rfl ?_
  rintro _ w ⟨rfl, hS⟩
  have hS : St B w (_ :: _ :: _ :: _ :: _ :: _ :: Cl _ [_] _ :: l) hf := hS
  refine ⟨kp ⟨(by intro hx; cases hx), trivial⟩, ?_⟩
  refine RP.nil (RQ.inB_n ?_)
  obtain rfl := h.some
  exact RQ.rn hS.p1 hr3.state hr3.pending fun w hS => ⟨_, (hs62.trans hs66), A69, c70, cs71, rfl, hS.d2.p1, hx72⟩

/-! ### (*isochron/log.Log).states$1: function 35 -/
noncomputable def log_Log_states_1.j23 (a6 : log_Log) (l805 : List api_Entry) (x811 : Int) (y967 : api_State) : Option ((List api_Entry × api_State × Int) ⊕ (List api_Entry × Int)) := ((log_Log_All_round0.f a6 l805 x811 y967).bind fun t975 => (if 0 ≤ x811 then ((vm_Run.f a6.w y967 (⟨((nth a6.l x811).event).Key, ((nth a6.l x811).event).To, ((nth a6.l x811).event).Value, ((nth a6.l x811).event).Uid, (((nth a6.l x811).event).Anti)⟩ : api_Message)).bind fun (y991, y992, y993) => some (.inl (t975, y991, IntKind.i64.wrap (x811 + 1)))) else none))
noncomputable def log_Log_states_1.l21b (a6 : log_Log) (x611 : Int) : List api_Entry × api_State × Int → Option ((List api_Entry × api_State × Int) ⊕ (List api_Entry × Int))
  | (l805, y810, x811) => (if x811 < (a6.l.length : Int) then (if 0 ≤ x811 then (if ((nth a6.l x811).ahead).has = true then log_Log_states_1.j23 a6 l805 x811 (((nth a6.l x811).ahead).val) else log_Log_states_1.j23 a6 l805 x811 y810) else none) else some (.inr (l805, x611)))
noncomputable def log_Log_states_1.l21 (a6 : log_Log) (x611 : Int) (s : List api_Entry × api_State × Int) : Option (List api_Entry × Int) := loopR (log_Log_states_1.l21b a6 x611) s
noncomputable def log_Log_states_1.j14 (a6 : log_Log) (a18 : (List api_Entry)) (x611 : Int) : Option (List api_Entry × Int) := log_Log_states_1.l21 a6 x611 (a18, (⟨(⟨0, 0, 0, 0, 0, 0, 0, 0⟩ : Arr8xInti64), 0, 0⟩ : api_State), x611)
noncomputable def log_Log_states_1.l24b (a6 : log_Log) (a18 : (List api_Entry)) : Int → Option ((Int) ⊕ (List api_Entry × Int))
  | (x1025) => (if 0 < x1025 then (if 0 ≤ x1025 ∧ x1025 < (a6.l.length : Int) then (if ((nth a6.l x1025).ahead).has = true then (Option.map Sum.inr (log_Log_states_1.j14 a6 a18 x1025)) else some (.inl (IntKind.i64.wrap (x1025 - 1)))) else none) else (Option.map Sum.inr (log_Log_states_1.j14 a6 a18 x1025)))
noncomputable def log_Log_states_1.l24 (a6 : log_Log) (a18 : (List api_Entry)) (s : Int) : Option (List api_Entry × Int) := loopR (log_Log_states_1.l24b a6 a18) s
noncomputable def log_Log_states_1.f (a6 : log_Log) (a18 : (List api_Entry)) (a24 : Int) : Option (List api_Entry × Int) := log_Log_states_1.l24 a6 a18 (a24)
theorem log_Log_states_1.ok {a6 : log_Log} {a18 : (List api_Entry)} {a24 : Int} {b1 : Nat} {rc2 : Loop} {b4 b5 : Nat} {A7 : Option Addr} {c8 : Nat} {A10 : Option Addr} {c11 : Nat} {A13 : Option Addr} {c14 : Nat} {cs15 : List Value} {b17 : Nat} {A19 : Option Addr} {c20 : Nat} {cs21 : List Value} {b23 b25 : Nat} (hr9 : SlR E_api_Instr.rep hf A7 c8 a6.w.Prog) (hr12 : SlR E_api_Link.rep hf A10 c11 a6.w.Links) (hx16 : RepL R_log_done hf cs15 a6.l) (hx22 : RepL R_api_Entry hf cs21 a18) (hr3 : RecF f10 0 25 [(1, .pointer (some ⟨b4, 0, none⟩)), (3, .pointer (some ⟨b17, 0, none⟩))] rc2) (hG0 : GlobAt hf 0 (.iface 119 (.agg #[.pointer (some ⟨1, 76, none⟩)]))) {r : List api_Entry × Int} (h : log_Log_states_1.f a6 a18 a24 = some r) (hS : St B w (pts b1 (.loop rc2) :: Cl b5 [.slice A7 a6.w.Prog.length c8, .int .i64 a6.w.Self, .slice A10 a6.w.Links.length c11, .int .u64 a6.w.Seed, .bool a6.made, .int .i64 a6.state.Regs.c0, .int .i64 a6.state.Regs.c1, .int .i64 a6.state.Regs.c2, .int .i64 a6.state.Regs.c3, .int .i64 a6.state.Regs.c4, .int .i64 a6.state.Regs.c5, .int .i64 a6.state.Regs.c6, .int .i64 a6.state.Regs.c7, .int .i64 a6.state.Draws, .int .i64 a6.state.Sent, .int .i64 a6.every, .slice A13 a6.l.length c14, .bool a6.stuck] 59 :: OSl 68 10 (.slice A13 a6.l.length c14) a6.l.length cs15 :: Cl b4 [.pointer (some ⟨b5, 0, none⟩)] 28 :: Cl b17 [.slice A19 a18.length c20] 47 :: OSl 44 19 (.slice A19 a18.length c20) a18.length cs21 :: Cl b23 [.int .i64 a24] 3 :: Cl b25 [.pointer (some ⟨b5, 0, none⟩)] 28 :: l) hf) :
    Calls prog 35 #[.func (.yield b1) #[] #[], .pointer (some ⟨b23, 0, none⟩), .pointer (some ⟨b25, 0, none⟩)] w (Ret fun v w => ∃ hf_ : Hp, Sub hf hf_ ∧ ∃ (A_1 : Option Addr) (c_2 : Nat) (cs_3 : List Value), v = .tuple #[] ∧ St B w (OSl 44 19 (.slice A_1 r.1.length c_2) r.1.length cs_3 :: pts b1 (.loop rc2) :: Cl b5 [.slice A7 a6.w.Prog.length c8, .int .i64 a6.w.Self, .slice A10 a6.w.Links.length c11, .int .u64 a6.w.Seed, .bool a6.made, .int .i64 a6.state.Regs.c0, .int .i64 a6.state.Regs.c1, .int .i64 a6.state.Regs.c2, .int .i64 a6.state.Regs.c3, .int .i64 a6.state.Regs.c4, .int .i64 a6.state.Regs.c5, .int .i64 a6.state.Regs.c6, .int .i64 a6.state.Regs.c7, .int .i64 a6.state.Draws, .int .i64 a6.state.Sent, .int .i64 a6.every, .slice A13 a6.l.length c14, .bool a6.stuck] 59 :: OSl 68 10 (.slice A13 a6.l.length c14) a6.l.length cs15 :: Cl b4 [.pointer (some ⟨b5, 0, none⟩)] 28 :: Cl b17 [.slice A_1 r.1.length c_2] 47 :: Cl b23 [.int .i64 r.2] 3 :: Cl b25 [.pointer (some ⟨b5, 0, none⟩)] 28 :: l) hf_ ∧ RepL R_api_Entry hf_ cs_3 r.1) := by
  have h := Holds.of h
  refine en func35 rfl ntmps35 rfl ?_
  refine RC.join (fun (s : Int) a w => ∃ (x611 : Int), s = (x611) ∧ Has 68 [(0, .func (.yield b1) #[] #[]), (1, .pointer (some ⟨b23, 0, none⟩)), (2, .pointer (some ⟨b25, 0, none⟩))] a ∧ St B w (OSl 68 10 (.slice A13 a6.l.length c14) a6.l.length cs15 :: OSl 44 19 (.slice A19 a18.length c20) a18.length cs21 :: pts b1 (.loop rc2) :: Cl b5 [.slice A7 a6.w.Prog.length c8, .int .i64 a6.w.Self, .slice A10 a6.w.Links.length c11, .int .u64 a6.w.Seed, .bool a6.made, .int .i64 a6.state.Regs.c0, .int .i64 a6.state.Regs.c1, .int .i64 a6.state.Regs.c2, .int .i64 a6.state.Regs.c3, .int .i64 a6.state.Regs.c4, .int .i64 a6.state.Regs.c5, .int .i64 a6.state.Regs.c6, .int .i64 a6.state.Regs.c7, .int .i64 a6.state.Draws, .int .i64 a6.state.Sent, .int .i64 a6.every, .slice A13 a6.l.length c14, .bool a6.stuck] 59 :: Cl b4 [.pointer (some ⟨b5, 0, none⟩)] 28 :: Cl b17 [.slice A19 a18.length c20] 47 :: Cl b23 [.int .i64 x611] 3 :: Cl b25 [.pointer (some ⟨b5, 0, none⟩)] 28 :: l) hf ∧ Holds (· = r) (log_Log_states_1.j14 a6 a18 x611)) ?_ ?_
  · rintro x611 a w ⟨_, rfl, ha, hS, h⟩
    revert a
    show RC _ _ _ _ _ _
    refine sr (al hS zeroValue34 rfl rfl rfl fun b612 w hS => lnsr (RL.s (Vl.ld 7 hS isAgg3 rfl rfl rfl) rfl (pn 1 rfl (ln (RC.block ?_)))))
    refine fun a ha => RC.loop (N := 68) (body := (log_Log_states_1.l21b a6 x611)) (φ := (· = r)) (fun (s : List api_Entry × api_State × Int) a w => ∃ (l805 : List api_Entry) (y810 : api_State) (x811 : Int), s = (l805, y810, x811) ∧ ∃ hf_ : Hp, Sub hf hf_ ∧ ∃ (A806 : Option Addr) (c807 : Nat) (cs808 : List Value), Has 68 [(0, .func (.yield b1) #[] #[]), (2, .pointer (some ⟨b25, 0, none⟩)), (4, .pointer (some ⟨b612, 0, none⟩)), (5, .int .i64 x811)] a ∧ St B w (OSl 68 10 (.slice A13 a6.l.length c14) a6.l.length cs15 :: OSl 44 19 (.slice A806 l805.length c807) l805.length cs808 :: Cl b612 [.int .i64 y810.Regs.c0, .int .i64 y810.Regs.c1, .int .i64 y810.Regs.c2, .int .i64 y810.Regs.c3, .int .i64 y810.Regs.c4, .int .i64 y810.Regs.c5, .int .i64 y810.Regs.c6, .int .i64 y810.Regs.c7, .int .i64 y810.Draws, .int .i64 y810.Sent] 34 :: pts b1 (.loop rc2) :: Cl b5 [.slice A7 a6.w.Prog.length c8, .int .i64 a6.w.Self, .slice A10 a6.w.Links.length c11, .int .u64 a6.w.Seed, .bool a6.made, .int .i64 a6.state.Regs.c0, .int .i64 a6.state.Regs.c1, .int .i64 a6.state.Regs.c2, .int .i64 a6.state.Regs.c3, .int .i64 a6.state.Regs.c4, .int .i64 a6.state.Regs.c5, .int .i64 a6.state.Regs.c6, .int .i64 a6.state.Regs.c7, .int .i64 a6.state.Draws, .int .i64 a6.state.Sent, .int .i64 a6.every, .slice A13 a6.l.length c14, .bool a6.stuck] 59 :: Cl b4 [.pointer (some ⟨b5, 0, none⟩)] 28 :: Cl b17 [.slice A806 l805.length c807] 47 :: Cl b23 [.int .i64 x611] 3 :: Cl b25 [.pointer (some ⟨b5, 0, none⟩)] 28 :: l) hf_ ∧ RepL R_api_Entry hf_ cs808 l805) ?_ (s0 := (a18, (⟨(⟨0, 0, 0, 0, 0, 0, 0, 0⟩ : Arr8xInti64), 0, 0⟩ : api_State), x611)) h ⟨a18, (⟨(⟨0, 0, 0, 0, 0, 0, 0, 0⟩ : Arr8xInti64), 0, 0⟩ : api_State), x611, rfl, _, (Sub.refl _), A19, c20, cs21, ha.to ⟨rfl, rfl, rfl, rfl, trivial⟩, hS.p2.p2, hx22⟩
    rintro G911 _ a w ⟨l805, y810, x811, rfl, hf, hs705, A806, c807, cs808, ha, hS, hx809⟩ h
    revert a
    show RC _ _ _ _ _ _
    refine RC.seq (sr (pn 1 rfl (RL.s (Vl.ld 8 hS isAgg28 rfl rfl rfl) rfl (pn 1 rfl (RL.s (Vl.fa 16 underlying59 rfl sizeOf57 rfl rfl) rfl (RL.s (Vl.ld 4 hS isAgg57 rfl rfl rfl) rfl (RL.s (Vl.lenSl underlying57 rfl) rfl (pn 1 rfl (ln ?_)))))))))
    refine RC.iteP 29 rfl h (fun hc913 h => ?_) fun hc913 h => ?_
    next =>
     refine RC.condT rfl (sk (RC.seq (RC.block ?_)))
     refine RC.join (fun (s : api_State) a w => ∃ (y967 : api_State), s = (y967) ∧ Has 68 [(0, .func (.yield b1) #[] #[]), (2, .pointer (some ⟨b25, 0, none⟩)), (4, .pointer (some ⟨b612, 0, none⟩)), (5, .int .i64 x811)] a ∧ St B w (OSl 68 10 (.slice A13 a6.l.length c14) a6.l.length cs15 :: OSl 44 19 (.slice A806 l805.length c807) l805.length cs808 :: Cl b612 [.int .i64 y967.Regs.c0, .int .i64 y967.Regs.c1, .int .i64 y967.Regs.c2, .int .i64 y967.Regs.c3, .int .i64 y967.Regs.c4, .int .i64 y967.Regs.c5, .int .i64 y967.Regs.c6, .int .i64 y967.Regs.c7, .int .i64 y967.Draws, .int .i64 y967.Sent] 34 :: pts b1 (.loop rc2) :: Cl b5 [.slice A7 a6.w.Prog.length c8, .int .i64 a6.w.Self, .slice A10 a6.w.Links.length c11, .int .u64 a6.w.Seed, .bool a6.made, .int .i64 a6.state.Regs.c0, .int .i64 a6.state.Regs.c1, .int .i64 a6.state.Regs.c2, .int .i64 a6.state.Regs.c3, .int .i64 a6.state.Regs.c4, .int .i64 a6.state.Regs.c5, .int .i64 a6.state.Regs.c6, .int .i64 a6.state.Regs.c7, .int .i64 a6.state.Draws, .int .i64 a6.state.Sent, .int .i64 a6.every, .slice A13 a6.l.length c14, .bool a6.stuck] 59 :: Cl b4 [.pointer (some ⟨b5, 0, none⟩)] 28 :: Cl b17 [.slice A806 l805.length c807] 47 :: Cl b23 [.int .i64 x611] 3 :: Cl b25 [.pointer (some ⟨b5, 0, none⟩)] 28 :: l) hf ∧ Holds (Sum.elim G911 (· = r)) (log_Log_states_1.j23 a6 l805 x811 y967)) ?_ ?_
     · rintro y967 a w ⟨_, rfl, ha, hS, h⟩
       revert a
       show RC _ _ _ _ _ _
       refine RC.seq (sr (pn 2 rfl (RL.s (Vl.lw 2 hS isAgg34 sizeOf34 rfl rfl rfl) rfl (yc (fun _ hg976 => log_Log_All_round0.ok (hr9.mono hs705) (hr12.mono hs705) (hx16.mono hs705) hx809 hr3 hg976 hS.p6.p6.p2.p6.p6) rfl h rfl rfl rfl rfl ?_))))
       intro t975 h
       rintro _ w ⟨hf, hs981, A977, c978, cs979, rfl, hS, hx980⟩
       have hS : St B w (_ :: _ :: _ :: _ :: _ :: _ :: _ :: _ :: _ :: l) hf := hS
       refine pn 1 rfl (ln (RC.condF rfl (sk (RC.planS (plD [1, 3, 6, 10, 13, 16, 18, 21, 25, 27, 31, 33, 37, 41, 42, 45, 48, 51, 56]) [18] hS (fun w hS => hS) follows rfl (by kernel_rfl) (NoTmp.block (NoTmp.then (NoTmp.then (NoTmp.block NoTmp.body)))) fun w hS => RP.s 0 0 rfl rfl hS (fun w hS => Vl.ld 8 hS isAgg28 rfl rfl rfl) rfl (pp 1 rfl (RP.s0 2 rfl (fun w => Vl.fa 0 underlying59 rfl sizeOf26 rfl rfl) rfl (RP.s 0 3 rfl rfl hS (fun w hS => Vl.loadA (vs := [.slice A7 a6.w.Prog.length c8, .int .i64 a6.w.Self, .slice A10 a6.w.Links.length c11, .int .u64 a6.w.Seed]) isAgg26 sizeOf26 rfl rfl (hS.cellsAt 2 rfl rfl)) rfl (RP.s 0 4 rfl rfl hS (fun w hS => Vl.lw 6 hS isAgg34 sizeOf34 rfl rfl rfl) rfl (RP.s 0 5 rfl rfl hS (fun w hS => Vl.ld 8 hS isAgg28 rfl rfl rfl) rfl (pp 1 rfl (RP.s0 7 rfl (fun w => Vl.fa 16 underlying59 rfl sizeOf57 rfl rfl) rfl (RP.s 0 8 rfl rfl hS (fun w hS => Vl.ld 2 hS isAgg57 rfl rfl rfl) rfl ?_))))))))))))
       refine pp 1 rfl ?_
       obtain ⟨hq982, h⟩ := h.req
       refine RP.s 0 10 rfl rfl hS (fun w hS => Vl.indexOwn 3 hS rfl underlying57 sizeOf68 rfl rfl hq982 hc913) rfl (RP.s0 11 rfl (fun w => Vl.fieldAddr (a'' := (ad A13).add (x811.toNat * 10 + 0)) underlying68 rfl sizeOf42 rfl (add_add _ _ _)) rfl ?_)
       obtain ⟨_, ⟨A984, c985, b987, rfl, hr986, hr988⟩, hl983⟩ := RepL.elem R_log_done_ok ((hx16.mono hs705).mono hs981) hq982 hc913
       refine RP.s 0 12 rfl rfl hS (fun w hS => Vl.loadA (vs := [.int .i64 ((((nth a6.l x811).event).Key).Time), .int .i64 ((((nth a6.l x811).event).Key).From), .int .i64 ((((nth a6.l x811).event).Key).Seq), .int .i64 (((nth a6.l x811).event).To), .int .i64 (((nth a6.l x811).event).Value), .int .i64 (((nth a6.l x811).event).Uid), .bool (((nth a6.l x811).event).Anti)]) isAgg42 sizeOf42 rfl rfl (hS.elemCells 3 rfl hl983 (off := 0) rfl)) rfl ?_
       obtain ⟨t989, hg990, h⟩ := h.bind
       have hc := vm_Run.ok ((hr9.mono hs705).mono hs981) ((hr12.mono hs705).mono hs981) ((hG0.mono hs705).mono hs981) hg990 hS
       obtain ⟨y991, y992, y993⟩ := t989
       refine RP.e 13 rfl (OW.callF (ls := [.tmp 54, .tmp 55, .tmp 63]) rfl call32 hc) rfl rfl ?_
       rintro _ w ⟨A994, c995, rfl, hS⟩
       refine ⟨kp ⟨fun _ => hS.d0, trivial⟩, ?_⟩
       refine pp 4 rfl (RP.e0 18 rfl (OW.store (vs := [.int .i64 y991.Regs.c0, .int .i64 y991.Regs.c1, .int .i64 y991.Regs.c2, .int .i64 y991.Regs.c3, .int .i64 y991.Regs.c4, .int .i64 y991.Regs.c5, .int .i64 y991.Regs.c6, .int .i64 y991.Regs.c7, .int .i64 y991.Draws, .int .i64 y991.Sent]) 7 hS rfl rfl rfl rfl sizeOf34 rfl rfl rfl rfl) rfl ?_)
       rintro _ w ⟨rfl, hS⟩
       have hS : St B w (_ :: _ :: _ :: _ :: _ :: _ :: _ :: Cl _ [_, _, _, _, _, _, _, _, _, _] _ :: _ :: _ :: l) hf := hS
       refine ⟨kp ⟨(by intro hx; cases hx), trivial⟩, ?_⟩
       refine RP.nil (RQ.inB_n (RQ.then_n (RC.region (pn 3 rfl (RL.nil ?_)))))
       exact fun a ha => ⟨(t975, y991, IntKind.i64.wrap (x811 + 1)), ⟨t975, y991, (IntKind.i64.wrap (x811 + 1)), rfl, _, (hs705.trans hs981), A977, c978, cs979, ha.to ⟨rfl, rfl, rfl, rfl, trivial⟩, hS.d0.p6.p1.p4, hx980⟩, h.some⟩
     · refine RC.seq ?_
       refine RC.region (RL.s (Vl.ld 8 hS isAgg28 rfl rfl rfl) rfl (pn 1 rfl (RL.s (Vl.fa 16 underlying59 rfl sizeOf57 rfl rfl) rfl (RL.s (Vl.ld 4 hS isAgg57 rfl rfl rfl) rfl (pn 1 rfl ?_)))))
       obtain ⟨hq996, h⟩ := h.req
       refine RL.s (Vl.indexOwn 0 hS rfl underlying57 sizeOf68 rfl rfl hq996 hc913) rfl (RL.s (Vl.fieldAddr (a'' := (ad A13).add (x811.toNat * 10 + 9)) underlying68 rfl sizeOf66 rfl (add_add _ _ _)) rfl ?_)
       obtain ⟨_, ⟨A998, c999, b1001, rfl, hr1000, hr1002⟩, hl997⟩ := RepL.elem R_log_done_ok (hx16.mono hs705) hq996 hc913
       refine RL.s (Vl.load isAgg66 rfl (hS.litCell 0 rfl (hl997 9 _ rfl))) rfl (pn 1 rfl (lnsr (pn 1 rfl (RL.s (Vl.ptNeq (fun b w => by kernel_rfl) (fun w => by kernel_rfl) rfl rfl) rfl (ln ?_)))))
       refine RC.iteB 41 rfl h (fun hc1003 h => ?_) fun hc1003 h => ?_
       next =>
        refine RC.condT rfl (RC.region (pn 1 rfl (RL.s (Vl.nilCheckO hc1003 rfl) rfl (RL.s (Vl.loadA (vs := [.int .i64 (((((nth a6.l x811).ahead).val).Regs).c0), .int .i64 (((((nth a6.l x811).ahead).val).Regs).c1), .int .i64 (((((nth a6.l x811).ahead).val).Regs).c2), .int .i64 (((((nth a6.l x811).ahead).val).Regs).c3), .int .i64 (((((nth a6.l x811).ahead).val).Regs).c4), .int .i64 (((((nth a6.l x811).ahead).val).Regs).c5), .int .i64 (((((nth a6.l x811).ahead).val).Regs).c6), .int .i64 (((((nth a6.l x811).ahead).val).Regs).c7), .int .i64 ((((nth a6.l x811).ahead).val).Draws), .int .i64 ((((nth a6.l x811).ahead).val).Sent)]) isAgg34 sizeOf34 rfl rfl ((hr1002.on hc1003).cells hS.sub)) rfl (RL.e0 (OW.store (vs := [.int .i64 (((((nth a6.l x811).ahead).val).Regs).c0), .int .i64 (((((nth a6.l x811).ahead).val).Regs).c1), .int .i64 (((((nth a6.l x811).ahead).val).Regs).c2), .int .i64 (((((nth a6.l x811).ahead).val).Regs).c3), .int .i64 (((((nth a6.l x811).ahead).val).Regs).c4), .int .i64 (((((nth a6.l x811).ahead).val).Regs).c5), .int .i64 (((((nth a6.l x811).ahead).val).Regs).c6), .int .i64 (((((nth a6.l x811).ahead).val).Regs).c7), .int .i64 ((((nth a6.l x811).ahead).val).Draws), .int .i64 ((((nth a6.l x811).ahead).val).Sent)]) 2 hS rfl rfl rfl rfl sizeOf34 rfl rfl rfl rfl) rfl ?_)))))
        rintro _ w ⟨rfl, hS⟩
        have hS : St B w (_ :: _ :: Cl _ [_, _, _, _, _, _, _, _, _, _] _ :: _ :: _ :: _ :: _ :: _ :: _ :: l) hf := hS
        refine RL.nil ?_
        exact fun a ha => ⟨(((nth a6.l x811).ahead).val), (((nth a6.l x811).ahead).val), rfl, ha.to ⟨rfl, rfl, rfl, rfl, trivial⟩, hS, h⟩
       next =>
        refine RC.condF rfl (RC.skip ?_)
        exact fun a ha => ⟨(y810), y810, rfl, ha.to ⟨rfl, rfl, rfl, rfl, trivial⟩, hS, h⟩
    next =>
     refine RC.condF rfl (RC.exit (RQ.exitT ?_))
     have h := h.inrS
     refine RQ.exitT (RQ.inB_hit ?_)
     obtain rfl := h.some
     exact rtE results35 rfl ⟨_, hs705, A806, c807, cs808, rfl, hS.d2.p3.p3.p3, hx809⟩
  · refine RC.block ?_
    refine fun a ha => RC.loop (N := 68) (body := (log_Log_states_1.l24b a6 a18)) (φ := (· = r)) (fun (s : Int) a w => ∃ (x1025 : Int), s = (x1025) ∧ Has 68 [(0, .func (.yield b1) #[] #[]), (1, .pointer (some ⟨b23, 0, none⟩)), (2, .pointer (some ⟨b25, 0, none⟩))] a ∧ St B w (OSl 68 10 (.slice A13 a6.l.length c14) a6.l.length cs15 :: OSl 44 19 (.slice A19 a18.length c20) a18.length cs21 :: pts b1 (.loop rc2) :: Cl b5 [.slice A7 a6.w.Prog.length c8, .int .i64 a6.w.Self, .slice A10 a6.w.Links.length c11, .int .u64 a6.w.Seed, .bool a6.made, .int .i64 a6.state.Regs.c0, .int .i64 a6.state.Regs.c1, .int .i64 a6.state.Regs.c2, .int .i64 a6.state.Regs.c3, .int .i64 a6.state.Regs.c4, .int .i64 a6.state.Regs.c5, .int .i64 a6.state.Regs.c6, .int .i64 a6.state.Regs.c7, .int .i64 a6.state.Draws, .int .i64 a6.state.Sent, .int .i64 a6.every, .slice A13 a6.l.length c14, .bool a6.stuck] 59 :: Cl b4 [.pointer (some ⟨b5, 0, none⟩)] 28 :: Cl b17 [.slice A19 a18.length c20] 47 :: Cl b23 [.int .i64 x1025] 3 :: Cl b25 [.pointer (some ⟨b5, 0, none⟩)] 28 :: l) hf) ?_ (s0 := (a24)) h ⟨a24, rfl, ha.to ⟨rfl, rfl, rfl, trivial⟩, hS.p5.p3⟩
    rintro G1047 x1025 a w ⟨_, rfl, ha, hS⟩ h
    revert a
    show RC _ _ _ _ _ _
    refine RC.seq (RC.seq (RC.planS (plD [1, 3, 6, 10, 12, 15, 19, 23, 26, 29, 32, 35, 38]) [8, 9, 10, 11, 12] hS (fun w hS => hS) follows rfl (by kernel_rfl) (NoTmp.then (NoTmp.then (NoTmp.then (NoTmp.block (NoTmp.then NoTmp.body))))) fun w hS => RP.s 0 0 rfl rfl hS (fun w hS => Vl.ld 6 hS isAgg3 rfl rfl rfl) rfl (pp 2 rfl ?_)))
    refine RP.iteP 9 rfl h (fun hc1058 h => ?_) fun hc1058 h => ?_
    next =>
     refine RP.sg 0 3 rfl rfl hS (fun w hS => Vl.ld 7 hS isAgg28 rfl rfl rfl) rfl rfl (pp 1 rfl (RP.sg0 5 rfl (fun w => Vl.fa 16 underlying59 rfl sizeOf57 rfl rfl) rfl rfl (RP.sg 0 6 rfl rfl hS (fun w hS => Vl.ld 3 hS isAgg57 rfl rfl rfl) rfl rfl (RP.v1 7 rfl (Vl.ld 6 hS isAgg3 rfl rfl rfl) rfl rfl ?_))))
     obtain ⟨⟨hq1059, hq1060⟩, h⟩ := h.req
     refine RP.v1 8 rfl (Vl.indexOwn 0 hS rfl underlying57 sizeOf68 rfl rfl hq1059 hq1060) rfl rfl (RP.v1 9 rfl (Vl.fieldAddr (a'' := (ad A13).add (x1025.toNat * 10 + 9)) underlying68 rfl sizeOf66 rfl (add_add _ _ _)) rfl rfl ?_)
     obtain ⟨_, ⟨A1062, c1063, b1065, rfl, hr1064, hr1066⟩, hl1061⟩ := RepL.elem R_log_done_ok hx16 hq1059 hq1060
     refine RP.v1 10 rfl (Vl.load isAgg66 rfl (hS.litCell 0 rfl (hl1061 9 _ rfl))) rfl rfl (RP.v1 11 rfl (Vl.ptEql (fun b w => by kernel_rfl) (fun w => by kernel_rfl) rfl rfl) rfl rfl (RP.v1 12 rfl (Vl.pickT rfl rfl) rfl rfl (RP.nil (RQ.then_n ?_))))
     refine RC.iteM 19 rfl h (fun hc1067 h => ?_) fun hc1067 h => ?_
     next =>
      refine RC.condF rfl (RC.exit (RQ.exitT ?_))
      have h := h.inr
      refine RQ.exitT (RQ.inB_hit ?_)
      exact fun a ha => ⟨(x1025), x1025, rfl, ha.to ⟨rfl, rfl, rfl, trivial⟩, hS, h⟩
     next =>
      refine RC.condT rfl (sk (RC.block (RC.region (RL.s (Vl.ld 6 hS isAgg3 rfl rfl rfl) rfl (pn 1 rfl (RL.e0 (OW.store (vs := [.int .i64 (IntKind.i64.wrap (x1025 - 1))]) 6 hS rfl rfl rfl rfl sizeOf3 rfl rfl rfl rfl) rfl ?_))))))
      rintro _ w ⟨rfl, hS⟩
      have hS : St B w (_ :: _ :: _ :: _ :: _ :: _ :: Cl _ [_] _ :: _ :: l) hf := hS
      refine RL.nil (RQ.inB_n ?_)
      exact fun a ha => ⟨(IntKind.i64.wrap (x1025 - 1)), ⟨(IntKind.i64.wrap (x1025 - 1)), rfl, ha.to ⟨rfl, rfl, rfl, trivial⟩, hS⟩, h.some⟩
    next =>
     refine RP.nn 0 3 rfl rfl rfl (pp 2 rfl (RP.nn 0 6 rfl rfl rfl (RP.n1 7 rfl rfl rfl (RP.n1 8 rfl rfl rfl (RP.n1 9 rfl rfl rfl (RP.n1 10 rfl rfl rfl (RP.n1 11 rfl rfl rfl (RP.v1 12 rfl (Vl.pickF rfl rfl) rfl rfl (RP.nil (RQ.then_n (RC.condF rfl (RC.exit (RQ.exitT ?_)))))))))))))
     have h := h.inr
     refine RQ.exitT (RQ.inB_hit ?_)
     exact fun a ha => ⟨(x1025), x1025, rfl, ha.to ⟨rfl, rfl, rfl, trivial⟩, hS, h⟩

/-! ### (*isochron/log.Log).All: function 10 -/
noncomputable def log_Log_All.f (a2 : log_Log) : Option (List api_Entry) := ((log_Log_none.f a2).bind fun t59 => (if t59 = true then some ([] : List api_Entry) else ((log_Log_states.f a2 0).bind fun t80 => ((log_Log_states_1.f a2 ([] : List api_Entry) t80).bind fun (y90, y91) => some y90))))
theorem log_Log_All.ok {a2 : log_Log} {b1 : Nat} {A3 : Option Addr} {c4 : Nat} {A6 : Option Addr} {c7 : Nat} {A9 : Option Addr} {c10 : Nat} {cs11 : List Value} (hr5 : SlR E_api_Instr.rep hf A3 c4 a2.w.Prog) (hr8 : SlR E_api_Link.rep hf A6 c7 a2.w.Links) (hx12 : RepL R_log_done hf cs11 a2.l) (hG0 : GlobAt hf 0 (.iface 119 (.agg #[.pointer (some ⟨1, 76, none⟩)]))) {r : List api_Entry} (h : log_Log_All.f a2 = some r) (hS : St B w (Cl b1 [.slice A3 a2.w.Prog.length c4, .int .i64 a2.w.Self, .slice A6 a2.w.Links.length c7, .int .u64 a2.w.Seed, .bool a2.made, .int .i64 a2.state.Regs.c0, .int .i64 a2.state.Regs.c1, .int .i64 a2.state.Regs.c2, .int .i64 a2.state.Regs.c3, .int .i64 a2.state.Regs.c4, .int .i64 a2.state.Regs.c5, .int .i64 a2.state.Regs.c6, .int .i64 a2.state.Regs.c7, .int .i64 a2.state.Draws, .int .i64 a2.state.Sent, .int .i64 a2.every, .slice A9 a2.l.length c10, .bool a2.stuck] 59 :: OSl 68 10 (.slice A9 a2.l.length c10) a2.l.length cs11 :: l) hf) :
    Calls prog 10 #[.pointer (some ⟨b1, 0, none⟩)] w (Ret fun v w => ∃ hf_ : Hp, Sub hf hf_ ∧ ∃ (A_1 : Option Addr) (c_2 : Nat) (cs_3 : List Value), v = .slice A_1 r.length c_2 ∧ St B w (OSl 44 19 (.slice A_1 r.length c_2) r.length cs_3 :: Cl b1 [.slice A3 a2.w.Prog.length c4, .int .i64 a2.w.Self, .slice A6 a2.w.Links.length c7, .int .u64 a2.w.Seed, .bool a2.made, .int .i64 a2.state.Regs.c0, .int .i64 a2.state.Regs.c1, .int .i64 a2.state.Regs.c2, .int .i64 a2.state.Regs.c3, .int .i64 a2.state.Regs.c4, .int .i64 a2.state.Regs.c5, .int .i64 a2.state.Regs.c6, .int .i64 a2.state.Regs.c7, .int .i64 a2.state.Draws, .int .i64 a2.state.Sent, .int .i64 a2.every, .slice A9 a2.l.length c10, .bool a2.stuck] 59 :: OSl 68 10 (.slice A9 a2.l.length c10) a2.l.length cs11 :: l) hf_ ∧ RepL R_api_Entry hf_ cs_3 r) := by
  have h := Holds.of h
  refine enM func10 rfl ntmps10 rfl (sr (bx hS rfl rfl rfl rfl fun b55 w hS => pn 1 rfl (ln (RC.seq (sr (RL.s (Vl.ld 0 hS isAgg28 rfl rfl rfl) rfl (cF (fun _ hg => log_Log_none.ok hr5 hr8 hx12 hg hS.p2.p2) call21 h rfl rfl rfl ?_)))))))
  rintro t59 h _ w ⟨rfl, hS⟩
  refine ln ?_
  refine RC.iteB 7 rfl h (fun hc61 h => ?_) fun hc61 h => ?_
  next =>
   refine RC.condT rfl (sr (pn 1 rfl (lr (RQ.ret ?_))))
   have hS := hS.nilSlR 44 19
   obtain rfl := h.some
   exact rtM0 (vs := [.slice none 0 0]) results10 ⟨rfl, trivial⟩ ⟨_, (Sub.refl _), none, 0, ([]), rfl, hS.d3, RepL.nil⟩
  next =>
   refine RC.condF rfl (sk (sr (al hS zeroValue47 rfl rfl rfl fun b62 w hS => ln (RC.seq (sr (RL.s (Vl.ld 3 hS isAgg28 rfl rfl rfl) rfl (cF (fun _ hg => log_Log_states.ok hr5 hr8 hx12 hg hS.p2.p2) call26 h rfl rfl rfl ?_)))))))
   rintro t80 h _ w ⟨b82, b83, rfl, hS⟩
   refine ln (RC.block ?_)
   have hS := hS.nilSlR 44 19
   have hS : St B w (_ :: _ :: _ :: _ :: _ :: _ :: _ :: l) hf := hS
   obtain ⟨t88, hg89, h⟩ := h.bind
   refine RC.rf (args := fun b84 => #[.func (.yield b84) #[] #[], .pointer (some ⟨b82, 0, none⟩), .pointer (some ⟨b83, 0, none⟩)]) rfl call35 rfl hS (fun _ => by simp) (fun b84 d85 rc86 w hr87 hS => log_Log_states_1.ok hr5 hr8 hx12 RepL.nil (RecOK.to (M := 25) hr87 rfl rfl ⟨rfl, rfl, trivial⟩) hG0 hg89 hS.p4.p4.p4.p7.p8.p8.p8.p7) ?_
   obtain ⟨y90, y91⟩ := t88
   rintro b84 d85 rc86 _ w hr87 ⟨hf, hs96, A92, c93, cs94, rfl, hS, hx95⟩
   refine RE.n hS.p1 hr87.state hr87.pending fun w hS => RQ.inB_n (tsr (RL.s (Vl.ld 4 hS isAgg47 rfl rfl rfl) rfl (pn 1 rfl (lr ?_))))
   obtain rfl := h.some
   exact rtM1 (vs := [.slice A92 y90.length c93]) results10 hS.p7 fun w hS => ⟨⟨rfl, trivial⟩, ⟨_, hs96, A92, c93, cs94, rfl, hS.d3.d3.d3.d3, hx95⟩⟩

/-! ### (*isochron/log.Log).State: function 11 -/
noncomputable def log_Log_State.f (a2 : log_Log) : Option (api_State) := ((log_Log_none.f a2).bind fun t24 => (if t24 = true then some (⟨(⟨0, 0, 0, 0, 0, 0, 0, 0⟩ : Arr8xInti64), 0, 0⟩ : api_State) else some a2.state))
theorem log_Log_State.ok {a2 : log_Log} {b1 : Nat} {A3 : Option Addr} {c4 : Nat} {A6 : Option Addr} {c7 : Nat} {A9 : Option Addr} {c10 : Nat} {cs11 : List Value} (hr5 : SlR E_api_Instr.rep hf A3 c4 a2.w.Prog) (hr8 : SlR E_api_Link.rep hf A6 c7 a2.w.Links) (hx12 : RepL R_log_done hf cs11 a2.l) {r : api_State} (h : log_Log_State.f a2 = some r) (hS : St B w (Cl b1 [.slice A3 a2.w.Prog.length c4, .int .i64 a2.w.Self, .slice A6 a2.w.Links.length c7, .int .u64 a2.w.Seed, .bool a2.made, .int .i64 a2.state.Regs.c0, .int .i64 a2.state.Regs.c1, .int .i64 a2.state.Regs.c2, .int .i64 a2.state.Regs.c3, .int .i64 a2.state.Regs.c4, .int .i64 a2.state.Regs.c5, .int .i64 a2.state.Regs.c6, .int .i64 a2.state.Regs.c7, .int .i64 a2.state.Draws, .int .i64 a2.state.Sent, .int .i64 a2.every, .slice A9 a2.l.length c10, .bool a2.stuck] 59 :: OSl 68 10 (.slice A9 a2.l.length c10) a2.l.length cs11 :: l) hf) :
    Calls prog 11 #[.pointer (some ⟨b1, 0, none⟩)] w (Ret fun v w => v = .agg #[.int .i64 r.Regs.c0, .int .i64 r.Regs.c1, .int .i64 r.Regs.c2, .int .i64 r.Regs.c3, .int .i64 r.Regs.c4, .int .i64 r.Regs.c5, .int .i64 r.Regs.c6, .int .i64 r.Regs.c7, .int .i64 r.Draws, .int .i64 r.Sent] ∧ St B w (Cl b1 [.slice A3 a2.w.Prog.length c4, .int .i64 a2.w.Self, .slice A6 a2.w.Links.length c7, .int .u64 a2.w.Seed, .bool a2.made, .int .i64 a2.state.Regs.c0, .int .i64 a2.state.Regs.c1, .int .i64 a2.state.Regs.c2, .int .i64 a2.state.Regs.c3, .int .i64 a2.state.Regs.c4, .int .i64 a2.state.Regs.c5, .int .i64 a2.state.Regs.c6, .int .i64 a2.state.Regs.c7, .int .i64 a2.state.Draws, .int .i64 a2.state.Sent, .int .i64 a2.every, .slice A9 a2.l.length c10, .bool a2.stuck] 59 :: OSl 68 10 (.slice A9 a2.l.length c10) a2.l.length cs11 :: l) hf) := by
  have h := Holds.of h
  refine en func11 rfl ntmps11 rfl (sr (al hS zeroValue34 rfl rfl rfl fun b20 w hS => ln (RC.seq (sr (pn 1 rfl (cF (fun _ hg => log_Log_none.ok hr5 hr8 hx12 hg hS.p2.p2) call21 h rfl rfl rfl ?_))))))
  rintro t24 h _ w ⟨rfl, hS⟩
  refine ln ?_
  refine RC.iteB 4 rfl h (fun hc26 h => ?_) fun hc26 h => ?_
  next =>
   refine RC.condT rfl (sr (RL.s (Vl.build (v := .agg #[.int .i64 0, .int .i64 0, .int .i64 0, .int .i64 0, .int .i64 0, .int .i64 0, .int .i64 0, .int .i64 0, .int .i64 0, .int .i64 0]) (parts := []) rfl (by kernel_rfl)) rfl (RL.e0 (OW.store (vs := [.int .i64 0, .int .i64 0, .int .i64 0, .int .i64 0, .int .i64 0, .int .i64 0, .int .i64 0, .int .i64 0, .int .i64 0, .int .i64 0]) 2 hS rfl rfl rfl rfl sizeOf34 rfl rfl rfl rfl) rfl ?_)))
   rintro _ w ⟨rfl, hS⟩
   have hS : St B w (_ :: _ :: Cl _ [_, _, _, _, _, _, _, _, _, _] _ :: l) hf := hS
   refine lr (RQ.ret ?_)
   obtain rfl := h.some
   refine RQ.ret0 (vs := [.agg #[.int .i64 0, .int .i64 0, .int .i64 0, .int .i64 0, .int .i64 0, .int .i64 0, .int .i64 0, .int .i64 0, .int .i64 0, .int .i64 0]]) results11 ⟨⟨_, rfl, run_loadVarA (vs := [.int .i64 0, .int .i64 0, .int .i64 0, .int .i64 0, .int .i64 0, .int .i64 0, .int .i64 0, .int .i64 0, .int .i64 0, .int .i64 0]) isAgg34 sizeOf34 rfl (hS.cellsAt 2 rfl rfl)⟩, trivial⟩ ?_
   exact ⟨rfl, hS.d2⟩
  next =>
   refine RC.condF rfl (sk (sr (pn 2 rfl (RL.s (Vl.fa 5 underlying59 rfl sizeOf34 rfl rfl) rfl (RL.s (Vl.loadA (vs := [.int .i64 a2.state.Regs.c0, .int .i64 a2.state.Regs.c1, .int .i64 a2.state.Regs.c2, .int .i64 a2.state.Regs.c3, .int .i64 a2.state.Regs.c4, .int .i64 a2.state.Regs.c5, .int .i64 a2.state.Regs.c6, .int .i64 a2.state.Regs.c7, .int .i64 a2.state.Draws, .int .i64 a2.state.Sent]) isAgg34 sizeOf34 rfl rfl (hS.cellsAt 0 rfl rfl)) rfl (RL.e0 (OW.store (vs := [.int .i64 a2.state.Regs.c0, .int .i64 a2.state.Regs.c1, .int .i64 a2.state.Regs.c2, .int .i64 a2.state.Regs.c3, .int .i64 a2.state.Regs.c4, .int .i64 a2.state.Regs.c5, .int .i64 a2.state.Regs.c6, .int .i64 a2.state.Regs.c7, .int .i64 a2.state.Draws, .int .i64 a2.state.Sent]) 2 hS rfl rfl rfl rfl sizeOf34 rfl rfl rfl rfl) rfl ?_))))))
   rintro _ w ⟨rfl, hS⟩
   have hS : St B w (_ :: _ :: Cl _ [_, _, _, _, _, _, _, _, _, _] _ :: l) hf := hS
   refine lr ?_
   obtain rfl := h.some
   refine RQ.ret0 (vs := [.agg #[.int .i64 a2.state.Regs.c0, .int .i64 a2.state.Regs.c1, .int .i64 a2.state.Regs.c2, .int .i64 a2.state.Regs.c3, .int .i64 a2.state.Regs.c4, .int .i64 a2.state.Regs.c5, .int .i64 a2.state.Regs.c6, .int .i64 a2.state.Regs.c7, .int .i64 a2.state.Draws, .int .i64 a2.state.Sent]]) results11 ⟨⟨_, rfl, run_loadVarA (vs := [.int .i64 a2.state.Regs.c0, .int .i64 a2.state.Regs.c1, .int .i64 a2.state.Regs.c2, .int .i64 a2.state.Regs.c3, .int .i64 a2.state.Regs.c4, .int .i64 a2.state.Regs.c5, .int .i64 a2.state.Regs.c6, .int .i64 a2.state.Regs.c7, .int .i64 a2.state.Draws, .int .i64 a2.state.Sent]) isAgg34 sizeOf34 rfl (hS.cellsAt 2 rfl rfl)⟩, trivial⟩ ?_
   exact ⟨rfl, hS.d2⟩

end Go.Proofs.Gx
