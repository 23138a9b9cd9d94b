/-
  The walks of functions, each with what it computes: printed by wip/gx.py.
-/
import Derived.Test.YtioiognklelipaaDoorW0
import Derived.Test.YtioiognklelipaaDoorW1
import Derived.Test.YtioiognklelipaaDoorW2
import Derived.Test.YtioiognklelipaaDoorW6
set_option linter.unusedVariables false
set_option maxRecDepth 100000
set_option maxHeartbeats 4000000
namespace Go.Proofs.Gx
open Go.Sl Tryd
variable {B : Base} {w : World} {l : List HProp} {hf : Hp}
/-! ### (*isochron/log.Log).Do: function 10 -/
noncomputable def log_Log_Do.f (a2 : log_Log) (a13 : api_Message) (a14 : Int) (a15 : List api_Message) : Option (api_Entry × Int × log_Log) := ((log_Log_none.f a2).bind fun t147 => (if t147 = true then some ((⟨(⟨(⟨0, 0, 0⟩ : api_Key), 0, 0, 0, false⟩ : api_Message), (⟨(⟨0, 0, 0, 0, 0, 0, 0, 0⟩ : Arr8xInti64), 0, 0⟩ : api_State), 0, ([] : List api_Message)⟩ : api_Entry), 7, a2) else ((log_Log_may.f a2 a13 a14).bind fun t153 => (if t153 = 0 then ((log_Log_run.f a2 a13 a14 a15).bind fun (y158, y159) => ((log_Log_due.f a2).bind fun t170 => (if t170 = true then (if (a2.l.length + ([(⟨y158.event, y158.fault, y158.sent, (⟨true, a2.state⟩ : Pt api_State)⟩ : log_done)]).length) * 96 ≤ 140737488355328 then ((log_done_entry.f (⟨y158.event, y158.fault, y158.sent, (⟨true, a2.state⟩ : Pt api_State)⟩ : log_done) a2.state).bind fun t216 => some (t216, 0, (⟨a2.w, a2.made, y159, a2.every, (a2.l ++ ([(⟨y158.event, y158.fault, y158.sent, (⟨true, a2.state⟩ : Pt api_State)⟩ : log_done)])), (!decide (y158.fault = 0))⟩ : log_Log))) else none) else (if (a2.l.length + ([(⟨y158.event, y158.fault, y158.sent, (⟨false, default⟩ : Pt api_State)⟩ : log_done)]).length) * 96 ≤ 140737488355328 then ((log_done_entry.f (⟨y158.event, y158.fault, y158.sent, (⟨false, default⟩ : Pt api_State)⟩ : log_done) a2.state).bind fun t261 => some (t261, 0, (⟨a2.w, a2.made, y159, a2.every, (a2.l ++ ([(⟨y158.event, y158.fault, y158.sent, (⟨false, default⟩ : Pt api_State)⟩ : log_done)])), (!decide (y158.fault = 0))⟩ : log_Log))) else none)))) else some ((⟨(⟨(⟨0, 0, 0⟩ : api_Key), 0, 0, 0, false⟩ : api_Message), (⟨(⟨0, 0, 0, 0, 0, 0, 0, 0⟩ : Arr8xInti64), 0, 0⟩ : api_State), 0, ([] : List api_Message)⟩ : api_Entry), t153, a2)))))
theorem log_Log_Do.ok {a2 : log_Log} {a13 : api_Message} {a14 : Int} {a15 : List api_Message} {b1 : Nat} {A3 : Option Addr} {c4 : Nat} {A6 : Option Addr} {c7 : Nat} {A9 : Option Addr} {c10 : Nat} {cs11 : List Value} {A16 : Option Addr} {c17 : Nat} (hr5 : SlR E_api_Instr.rep hf A3 c4 a2.w.Prog) (hr8 : SlR E_api_Link.rep hf A6 c7 a2.w.Links) (hx12 : RepL R_log_done hf cs11 a2.l) (hr18 : SlR E_api_Message.rep hf A16 c17 a15) (hG0 : GlobAt hf 0 (.iface 115 (.agg #[.pointer (some ⟨1, 75, none⟩)]))) {r : api_Entry × Int × log_Log} (h : log_Log_Do.f a2 a13 a14 a15 = some r) (hS : St B w (Cl b1 [.slice A3 a2.w.Prog.length c4, .int .i64 a2.w.Self, .slice A6 a2.w.Links.length c7, .int .u64 a2.w.Seed, .bool a2.made, .int .i64 a2.state.Regs.c0, .int .i64 a2.state.Regs.c1, .int .i64 a2.state.Regs.c2, .int .i64 a2.state.Regs.c3, .int .i64 a2.state.Regs.c4, .int .i64 a2.state.Regs.c5, .int .i64 a2.state.Regs.c6, .int .i64 a2.state.Regs.c7, .int .i64 a2.state.Draws, .int .i64 a2.state.Sent, .int .i64 a2.every, .slice A9 a2.l.length c10, .bool a2.stuck] 58 :: OSl 67 10 (.slice A9 a2.l.length c10) a2.l.length cs11 :: l) hf) :
    Calls prog 10 #[.pointer (some ⟨b1, 0, none⟩), .agg #[.int .i64 a13.Key.Time, .int .i64 a13.Key.From, .int .i64 a13.Key.Seq, .int .i64 a13.To, .int .i64 a13.Value, .int .i64 a13.Uid, .bool a13.Anti], .int .i64 a14, .slice A16 a15.length c17] w (Ret fun v w => ∃ hf_ : Hp, Sub hf hf_ ∧ ∃ (A_1 : Option Addr) (c_2 : Nat) (A_3 : Option Addr) (c_4 : Nat) (cs_5 : List Value), v = .tuple #[.agg #[.int .i64 r.1.Event.Key.Time, .int .i64 r.1.Event.Key.From, .int .i64 r.1.Event.Key.Seq, .int .i64 r.1.Event.To, .int .i64 r.1.Event.Value, .int .i64 r.1.Event.Uid, .bool r.1.Event.Anti, .int .i64 r.1.Before.Regs.c0, .int .i64 r.1.Before.Regs.c1, .int .i64 r.1.Before.Regs.c2, .int .i64 r.1.Before.Regs.c3, .int .i64 r.1.Before.Regs.c4, .int .i64 r.1.Before.Regs.c5, .int .i64 r.1.Before.Regs.c6, .int .i64 r.1.Before.Regs.c7, .int .i64 r.1.Before.Draws, .int .i64 r.1.Before.Sent, .int .i64 r.1.Fault, .slice A_1 r.1.Sent.length c_2], .int .i64 r.2.1] ∧ St B w (OSf E_api_Message 30 (.slice A_1 r.1.Sent.length c_2) r.1.Sent :: OSl 67 10 (.slice A_3 r.2.2.l.length c_4) r.2.2.l.length cs_5 :: Cl b1 [.slice A3 a2.w.Prog.length c4, .int .i64 a2.w.Self, .slice A6 a2.w.Links.length c7, .int .u64 a2.w.Seed, .bool a2.made, .int .i64 r.2.2.state.Regs.c0, .int .i64 r.2.2.state.Regs.c1, .int .i64 r.2.2.state.Regs.c2, .int .i64 r.2.2.state.Regs.c3, .int .i64 r.2.2.state.Regs.c4, .int .i64 r.2.2.state.Regs.c5, .int .i64 r.2.2.state.Regs.c6, .int .i64 r.2.2.state.Regs.c7, .int .i64 r.2.2.state.Draws, .int .i64 r.2.2.state.Sent, .int .i64 a2.every, .slice A_3 r.2.2.l.length c_4, .bool r.2.2.stuck] 58 :: l) hf_ ∧ RepL R_log_done hf_ cs_5 r.2.2.l) := by
  have h := Holds.of h
  refine en func10 rfl ntmps10 rfl (sr (bx hS rfl rfl rfl rfl fun b142 w hS => al hS zeroValue43 rfl rfl rfl fun b143 w hS => pn 1 rfl (ln (RC.seq (sr (pn 1 rfl (cF (fun _ hg => log_Log_none.ok hr5 hr8 hx12 hg hS.p3.p3) call20 h rfl rfl rfl ?_)))))))
  rintro t147 h _ w ⟨rfl, hS⟩
  refine ln ?_
  refine RC.iteB 15 rfl h (fun hc149 h => ?_) fun hc149 h => ?_
  next =>
   refine RC.condT rfl (sr (RL.s (Vl.build (v := .agg #[.int .i64 0, .int .i64 0, .int .i64 0, .int .i64 0, .int .i64 0, .int .i64 0, .bool false, .int .i64 0, .int .i64 0, .int .i64 0, .int .i64 0, .int .i64 0, .int .i64 0, .int .i64 0, .int .i64 0, .int .i64 0, .int .i64 0, .int .i64 0, .slice none 0 0]) (parts := []) rfl (by kernel_rfl)) rfl (RL.e0 (OW.store (vs := [.int .i64 0, .int .i64 0, .int .i64 0, .int .i64 0, .int .i64 0, .int .i64 0, .bool false, .int .i64 0, .int .i64 0, .int .i64 0, .int .i64 0, .int .i64 0, .int .i64 0, .int .i64 0, .int .i64 0, .int .i64 0, .int .i64 0, .int .i64 0, .slice none 0 0]) 2 hS rfl rfl rfl rfl sizeOf43 rfl rfl rfl rfl) rfl ?_)))
   rintro _ w ⟨rfl, hS⟩
   have hS : St B w (_ :: _ :: Cl _ [_, _, _, _, _, _, _, _, _, _, _, _, _, _, _, _, _, _, _] _ :: _ :: l) hf := hS
   refine pn 1 rfl (lr (RQ.ret ?_))
   have hS := hS.nilSl E_api_Message 30
   obtain rfl := h.some
   refine RQ.ret0 (vs := [.agg #[.int .i64 0, .int .i64 0, .int .i64 0, .int .i64 0, .int .i64 0, .int .i64 0, .bool false, .int .i64 0, .int .i64 0, .int .i64 0, .int .i64 0, .int .i64 0, .int .i64 0, .int .i64 0, .int .i64 0, .int .i64 0, .int .i64 0, .int .i64 0, .slice none 0 0], .int .i64 7]) results10 ⟨⟨_, rfl, run_loadVarA (vs := [.int .i64 0, .int .i64 0, .int .i64 0, .int .i64 0, .int .i64 0, .int .i64 0, .bool false, .int .i64 0, .int .i64 0, .int .i64 0, .int .i64 0, .int .i64 0, .int .i64 0, .int .i64 0, .int .i64 0, .int .i64 0, .int .i64 0, .int .i64 0, .slice none 0 0]) isAgg43 sizeOf43 rfl (hS.cellsAt 3 rfl rfl)⟩, rfl, trivial⟩ ?_
   exact ⟨_, (Sub.refl _), none, 0, A9, c10, cs11, rfl, hS.d3.d3.p2.p1, hx12⟩
  next =>
   refine RC.condF rfl (sk (RC.seq (sr (pn 1 rfl (RL.s (Vl.lw 3 hS isAgg30 sizeOf30 rfl rfl rfl) rfl (pn 1 rfl (cF (fun _ hg => log_Log_may.ok hr5 hr8 hx12 hg hS) call21 h rfl rfl rfl ?_)))))))
   rintro t153 h _ w ⟨rfl, hS⟩
   refine pn 1 rfl (lnsr (pn 2 rfl (ln ?_)))
   refine RC.iteN 22 rfl h (fun hc155 h => ?_) fun hc155 h => ?_
   next =>
    refine RC.condF rfl (sk (sr (pn 1 rfl (RL.s (Vl.lw 3 hS isAgg30 sizeOf30 rfl rfl rfl) rfl (pn 2 rfl (cF (fun _ hg => log_Log_run.ok hr5 hr8 hx12 hr18 hG0 hg hS) call22 h rfl rfl rfl ?_))))))
    rintro ⟨y158, y159⟩ h _ w ⟨A160, c161, rfl, hS⟩
    refine pn 3 rfl (al hS zeroValue67 rfl rfl rfl fun b162 w hS => al hS zeroValue38 rfl rfl rfl fun b163 w hS => RL.e0 (OW.store (vs := [.int .i64 y158.event.Key.Time, .int .i64 y158.event.Key.From, .int .i64 y158.event.Key.Seq, .int .i64 y158.event.To, .int .i64 y158.event.Value, .int .i64 y158.event.Uid, .bool y158.event.Anti, .int .i64 y158.fault, .slice A160 y158.sent.length c161, .pointer none]) 1 hS rfl rfl rfl rfl sizeOf67 rfl rfl rfl rfl) rfl ?_)
    rintro _ w ⟨rfl, hS⟩
    have hS : St B w (_ :: Cl _ [_, _, _, _, _, _, _, _, _, _] _ :: _ :: _ :: _ :: _ :: _ :: l) hf := hS
    refine RL.e0 (OW.store (vs := [.int .i64 y159.Regs.c0, .int .i64 y159.Regs.c1, .int .i64 y159.Regs.c2, .int .i64 y159.Regs.c3, .int .i64 y159.Regs.c4, .int .i64 y159.Regs.c5, .int .i64 y159.Regs.c6, .int .i64 y159.Regs.c7, .int .i64 y159.Draws, .int .i64 y159.Sent]) 0 hS rfl rfl rfl rfl sizeOf38 rfl rfl rfl rfl) rfl ?_
    rintro _ w ⟨rfl, hS⟩
    have hS : St B w (Cl _ [_, _, _, _, _, _, _, _, _, _] _ :: _ :: _ :: _ :: _ :: _ :: _ :: l) hf := hS
    refine lnsr (pn 2 rfl (RL.s (Vl.fa 5 underlying58 rfl sizeOf38 rfl rfl) rfl (RL.s (Vl.loadA (vs := [.int .i64 a2.state.Regs.c0, .int .i64 a2.state.Regs.c1, .int .i64 a2.state.Regs.c2, .int .i64 a2.state.Regs.c3, .int .i64 a2.state.Regs.c4, .int .i64 a2.state.Regs.c5, .int .i64 a2.state.Regs.c6, .int .i64 a2.state.Regs.c7, .int .i64 a2.state.Draws, .int .i64 a2.state.Sent]) isAgg38 sizeOf38 rfl rfl (hS.cellsAt 3 rfl rfl)) rfl (al hS zeroValue38 rfl rfl rfl fun b164 w hS => RL.e0 (OW.store (vs := [.int .i64 a2.state.Regs.c0, .int .i64 a2.state.Regs.c1, .int .i64 a2.state.Regs.c2, .int .i64 a2.state.Regs.c3, .int .i64 a2.state.Regs.c4, .int .i64 a2.state.Regs.c5, .int .i64 a2.state.Regs.c6, .int .i64 a2.state.Regs.c7, .int .i64 a2.state.Draws, .int .i64 a2.state.Sent]) 0 hS rfl rfl rfl rfl sizeOf38 rfl rfl rfl rfl) rfl ?_))))
    rintro _ w ⟨rfl, hS⟩
    have hS : St B w (Cl _ [_, _, _, _, _, _, _, _, _, _] _ :: _ :: _ :: _ :: _ :: _ :: _ :: _ :: l) hf := hS
    refine ln (RC.seq (sr (pn 1 rfl (cF (fun _ hg => log_Log_due.ok hr5 hr8 hx12 hg hS.p5.p5) call25 h rfl rfl rfl ?_))))
    rintro t170 h _ w ⟨rfl, hS⟩
    refine ln ?_
    refine RC.iteB 38 rfl h (fun hc172 h => ?_) fun hc172 h => ?_
    next =>
     refine RC.condT rfl (RC.region (RL.s (Vl.fa 9 underlying67 rfl sizeOf65 rfl rfl) rfl ?_))
     obtain ⟨hf, hs173, hS, hr174⟩ := St.freeze (E := E_api_State) (x := a2.state) hS.p2 rfl
     refine RL.e0 (OW.store (vs := [.pointer (some ⟨b164, 0, none⟩)]) 3 hS rfl rfl rfl rfl sizeOf65 rfl rfl rfl rfl) rfl ?_
     rintro _ w ⟨rfl, hS⟩
     have hS : St B w (_ :: _ :: _ :: Cl _ [_, _, _, _, _, _, _, _, _, _] _ :: _ :: _ :: _ :: l) hf := hS
     refine ln (RC.seq (RC.planS2 (plD [0, 3, 6, 9, 12, 15, 3019, 22, 31, 33, 37, 39, 26, 29, 44, 47, 50, 53, 56, 59, 62, 65, 68]) [20, 21, 22] [9, 14, 15, 16, 17, 18, 19, 20, 21, 22] hS (fun w hS => hS.d0.d0.d2) (fun w hS => hS.d4) follows rfl (by kernel_rfl) (NoTmp.then NoTmp.body) fun w hS => pp 5 rfl (RP.s0 5 rfl (fun w => Vl.fa 16 underlying58 rfl sizeOf56 rfl rfl) rfl (RP.s 1 6 rfl rfl hS.d4 (fun w hS => Vl.ld 0 hS isAgg56 rfl rfl rfl) rfl (RP.s 0 7 rfl rfl hS.d0.d0.d2 (fun w hS => Vl.lw 1 hS isAgg67 sizeOf67 rfl rfl rfl) rfl (RP.s 0 10 rfl rfl hS.d0.d0.d2 (fun w hS => Vl.lw 0 hS isAgg38 sizeOf38 rfl rfl rfl) rfl (RP.s0 11 rfl (fun w => Vl.fa 7 underlying67 rfl sizeOf33 rfl rfl) rfl (RP.s 0 12 rfl rfl hS.d0.d0.d2 (fun w hS => Vl.ld 1 hS isAgg33 rfl rfl rfl) rfl (pp 1 rfl ?_)))))))))
     obtain ⟨hf, hs205, hS, hr206⟩ := St.promote hS.p4
     have hx208 : RepL R_log_done hf [.int .i64 y158.event.Key.Time, .int .i64 y158.event.Key.From, .int .i64 y158.event.Key.Seq, .int .i64 y158.event.To, .int .i64 y158.event.Value, .int .i64 y158.event.Uid, .bool y158.event.Anti, .int .i64 y158.fault, .slice A160 y158.sent.length c161, .pointer (some ⟨b164, 0, none⟩)] [(⟨y158.event, y158.fault, y158.sent, (⟨true, a2.state⟩ : Pt api_State)⟩ : log_done)] := (RepL.cons (c := [.int .i64 y158.event.Key.Time, .int .i64 y158.event.Key.From, .int .i64 y158.event.Key.Seq, .int .i64 y158.event.To, .int .i64 y158.event.Value, .int .i64 y158.event.Uid, .bool y158.event.Anti, .int .i64 y158.fault, .slice A160 y158.sent.length c161, .pointer (some ⟨b164, 0, none⟩)]) (r := []) ⟨_, _, _, rfl, hr206, (hr174.mono hs205).pt⟩ RepL.nil)
     refine RP.e 8 rfl (OW.buildSliceR (sz := 10) (cs := [.int .i64 y158.event.Key.Time, .int .i64 y158.event.Key.From, .int .i64 y158.event.Key.Seq, .int .i64 y158.event.To, .int .i64 y158.event.Value, .int .i64 y158.event.Uid, .bool y158.event.Anti, .int .i64 y158.fault, .slice A160 y158.sent.length c161, .pointer (some ⟨b164, 0, none⟩)]) hS underlying56 zeroValue67 sizeOf67 (parts := [(0, .tmp 47)]) rfl rfl (by decide) (by decide) (by kernel_rfl)) rfl rfl ?_
     rintro _ w ⟨b207, rfl, hS⟩
     refine ⟨kp ⟨fun _ => (St.down hS.d0.d0.d0 hs205), fun _ => (St.down hS.d0 hs205), trivial⟩, ?_⟩
     obtain ⟨hq211, h⟩ := h.req
     obtain ⟨hf, hs209, hS, hr210⟩ := St.promoteR R_log_done_ok hS rfl hx208
     refine RP.e 9 rfl (OW.appendR (R := R_log_done) R_log_done_ok (xs := a2.l) (ys := [(⟨y158.event, y158.fault, y158.sent, (⟨true, a2.state⟩ : Pt api_State)⟩ : log_done)]) 1 hS rfl underlying56 type67 rfl rfl rfl rfl (by decide) (by decide) (((hx12.mono hs173).mono hs205).mono hs209) rfl rfl hr210 hq211 rfl) rfl rfl ?_
     rintro _ w ⟨cs214, hx215, hS⟩
     obtain ⟨A212, c213, rfl, _⟩ := hS.osShape 0 rfl
     have hS : St B w (_ :: _ :: _ :: _ :: _ :: _ :: l) hf := hS
     refine ⟨kp ⟨fun _ => (St.down hS.d0.d0 (hs205.trans hs209)), (by intro hx; cases hx), trivial⟩, ?_⟩
     refine RP.v1 14 rfl (Vl.nilCheck rfl) rfl rfl (RP.v1 15 rfl (Vl.fa 16 underlying58 rfl sizeOf56 rfl rfl) rfl rfl (RP.e0 16 rfl (OW.store (vs := [.slice A212 (a2.l ++ ([(⟨y158.event, y158.fault, y158.sent, (⟨true, a2.state⟩ : Pt api_State)⟩ : log_done)])).length c213]) 1 hS rfl rfl rfl rfl sizeOf56 rfl rfl rfl rfl) rfl ?_))
     rintro _ w ⟨rfl, hS⟩
     have hS : St B w (_ :: Cl _ [_, _, _, _, _, _, _, _, _, _, _, _, _, _, _, _, _, _] _ :: _ :: _ :: _ :: _ :: l) hf := hS
     refine ⟨kp ⟨fun _ => (St.down hS.d0.d0 (hs205.trans hs209)), (by intro hx; cases hx), trivial⟩, ?_⟩
     refine RP.v1 17 rfl (Vl.nilCheck rfl) rfl rfl (RP.v1 18 rfl (Vl.fa 5 underlying58 rfl sizeOf38 rfl rfl) rfl rfl (RP.e0 19 rfl (OW.store (vs := [.int .i64 y159.Regs.c0, .int .i64 y159.Regs.c1, .int .i64 y159.Regs.c2, .int .i64 y159.Regs.c3, .int .i64 y159.Regs.c4, .int .i64 y159.Regs.c5, .int .i64 y159.Regs.c6, .int .i64 y159.Regs.c7, .int .i64 y159.Draws, .int .i64 y159.Sent]) 1 hS rfl rfl rfl rfl sizeOf38 rfl rfl rfl rfl) rfl ?_))
     rintro _ w ⟨rfl, hS⟩
     have hS : St B w (_ :: Cl _ [_, _, _, _, _, _, _, _, _, _, _, _, _, _, _, _, _, _] _ :: _ :: _ :: _ :: _ :: l) hf := hS
     refine ⟨kp ⟨fun _ => (St.down hS.d0.d0 (hs205.trans hs209)), (by intro hx; cases hx), trivial⟩, ?_⟩
     refine RP.v1 20 rfl (Vl.nilCheck rfl) rfl rfl (RP.v1 21 rfl (Vl.fa 17 underlying58 rfl sizeOf4 rfl rfl) rfl rfl (RP.e0 22 rfl (OW.store (vs := [.bool (!decide (y158.fault = 0))]) 1 hS rfl rfl rfl rfl sizeOf4 rfl rfl rfl rfl) rfl ?_))
     rintro _ w ⟨rfl, hS⟩
     have hS : St B w (_ :: Cl _ [_, _, _, _, _, _, _, _, _, _, _, _, _, _, _, _, _, _] _ :: _ :: _ :: _ :: _ :: l) hf := hS
     refine ⟨kp ⟨(by intro hx; cases hx), (by intro hx; cases hx), trivial⟩, ?_⟩
     refine RP.nil (tsr (RL.s (Vl.lw 3 hS isAgg67 sizeOf67 rfl rfl rfl) rfl (RL.s (Vl.loadA (vs := [.int .i64 a2.state.Regs.c0, .int .i64 a2.state.Regs.c1, .int .i64 a2.state.Regs.c2, .int .i64 a2.state.Regs.c3, .int .i64 a2.state.Regs.c4, .int .i64 a2.state.Regs.c5, .int .i64 a2.state.Regs.c6, .int .i64 a2.state.Regs.c7, .int .i64 a2.state.Draws, .int .i64 a2.state.Sent]) isAgg38 sizeOf38 rfl rfl (((hr174.mono hs205).mono hs209).cells hS.sub)) rfl (cF (fun _ hg => log_done_entry.ok (a1 := (⟨y158.event, y158.fault, y158.sent, (⟨true, a2.state⟩ : Pt api_State)⟩ : log_done)) (hr206.mono hs209) (((hr174.mono hs205).mono hs209).pt) hg hS) call23 h rfl rfl rfl ?_))))
     rintro t216 h _ w ⟨A218, c219, rfl, hS⟩
     refine RL.e0 (OW.store (vs := [.int .i64 t216.Event.Key.Time, .int .i64 t216.Event.Key.From, .int .i64 t216.Event.Key.Seq, .int .i64 t216.Event.To, .int .i64 t216.Event.Value, .int .i64 t216.Event.Uid, .bool t216.Event.Anti, .int .i64 t216.Before.Regs.c0, .int .i64 t216.Before.Regs.c1, .int .i64 t216.Before.Regs.c2, .int .i64 t216.Before.Regs.c3, .int .i64 t216.Before.Regs.c4, .int .i64 t216.Before.Regs.c5, .int .i64 t216.Before.Regs.c6, .int .i64 t216.Before.Regs.c7, .int .i64 t216.Before.Draws, .int .i64 t216.Before.Sent, .int .i64 t216.Fault, .slice A218 t216.Sent.length c219]) 5 hS rfl rfl rfl rfl sizeOf43 rfl rfl rfl rfl) rfl ?_
     rintro _ w ⟨rfl, hS⟩
     have hS : St B w (_ :: _ :: _ :: _ :: _ :: Cl _ [_, _, _, _, _, _, _, _, _, _, _, _, _, _, _, _, _, _, _] _ :: _ :: l) hf := hS
     refine pn 1 rfl (lr ?_)
     obtain rfl := h.some
     refine RQ.ret0 (vs := [.agg #[.int .i64 t216.Event.Key.Time, .int .i64 t216.Event.Key.From, .int .i64 t216.Event.Key.Seq, .int .i64 t216.Event.To, .int .i64 t216.Event.Value, .int .i64 t216.Event.Uid, .bool t216.Event.Anti, .int .i64 t216.Before.Regs.c0, .int .i64 t216.Before.Regs.c1, .int .i64 t216.Before.Regs.c2, .int .i64 t216.Before.Regs.c3, .int .i64 t216.Before.Regs.c4, .int .i64 t216.Before.Regs.c5, .int .i64 t216.Before.Regs.c6, .int .i64 t216.Before.Regs.c7, .int .i64 t216.Before.Draws, .int .i64 t216.Before.Sent, .int .i64 t216.Fault, .slice A218 t216.Sent.length c219], .int .i64 0]) results10 ⟨⟨_, rfl, run_loadVarA (vs := [.int .i64 t216.Event.Key.Time, .int .i64 t216.Event.Key.From, .int .i64 t216.Event.Key.Seq, .int .i64 t216.Event.To, .int .i64 t216.Event.Value, .int .i64 t216.Event.Uid, .bool t216.Event.Anti, .int .i64 t216.Before.Regs.c0, .int .i64 t216.Before.Regs.c1, .int .i64 t216.Before.Regs.c2, .int .i64 t216.Before.Regs.c3, .int .i64 t216.Before.Regs.c4, .int .i64 t216.Before.Regs.c5, .int .i64 t216.Before.Regs.c6, .int .i64 t216.Before.Regs.c7, .int .i64 t216.Before.Draws, .int .i64 t216.Before.Sent, .int .i64 t216.Fault, .slice A218 t216.Sent.length c219]) isAgg43 sizeOf43 rfl (hS.cellsAt 5 rfl rfl)⟩, rfl, trivial⟩ ?_
     exact ⟨_, ((hs173.trans hs205).trans hs209), A218, c219, A212, c213, cs214, rfl, hS.d3.d3.d3.d3, hx215⟩
    next =>
     refine RC.condF rfl (sk (RC.seq (RC.planS2 (plD [0, 3, 6, 9, 12, 15, 3019, 22, 31, 33, 37, 39, 26, 29, 44, 47, 50, 53, 56, 59, 62, 65, 68]) [20, 21, 22] [9, 14, 15, 16, 17, 18, 19, 20, 21, 22] hS (fun w hS => hS.d0.d0.d3) (fun w hS => hS.d5) follows rfl (by kernel_rfl) (NoTmp.then NoTmp.body) fun w hS => pp 5 rfl (RP.s0 5 rfl (fun w => Vl.fa 16 underlying58 rfl sizeOf56 rfl rfl) rfl (RP.s 1 6 rfl rfl hS.d5 (fun w hS => Vl.ld 0 hS isAgg56 rfl rfl rfl) rfl (RP.s 0 7 rfl rfl hS.d0.d0.d3 (fun w hS => Vl.lw 2 hS isAgg67 sizeOf67 rfl rfl rfl) rfl (RP.s 0 10 rfl rfl hS.d0.d0.d3 (fun w hS => Vl.lw 1 hS isAgg38 sizeOf38 rfl rfl rfl) rfl (RP.s0 11 rfl (fun w => Vl.fa 7 underlying67 rfl sizeOf33 rfl rfl) rfl (RP.s 0 12 rfl rfl hS.d0.d0.d3 (fun w hS => Vl.ld 2 hS isAgg33 rfl rfl rfl) rfl (pp 1 rfl ?_))))))))))
     obtain ⟨hf, hs250, hS, hr251⟩ := St.promote hS.p5
     have hx253 : RepL R_log_done hf [.int .i64 y158.event.Key.Time, .int .i64 y158.event.Key.From, .int .i64 y158.event.Key.Seq, .int .i64 y158.event.To, .int .i64 y158.event.Value, .int .i64 y158.event.Uid, .bool y158.event.Anti, .int .i64 y158.fault, .slice A160 y158.sent.length c161, .pointer none] [(⟨y158.event, y158.fault, y158.sent, (⟨false, default⟩ : Pt api_State)⟩ : log_done)] := (RepL.cons (c := [.int .i64 y158.event.Key.Time, .int .i64 y158.event.Key.From, .int .i64 y158.event.Key.Seq, .int .i64 y158.event.To, .int .i64 y158.event.Value, .int .i64 y158.event.Uid, .bool y158.event.Anti, .int .i64 y158.fault, .slice A160 y158.sent.length c161, .pointer none]) (r := []) ⟨_, _, 0, rfl, hr251, PtR.nil⟩ RepL.nil)
     refine RP.e 8 rfl (OW.buildSliceR (sz := 10) (cs := [.int .i64 y158.event.Key.Time, .int .i64 y158.event.Key.From, .int .i64 y158.event.Key.Seq, .int .i64 y158.event.To, .int .i64 y158.event.Value, .int .i64 y158.event.Uid, .bool y158.event.Anti, .int .i64 y158.fault, .slice A160 y158.sent.length c161, .pointer none]) hS underlying56 zeroValue67 sizeOf67 (parts := [(0, .tmp 47)]) rfl rfl (by decide) (by decide) (by kernel_rfl)) rfl rfl ?_
     rintro _ w ⟨b252, rfl, hS⟩
     refine ⟨kp ⟨fun _ => (St.down hS.d0.d0.d0 hs250), fun _ => (St.down hS.d0 hs250), trivial⟩, ?_⟩
     obtain ⟨hq256, h⟩ := h.req
     obtain ⟨hf, hs254, hS, hr255⟩ := St.promoteR R_log_done_ok hS rfl hx253
     refine RP.e 9 rfl (OW.appendR (R := R_log_done) R_log_done_ok (xs := a2.l) (ys := [(⟨y158.event, y158.fault, y158.sent, (⟨false, default⟩ : Pt api_State)⟩ : log_done)]) 1 hS rfl underlying56 type67 rfl rfl rfl rfl (by decide) (by decide) ((hx12.mono hs250).mono hs254) rfl rfl hr255 hq256 rfl) rfl rfl ?_
     rintro _ w ⟨cs259, hx260, hS⟩
     obtain ⟨A257, c258, rfl, _⟩ := hS.osShape 0 rfl
     have hS : St B w (_ :: _ :: _ :: _ :: _ :: _ :: _ :: l) hf := hS
     refine ⟨kp ⟨fun _ => (St.down hS.d0.d0 (hs250.trans hs254)), (by intro hx; cases hx), trivial⟩, ?_⟩
     refine RP.v1 14 rfl (Vl.nilCheck rfl) rfl rfl (RP.v1 15 rfl (Vl.fa 16 underlying58 rfl sizeOf56 rfl rfl) rfl rfl (RP.e0 16 rfl (OW.store (vs := [.slice A257 (a2.l ++ ([(⟨y158.event, y158.fault, y158.sent, (⟨false, default⟩ : Pt api_State)⟩ : log_done)])).length c258]) 1 hS rfl rfl rfl rfl sizeOf56 rfl rfl rfl rfl) rfl ?_))
     rintro _ w ⟨rfl, hS⟩
     have hS : St B w (_ :: Cl _ [_, _, _, _, _, _, _, _, _, _, _, _, _, _, _, _, _, _] _ :: _ :: _ :: _ :: _ :: _ :: l) hf := hS
     refine ⟨kp ⟨fun _ => (St.down hS.d0.d0 (hs250.trans hs254)), (by intro hx; cases hx), trivial⟩, ?_⟩
     refine RP.v1 17 rfl (Vl.nilCheck rfl) rfl rfl (RP.v1 18 rfl (Vl.fa 5 underlying58 rfl sizeOf38 rfl rfl) rfl rfl (RP.e0 19 rfl (OW.store (vs := [.int .i64 y159.Regs.c0, .int .i64 y159.Regs.c1, .int .i64 y159.Regs.c2, .int .i64 y159.Regs.c3, .int .i64 y159.Regs.c4, .int .i64 y159.Regs.c5, .int .i64 y159.Regs.c6, .int .i64 y159.Regs.c7, .int .i64 y159.Draws, .int .i64 y159.Sent]) 1 hS rfl rfl rfl rfl sizeOf38 rfl rfl rfl rfl) rfl ?_))
     rintro _ w ⟨rfl, hS⟩
     have hS : St B w (_ :: Cl _ [_, _, _, _, _, _, _, _, _, _, _, _, _, _, _, _, _, _] _ :: _ :: _ :: _ :: _ :: _ :: l) hf := hS
     refine ⟨kp ⟨fun _ => (St.down hS.d0.d0 (hs250.trans hs254)), (by intro hx; cases hx), trivial⟩, ?_⟩
     refine RP.v1 20 rfl (Vl.nilCheck rfl) rfl rfl (RP.v1 21 rfl (Vl.fa 17 underlying58 rfl sizeOf4 rfl rfl) rfl rfl (RP.e0 22 rfl (OW.store (vs := [.bool (!decide (y158.fault = 0))]) 1 hS rfl rfl rfl rfl sizeOf4 rfl rfl rfl rfl) rfl ?_))
     rintro _ w ⟨rfl, hS⟩
     have hS : St B w (_ :: Cl _ [_, _, _, _, _, _, _, _, _, _, _, _, _, _, _, _, _, _] _ :: _ :: _ :: _ :: _ :: _ :: l) hf := hS
     refine ⟨kp ⟨(by intro hx; cases hx), (by intro hx; cases hx), trivial⟩, ?_⟩
     refine RP.nil (tsr (RL.s (Vl.lw 4 hS isAgg67 sizeOf67 rfl rfl rfl) rfl (RL.s (Vl.lw 2 hS isAgg38 sizeOf38 rfl rfl rfl) rfl (cF (fun _ hg => log_done_entry.ok (a1 := (⟨y158.event, y158.fault, y158.sent, (⟨false, default⟩ : Pt api_State)⟩ : log_done)) (hr251.mono hs254) (PtR.nil (b := 0)) hg hS) call23 h rfl rfl rfl ?_))))
     rintro t261 h _ w ⟨A263, c264, rfl, hS⟩
     refine RL.e0 (OW.store (vs := [.int .i64 t261.Event.Key.Time, .int .i64 t261.Event.Key.From, .int .i64 t261.Event.Key.Seq, .int .i64 t261.Event.To, .int .i64 t261.Event.Value, .int .i64 t261.Event.Uid, .bool t261.Event.Anti, .int .i64 t261.Before.Regs.c0, .int .i64 t261.Before.Regs.c1, .int .i64 t261.Before.Regs.c2, .int .i64 t261.Before.Regs.c3, .int .i64 t261.Before.Regs.c4, .int .i64 t261.Before.Regs.c5, .int .i64 t261.Before.Regs.c6, .int .i64 t261.Before.Regs.c7, .int .i64 t261.Before.Draws, .int .i64 t261.Before.Sent, .int .i64 t261.Fault, .slice A263 t261.Sent.length c264]) 6 hS rfl rfl rfl rfl sizeOf43 rfl rfl rfl rfl) rfl ?_
     rintro _ w ⟨rfl, hS⟩
     have hS : St B w (_ :: _ :: _ :: _ :: _ :: _ :: Cl _ [_, _, _, _, _, _, _, _, _, _, _, _, _, _, _, _, _, _, _] _ :: _ :: l) hf := hS
     refine pn 1 rfl (lr ?_)
     obtain rfl := h.some
     refine RQ.ret0 (vs := [.agg #[.int .i64 t261.Event.Key.Time, .int .i64 t261.Event.Key.From, .int .i64 t261.Event.Key.Seq, .int .i64 t261.Event.To, .int .i64 t261.Event.Value, .int .i64 t261.Event.Uid, .bool t261.Event.Anti, .int .i64 t261.Before.Regs.c0, .int .i64 t261.Before.Regs.c1, .int .i64 t261.Before.Regs.c2, .int .i64 t261.Before.Regs.c3, .int .i64 t261.Before.Regs.c4, .int .i64 t261.Before.Regs.c5, .int .i64 t261.Before.Regs.c6, .int .i64 t261.Before.Regs.c7, .int .i64 t261.Before.Draws, .int .i64 t261.Before.Sent, .int .i64 t261.Fault, .slice A263 t261.Sent.length c264], .int .i64 0]) results10 ⟨⟨_, rfl, run_loadVarA (vs := [.int .i64 t261.Event.Key.Time, .int .i64 t261.Event.Key.From, .int .i64 t261.Event.Key.Seq, .int .i64 t261.Event.To, .int .i64 t261.Event.Value, .int .i64 t261.Event.Uid, .bool t261.Event.Anti, .int .i64 t261.Before.Regs.c0, .int .i64 t261.Before.Regs.c1, .int .i64 t261.Before.Regs.c2, .int .i64 t261.Before.Regs.c3, .int .i64 t261.Before.Regs.c4, .int .i64 t261.Before.Regs.c5, .int .i64 t261.Before.Regs.c6, .int .i64 t261.Before.Regs.c7, .int .i64 t261.Before.Draws, .int .i64 t261.Before.Sent, .int .i64 t261.Fault, .slice A263 t261.Sent.length c264]) isAgg43 sizeOf43 rfl (hS.cellsAt 6 rfl rfl)⟩, rfl, trivial⟩ ?_
     exact ⟨_, (hs250.trans hs254), A263, c264, A257, c258, cs259, rfl, hS.d3.d3.d3.d3.d3, hx260⟩
   next =>
    refine RC.condT rfl (sr (RL.s (Vl.build (v := .agg #[.int .i64 0, .int .i64 0, .int .i64 0, .int .i64 0, .int .i64 0, .int .i64 0, .bool false, .int .i64 0, .int .i64 0, .int .i64 0, .int .i64 0, .int .i64 0, .int .i64 0, .int .i64 0, .int .i64 0, .int .i64 0, .int .i64 0, .int .i64 0, .slice none 0 0]) (parts := []) rfl (by kernel_rfl)) rfl (pn 1 rfl (RL.e0 (OW.store (vs := [.int .i64 0, .int .i64 0, .int .i64 0, .int .i64 0, .int .i64 0, .int .i64 0, .bool false, .int .i64 0, .int .i64 0, .int .i64 0, .int .i64 0, .int .i64 0, .int .i64 0, .int .i64 0, .int .i64 0, .int .i64 0, .int .i64 0, .int .i64 0, .slice none 0 0]) 2 hS rfl rfl rfl rfl sizeOf43 rfl rfl rfl rfl) rfl ?_))))
    rintro _ w ⟨rfl, hS⟩
    have hS : St B w (_ :: _ :: Cl _ [_, _, _, _, _, _, _, _, _, _, _, _, _, _, _, _, _, _, _] _ :: _ :: l) hf := hS
    refine pn 1 rfl (lr (RQ.ret ?_))
    have hS := hS.nilSl E_api_Message 30
    obtain rfl := h.some
    refine RQ.ret0 (vs := [.agg #[.int .i64 0, .int .i64 0, .int .i64 0, .int .i64 0, .int .i64 0, .int .i64 0, .bool false, .int .i64 0, .int .i64 0, .int .i64 0, .int .i64 0, .int .i64 0, .int .i64 0, .int .i64 0, .int .i64 0, .int .i64 0, .int .i64 0, .int .i64 0, .slice none 0 0], .int .i64 t153]) results10 ⟨⟨_, rfl, run_loadVarA (vs := [.int .i64 0, .int .i64 0, .int .i64 0, .int .i64 0, .int .i64 0, .int .i64 0, .bool false, .int .i64 0, .int .i64 0, .int .i64 0, .int .i64 0, .int .i64 0, .int .i64 0, .int .i64 0, .int .i64 0, .int .i64 0, .int .i64 0, .int .i64 0, .slice none 0 0]) isAgg43 sizeOf43 rfl (hS.cellsAt 3 rfl rfl)⟩, rfl, trivial⟩ ?_
    exact ⟨_, (Sub.refl _), none, 0, A9, c10, cs11, rfl, hS.d3.d3.p2.p1, hx12⟩

end Go.Proofs.Gx
