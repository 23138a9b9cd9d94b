/-
  The walks of functions, each with what it computes: printed by wip/gx.py.
-/
import Derived.Test.YtpheghebfodiiaaGreatDoorW0
import Derived.Test.YtpheghebfodiiaaGreatDoorW2
import Derived.Test.YtpheghebfodiiaaGreatDoorW4
set_option linter.unusedVariables false
set_option linter.unusedSimpArgs false
set_option maxRecDepth 100000
set_option maxHeartbeats 4000000
namespace Go.Proofs.Gx
open Go.Sl Tryz
variable {B : Base} {w : World} {l : List HProp} {hf : Hp}
noncomputable section
def lane_New.l8b (a11 : Int) (t1079 : List api_Message) : lane_Lane × Int → Option ((lane_Lane × Int) ⊕ ((Int) ⊕ (lane_Lane × Int)))
  | (y1114, x1115) => (if x1115 < (t1079.length : Int) then (if 0 ≤ x1115 then (if (nth t1079 x1115).To = a11 then ((lane_Lane_hold.f y1114 (nth t1079 x1115)).bind fun t1146 => some (.inl (t1146, IntKind.i64.wrap (x1115 + 1)))) else some (.inl (y1114, IntKind.i64.wrap (x1115 + 1)))) else none) else some (.inr (.inr ((y1114, 0)))))
def lane_New.l8 (a11 : Int) (t1079 : List api_Message) (s : lane_Lane × Int) : Option ((Int) ⊕ (lane_Lane × Int)) := loopR (lane_New.l8b a11 t1079) s
def lane_New.j6 (a1 : api_Model) (a11 : Int) (a12 : api_Caps) (y626 : api_World) (l904 : List Int) : Option ((Int) ⊕ (lane_Lane × Int)) := (if (([] : List api_Link).length + a1.Links.length) * 32 ≤ 140737488355328 then ((log_New.f y626 (⟨(⟨0, 0, 0, 0, 0, 0, 0, 0⟩ : Arr8xInti64), 0, 0⟩ : api_State) 4).bind fun t975 => match t975 with | .inl _ => none | .inr ((y977, y978)) => ((pend_New.f).bind fun (y991, y992) => ((model_Starts.f a1).bind fun t1079 => lane_New.l8 a11 t1079 ((⟨({ a1 with Links := (([] : List api_Link) ++ a1.Links) } : api_Model), a11, a12, l904, y977, y991, ([] : List lane_open), ([] : List api_Message), ([] : List (lane_sending × Int)), ([] : List (lane_sending × Bool)), 0, (⟨2, 4, 0, 1000, 0⟩ : api_Setting), (⟨0, 0, 0, 0⟩ : api_Stats)⟩ : lane_Lane), 0)))) else none)
def lane_New.f (a1 : api_Model) (a11 : Int) (a12 : api_Caps) : Option ((Int) ⊕ (lane_Lane × Int)) := ((model_World.f a1 a11).bind fun (y626, y627) => (if y627 = 0 then (if a12.Link < 1 then some (.inl 1) else (if 1024 < a12.Link then some (.inl 1) else (if (if a12.Log < a12.Wait then a12.Log else a12.Wait) < 1 then some (.inl 1) else (if 4096 < (if a12.Wait < a12.Log then a12.Log else a12.Wait) then some (.inl 1) else ((model_Ways.f a1 a11).bind fun t1149 => ((tune_First.f).bind fun _ => lane_New.j6 a1 a11 a12 y626 t1149)))))) else some (.inl y627)))
theorem lane_New.ok {a1 : api_Model} {a11 : Int} {a12 : api_Caps} {A2 A5 A8 : Option Addr} {c3 c6 c9 : Nat} (hr4 : SlR (Rep.sl E_api_Instr.rep) hf A2 c3 a1.Progs) (hr7 : SlR E_api_Link.rep hf A5 c6 a1.Links) (hr10 : SlR E_api_Start.rep hf A8 c9 a1.Starts) (hG0 : GlobAt hf 0 (.iface 192 (.agg #[.pointer (some ⟨1, 85, none⟩)]))) {r : (Int) ⊕ (lane_Lane × Int)} (h : lane_New.f a1 a11 a12 = some r) (hS : St B w (l) hf) :
    Calls prog 11 #[.agg (C_api_Model a1 A2 c3 A5 c6 A8 c9).toArray, iV a11, .agg (C_api_Caps a12).toArray] w (Ret fun v w => match (generalizing := false) r with | .inl r_ => v = .tuple #[.pointer none, iV r_] ∧ St B w (l) hf | .inr (r_) => ∃ hf_ : Hp, Sub hf hf_ ∧ ∃ (b_1 : Nat), v = .tuple #[pV b_1, iV r_.2] ∧ St B w (O_lane_Lane hf_ r_.1 b_1 :: l) hf_) := by
  have h := Holds.of h
  refine en func11 rfl ntmps11 rfl (sr (rr [0, 0, 0, 0] hS ?_))
  refine fun b613 b614 => it fun w hS => lnsr (rr [2, 0] hS ?_)
  refine it fun w hS => cF (fun _ hg => model_World.ok hr4 hr7 hr10 hG0 hg hS) call26 h rfl rfl rfl ?_
  rintro ⟨y626, y627⟩ h _ w ⟨A628, c629, A630, c631, rfl, hS⟩
  refine rr [0, 0, 0, 0, 1, 0] hS ?_
  refine fun b632 => it fun w hS => ln (RC.seq (sr (pn 2 rfl (ln ?_))))
  refine RC.iteN 20 rfl h (fun hc634 h => ?_) fun hc634 h => ?_
  next =>
   refine jfs (RC.seq (sr (rr [0, 4, 0, 0] hS ?_)))
   refine it fun w hS => RL.iteP 25 rfl h (fun hc639 h => ?_) fun hc639 h => ?_
   next =>
    refine pn 20 rfl (ln (jtr (pn 2 rfl (lr (RQ.ret ?_)))))
    cases h.some
    exact rt results11 rfl ⟨rfl, hS.d0.d0.d0.d0.d0⟩
   refine rr [0, 4, 0, 0, 0] hS ?_
   refine it fun w hS => RL.iteP 30 rfl h (fun hc640 h => ?_) fun hc640 h => ?_
   next =>
    refine pn 15 rfl (ln (jtr (pn 2 rfl (lr (RQ.ret ?_)))))
    cases h.some
    exact rt results11 rfl ⟨rfl, hS.d0.d0.d0.d0.d0⟩
   refine rr [0, 4, 0, 4] hS ?_
   refine it fun w hS => RL.sg (Vl.min2 rfl rfl) rfl rfl (pn 3 rfl ?_)
   refine RL.iteP 38 rfl h (fun hc641 h => ?_) fun hc641 h => ?_
   next =>
    refine pn 7 rfl (ln (jtr (pn 2 rfl (lr (RQ.ret ?_)))))
    cases h.some
    exact rt results11 rfl ⟨rfl, hS.d0.d0.d0.d0.d0⟩
   refine rr [0, 4, 0, 4] hS ?_
   refine it fun w hS => RL.sg (Vl.max2 rfl rfl) rfl rfl (pn 2 rfl (ln ?_))
   refine RC.iteP 45 rfl h (fun hc642 h => ?_) fun hc642 h => ?_
   next =>
    refine jtr (pn 2 rfl (lr (RQ.ret ?_)))
    cases h.some
    exact rt results11 rfl ⟨rfl, hS.d0.d0.d0.d0.d0⟩
   refine jfs (RC.seq (RC.planS (.early 0 0 (.pure 1 (.early 2 0 (.early 3 0 (.pure 4 (.fork3 5 6 7 (.fork3 6 7 8 (.fork 7 8 (.last 8 (.last 9 (.last 10 (.last 11 .nil)))) (.last 7 (.last 9 (.last 10 (.last 11 .nil))))) (.fork 6 8 (.last 8 (.last 9 (.last 10 (.last 11 .nil)))) (.last 6 (.last 9 (.last 10 (.last 11 .nil))))) (.fork 6 7 (.last 7 (.last 9 (.last 10 (.last 11 .nil)))) (.last 6 (.last 9 (.last 10 (.last 11 .nil)))))) (.fork 5 7 (.fork 7 8 (.last 8 (.last 9 (.last 10 (.last 11 .nil)))) (.last 7 (.last 9 (.last 10 (.last 11 .nil))))) (.last 5 (.last 8 (.last 9 (.last 10 (.last 11 .nil)))))) (.fork 5 6 (.fork 6 8 (.last 8 (.last 9 (.last 10 (.last 11 .nil)))) (.last 6 (.last 9 (.last 10 (.last 11 .nil))))) (.last 5 (.last 8 (.last 9 (.last 10 (.last 11 .nil)))))))))))) [9, 10, 11] hS (fun w hS => hS) follows rfl (by kernel_rfl) (NoTmp.then NoTmp.body) fun w hS => rq [5, 0, 4, 5, 0] hS ?_))
   refine it ?_
   refine RP.fj (fun (s : List Int) env w => ∃ l904, s = (l904) ∧ Holds (· = r) (lane_New.j6 a1 a11 a12 y626 l904) ∧ ∃ A905 c906 b907 b908, Ev env [(1, iV a11), (3, pV b613), (8, pV b632), (46, .agg (C_api_Model a1 A2 c3 A5 c6 A8 c9).toArray), (47, iV a11), (48, .agg (C_api_Caps a12).toArray), (51, sV A905 l904 c906), (52, .map (some b907)), (53, .map (some b908)), (54, .agg #[iV 2, iV 4, iV 0, iV 1000, iV 0])] ∧ St B w (OSf E_api_Instr 312 (sV A628 y626.Prog c629) y626.Prog :: OSf E_api_Link 65 (sV A630 y626.Links c631) y626.Links :: OSf (FI .i64) 3 (sV A905 l904 c906) l904 :: Cl b632 (C_api_World y626 A628 c629 A630 c631) 91 :: Cl b613 (C_api_Model a1 A2 c3 A5 c6 A8 c9) 27 :: MapF kv_lane_sending (Value.int .i64) b907 ([] : List (lane_sending × Int)) :: MapF kv_lane_sending Value.bool b908 ([] : List (lane_sending × Bool)) :: Cl b614 (C_api_Caps a12) 29 :: l) hf) (.last 9 (.last 10 (.last 11 .nil))) ?_ fun hk => ?_
   · rintro l904 env w ⟨_, rfl, h, A905, c906, b907, b908, ha, hS⟩
     refine RP.to ha (rq [0] hS.d2.d4.d4.p4.p2.p2.p3 ?_)
     refine it ?_
     obtain ⟨hf, hs909, hS, hr910⟩ := St.promote hS.p2
     refine RP.e 10 rfl (OW.box (cs := [sV A2 a1.Progs c3, sV A5 a1.Links c6, sV A8 a1.Starts c9, .int .u64 a1.Seed, iV a1.End, iV a1.Budget, iV a11, iV a12.Link, iV a12.Wait, iV a12.Log, sV A905 l904 c906, .pointer none, .pointer none, .slice none 0 0, .slice none 0 0, .map (some b907), .map (some b908), iV 0, iV 2, iV 4, iV 0, iV 1000, iV 0, iV 0, iV 0, iV 0, iV 0]) hS rfl rfl) rfl rfl ?_
     rintro _ w ⟨b911, rfl, hS⟩
     refine ⟨kp ⟨(by intro hx; cases hx), trivial⟩, ?_⟩
     refine rq [0] (St.down hS.d0.d4.d4.p4.p2.p2.p3 hs909) ?_
     refine it (RP.nil (tsr (rr [0, 0, 5] hS ?_)))
     refine it fun w hS => ?_
     obtain ⟨hq916, h⟩ := h.req
     have hS := hS.nilSl E_api_Link 65
     refine RL.e (OW.appendV (E := E_api_Link) (xs := ([] : List api_Link)) (ys := a1.Links) 0 hS rfl underlying23 type65 rfl rfl rfl rfl (by decide) (by decide) rfl rfl ((hr7.mono hs909).2.world hS.sub) hq916 rfl) rfl rfl ?_
     rintro v919 w hS
     obtain ⟨A917, c918, rfl, _⟩ := hS.osShape 0 rfl
     have hS : St B w (_ :: _ :: _ :: _ :: _ :: _ :: _ :: _ :: _ :: l) hf := hS
     refine rr [0, 0, 0, 2] hS ?_
     refine it fun w hS => ln (RC.seq (dk [0, 4, 6, 9, 12, 15, 18, 22, 26, 27, 30, 33, 38, 41, 44] [12, 13, 14] hS (fun w hS => hS.d2.d2) fun w hS => rq [0, 3, 0, 0, 0, 0, 0, 2] hS.d2.d2 ?_))
     refine it ?_
     obtain ⟨hf, hs971, hS, hr972⟩ := St.promote hS.p2
     have hS : St B w (_ :: _ :: _ :: _ :: _ :: _ :: _ :: _ :: l) hf := hS
     obtain ⟨hf, hs973, hS, hr974⟩ := St.promote hS.p2
     have hS : St B w (_ :: _ :: _ :: _ :: _ :: _ :: _ :: l) hf := hS
     obtain ⟨t975, hg976, h⟩ := h.bind
     have hc := log_New.ok (hr972.mono hs973) hr974 hg976 hS
     rcases t975 with _ | ⟨y977, y978⟩
     · exact h.none
     refine RP.e 8 rfl (OW.callF (ls := [.tmp 66, .tmp 67, .tmp 72]) rfl call28 hc) rfl rfl ?_
     rintro _ w ⟨hf, hs980, b979, rfl, hS⟩
     refine ⟨kp ⟨fun _ => (St.down hS.d0 ((hs971.trans hs973).trans hs980)), trivial⟩, ?_⟩
     refine rq [0, 0, 0, 0, 0] (St.down hS.d0 ((hs971.trans hs973).trans hs980)) ?_
     refine it (RP.e0 14 rfl (OW.store (vs := [pV b979]) 2 hS rfl rfl rfl rfl sizeOf96 rfl rfl rfl rfl) rfl ?_)
     rintro _ w ⟨rfl, hS⟩
     have hS : St B w (_ :: _ :: Cl _ [_, _, _, _, _, _, _, _, _, _, _, _, _, _, _, _, _, _, _, _, _, _, _, _, _, _, _] _ :: _ :: _ :: _ :: _ :: _ :: l) hf := hS
     refine ⟨kp ⟨(by intro hx; cases hx), trivial⟩, ?_⟩
     refine RP.nil (tsr (rr [0, 0, 0, 0, 0, 3] hS ?_))
     refine it fun w hS => cF (fun _ hg => pend_New.ok hg hS) call29 h rfl rfl rfl ?_
     rintro ⟨y991, y992⟩ h _ w ⟨b993, rfl, hS⟩
     refine rr [0, 0, 0, 0, 0, 4] hS ?_
     refine it fun w hS => ln (RC.seq (sr (rr [6] hS ?_)))
     refine it fun w hS => cF (fun _ hg => model_Starts.ok ((((hr4.mono hs909).mono hs971).mono hs973).mono hs980) ((((hr7.mono hs909).mono hs971).mono hs973).mono hs980) ((((hr10.mono hs909).mono hs971).mono hs973).mono hs980) hg hS) call30 h rfl rfl rfl ?_
     rintro t1079 h _ w ⟨A1081, c1082, rfl, hS⟩
     refine r0 2 rfl (ln (RC.block ?_))
     obtain ⟨hf, hs1083, hS, hr1084⟩ := St.promote hS.p3
     have hS := O_pend_Pend.l hs1083 hS.p1
     have hS := O_log_Log.l hs1083 hS.p2
     have hS := hS.nilSl E_lane_open 221
     have hS := hS.nilSl E_api_Message 115
     have hS := O_lane_Lane.c (x := (⟨({ a1 with Links := (([] : List api_Link) ++ a1.Links) } : api_Model), a11, a12, l904, y977, y991, ([] : List lane_open), ([] : List api_Message), ([] : List (lane_sending × Int)), ([] : List (lane_sending × Bool)), 0, (⟨2, 4, 0, 1000, 0⟩ : api_Setting), (⟨0, 0, 0, 0⟩ : api_Stats)⟩ : lane_Lane)) (((((hr4.mono hs909).mono hs971).mono hs973).mono hs980).mono hs1083) hr1084 (((((hr10.mono hs909).mono hs971).mono hs973).mono hs980).mono hs1083) ((((hr910.mono hs971).mono hs973).mono hs980).mono hs1083) hS.p9.p9.p2.p3.p5.p5.p7
     refine fun a ha => lp h (fun (s : lane_Lane × Int) a w => ∃ y1114 x1115, s = (y1114, x1115) ∧ ∃ hf_, Sub hf hf_ ∧ Has 106 [(1, iV a11), (10, pV b911), (91, sV A1081 t1079 c1082), (92, iV (t1079.length : Int)), (93, iV x1115)] a ∧ St B w (OSf E_api_Message 115 (sV A1081 t1079 c1082) t1079 :: O_lane_Lane hf_ y1114 b911 :: l) hf_) ⟨_, _, rfl, _, (Sub.refl _), ha.tE rfl, hS.d2.d2.d2.p1⟩ ?_
     rintro G1133 _ a w ⟨y1114, x1115, rfl, hf, hs1098, ha, hS⟩ h
     refine ro ha (sr (pn 1 rfl (ln (RC.seq ?_))))
     refine RC.iteP 94 rfl h (fun hc1135 h => ?_) fun hc1135 h => ?_
     next =>
      refine jt (sk (RC.seq (RC.block (sr ?_))))
      obtain ⟨hq1143, h⟩ := h.req
      refine RL.s (Vl.indexOwn 0 hS rfl underlying99 sizeOf115 rfl rfl hq1143 hc1135) rfl (RL.s (Vl.loadA isAgg115 sizeOf115 rfl rfl ((hS.slW 0 rfl).2.2.cells hq1143 hc1135)) rfl (rr [0, 1] hS ?_))
      refine fun b1144 => it fun w hS => lnsr (rr [0, 1, 0, 0] hS ?_)
      refine it fun w hS => ln ?_
      refine RC.iteP 100 rfl h (fun hc1145 h => ?_) fun hc1145 h => ?_
      next =>
       refine jt (RC.region (rr [0, 1] hS ?_))
       refine it fun w hS => cF (fun _ hg => lane_Lane_hold.ok hg hS.p2) call31 h rfl rfl rfl ?_
       rintro t1146 h _ w ⟨hf, hs1148, rfl, hS⟩
       refine RL.nil (RQ.inB_n (RQ.then_n (RC.region (pn 2 rfl (RL.nil ?_)))))
       exact fun a ha => ⟨_, h.some, _, _, rfl, _, (hs1098.trans hs1148), ha.tE rfl, hS.d1.p1⟩
      refine jf (RC.skip (RQ.inB_n (RQ.then_n (RC.region (pn 2 rfl (RL.nil ?_))))))
      exact fun a ha => ⟨_, h.some, _, _, rfl, _, hs1098, ha.tE rfl, hS.d0⟩
     refine jf (RC.exit (RQ.exitT ?_))
     have h := h.inrS
     refine RQ.exitT (RQ.inB_hit (tsr (pn 3 rfl (lr ?_))))
     cases h.some
     exact rt results11 rfl ⟨_, (((((hs909.trans hs971).trans hs973).trans hs980).trans hs1083).trans hs1098), b911, rfl, hS.d0⟩
   refine RP.fork3 ?_ ?_ ?_
   · obtain ⟨t1149, hg1150, h⟩ := h.bind
     have hc := model_Ways.ok hr4 hr7 hr10 hg1150 hS
     refine RPW.e 5 rfl (OW.callF (ls := [.tmp 49, .tmp 50]) rfl call13 hc) rfl rfl ?_
     rintro _ w ⟨A1151, c1152, rfl, hS⟩
     refine ⟨kp ⟨fun _ => hS.d0, trivial⟩, ?_⟩
     refine RP.fork3 ?_ ?_ ?_
     · refine RPW.e 6 rfl (OW.makeMapF (kv := kv_lane_sending) (vv := (Value.int .i64)) hS) rfl rfl ?_
       rintro _ w ⟨b1153, rfl, hS⟩
       refine ⟨kp ⟨fun _ => hS.d0.d0, trivial⟩, ?_⟩
       refine RP.fork ?_ ?_
       · refine RPW.e 7 rfl (OW.makeMapF (kv := kv_lane_sending) (vv := Value.bool) hS) rfl rfl ?_
         rintro _ w ⟨b1154, rfl, hS⟩
         refine ⟨kp ⟨fun _ => hS.d0.d0.d0, trivial⟩, ?_⟩
         obtain ⟨t1155, hg1156, h⟩ := h.bind
         have hc := tune_First.ok hg1156 hS
         refine RP.e 8 rfl (OW.callF (ls := []) rfl call27 hc) rfl rfl ?_
         rintro _ w ⟨rfl, hS⟩
         refine ⟨kp ⟨fun _ => hS.d0.d0.d0, trivial⟩, ?_⟩
         exact hk _ _ _ ⟨_, rfl, h, _, _, _, _, ⟨rfl, rfl, rfl, rfl, rfl, rfl, rfl, rfl, rfl, rfl, trivial⟩, hS.p1.p7.p4.p4.p6.p6⟩
       · obtain ⟨t1157, hg1158, h⟩ := h.bind
         have hc := tune_First.ok hg1158 hS
         refine RPW.e 8 rfl (OW.callF (ls := []) rfl call27 hc) rfl rfl ?_
         rintro _ w ⟨rfl, hS⟩
         refine ⟨kp ⟨fun _ => hS.d0.d0, trivial⟩, ?_⟩
         refine RP.e 7 rfl (OW.makeMapF (kv := kv_lane_sending) (vv := Value.bool) hS) rfl rfl ?_
         rintro _ w ⟨b1159, rfl, hS⟩
         refine ⟨kp ⟨fun _ => hS.d0.d0.d0, trivial⟩, ?_⟩
         exact hk _ _ _ ⟨_, rfl, h, _, _, _, _, ⟨rfl, rfl, rfl, rfl, rfl, rfl, rfl, rfl, rfl, rfl, trivial⟩, hS.p1.p7.p4.p4.p6.p6⟩
     · refine RPW.e 7 rfl (OW.makeMapF (kv := kv_lane_sending) (vv := Value.bool) hS) rfl rfl ?_
       rintro _ w ⟨b1160, rfl, hS⟩
       refine ⟨kp ⟨fun _ => hS.d0.d0, trivial⟩, ?_⟩
       refine RP.fork ?_ ?_
       · refine RPW.e 6 rfl (OW.makeMapF (kv := kv_lane_sending) (vv := (Value.int .i64)) hS) rfl rfl ?_
         rintro _ w ⟨b1161, rfl, hS⟩
         refine ⟨kp ⟨fun _ => hS.d0.d0.d0, trivial⟩, ?_⟩
         obtain ⟨t1162, hg1163, h⟩ := h.bind
         have hc := tune_First.ok hg1163 hS
         refine RP.e 8 rfl (OW.callF (ls := []) rfl call27 hc) rfl rfl ?_
         rintro _ w ⟨rfl, hS⟩
         refine ⟨kp ⟨fun _ => hS.d0.d0.d0, trivial⟩, ?_⟩
         exact hk _ _ _ ⟨_, rfl, h, _, _, _, _, ⟨rfl, rfl, rfl, rfl, rfl, rfl, rfl, rfl, rfl, rfl, trivial⟩, hS.p7.p4.p4.p6.p6⟩
       · obtain ⟨t1164, hg1165, h⟩ := h.bind
         have hc := tune_First.ok hg1165 hS
         refine RPW.e 8 rfl (OW.callF (ls := []) rfl call27 hc) rfl rfl ?_
         rintro _ w ⟨rfl, hS⟩
         refine ⟨kp ⟨fun _ => hS.d0.d0, trivial⟩, ?_⟩
         refine RP.e 6 rfl (OW.makeMapF (kv := kv_lane_sending) (vv := (Value.int .i64)) hS) rfl rfl ?_
         rintro _ w ⟨b1166, rfl, hS⟩
         refine ⟨kp ⟨fun _ => hS.d0.d0.d0, trivial⟩, ?_⟩
         exact hk _ _ _ ⟨_, rfl, h, _, _, _, _, ⟨rfl, rfl, rfl, rfl, rfl, rfl, rfl, rfl, rfl, rfl, trivial⟩, hS.p7.p4.p4.p6.p6⟩
     · obtain ⟨t1167, hg1168, h⟩ := h.bind
       have hc := tune_First.ok hg1168 hS
       refine RPW.e 8 rfl (OW.callF (ls := []) rfl call27 hc) rfl rfl ?_
       rintro _ w ⟨rfl, hS⟩
       refine ⟨kp ⟨fun _ => hS.d0, trivial⟩, ?_⟩
       refine RP.fork ?_ ?_
       · refine RPW.e 6 rfl (OW.makeMapF (kv := kv_lane_sending) (vv := (Value.int .i64)) hS) rfl rfl ?_
         rintro _ w ⟨b1169, rfl, hS⟩
         refine ⟨kp ⟨fun _ => hS.d0.d0, trivial⟩, ?_⟩
         refine RP.e 7 rfl (OW.makeMapF (kv := kv_lane_sending) (vv := Value.bool) hS) rfl rfl ?_
         rintro _ w ⟨b1170, rfl, hS⟩
         refine ⟨kp ⟨fun _ => hS.d0.d0.d0, trivial⟩, ?_⟩
         exact hk _ _ _ ⟨_, rfl, h, _, _, _, _, ⟨rfl, rfl, rfl, rfl, rfl, rfl, rfl, rfl, rfl, rfl, trivial⟩, hS.p1.p7.p4.p4.p6.p6⟩
       · refine RPW.e 7 rfl (OW.makeMapF (kv := kv_lane_sending) (vv := Value.bool) hS) rfl rfl ?_
         rintro _ w ⟨b1171, rfl, hS⟩
         refine ⟨kp ⟨fun _ => hS.d0.d0, trivial⟩, ?_⟩
         refine RP.e 6 rfl (OW.makeMapF (kv := kv_lane_sending) (vv := (Value.int .i64)) hS) rfl rfl ?_
         rintro _ w ⟨b1172, rfl, hS⟩
         refine ⟨kp ⟨fun _ => hS.d0.d0.d0, trivial⟩, ?_⟩
         exact hk _ _ _ ⟨_, rfl, h, _, _, _, _, ⟨rfl, rfl, rfl, rfl, rfl, rfl, rfl, rfl, rfl, rfl, trivial⟩, hS.p7.p4.p4.p6.p6⟩
   · refine RPW.e 6 rfl (OW.makeMapF (kv := kv_lane_sending) (vv := (Value.int .i64)) hS) rfl rfl ?_
     rintro _ w ⟨b1173, rfl, hS⟩
     refine ⟨kp ⟨fun _ => hS.d0, trivial⟩, ?_⟩
     refine RP.fork ?_ ?_
     · obtain ⟨t1174, hg1175, h⟩ := h.bind
       have hc := model_Ways.ok hr4 hr7 hr10 hg1175 hS
       refine RPW.e 5 rfl (OW.callF (ls := [.tmp 49, .tmp 50]) rfl call13 hc) rfl rfl ?_
       rintro _ w ⟨A1176, c1177, rfl, hS⟩
       refine ⟨kp ⟨fun _ => hS.d0.d0, trivial⟩, ?_⟩
       refine RP.fork ?_ ?_
       · refine RPW.e 7 rfl (OW.makeMapF (kv := kv_lane_sending) (vv := Value.bool) hS) rfl rfl ?_
         rintro _ w ⟨b1178, rfl, hS⟩
         refine ⟨kp ⟨fun _ => hS.d0.d0.d0, trivial⟩, ?_⟩
         obtain ⟨t1179, hg1180, h⟩ := h.bind
         have hc := tune_First.ok hg1180 hS
         refine RP.e 8 rfl (OW.callF (ls := []) rfl call27 hc) rfl rfl ?_
         rintro _ w ⟨rfl, hS⟩
         refine ⟨kp ⟨fun _ => hS.d0.d0.d0, trivial⟩, ?_⟩
         exact hk _ _ _ ⟨_, rfl, h, _, _, _, _, ⟨rfl, rfl, rfl, rfl, rfl, rfl, rfl, rfl, rfl, rfl, trivial⟩, hS.p2.p7.p4.p4.p6.p6⟩
       · obtain ⟨t1181, hg1182, h⟩ := h.bind
         have hc := tune_First.ok hg1182 hS
         refine RPW.e 8 rfl (OW.callF (ls := []) rfl call27 hc) rfl rfl ?_
         rintro _ w ⟨rfl, hS⟩
         refine ⟨kp ⟨fun _ => hS.d0.d0, trivial⟩, ?_⟩
         refine RP.e 7 rfl (OW.makeMapF (kv := kv_lane_sending) (vv := Value.bool) hS) rfl rfl ?_
         rintro _ w ⟨b1183, rfl, hS⟩
         refine ⟨kp ⟨fun _ => hS.d0.d0.d0, trivial⟩, ?_⟩
         exact hk _ _ _ ⟨_, rfl, h, _, _, _, _, ⟨rfl, rfl, rfl, rfl, rfl, rfl, rfl, rfl, rfl, rfl, trivial⟩, hS.p2.p7.p4.p4.p6.p6⟩
     · refine RPW.e 7 rfl (OW.makeMapF (kv := kv_lane_sending) (vv := Value.bool) hS) rfl rfl ?_
       rintro _ w ⟨b1184, rfl, hS⟩
       refine ⟨kp ⟨fun _ => hS.d0.d0, trivial⟩, ?_⟩
       obtain ⟨t1185, hg1186, h⟩ := h.bind
       have hc := model_Ways.ok hr4 hr7 hr10 hg1186 hS
       refine RP.e 5 rfl (OW.callF (ls := [.tmp 49, .tmp 50]) rfl call13 hc) rfl rfl ?_
       rintro _ w ⟨A1187, c1188, rfl, hS⟩
       refine ⟨kp ⟨fun _ => hS.d0.d0.d0, trivial⟩, ?_⟩
       obtain ⟨t1189, hg1190, h⟩ := h.bind
       have hc := tune_First.ok hg1190 hS
       refine RP.e 8 rfl (OW.callF (ls := []) rfl call27 hc) rfl rfl ?_
       rintro _ w ⟨rfl, hS⟩
       refine ⟨kp ⟨fun _ => hS.d0.d0.d0, trivial⟩, ?_⟩
       exact hk _ _ _ ⟨_, rfl, h, _, _, _, _, ⟨rfl, rfl, rfl, rfl, rfl, rfl, rfl, rfl, rfl, rfl, trivial⟩, hS.p2.p7.p4.p3.p6.p6⟩
   · refine RPW.e 7 rfl (OW.makeMapF (kv := kv_lane_sending) (vv := Value.bool) hS) rfl rfl ?_
     rintro _ w ⟨b1191, rfl, hS⟩
     refine ⟨kp ⟨fun _ => hS.d0, trivial⟩, ?_⟩
     refine RP.fork ?_ ?_
     · obtain ⟨t1192, hg1193, h⟩ := h.bind
       have hc := model_Ways.ok hr4 hr7 hr10 hg1193 hS
       refine RPW.e 5 rfl (OW.callF (ls := [.tmp 49, .tmp 50]) rfl call13 hc) rfl rfl ?_
       rintro _ w ⟨A1194, c1195, rfl, hS⟩
       refine ⟨kp ⟨fun _ => hS.d0.d0, trivial⟩, ?_⟩
       refine RP.fork ?_ ?_
       · refine RPW.e 6 rfl (OW.makeMapF (kv := kv_lane_sending) (vv := (Value.int .i64)) hS) rfl rfl ?_
         rintro _ w ⟨b1196, rfl, hS⟩
         refine ⟨kp ⟨fun _ => hS.d0.d0.d0, trivial⟩, ?_⟩
         obtain ⟨t1197, hg1198, h⟩ := h.bind
         have hc := tune_First.ok hg1198 hS
         refine RP.e 8 rfl (OW.callF (ls := []) rfl call27 hc) rfl rfl ?_
         rintro _ w ⟨rfl, hS⟩
         refine ⟨kp ⟨fun _ => hS.d0.d0.d0, trivial⟩, ?_⟩
         exact hk _ _ _ ⟨_, rfl, h, _, _, _, _, ⟨rfl, rfl, rfl, rfl, rfl, rfl, rfl, rfl, rfl, rfl, trivial⟩, hS.p7.p4.p3.p6.p6⟩
       · obtain ⟨t1199, hg1200, h⟩ := h.bind
         have hc := tune_First.ok hg1200 hS
         refine RPW.e 8 rfl (OW.callF (ls := []) rfl call27 hc) rfl rfl ?_
         rintro _ w ⟨rfl, hS⟩
         refine ⟨kp ⟨fun _ => hS.d0.d0, trivial⟩, ?_⟩
         refine RP.e 6 rfl (OW.makeMapF (kv := kv_lane_sending) (vv := (Value.int .i64)) hS) rfl rfl ?_
         rintro _ w ⟨b1201, rfl, hS⟩
         refine ⟨kp ⟨fun _ => hS.d0.d0.d0, trivial⟩, ?_⟩
         exact hk _ _ _ ⟨_, rfl, h, _, _, _, _, ⟨rfl, rfl, rfl, rfl, rfl, rfl, rfl, rfl, rfl, rfl, trivial⟩, hS.p7.p4.p3.p6.p6⟩
     · refine RPW.e 6 rfl (OW.makeMapF (kv := kv_lane_sending) (vv := (Value.int .i64)) hS) rfl rfl ?_
       rintro _ w ⟨b1202, rfl, hS⟩
       refine ⟨kp ⟨fun _ => hS.d0.d0, trivial⟩, ?_⟩
       obtain ⟨t1203, hg1204, h⟩ := h.bind
       have hc := model_Ways.ok hr4 hr7 hr10 hg1204 hS
       refine RP.e 5 rfl (OW.callF (ls := [.tmp 49, .tmp 50]) rfl call13 hc) rfl rfl ?_
       rintro _ w ⟨A1205, c1206, rfl, hS⟩
       refine ⟨kp ⟨fun _ => hS.d0.d0.d0, trivial⟩, ?_⟩
       obtain ⟨t1207, hg1208, h⟩ := h.bind
       have hc := tune_First.ok hg1208 hS
       refine RP.e 8 rfl (OW.callF (ls := []) rfl call27 hc) rfl rfl ?_
       rintro _ w ⟨rfl, hS⟩
       refine ⟨kp ⟨fun _ => hS.d0.d0.d0, trivial⟩, ?_⟩
       exact hk _ _ _ ⟨_, rfl, h, _, _, _, _, ⟨rfl, rfl, rfl, rfl, rfl, rfl, rfl, rfl, rfl, rfl, trivial⟩, hS.p7.p4.p2.p6.p6⟩
  refine jtr (pn 3 rfl (lr (RQ.ret ?_)))
  cases h.some
  exact rt results11 rfl ⟨rfl, hS.d0.d0.d0.d0.d0⟩
def colour_New.f  : Option (colour_Tally) := some (⟨true, 0, (⟨0, 0⟩ : Arr2xInti64), 4611686018427387904⟩ : colour_Tally)
theorem colour_New.ok {r : colour_Tally} (h : colour_New.f = some r) (hS : St B w (l) hf) :
    Calls prog 12 #[] w (Ret fun v w => ∃ (b_1 : Nat), v = pV b_1 ∧ St B w (O_colour_Tally hf r b_1 :: l) hf) := by
  have h := Holds.of h
  refine en func12 rfl ntmps12 rfl (sr (pn 1 rfl (lnsr (rr [0, 0, 0] hS ?_))))
  refine fun b2 => it fun w hS => lr ?_
  have hS := O_colour_Tally.c (x := (⟨true, 0, (⟨0, 0⟩ : Arr2xInti64), 4611686018427387904⟩ : colour_Tally)) hS
  cases h.some
  exact rt results12 rfl ⟨b2, rfl, hS⟩
def model_Into_1.f (a1 : api_Link) (a3 : Int) : Option (Bool) := some (decide (a1.To = a3))
theorem model_Into_1.ok {a1 : api_Link} {a3 : Int} {b2 : Nat} {r : Bool} (h : model_Into_1.f a1 a3 = some r) (hS : St B w (Cl b2 [iV a3] 3 :: l) hf) :
    Calls prog 34 #[.agg (C_api_Link a1).toArray, pV b2] w (Ret fun v w => v = .bool r ∧ St B w (Cl b2 [iV a3] 3 :: l) hf) := by
  have h := Holds.of h
  refine en func34 rfl ntmps34 rfl (sr (rr [0, 0] hS ?_))
  refine fun b5 => it fun w hS => lnsr (rr [0, 1, 2, 0, 0] hS ?_)
  refine it fun w hS => lr ?_
  cases h.some
  exact rt results34 rfl ⟨rfl, hS.d0⟩
def model_places_2.j8 (x131 : Int) (l174 : List Int) : Option ((List Int × Int) ⊕ (List Int)) := some (.inl (l174, IntKind.i64.wrap (x131 + 1)))
def model_places_2.l7b (a1 : api_Model) (a12 : Int) : List Int × Int → Option ((List Int × Int) ⊕ (List Int))
  | (l128, x131) => (if x131 < (a1.Links.length : Int) then (if 0 ≤ x131 then ((model_Into_1.f (nth a1.Links x131) a12).bind fun t179 => (if t179 = true then (if (l128.length + 1) * 8 ≤ 140737488355328 then model_places_2.j8 x131 (l128 ++ ([x131] : List Int)) else none) else model_places_2.j8 x131 l128)) else none) else some (.inr l128))
def model_places_2.l7 (a1 : api_Model) (a12 : Int) (s : List Int × Int) : Option (List Int) := loopR (model_places_2.l7b a1 a12) s
def model_places_2.f (a1 : api_Model) (a12 : Int) : Option (List Int) := model_places_2.l7 a1 a12 ([], 0)
theorem model_places_2.ok {a1 : api_Model} {a12 : Int} {A2 A5 A8 : Option Addr} {c3 c6 c9 b11 : Nat} (hr4 : SlR (Rep.sl E_api_Instr.rep) hf A2 c3 a1.Progs) (hr7 : SlR E_api_Link.rep hf A5 c6 a1.Links) (hr10 : SlR E_api_Start.rep hf A8 c9 a1.Starts) {r : List Int} (h : model_places_2.f a1 a12 = some r) (hS : St B w (Cl b11 [iV a12] 3 :: l) hf) :
    Calls prog 32 #[.agg (C_api_Model a1 A2 c3 A5 c6 A8 c9).toArray, .func (.func 34) #[] #[pV b11]] w (Ret fun v w => ∃ (A_1 : Option Addr) (c_2 : Nat), v = sV A_1 r c_2 ∧ St B w (OSf (FI .i64) 3 (sV A_1 r c_2) r :: Cl b11 [iV a12] 3 :: l) hf) := by
  have h := Holds.of h
  refine en func32 rfl ntmps32 rfl (sr (rr [0, 0] hS ?_))
  refine fun b100 => it fun w hS => lnsr (pn 1 rfl (ln (RC.seq (sr (rr [0, 1, 0, 0] hS ?_)))))
  refine it fun w hS => RL.nil ?_
  refine RQ.then_n (RC.block ?_)
  have hS := hS.nilSl (FI .i64) 3
  refine fun a ha => lp h (fun (s : List Int × Int) a w => ∃ l128 x131, s = (l128, x131) ∧ ∃ A129 c130, Has 25 [(1, .func (.func 34) #[] #[pV b11]), (5, sV A129 l128 c130), (9, sV A5 a1.Links c6), (10, iV (a1.Links.length : Int)), (11, iV x131)] a ∧ St B w (OSf (FI .i64) 3 (sV A129 l128 c130) l128 :: Cl b11 [iV a12] 3 :: l) hf) ⟨_, _, rfl, _, _, ha.tE rfl, hS.d1⟩ ?_
  rintro G161 _ a w ⟨l128, x131, rfl, A129, c130, ha, hS⟩ h
  refine ro ha (sr (pn 1 rfl (ln (RC.seq ?_))))
  refine RC.iteP 12 rfl h (fun hc163 h => ?_) fun hc163 h => ?_
  next =>
   refine jt (sk ?_)
   refine RC.join (fun (s : List Int) a w => ∃ l174, s = (l174) ∧ Holds (Sum.elim G161 (· = r)) (model_places_2.j8 x131 l174) ∧ ∃ A175 c176, Has 25 [(1, .func (.func 34) #[] #[pV b11]), (5, sV A175 l174 c176), (9, sV A5 a1.Links c6), (10, iV (a1.Links.length : Int)), (11, iV x131)] a ∧ St B w (OSf (FI .i64) 3 (sV A175 l174 c176) l174 :: Cl b11 [iV a12] 3 :: l) hf) ?_ ?_
   · rintro l174 a w ⟨_, rfl, h, A175, c176, ha, hS⟩
     refine ro ha (RC.region (pn 2 rfl (RL.nil ?_)))
     exact fun a ha => ⟨_, h.some, _, _, rfl, _, _, ha.tE rfl, hS⟩
   refine RC.block (sr (pn 1 rfl ?_))
   obtain ⟨hq177, h⟩ := h.req
   refine RL.s (Vl.indexAddr underlying23 sizeOf65 rfl rfl ((hr7.2.world hS.sub).adr hq177 hc163) hq177 hc163 rfl) rfl (RL.s (Vl.loadA isAgg65 sizeOf65 rfl rfl ((hr7.2.world hS.sub).cells hq177 hc163)) rfl (rr [0, 0, 1] hS ?_))
   refine fun b178 => it fun w hS => lnsr (rr [0, 1] hS ?_)
   refine it fun w hS => ?_
   obtain ⟨t179, hg180, h⟩ := h.bind
   have hc := model_Into_1.ok hg180 hS.p2
   refine RL.e (OW.call (ls := [.tmp 17]) rfl rfl call34 rfl hc) rfl rfl ?_
   rintro _ w ⟨rfl, hS⟩
   refine ln ?_
   refine RC.iteB 18 rfl h (fun hc181 h => ?_) fun hc181 h => ?_
   next =>
    refine jt (RC.region (pn 2 rfl (RL.e (OW.buildSlice (E := (FI .i64)) (xs := ([x131] : List Int)) (cs := [iV x131]) hS underlying56 zeroValue3 sizeOf3 (parts := [(0, .tmp 20)]) rfl rfl (by decide) (by decide) (by kernel_rfl) rfl) rfl rfl ?_)))
    rintro _ w ⟨b182, rfl, hS⟩
    obtain ⟨hq183, h⟩ := h.req
    refine RL.e (OW.append (E := (FI .i64)) (xs := l128) (ys := ([x131] : List Int)) 3 hS rfl underlying56 type3 rfl rfl rfl rfl (by decide) rfl rfl rfl (hS.slW 0 rfl).2.2.flat (by simp only [maxLen, List.length_cons, List.length_nil] at *; omega) hq183 rfl) rfl rfl ?_
    rintro v186 w hS
    obtain ⟨A184, c185, rfl, _⟩ := hS.osShape 0 rfl
    have hS : St B w (_ :: _ :: _ :: _ :: l) hf := hS
    refine pn 1 rfl (RL.nil (RQ.inB_n ?_))
    exact fun a ha => ⟨_, _, rfl, h, _, _, ha.tE rfl, hS.d1.d2⟩
   refine jf (RC.skip (RQ.inB_n ?_))
   exact fun a ha => ⟨_, _, rfl, h, _, _, ha.tE rfl, hS.d1.p1⟩
  refine jf (RC.exit (RQ.exitT ?_))
  have h := h.inrS
  refine RQ.exitT (RQ.inB_hit (tsr (pn 2 rfl (lr ?_))))
  obtain rfl := h.some
  exact rt results32 rfl ⟨A129, c130, rfl, hS⟩
def model_Into.f (a1 : api_Model) (a11 : Int) : Option (List Int) := ((model_places_2.f a1 a11).bind fun t20 => some t20)
theorem model_Into.ok {a1 : api_Model} {a11 : Int} {A2 A5 A8 : Option Addr} {c3 c6 c9 : Nat} (hr4 : SlR (Rep.sl E_api_Instr.rep) hf A2 c3 a1.Progs) (hr7 : SlR E_api_Link.rep hf A5 c6 a1.Links) (hr10 : SlR E_api_Start.rep hf A8 c9 a1.Starts) {r : List Int} (h : model_Into.f a1 a11 = some r) (hS : St B w (l) hf) :
    Calls prog 14 #[.agg (C_api_Model a1 A2 c3 A5 c6 A8 c9).toArray, iV a11] w (Ret fun v w => ∃ (A_1 : Option Addr) (c_2 : Nat), v = sV A_1 r c_2 ∧ St B w (OSf (FI .i64) 3 (sV A_1 r c_2) r :: l) hf) := by
  have h := Holds.of h
  refine en func14 rfl ntmps14 rfl (sr (rr [0, 0, 0] hS ?_))
  refine fun b18 b19 => it fun w hS => lnsr (rr [2] hS ?_)
  refine it fun w hS => RL.s (Vl.makeFunc (fi := []) (ca := [.tmp 3]) rfl rfl) rfl (cF (fun _ hg => model_places_2.ok hr4 hr7 hr10 hg hS) call32 h rfl rfl rfl ?_)
  rintro t20 h _ w ⟨A22, c23, rfl, hS⟩
  refine pn 1 rfl (lr ?_)
  obtain rfl := h.some
  exact rt results14 rfl ⟨A22, c23, rfl, hS.d1.d1⟩
def clock_New.f (a1 : Int) : Option ((Int) ⊕ (clock_Clocks × Int)) := (if a1 < 0 then some (.inl 1) else (if 1024 < a1 then some (.inl 1) else (if 0 ≤ a1 ∧ a1 * 8 ≤ 140737488355328 then some (.inr (((⟨true, (List.replicate (a1 : Int).toNat 0)⟩ : clock_Clocks), 0))) else none)))
theorem clock_New.ok {a1 : Int} {r : (Int) ⊕ (clock_Clocks × Int)} (h : clock_New.f a1 = some r) (hS : St B w (l) hf) :
    Calls prog 15 #[iV a1] w (Ret fun v w => match (generalizing := false) r with | .inl r_ => v = .tuple #[.pointer none, iV r_] ∧ St B w (l) hf | .inr (r_) => ∃ (b_1 : Nat), v = .tuple #[pV b_1, iV r_.2] ∧ St B w (O_clock_Clocks hf r_.1 b_1 :: l) hf) := by
  have h := Holds.of h
  refine en func15 rfl ntmps15 rfl (sr (pn 2 rfl (ln (RC.seq (sr (pn 3 rfl ?_))))))
  refine RL.iteP 6 rfl h (fun hc12 h => ?_) fun hc12 h => ?_
  next =>
   refine pn 3 rfl (ln (jtr (pn 2 rfl (lr (RQ.ret ?_)))))
   cases h.some
   exact rt results15 rfl ⟨rfl, hS⟩
  refine pn 3 rfl (ln ?_)
  refine RC.iteP 9 rfl h (fun hc13 h => ?_) fun hc13 h => ?_
  next =>
   refine jtr (pn 2 rfl (lr (RQ.ret ?_)))
   cases h.some
   exact rt results15 rfl ⟨rfl, hS⟩
  refine jfs (sr (pn 1 rfl ?_))
  obtain ⟨⟨hq14, hq15⟩, h⟩ := h.req
  refine RL.e (OW.makeN (E := (FI .i64)) (x0 := 0) hS underlying122 type2 rfl rfl rfl rfl (by decide) rfl rfl hq14 (by decide) hq15) rfl rfl ?_
  rintro _ w ⟨b16, rfl, hS⟩
  refine rr [0, 0, 0, 0] hS ?_
  refine fun b17 => it fun w hS => lr ?_
  have hS := O_clock_Clocks.c (x := (⟨true, (List.replicate (a1 : Int).toNat 0)⟩ : clock_Clocks)) hS
  cases h.some
  exact rt results15 rfl ⟨b17, rfl, hS⟩
def link_lane.f (a1 : Int) : Option (Bool) := (if 0 ≤ a1 then some (decide (a1 < 16)) else some false)
theorem link_lane.ok {a1 : Int} {r : Bool} (h : link_lane.f a1 = some r) (hS : St B w (l) hf) :
    Calls prog 35 #[iV a1] w (Ret fun v w => v = .bool r ∧ St B w (l) hf) := by
  have h := Holds.of h
  refine en func35 rfl ntmps35 rfl (sr (pn 1 rfl (lnsr (pn 3 rfl ?_))))
  refine RL.iteP 5 rfl h (fun hc3 h => ?_) fun hc3 h => ?_
  next =>
   refine pn 4 rfl (lr ?_)
   cases h.some
   exact rt results35 rfl ⟨rfl, hS⟩
  refine pn 4 rfl (lr ?_)
  obtain rfl := h.some
  exact rt results35 rfl ⟨rfl, hS⟩
def link_New.f (a1 : api_Link) (a2 : Int) : Option ((Int) ⊕ (link_Way × Int)) := ((link_lane.f a1.From).bind fun t32 => (if t32 = true then ((link_lane.f a1.To).bind fun t35 => (if t35 = true then (if a2 < 1 then some (.inl 1) else (if 1024 < a2 then some (.inl 1) else some (.inr (((⟨a1, a2, ([] : List api_Parcel)⟩ : link_Way), 0))))) else some (.inl 1))) else some (.inl 1)))
theorem link_New.ok {a1 : api_Link} {a2 : Int} {r : (Int) ⊕ (link_Way × Int)} (h : link_New.f a1 a2 = some r) (hS : St B w (l) hf) :
    Calls prog 16 #[.agg (C_api_Link a1).toArray, iV a2] w (Ret fun v w => match (generalizing := false) r with | .inl r_ => v = .tuple #[.pointer none, iV r_] ∧ St B w (l) hf | .inr (r_) => ∃ (b_1 : Nat), v = .tuple #[pV b_1, iV r_.2] ∧ St B w (O_link_Way hf r_.1 b_1 :: l) hf) := by
  have h := Holds.of h
  refine en func16 rfl ntmps16 rfl (sr (rr [0, 0, 0] hS ?_))
  refine fun b23 => it fun w hS => ln (RC.seq (sr (rr [0, 1] hS ?_)))
  refine it fun w hS => cF (fun _ hg => link_lane.ok hg hS) call35 h rfl rfl rfl ?_
  rintro t32 h _ w ⟨rfl, hS⟩
  refine pn 2 rfl ?_
  refine RL.iteM 10 rfl h (fun hc34 h => ?_) fun hc34 h => ?_
  next =>
   refine rr [0, 1] hS ?_
   refine it fun w hS => cF (fun _ hg => link_lane.ok hg hS) call35 h rfl rfl rfl ?_
   rintro t35 h _ w ⟨rfl, hS⟩
   refine pn 3 rfl ?_
   refine RL.iteM 16 rfl h (fun hc37 h => ?_) fun hc37 h => ?_
   next =>
    refine pn 4 rfl ?_
    refine RL.iteP 20 rfl h (fun hc38 h => ?_) fun hc38 h => ?_
    next =>
     refine pn 3 rfl (ln (jtr (pn 2 rfl (lr (RQ.ret ?_)))))
     cases h.some
     exact rt results16 rfl ⟨rfl, hS.d0⟩
    refine pn 3 rfl (ln ?_)
    refine RC.iteP 23 rfl h (fun hc39 h => ?_) fun hc39 h => ?_
    next =>
     refine jtr (pn 2 rfl (lr (RQ.ret ?_)))
     cases h.some
     exact rt results16 rfl ⟨rfl, hS.d0⟩
    refine jfs (sr (rr [1, 0, 0, 0, 0, 0] hS ?_))
    refine fun b40 => it fun w hS => lr ?_
    have hS := hS.nilSl E_api_Parcel 169
    have hS := O_link_Way.c (x := (⟨a1, a2, ([] : List api_Parcel)⟩ : link_Way)) hS.p1
    cases h.some
    exact rt results16 rfl ⟨b40, rfl, hS.d1⟩
   refine pn 7 rfl (ln (jtr (pn 2 rfl (lr (RQ.ret ?_)))))
   cases h.some
   exact rt results16 rfl ⟨rfl, hS.d0⟩
  refine pn 13 rfl (ln (jtr (pn 2 rfl (lr (RQ.ret ?_)))))
  cases h.some
  exact rt results16 rfl ⟨rfl, hS.d0⟩
def colour_NewToken.f (a1 : Int) : Option ((Int) ⊕ (colour_Token × Int)) := (if a1 < 1 then some (.inl 1) else (if 16 < a1 then some (.inl 1) else some (.inr (((⟨a1, 0, false, 0, 4611686018427387904⟩ : colour_Token), 0)))))
theorem colour_NewToken.ok {a1 : Int} {r : (Int) ⊕ (colour_Token × Int)} (h : colour_NewToken.f a1 = some r) (hS : St B w (l) hf) :
    Calls prog 17 #[iV a1] w (Ret fun v w => match (generalizing := false) r with | .inl r_ => v = .tuple #[.pointer none, iV r_] ∧ St B w (l) hf | .inr (r_) => ∃ (b_1 : Nat), v = .tuple #[pV b_1, iV r_.2] ∧ St B w (O_colour_Token hf r_.1 b_1 :: l) hf) := by
  have h := Holds.of h
  refine en func17 rfl ntmps17 rfl (sr (pn 2 rfl (ln (RC.seq (sr (pn 3 rfl ?_))))))
  refine RL.iteP 6 rfl h (fun hc9 h => ?_) fun hc9 h => ?_
  next =>
   refine pn 3 rfl (ln (jtr (pn 2 rfl (lr (RQ.ret ?_)))))
   cases h.some
   exact rt results17 rfl ⟨rfl, hS⟩
  refine pn 3 rfl (ln ?_)
  refine RC.iteP 9 rfl h (fun hc10 h => ?_) fun hc10 h => ?_
  next =>
   refine jtr (pn 2 rfl (lr (RQ.ret ?_)))
   cases h.some
   exact rt results17 rfl ⟨rfl, hS⟩
  refine jfs (sr (rr [0, 0, 0, 0, 0] hS ?_))
  refine fun b11 => it fun w hS => lr ?_
  have hS := O_colour_Token.c (x := (⟨a1, 0, false, 0, 4611686018427387904⟩ : colour_Token)) hS
  cases h.some
  exact rt results17 rfl ⟨b11, rfl, hS⟩
def kernel_New.l134b (l5909 : List kernel_place) (x5914 : Int) (y6523 : lane_Lane) (y6606 : colour_Tally) (l6607 t6641 : List Int) : List (Int × Int) × Int → Option ((List (Int × Int) × Int) ⊕ ((List kernel_place × Int) ⊕ ((Int) ⊕ (kernel_Kernel × Int))))
  | (l6649, x6650) => (if x6650 < (t6641.length : Int) then (if 0 ≤ x6650 then some (.inl ((mset l6649 (nth t6641 x6650) x6650), IntKind.i64.wrap (x6650 + 1))) else none) else (Option.map Sum.inr ((clock_New.f (l6649.length : Int)).bind fun t6670 => match t6670 with | .inl _ => none | .inr ((y6672, y6673)) => (if (l5909.length + 1) * 8 ≤ 140737488355328 then some (.inl ((l5909 ++ [(⟨y6523, y6606, y6672, l6607, l6649⟩ : kernel_place)]), IntKind.i64.wrap (x5914 + 1))) else none))))
def kernel_New.l134 (l5909 : List kernel_place) (x5914 : Int) (y6523 : lane_Lane) (y6606 : colour_Tally) (l6607 t6641 : List Int) (s : List (Int × Int) × Int) : Option ((List kernel_place × Int) ⊕ ((Int) ⊕ (kernel_Kernel × Int))) := loopR (kernel_New.l134b l5909 x5914 y6523 y6606 l6607 t6641) s
def kernel_New.j132 (a1 : api_Model) (l5909 : List kernel_place) (x5914 : Int) (y6523 : lane_Lane) (y6606 : colour_Tally) (l6607 : List Int) : Option ((List kernel_place × Int) ⊕ ((Int) ⊕ (kernel_Kernel × Int))) := ((model_Into.f a1 x5914).bind fun t6641 => kernel_New.l134 l5909 x5914 y6523 y6606 l6607 t6641 (([] : List (Int × Int)), 0))
def kernel_New.l136b (a1 : api_Model) (a11 : api_Caps) (l5909 : List kernel_place) : List link_Way × Int → Option ((List link_Way × Int) ⊕ ((Int) ⊕ (kernel_Kernel × Int)))
  | (l6894, x6899) => (if x6899 < (a1.Links.length : Int) then (if 0 ≤ x6899 then ((link_New.f (nth a1.Links x6899) a11.Link).bind fun t6980 => match t6980 with | .inl _ => none | .inr ((y6982, y6983)) => (if (l6894.length + 1) * 8 ≤ 140737488355328 then some (.inl ((l6894 ++ [y6982]), IntKind.i64.wrap (x6899 + 1))) else none)) else none) else (Option.map Sum.inr ((colour_NewToken.f (a1.Progs.length : Int)).bind fun t6991 => match t6991 with | .inl _ => none | .inr ((y6993, y6994)) => some (.inr (((⟨({ a1 with Links := (([] : List api_Link) ++ a1.Links) } : api_Model), l5909, l6894, y6993, 0, 64, 64, ([] : List api_Done), 0⟩ : kernel_Kernel), 0))))))
def kernel_New.l136 (a1 : api_Model) (a11 : api_Caps) (l5909 : List kernel_place) (s : List link_Way × Int) : Option ((Int) ⊕ (kernel_Kernel × Int)) := loopR (kernel_New.l136b a1 a11 l5909) s
def kernel_New.l126b (a1 : api_Model) (a11 : api_Caps) : List kernel_place × Int → Option ((List kernel_place × Int) ⊕ ((Int) ⊕ (kernel_Kernel × Int)))
  | (l5909, x5914) => (if x5914 < (a1.Progs.length : Int) then ((lane_New.f a1 x5914 a11).bind fun t6519 => match t6519 with | .inl y6521 => (if ¬ y6521 = 0 then some (.inr (.inl y6521)) else none) | .inr ((y6523, y6524)) => (if y6524 = 0 then ((colour_New.f).bind fun t6683 => ((model_Ways.f a1 x5914).bind fun t6686 => kernel_New.j132 a1 l5909 x5914 y6523 t6683 t6686)) else some (.inr (.inl y6524)))) else (Option.map Sum.inr (kernel_New.l136 a1 a11 l5909 (([] : List link_Way), 0))))
def kernel_New.l126 (a1 : api_Model) (a11 : api_Caps) (s : List kernel_place × Int) : Option ((Int) ⊕ (kernel_Kernel × Int)) := loopR (kernel_New.l126b a1 a11) s
def kernel_New.f (a1 : api_Model) (a11 : api_Caps) : Option ((Int) ⊕ (kernel_Kernel × Int)) := ((model_Check.f a1).bind fun t3515 => (if t3515 = 0 then (if (([] : List api_Link).length + a1.Links.length) * 32 ≤ 140737488355328 then kernel_New.l126 a1 a11 (([] : List kernel_place), 0) else none) else some (.inl t3515)))
theorem kernel_New.ok {a1 : api_Model} {a11 : api_Caps} {A2 A5 A8 : Option Addr} {c3 c6 c9 : Nat} (hr4 : SlR (Rep.sl E_api_Instr.rep) hf A2 c3 a1.Progs) (hr7 : SlR E_api_Link.rep hf A5 c6 a1.Links) (hr10 : SlR E_api_Start.rep hf A8 c9 a1.Starts) (hG0 : GlobAt hf 0 (.iface 192 (.agg #[.pointer (some ⟨1, 85, none⟩)]))) {r : (Int) ⊕ (kernel_Kernel × Int)} (h : kernel_New.f a1 a11 = some r) (hS : St B w (l) hf) :
    Calls prog 4 #[.agg (C_api_Model a1 A2 c3 A5 c6 A8 c9).toArray, .agg (C_api_Caps a11).toArray] w (Ret fun v w => match (generalizing := false) r with | .inl r_ => v = .tuple #[.pointer none, iV r_] ∧ St B w (l) hf | .inr (r_) => ∃ hf_ : Hp, Sub hf hf_ ∧ ∃ (b_1 : Nat), v = .tuple #[pV b_1, iV r_.2] ∧ St B w (O_kernel_Kernel hf_ r_.1 b_1 :: l) hf_) := by
  have h := Holds.of h
  refine en func4 rfl ntmps4 rfl (sr (rr [0, 0, 0, 0] hS ?_))
  refine fun b3508 b3509 => it fun w hS => lnsr (rr [0, 0, 0] hS ?_)
  refine fun b3511 => it fun w hS => ln (RC.seq (sr (rr [3] hS ?_)))
  refine it fun w hS => cF (fun _ hg => model_Check.ok hr4 hr7 hr10 hG0 hg hS) call10 h rfl rfl rfl ?_
  rintro t3515 h _ w ⟨rfl, hS⟩
  refine pn 1 rfl (lnsr (pn 2 rfl (ln ?_)))
  refine RC.iteN 23 rfl h (fun hc3517 h => ?_) fun hc3517 h => ?_
  next =>
   refine jfs (sr (rr [0, 3, 0, 0, 1] hS ?_))
   refine it fun w hS => lnsr (rr [0, 0, 3] hS ?_)
   refine it fun w hS => ?_
   obtain ⟨hq3522, h⟩ := h.req
   have hS := hS.nilSl E_api_Link 65
   refine RL.e (OW.appendV (E := E_api_Link) (xs := ([] : List api_Link)) (ys := a1.Links) 0 hS rfl underlying23 type65 rfl rfl rfl rfl (by decide) (by decide) rfl rfl (hr7.2.world hS.sub) hq3522 rfl) rfl rfl ?_
   rintro v3525 w hS
   obtain ⟨A3523, c3524, rfl, _⟩ := hS.osShape 0 rfl
   have hS : St B w (_ :: _ :: _ :: _ :: l) hf := hS
   refine rr [0, 0, 0, 2] hS ?_
   refine it fun w hS => ln (RC.seq (sr (rr [0, 4, 0, 0] hS ?_)))
   refine it fun w hS => ln (RC.block ?_)
   have hS := hS.nilSl FP 53
   have hS := hS.sepNil (O := O_kernel_place hf)
   have hl6999 := hS.sepLen
   refine fun a ha => lp h (fun (s : List kernel_place × Int) a w => ∃ l5909 x5914, s = (l5909, x5914) ∧ ∃ hf_, Sub hf hf_ ∧ ∃ A5910 c5911 bs5912, Has 135 [(2, pV b3508), (3, pV b3509), (6, pV b3511), (38, iV (a1.Progs.length : Int)), (39, iV x5914)] a ∧ St B w (OSf E_api_Link 65 (.slice A3523 (([] : List api_Link) ++ a1.Links).length c3524) (([] : List api_Link) ++ a1.Links) :: OSf FP 53 (sV A5910 bs5912 c5911) bs5912 :: SepL (O_kernel_place hf_) l5909 bs5912 :: Cl b3511 [sV A2 a1.Progs c3, .slice A3523 (([] : List api_Link) ++ a1.Links).length c3524, sV A8 a1.Starts c9, .int .u64 a1.Seed, iV a1.End, iV a1.Budget, sV A5910 bs5912 c5911, .slice none 0 0, .pointer none, iV 0, iV 64, iV 64, .slice none 0 0, iV 0] 48 :: Cl b3509 (C_api_Caps a11) 29 :: Cl b3508 (C_api_Model a1 A2 c3 A5 c6 A8 c9) 27 :: l) hf_) ⟨_, _, rfl, _, (Sub.refl _), _, _, _, ha.tE rfl, hS.p1.p2⟩ ?_
   rintro G6312 _ a w ⟨l5909, x5914, rfl, hf, hs5509, A5910, c5911, bs5912, ha, hS⟩ h
   refine ro ha ?_
   have hl5913 := hS.p2.sepLen
   refine sr (pn 1 rfl (ln (RC.seq ?_)))
   refine RC.iteP 40 rfl h (fun hc6314 h => ?_) fun hc6314 h => ?_
   next =>
    refine jt (sk (RC.seq (RC.block (sr (pn 2 rfl (lnsr (rr [6, 0, 5] hS ?_)))))))
    refine it fun w hS => ?_
    obtain ⟨t6519, hg6520, h⟩ := h.bind
    have hc := lane_New.ok (hr4.mono hs5509) (hr7.mono hs5509) (hr10.mono hs5509) (hG0.mono hs5509) hg6520 hS
    rcases t6519 with y6521 | ⟨y6523, y6524⟩
    · obtain ⟨hc6522, h⟩ := h.req
      refine RL.e (OW.callF (ls := [.tmp 43, .tmp 44, .tmp 45]) rfl call11 hc) rfl rfl ?_
      rintro _ w ⟨rfl, hS⟩
      refine pn 5 rfl (ln (RC.seq (sr (pn 2 rfl (ln (RC.re 50 rfl (congrArg Value.bool (notdec_neg hc6522)) (jtr (pn 3 rfl (ln ?_)))))))))
      refine RC.ret (RQ.ret (ir ?_))
      have h := h.inrS
      refine RQ.ret (ir ?_)
      cases h.some
      exact rt results4 rfl ⟨rfl, (hS.d0.d0.d0.d0.d0.d0).down hs5509⟩
    refine RL.e (OW.callF (ls := [.tmp 43, .tmp 44, .tmp 45]) rfl call11 hc) rfl rfl ?_
    rintro _ w ⟨hf, hs6526, b6525, rfl, hS⟩
    have hS := hS.p3.imp fun _ h => SepL.m (fun _ _ => O_kernel_place.m hs6526) h
    have hS : St B w (_ :: _ :: _ :: _ :: _ :: _ :: _ :: l) hf := hS
    refine pn 5 rfl (ln (RC.seq (sr (pn 2 rfl (ln ?_)))))
    refine RC.iteN 50 rfl h (fun hc6528 h => ?_) fun hc6528 h => ?_
    next =>
     refine jfs (RC.seq (RC.planS (.pure 0 (.early 2 0 (.pure 3 (.fork 1 5 (.fork 4 5 (.last 5 (.last 6 (.last 7 (.last 8 .nil)))) (.last 4 (.last 6 (.last 7 (.last 8 .nil))))) (.last 1 (.last 4 (.last 6 (.last 7 (.last 8 .nil))))))))) [6, 7, 8] hS (fun w hS => hS) follows rfl (by kernel_rfl) (NoTmp.then (NoTmp.block (NoTmp.then (NoTmp.then (NoTmp.block (NoTmp.then NoTmp.body)))))) fun w hS => rq [0, 7, 0] hS ?_))
     refine it ?_
     refine RP.fj (fun (s : colour_Tally × List Int) env w => ∃ y6606 l6607, s = (y6606, l6607) ∧ Holds (Sum.elim G6312 (· = r)) (kernel_New.j132 a1 l5909 x5914 y6523 y6606 l6607) ∧ ∃ b6605 A6608 c6609 b6610, Ev env [(2, pV b3508), (3, pV b3509), (6, pV b3511), (8, iV x5914), (38, iV (a1.Progs.length : Int)), (39, iV x5914), (52, pV b6525), (53, pV b6605), (56, sV A6608 l6607 c6609), (57, .map (some b6610))] ∧ St B w (OSf E_api_Link 65 (.slice A3523 (([] : List api_Link) ++ a1.Links).length c3524) (([] : List api_Link) ++ a1.Links) :: OSf FP 53 (sV A5910 bs5912 c5911) bs5912 :: OSf (FI .i64) 3 (sV A6608 l6607 c6609) l6607 :: SepL (O_kernel_place hf) l5909 bs5912 :: O_lane_Lane hf y6523 b6525 :: Cl b3511 [sV A2 a1.Progs c3, .slice A3523 (([] : List api_Link) ++ a1.Links).length c3524, sV A8 a1.Starts c9, .int .u64 a1.Seed, iV a1.End, iV a1.Budget, sV A5910 bs5912 c5911, .slice none 0 0, .pointer none, iV 0, iV 64, iV 64, .slice none 0 0, iV 0] 48 :: Cl b3509 (C_api_Caps a11) 29 :: Cl b3508 (C_api_Model a1 A2 c3 A5 c6 A8 c9) 27 :: O_colour_Tally hf y6606 b6605 :: MapF (Value.int .i64) (Value.int .i64) b6610 ([] : List (Int × Int)) :: l) hf) (.last 6 (.last 7 (.last 8 .nil))) ?_ fun hk => ?_
     · rintro _ env w ⟨y6606, l6607, rfl, h, b6605, A6608, c6609, b6610, ha, hS⟩
       refine RP.to ha (rq [0] hS.d2.d7.d7.p3.p3 ?_)
       refine it (RP.e 7 rfl (OW.box (cs := [pV b6525, pV b6605, .pointer none, sV A6608 l6607 c6609, .map (some b6610)]) hS rfl rfl) rfl rfl ?_)
       rintro _ w ⟨b6611, rfl, hS⟩
       refine ⟨kp ⟨(by intro hx; cases hx), trivial⟩, ?_⟩
       refine rq [0] hS.d0.d2.d7.d7.p3.p3 ?_
       refine it (RP.nil (RQ.then_n (RC.seq (sr (rr [9, 0] hS ?_)))))
       refine it fun w hS => cF (fun _ hg => model_Into.ok ((hr4.mono hs5509).mono hs6526) ((hr7.mono hs5509).mono hs6526) ((hr10.mono hs5509).mono hs6526) hg hS) call14 h rfl rfl rfl ?_
       rintro t6641 h _ w ⟨A6643, c6644, rfl, hS⟩
       refine r0 2 rfl (ln (RC.block (fun a ha => lp h (fun (s : List (Int × Int) × Int) a w => ∃ l6649 x6650, s = (l6649, x6650) ∧ Has 135 [(2, pV b3508), (3, pV b3509), (6, pV b3511), (11, pV b6611), (38, iV (a1.Progs.length : Int)), (39, iV x5914), (62, sV A6643 t6641 c6644), (63, iV (t6641.length : Int)), (64, iV x6650)] a ∧ St B w (OSf E_api_Link 65 (.slice A3523 (([] : List api_Link) ++ a1.Links).length c3524) (([] : List api_Link) ++ a1.Links) :: OSf FP 53 (sV A5910 bs5912 c5911) bs5912 :: OSf (FI .i64) 3 (sV A6608 l6607 c6609) l6607 :: OSf (FI .i64) 3 (sV A6643 t6641 c6644) t6641 :: Cl b6611 [pV b6525, pV b6605, .pointer none, sV A6608 l6607 c6609, .map (some b6610)] 61 :: SepL (O_kernel_place hf) l5909 bs5912 :: O_lane_Lane hf y6523 b6525 :: Cl b3511 [sV A2 a1.Progs c3, .slice A3523 (([] : List api_Link) ++ a1.Links).length c3524, sV A8 a1.Starts c9, .int .u64 a1.Seed, iV a1.End, iV a1.Budget, sV A5910 bs5912 c5911, .slice none 0 0, .pointer none, iV 0, iV 64, iV 64, .slice none 0 0, iV 0] 48 :: Cl b3509 (C_api_Caps a11) 29 :: Cl b3508 (C_api_Model a1 A2 c3 A5 c6 A8 c9) 27 :: O_colour_Tally hf y6606 b6605 :: MapF (Value.int .i64) (Value.int .i64) b6610 l6649 :: l) hf) ⟨_, _, rfl, ha.tE rfl, hS.p4.p4.p4⟩ ?_)))
       rintro G6657 _ a w ⟨l6649, x6650, rfl, ha, hS⟩ h
       refine ro ha (sr (pn 1 rfl (ln (RC.seq ?_))))
       refine RC.iteP 65 rfl h (fun hc6659 h => ?_) fun hc6659 h => ?_
       next =>
        refine jt (sk (RC.seq (RC.block (sr (pn 1 rfl ?_)))))
        obtain ⟨hq6661, h⟩ := h.req
        refine RL.s (Vl.indexOwn 3 hS rfl underlying56 sizeOf3 rfl rfl hq6661 hc6659) rfl (RL.s (Vl.load isAgg3 rfl ((hS.slW 3 rfl).2.2.cell (j := 0) hq6661 hc6659 rfl)) rfl (pn 2 rfl (ln (RC.region (rr [0, 0, 0, 5, 0, 0] hS ?_)))))
        refine it fun w hS => RL.e0 (OW.mapUpdF (k := nth t6641 x6650) (v := x6650) 11 hS rfl (KeyOK.int underlying3) underlying58 rfl rfl rfl rfl) rfl ?_
        rintro _ w ⟨rfl, hS⟩
        have hS : St B w (_ :: _ :: _ :: _ :: _ :: _ :: _ :: _ :: _ :: _ :: _ :: _ :: l) hf := hS
        refine RL.nil (RQ.inB_n (RQ.then_n (RC.region (pn 2 rfl (RL.nil ?_)))))
        exact fun a ha => ⟨_, h.some, _, _, rfl, ha.tE rfl, hS.p11.p11.p11.p11.p11.p11.p11.p11.p11.p11.p11⟩
       refine jf (RC.exit (RQ.exitT ?_))
       have h := h.inr
       refine RQ.exitT (RQ.inB_hit (tsr (rr [0, 0, 0, 0, 5] hS ?_)))
       refine it fun w hS => RL.s (Vl.lenMapF 11 hS rfl underlying58 rfl) rfl ?_
       obtain ⟨t6670, hg6671, h⟩ := h.bind
       have hc := clock_New.ok hg6671 hS
       rcases t6670 with _ | ⟨y6672, y6673⟩
       · exact h.none
       refine RL.e (OW.callF (ls := [.tmp 82]) rfl call15 hc) rfl rfl ?_
       rintro _ w ⟨b6674, rfl, hS⟩
       refine rr [0, 0, 0, 0, 0, 6] hS ?_
       refine it fun w hS => ln (RC.region (rr [0, 0, 0, 0, 9, 0] hS ?_))
       refine it fun w hS => RL.e (OW.buildSlice (E := FP) (xs := [b6611]) (cs := [pV b6611]) hS underlying43 zeroValue53 sizeOf53 (parts := [(0, .tmp 93)]) rfl rfl (by decide) (by decide) (by kernel_rfl) rfl) rfl rfl ?_
       rintro _ w ⟨b6675, rfl, hS⟩
       obtain ⟨hq6679, h⟩ := h.req
       obtain ⟨hf, hs6676, hS, hr6677⟩ := St.promote hS.p4
       have hS := O_clock_Clocks.l hs6676 hS.p1
       have hS := hS.p6.imp fun _ h => SepL.m (fun _ _ => O_kernel_place.m hs6676) h
       have hS := O_lane_Lane.l hs6676 hS.p7
       have hS := O_colour_Tally.l hs6676 hS.p11
       have hS := O_kernel_place.c (x := (⟨y6523, y6606, y6672, l6607, l6649⟩ : kernel_place)) hr6677 hS.p12.p4.p2.p3.p9
       have hS := hS.p1.sepSnoc
       have hl6678 := hS.sepLen
       refine RL.e (OW.append (E := FP) (xs := bs5912) (ys := [b6611]) 3 hS rfl underlying43 type53 rfl rfl rfl rfl (by decide) rfl rfl rfl (hS.slW 1 rfl).2.2.flat (by simp only [maxLen, List.length_cons, List.length_nil] at *; omega) (le_app hl5913 hq6679) rfl) rfl rfl ?_
       rintro v6682 w hS
       obtain ⟨A6680, c6681, rfl, _⟩ := hS.osShape 0 rfl
       have hS : St B w (_ :: _ :: _ :: _ :: _ :: _ :: _ :: _ :: l) hf := hS
       refine rr [0, 0, 6] hS ?_
       refine it fun w hS => RL.nil (RQ.inB_n (RQ.then_n (RC.region (pn 2 rfl (RL.nil ?_)))))
       exact fun a ha => ⟨_, h.some, _, _, rfl, _, ((hs5509.trans hs6526).trans hs6676), _, _, _, ha.tE rfl, hS.d2.d3.p2⟩
     refine RP.fork ?_ ?_
     · obtain ⟨t6683, hg6684, h⟩ := h.bind
       have hc := colour_New.ok hg6684 hS
       refine RPW.e 1 rfl (OW.callF (ls := []) rfl call12 hc) rfl rfl ?_
       rintro _ w ⟨b6685, rfl, hS⟩
       refine ⟨kp ⟨fun _ => hS.d0, trivial⟩, ?_⟩
       refine RP.fork ?_ ?_
       · obtain ⟨t6686, hg6687, h⟩ := h.bind
         have hc := model_Ways.ok ((hr4.mono hs5509).mono hs6526) ((hr7.mono hs5509).mono hs6526) ((hr10.mono hs5509).mono hs6526) hg6687 hS
         refine RPW.e 4 rfl (OW.callF (ls := [.tmp 54, .tmp 55]) rfl call13 hc) rfl rfl ?_
         rintro _ w ⟨A6688, c6689, rfl, hS⟩
         refine ⟨kp ⟨fun _ => hS.d0.d0, trivial⟩, ?_⟩
         refine RP.e 5 rfl (OW.makeMapF (kv := (Value.int .i64)) (vv := (Value.int .i64)) hS) rfl rfl ?_
         rintro _ w ⟨b6690, rfl, hS⟩
         refine ⟨kp ⟨fun _ => hS.d0.d0.d0, trivial⟩, ?_⟩
         exact hk _ _ _ ⟨_, _, rfl, h, _, _, _, _, ⟨rfl, rfl, rfl, rfl, rfl, rfl, rfl, rfl, rfl, rfl, trivial⟩, hS.p2.p9.p9.p9.p7.p7.p7.p9.p9⟩
       · refine RPW.e 5 rfl (OW.makeMapF (kv := (Value.int .i64)) (vv := (Value.int .i64)) hS) rfl rfl ?_
         rintro _ w ⟨b6691, rfl, hS⟩
         refine ⟨kp ⟨fun _ => hS.d0.d0, trivial⟩, ?_⟩
         obtain ⟨t6692, hg6693, h⟩ := h.bind
         have hc := model_Ways.ok ((hr4.mono hs5509).mono hs6526) ((hr7.mono hs5509).mono hs6526) ((hr10.mono hs5509).mono hs6526) hg6693 hS
         refine RP.e 4 rfl (OW.callF (ls := [.tmp 54, .tmp 55]) rfl call13 hc) rfl rfl ?_
         rintro _ w ⟨A6694, c6695, rfl, hS⟩
         refine ⟨kp ⟨fun _ => hS.d0.d0.d0, trivial⟩, ?_⟩
         exact hk _ _ _ ⟨_, _, rfl, h, _, _, _, _, ⟨rfl, rfl, rfl, rfl, rfl, rfl, rfl, rfl, rfl, rfl, trivial⟩, hS.p2.p9.p9.p9.p7.p7.p6.p9.p9⟩
     · refine RPW.e 5 rfl (OW.makeMapF (kv := (Value.int .i64)) (vv := (Value.int .i64)) hS) rfl rfl ?_
       rintro _ w ⟨b6696, rfl, hS⟩
       refine ⟨kp ⟨fun _ => hS.d0, trivial⟩, ?_⟩
       obtain ⟨t6697, hg6698, h⟩ := h.bind
       have hc := colour_New.ok hg6698 hS
       refine RP.e 1 rfl (OW.callF (ls := []) rfl call12 hc) rfl rfl ?_
       rintro _ w ⟨b6699, rfl, hS⟩
       refine ⟨kp ⟨fun _ => hS.d0.d0, trivial⟩, ?_⟩
       obtain ⟨t6700, hg6701, h⟩ := h.bind
       have hc := model_Ways.ok ((hr4.mono hs5509).mono hs6526) ((hr7.mono hs5509).mono hs6526) ((hr10.mono hs5509).mono hs6526) hg6701 hS
       refine RP.e 4 rfl (OW.callF (ls := [.tmp 54, .tmp 55]) rfl call13 hc) rfl rfl ?_
       rintro _ w ⟨A6702, c6703, rfl, hS⟩
       refine ⟨kp ⟨fun _ => hS.d0.d0.d0, trivial⟩, ?_⟩
       exact hk _ _ _ ⟨_, _, rfl, h, _, _, _, _, ⟨rfl, rfl, rfl, rfl, rfl, rfl, rfl, rfl, rfl, rfl, trivial⟩, hS.p9.p9.p9.p7.p7.p5.p9.p9⟩
    refine jtr (pn 3 rfl (lr (RQ.ret (ir ?_))))
    have h := h.inrS
    refine RQ.ret (ir ?_)
    cases h.some
    exact rt results4 rfl ⟨rfl, (hS.d0.d0.d0.d0.d0.d0.d0).down (hs5509.trans hs6526)⟩
   refine jf (RC.exit (RQ.exitT ?_))
   have h := h.inr
   refine RQ.exitT (RQ.inB_hit (RQ.then_n (RC.seq (sr (rr [0, 6, 0, 0] hS ?_)))))
   refine it fun w hS => ln (RC.block ?_)
   have hS := hS.nilSl FP 66
   have hS := hS.sepNil (O := O_link_Way hf)
   have hl6998 := hS.sepLen
   refine fun a ha => lp h (fun (s : List link_Way × Int) a w => ∃ l6894 x6899, s = (l6894, x6899) ∧ ∃ A6895 c6896 bs6897, Has 135 [(2, pV b3508), (3, pV b3509), (6, pV b3511), (100, sV A5 a1.Links c6), (101, iV (a1.Links.length : Int)), (102, iV x6899)] a ∧ St B w (OSf E_api_Link 65 (.slice A3523 (([] : List api_Link) ++ a1.Links).length c3524) (([] : List api_Link) ++ a1.Links) :: OSf FP 53 (sV A5910 bs5912 c5911) bs5912 :: OSf FP 66 (sV A6895 bs6897 c6896) bs6897 :: SepL (O_link_Way hf) l6894 bs6897 :: SepL (O_kernel_place hf) l5909 bs5912 :: Cl b3511 [sV A2 a1.Progs c3, .slice A3523 (([] : List api_Link) ++ a1.Links).length c3524, sV A8 a1.Starts c9, .int .u64 a1.Seed, iV a1.End, iV a1.Budget, sV A5910 bs5912 c5911, sV A6895 bs6897 c6896, .pointer none, iV 0, iV 64, iV 64, .slice none 0 0, iV 0] 48 :: Cl b3509 (C_api_Caps a11) 29 :: Cl b3508 (C_api_Model a1 A2 c3 A5 c6 A8 c9) 27 :: l) hf) ⟨_, _, rfl, _, _, _, ha.tE rfl, hS.p1.p3.p3⟩ ?_
   rintro G6948 _ a w ⟨l6894, x6899, rfl, A6895, c6896, bs6897, ha, hS⟩ h
   refine ro ha ?_
   have hl6898 := hS.p3.sepLen
   refine sr (pn 1 rfl (ln (RC.seq ?_)))
   refine RC.iteP 103 rfl h (fun hc6950 h => ?_) fun hc6950 h => ?_
   next =>
    refine jt (sk (RC.seq (RC.block (sr ?_))))
    obtain ⟨hq6973, h⟩ := h.req
    refine RL.s (Vl.indexAddr underlying23 sizeOf65 rfl rfl (((hr7.mono hs5509).2.world hS.sub).adr hq6973 hc6950) hq6973 hc6950 rfl) rfl (RL.s (Vl.loadA isAgg65 sizeOf65 rfl rfl (((hr7.mono hs5509).2.world hS.sub).cells hq6973 hc6950)) rfl (rr [0, 1] hS ?_))
    refine fun b6974 => it fun w hS => lnsr (rr [1, 0, 8] hS ?_)
    refine it fun w hS => ?_
    obtain ⟨t6980, hg6981, h⟩ := h.bind
    have hc := link_New.ok hg6981 hS
    rcases t6980 with _ | ⟨y6982, y6983⟩
    · exact h.none
    refine RL.e (OW.callF (ls := [.tmp 107, .tmp 109]) rfl call16 hc) rfl rfl ?_
    rintro _ w ⟨b6984, rfl, hS⟩
    refine pn 5 rfl (ln (RC.region (rr [0, 0, 0, 0, 8, 0] hS ?_)))
    refine it fun w hS => RL.e (OW.buildSlice (E := FP) (xs := [b6984]) (cs := [pV b6984]) hS underlying44 zeroValue66 sizeOf66 (parts := [(0, .tmp 118)]) rfl rfl (by decide) (by decide) (by kernel_rfl) rfl) rfl rfl ?_
    rintro _ w ⟨b6985, rfl, hS⟩
    obtain ⟨hq6987, h⟩ := h.req
    have hS := hS.p1.p6.sepSnoc
    have hl6986 := hS.sepLen
    refine RL.e (OW.append (E := FP) (xs := bs6897) (ys := [b6984]) 5 hS rfl underlying44 type66 rfl rfl rfl rfl (by decide) rfl rfl rfl (hS.slW 1 rfl).2.2.flat (by simp only [maxLen, List.length_cons, List.length_nil] at *; omega) (le_app hl6898 hq6987) rfl) rfl rfl ?_
    rintro v6990 w hS
    obtain ⟨A6988, c6989, rfl, _⟩ := hS.osShape 0 rfl
    have hS : St B w (_ :: _ :: _ :: _ :: _ :: _ :: _ :: _ :: _ :: _ :: l) hf := hS
    refine rr [0, 0, 8] hS ?_
    refine it fun w hS => RL.nil (RQ.inB_n (RQ.then_n (RC.region (pn 2 rfl (RL.nil ?_)))))
    exact fun a ha => ⟨_, h.some, _, _, rfl, _, _, _, ha.tE rfl, hS.d2.d2.p3.p3⟩
   refine jf (RC.exit (RQ.exitT ?_))
   have h := h.inr
   refine RQ.exitT (RQ.inB_hit (tsr (rr [0, 0, 8, 0] hS ?_)))
   refine it fun w hS => ?_
   obtain ⟨t6991, hg6992, h⟩ := h.bind
   have hc := colour_NewToken.ok hg6992 hS
   rcases t6991 with _ | ⟨y6993, y6994⟩
   · exact h.none
   refine RL.e (OW.callF (ls := [.tmp 128]) rfl call17 hc) rfl rfl ?_
   rintro _ w ⟨b6995, rfl, hS⟩
   refine rr [0, 0, 0, 0, 0, 7] hS ?_
   refine it fun w hS => lnsr (pn 3 rfl (lr ?_))
   obtain ⟨hf, hs6996, hS, hr6997⟩ := St.promote hS.p1
   have hS := O_colour_Token.l hs6996 hS
   have hS := hS.p3.imp fun _ h => SepL.m (fun _ _ => O_link_Way.m hs6996) h
   have hS := hS.p4.imp fun _ h => SepL.m (fun _ _ => O_kernel_place.m hs6996) h
   have hS := hS.nilSl E_api_Done 251
   have hS := O_kernel_Kernel.c (x := (⟨({ a1 with Links := (([] : List api_Link) ++ a1.Links) } : api_Model), l5909, l6894, y6993, 0, 64, 64, ([] : List api_Done), 0⟩ : kernel_Kernel)) ((hr4.mono hs5509).mono hs6996) hr6997 ((hr10.mono hs5509).mono hs6996) hS.p3.p3.p5.p4.p5.p6
   cases h.some
   exact rt results4 rfl ⟨_, (hs5509.trans hs6996), b3511, rfl, hS.d1.d1⟩
  refine jtr (pn 3 rfl (lr (RQ.ret ?_)))
  cases h.some
  exact rt results4 rfl ⟨rfl, hS.d0.d0.d0⟩
def kernel_Kernel_none.f (a2 : kernel_Kernel) : Option (Unit) := some ()
theorem kernel_Kernel_none.ok {a2 : kernel_Kernel} {b1 : Nat} {r : Unit} (h : kernel_Kernel_none.f a2 = some r) (hS : St B w (O_kernel_Kernel hf a2 b1 :: l) hf) :
    Calls prog 21 #[pV b1] w (Ret fun v w => v = .bool false ∧ St B w (O_kernel_Kernel hf a2 b1 :: l) hf) := by
  have h := Holds.of h
  refine en func21 rfl ntmps21 rfl (sr (pn 1 rfl (lnsr (pn 1 rfl (RL.s (Vl.bn false rfl rfl) rfl (r0 4 rfl ?_))))))
  obtain ⟨A23, c24, A26, c27, A29, c30, A32, c33, bs34, A36, c37, bs38, b40, A41, c42, hr25, hr28, hr31, hS⟩ := O_kernel_Kernel.o hS
  have hl35 := hS.p2.sepLen
  have hl39 := hS.p4.sepLen
  refine rr [1] hS ?_
  refine it fun w hS => RL.sg (Vl.bn false rfl rfl) rfl rfl (pn 2 rfl (lr ?_))
  have hS := O_kernel_Kernel.c (x := a2) hr25 hr28 hr31 hS
  exact rt results21 rfl ⟨rfl, hS⟩
def kernel_Kernel_picks.f (a2 : kernel_Kernel) : Option (Unit) := some ()
theorem kernel_Kernel_picks.ok {a2 : kernel_Kernel} {b1 : Nat} {r : Unit} (h : kernel_Kernel_picks.f a2 = some r) (hS : St B w (O_kernel_Kernel hf a2 b1 :: l) hf) :
    Calls prog 22 #[pV b1] w (Ret fun v w => ∃ (b_1 : Nat), v = .map (some b_1) ∧ St B w (MapL b_1 [({ key := iV 0, val := .func (.func 37) #[pV b1] #[], born := 0 } : MapEntry), ({ key := iV 1, val := .func (.func 38) #[pV b1] #[], born := 1 } : MapEntry), ({ key := iV 2, val := .func (.func 39) #[pV b1] #[], born := 2 } : MapEntry), ({ key := iV 3, val := .func (.func 40) #[pV b1] #[], born := 3 } : MapEntry), ({ key := iV 4, val := .func (.func 41) #[pV b1] #[], born := 4 } : MapEntry), ({ key := iV 10, val := .func (.func 42) #[pV b1] #[], born := 5 } : MapEntry), ({ key := iV 5, val := .func (.func 43) #[pV b1] #[], born := 6 } : MapEntry), ({ key := iV 6, val := .func (.func 43) #[pV b1] #[], born := 7 } : MapEntry), ({ key := iV 7, val := .func (.func 43) #[pV b1] #[], born := 8 } : MapEntry), ({ key := iV 8, val := .func (.func 43) #[pV b1] #[], born := 9 } : MapEntry), ({ key := iV 9, val := .func (.func 43) #[pV b1] #[], born := 10 } : MapEntry), ({ key := iV 11, val := .func (.func 43) #[pV b1] #[], born := 11 } : MapEntry)] 12 :: O_kernel_Kernel hf a2 b1 :: l) hf) := by
  have h := Holds.of h
  refine en func22 rfl ntmps22 rfl (sr (pn 1 rfl (lnsr (RL.e (OW.makeMapL hS) rfl rfl ?_))))
  rintro _ w ⟨b4, rfl, hS⟩
  refine pn 1 rfl (RL.s (Vl.makeFunc (fi := [.tmp 4]) (ca := []) rfl rfl) rfl (RL.e0 (OW.insertL 0 hS rfl underlying75 underlying3 rfl rfl rfl rfl rfl rfl rfl) rfl ?_))
  rintro _ w ⟨rfl, hS⟩
  have hS : St B w (_ :: _ :: l) hf := hS
  refine pn 1 rfl (RL.s (Vl.makeFunc (fi := [.tmp 6]) (ca := []) rfl rfl) rfl (RL.e0 (OW.insertL 0 hS rfl underlying75 underlying3 rfl rfl rfl rfl rfl rfl rfl) rfl ?_))
  rintro _ w ⟨rfl, hS⟩
  have hS : St B w (_ :: _ :: l) hf := hS
  refine pn 1 rfl (RL.s (Vl.makeFunc (fi := [.tmp 8]) (ca := []) rfl rfl) rfl (RL.e0 (OW.insertL 0 hS rfl underlying75 underlying3 rfl rfl rfl rfl rfl rfl rfl) rfl ?_))
  rintro _ w ⟨rfl, hS⟩
  have hS : St B w (_ :: _ :: l) hf := hS
  refine pn 1 rfl (RL.s (Vl.makeFunc (fi := [.tmp 10]) (ca := []) rfl rfl) rfl (RL.e0 (OW.insertL 0 hS rfl underlying75 underlying3 rfl rfl rfl rfl rfl rfl rfl) rfl ?_))
  rintro _ w ⟨rfl, hS⟩
  have hS : St B w (_ :: _ :: l) hf := hS
  refine pn 1 rfl (RL.s (Vl.makeFunc (fi := [.tmp 12]) (ca := []) rfl rfl) rfl (RL.e0 (OW.insertL 0 hS rfl underlying75 underlying3 rfl rfl rfl rfl rfl rfl rfl) rfl ?_))
  rintro _ w ⟨rfl, hS⟩
  have hS : St B w (_ :: _ :: l) hf := hS
  refine pn 1 rfl (RL.s (Vl.makeFunc (fi := [.tmp 14]) (ca := []) rfl rfl) rfl (RL.e0 (OW.insertL 0 hS rfl underlying75 underlying3 rfl rfl rfl rfl rfl rfl rfl) rfl ?_))
  rintro _ w ⟨rfl, hS⟩
  have hS : St B w (_ :: _ :: l) hf := hS
  refine pn 1 rfl (RL.s (Vl.makeFunc (fi := [.tmp 16]) (ca := []) rfl rfl) rfl (RL.e0 (OW.insertL 0 hS rfl underlying75 underlying3 rfl rfl rfl rfl rfl rfl rfl) rfl ?_))
  rintro _ w ⟨rfl, hS⟩
  have hS : St B w (_ :: _ :: l) hf := hS
  refine pn 1 rfl (RL.s (Vl.makeFunc (fi := [.tmp 18]) (ca := []) rfl rfl) rfl (RL.e0 (OW.insertL 0 hS rfl underlying75 underlying3 rfl rfl rfl rfl rfl rfl rfl) rfl ?_))
  rintro _ w ⟨rfl, hS⟩
  have hS : St B w (_ :: _ :: l) hf := hS
  refine pn 1 rfl (RL.s (Vl.makeFunc (fi := [.tmp 20]) (ca := []) rfl rfl) rfl (RL.e0 (OW.insertL 0 hS rfl underlying75 underlying3 rfl rfl rfl rfl rfl rfl rfl) rfl ?_))
  rintro _ w ⟨rfl, hS⟩
  have hS : St B w (_ :: _ :: l) hf := hS
  refine pn 1 rfl (RL.s (Vl.makeFunc (fi := [.tmp 22]) (ca := []) rfl rfl) rfl (RL.e0 (OW.insertL 0 hS rfl underlying75 underlying3 rfl rfl rfl rfl rfl rfl rfl) rfl ?_))
  rintro _ w ⟨rfl, hS⟩
  have hS : St B w (_ :: _ :: l) hf := hS
  refine pn 1 rfl (RL.s (Vl.makeFunc (fi := [.tmp 24]) (ca := []) rfl rfl) rfl (RL.e0 (OW.insertL 0 hS rfl underlying75 underlying3 rfl rfl rfl rfl rfl rfl rfl) rfl ?_))
  rintro _ w ⟨rfl, hS⟩
  have hS : St B w (_ :: _ :: l) hf := hS
  refine pn 1 rfl (RL.s (Vl.makeFunc (fi := [.tmp 26]) (ca := []) rfl rfl) rfl (RL.e0 (OW.insertL 0 hS rfl underlying75 underlying3 rfl rfl rfl rfl rfl rfl rfl) rfl ?_))
  rintro _ w ⟨rfl, hS⟩
  have hS : St B w (_ :: _ :: l) hf := hS
  refine pn 2 rfl (lr ?_)
  exact rt results22 rfl ⟨b4, rfl, hS⟩
def kernel_Kernel_who.f (a2 : List (List api_Instr)) (a6 : List api_Link) (a10 : List api_Start) (a14 a15 a16 : Int) (a21 : List kernel_place) (a26 : List link_Way) (a28 : colour_Token) (a29 a30 a31 : Int) (a34 : List api_Done) (a35 a36 : Int) : Option ((Int) ⊕ (Int × Int)) := (if a36 < 0 then some (.inl 1) else (if (a21.length : Int) ≤ a36 then some (.inl 1) else (if 0 ≤ a36 ∧ a36 < (a21.length : Int) then some (.inr ((a36, 0))) else none)))
theorem kernel_Kernel_who.ok {a2 : List (List api_Instr)} {a6 : List api_Link} {a10 : List api_Start} {a14 a15 a16 a29 a30 a31 a35 a36 : Int} {a21 : List kernel_place} {a26 : List link_Way} {a28 : colour_Token} {a34 : List api_Done} {b1 c4 c8 c12 c18 c23 b27 c33 : Nat} {A3 A7 A11 A17 A22 A32 : Option Addr} {bs19 bs24 : List Nat} (hr5 : SlR (Rep.sl E_api_Instr.rep) hf A3 c4 a2) (hr9 : SlR E_api_Link.rep hf A7 c8 a6) (hr13 : SlR E_api_Start.rep hf A11 c12 a10) (hl20 : a21.length = bs19.length) (hl25 : a26.length = bs24.length) {r : (Int) ⊕ (Int × Int)} (h : kernel_Kernel_who.f a2 a6 a10 a14 a15 a16 a21 a26 a28 a29 a30 a31 a34 a35 a36 = some r) (hS : St B w (O_colour_Token hf a28 b27 :: Cl b1 [sV A3 a2 c4, sV A7 a6 c8, sV A11 a10 c12, .int .u64 a14, iV a15, iV a16, sV A17 bs19 c18, sV A22 bs24 c23, pV b27, iV a29, iV a30, iV a31, sV A32 a34 c33, iV a35] 48 :: OSf FP 53 (sV A17 bs19 c18) bs19 :: SepL (O_kernel_place hf) a21 bs19 :: OSf FP 66 (sV A22 bs24 c23) bs24 :: SepL (O_link_Way hf) a26 bs24 :: OSf E_api_Done 251 (sV A32 a34 c33) a34 :: l) hf) :
    Calls prog 59 #[pV b1, iV a36] w (Ret fun v w => match (generalizing := false) r with | .inl r_ => v = .tuple #[.pointer none, iV r_] ∧ St B w (O_colour_Token hf a28 b27 :: Cl b1 [sV A3 a2 c4, sV A7 a6 c8, sV A11 a10 c12, .int .u64 a14, iV a15, iV a16, sV A17 bs19 c18, sV A22 bs24 c23, pV b27, iV a29, iV a30, iV a31, sV A32 a34 c33, iV a35] 48 :: OSf FP 53 (sV A17 bs19 c18) bs19 :: SepL (O_kernel_place hf) a21 bs19 :: OSf FP 66 (sV A22 bs24 c23) bs24 :: SepL (O_link_Way hf) a26 bs24 :: OSf E_api_Done 251 (sV A32 a34 c33) a34 :: l) hf | .inr (r_) => v = .tuple #[.pointer (some ⟨nth bs19 r_.1, 0, none⟩), iV r_.2] ∧ St B w (O_colour_Token hf a28 b27 :: Cl b1 [sV A3 a2 c4, sV A7 a6 c8, sV A11 a10 c12, .int .u64 a14, iV a15, iV a16, sV A17 bs19 c18, sV A22 bs24 c23, pV b27, iV a29, iV a30, iV a31, sV A32 a34 c33, iV a35] 48 :: OSf FP 53 (sV A17 bs19 c18) bs19 :: SepL (O_kernel_place hf) a21 bs19 :: OSf FP 66 (sV A22 bs24 c23) bs24 :: SepL (O_link_Way hf) a26 bs24 :: OSf E_api_Done 251 (sV A32 a34 c33) a34 :: l) hf ∧ 0 ≤ r_.1 ∧ r_.1 < (a21.length : Int)) := by
  have h := Holds.of h
  refine en func59 rfl ntmps59 rfl (sr (pn 2 rfl (ln (RC.seq (sr (pn 3 rfl ?_))))))
  refine RL.iteP 8 rfl h (fun hc45 h => ?_) fun hc45 h => ?_
  next =>
   refine pn 8 rfl (ln (jtr (pn 2 rfl (lr (RQ.ret ?_)))))
   cases h.some
   exact rt results59 rfl ⟨rfl, hS⟩
  refine rr [0, 0, 0, 0, 2] hS ?_
  refine it fun w hS => RL.sg (Vl.lenO hl20 underlying43 rfl) rfl rfl (pn 2 rfl (ln ?_))
  refine RC.iteP 16 rfl h (fun hc46 h => ?_) fun hc46 h => ?_
  next =>
   refine jtr (pn 2 rfl (lr (RQ.ret ?_)))
   cases h.some
   exact rt results59 rfl ⟨rfl, hS⟩
  refine jfs (sr (rr [0, 0, 0, 2, 0] hS ?_))
  refine it fun w hS => ?_
  obtain ⟨⟨hq47, hq48⟩, h⟩ := h.req
  refine RL.s (Vl.indexOwn 2 hS rfl underlying43 sizeOf53 rfl rfl hq47 (lt_len hl20 hq48)) rfl (RL.s (Vl.load isAgg53 rfl ((hS.slW 2 rfl).2.2.cell (j := 0) hq47 (lt_len hl20 hq48) rfl)) rfl (pn 2 rfl (lr ?_)))
  cases h.some
  exact rt results59 rfl ⟨rfl, hS, hq47, hq48⟩
end
end Go.Proofs.Gx
