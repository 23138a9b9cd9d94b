/-
 The walks of functions, each with what it computes: printed by wip/gx.py.
-/
import Derived.Test.YtdaibkppbhbggaaGreatDoorW3
set_option linter.unusedVariables false
set_option linter.unusedSimpArgs false
set_option maxRecDepth 100000
set_option maxHeartbeats 4000000
namespace Go.Proofs.Gx
open Go.Sl Tryz
variable {B : Base} {w : World} {l : List HProp} {hf : Hp}
noncomputable section
def log_Log_run_1.l2b (a1 : api_Message) (a3 : (List api_Message)) : Int → Option ((Int) ⊕ (Int × Bool × List api_Message))
 | (x109) => (if x109 < (a3.length : Int) then (if 0 ≤ x109 then (if a1.Key = (nth a3 x109).Key then (if a1.To = (nth a3 x109).To then (if a1.Value = (nth a3 x109).Value then (if x109 ≤ (a3.length : Int) then (if 0 ≤ IntKind.i64.wrap (x109 + 1) ∧ IntKind.i64.wrap (x109 + 1) ≤ (a3.length : Int) then (if ((subL a3 0 x109).length + (subL a3 (IntKind.i64.wrap (x109 + 1)) (a3.length : Int)).length) * 56 ≤ 140737488355328 then some (.inr ((nth a3 x109).Uid, true, ((subL a3 0 x109) ++ (subL a3 (IntKind.i64.wrap (x109 + 1)) (a3.length : Int))))) else none) else none) else none) else some (.inl (IntKind.i64.wrap (x109 + 1)))) else some (.inl (IntKind.i64.wrap (x109 + 1)))) else some (.inl (IntKind.i64.wrap (x109 + 1)))) else none) else some (.inr (0, false, a3)))
def log_Log_run_1.l2 (a1 : api_Message) (a3 : (List api_Message)) (s : Int) : Option (Int × Bool × List api_Message) := loopR (log_Log_run_1.l2b a1 a3) s
def log_Log_run_1.f (a1 : api_Message) (a3 : (List api_Message)) : Option (Int × Bool × List api_Message) := log_Log_run_1.l2 a1 a3 (0)
theorem log_Log_run_1.ok {a1 : api_Message} {a3 : (List api_Message)} {b2 c5 : Nat} {A4 : Option Addr} {r : Int × Bool × List api_Message} (h : log_Log_run_1.f a1 a3 = some r) (hS : St B w (Cl b2 [sV A4 a3 c5] 39 :: OSf E_api_Message 48 (sV A4 a3 c5) a3 :: l) hf) :
   Calls prog 124 #[.agg (C_api_Message a1).toArray, pV b2] w (Ret fun v w => ∃ (A_1 : Option Addr) (c_2 : Nat), v = .tuple #[iV r.1, .bool r.2.1] ∧ St B w (OSf E_api_Message 48 (sV A_1 r.2.2 c_2) r.2.2 :: Cl b2 [sV A_1 r.2.2 c_2] 39 :: l) hf) := by
 have h := Holds.of h
 refine en func124 rfl ntmps124 rfl (sr (rr [0, 0, 0] hS ?_))
 refine fun b85 => it fun w hS => ln (RC.seq (sr (rr [2, 0, 0] hS ?_)))
 refine it fun w hS => ln (RC.block (fun a ha => lp h (fun (s : Int) a w => ∃ x109, s = (x109) ∧ Has 45 [(1, pV b2), (2, pV b85), (7, sV A4 a3 c5), (8, iV (a3.length : Int)), (9, iV x109)] a ∧ St B w (OSf E_api_Message 48 (sV A4 a3 c5) a3 :: Cl b85 (C_api_Message a1) 48 :: Cl b2 [sV A4 a3 c5] 39 :: l) hf) ⟨_, rfl, ha.tE rfl, hS.p2⟩ ?_))
 rintro G137 x109 a w ⟨_, rfl, ha, hS⟩ h
 refine ro ha (sr (pn 1 rfl (ln (RC.seq ?_))))
 refine RC.iteP 10 rfl h (fun hc139 h => ?_) fun hc139 h => ?_
 next =>
  refine jt (sk (RC.seq (RC.block (sr (pn 1 rfl ?_)))))
  obtain ⟨hq152, h⟩ := h.req
  refine RL.s (Vl.indexOwn 0 hS rfl underlying39 sizeOf48 rfl rfl hq152 hc139) rfl (RL.s (Vl.loadA isAgg48 sizeOf48 rfl rfl ((hS.slW 0 rfl).2.2.cells hq152 hc139)) rfl (rr [0, 0, 1] hS ?_))
  refine fun b153 => it fun w hS => lnsr (rr [0, 3, 0, 1] hS ?_)
  refine it fun w hS => RL.s (Vl.eqlS (run_eql_api_Key _ _ a1.Key ((nth a3 x109).Key)) rfl rfl) rfl (pn 1 rfl ?_)
  refine RL.iteP 19 rfl h (fun hc154 h => ?_) fun hc154 h => ?_
  next =>
   refine rr [0, 3, 0, 1, 0, 0, 0] hS ?_
   refine it fun w hS => RL.iteP 26 rfl h (fun hc155 h => ?_) fun hc155 h => ?_
   next =>
    refine rr [0, 3, 0, 1, 0, 0] hS ?_
    refine it fun w hS => ln ?_
    refine RC.iteP 32 rfl h (fun hc156 h => ?_) fun hc156 h => ?_
    next =>
     refine jt (RC.seq (dr [1, 3, 6, 10, 13, 17, 20, 23, 26, 29] [8, 9] hS fun w hS => rq [4, 0, 0] hS ?_))
     refine it ?_
     obtain ⟨hq157, h⟩ := h.req
     refine RP.s 0 3 rfl rfl hS (fun w hS => Vl.slice3 (xs := a3) 1 hS rfl underlying39 sizeOf48 rfl rfl rfl hq152 hq157) rfl (rq [4, 0, 0] hS ?_)
     refine it ?_
     obtain ⟨⟨hq158, hq159⟩, h⟩ := h.req
     refine RP.v1 7 rfl (Vl.sliceLO (xs := a3) 1 hS rfl underlying39 sizeOf48 rfl rfl  hq158 hq159) rfl rfl ?_
     obtain ⟨hq160, h⟩ := h.req
     refine RP.e 8 rfl (OW.appendCut (E := E_api_Message) (xs := a3) (k := x109) (m := IntKind.i64.wrap (x109 + 1)) 1 hS rfl underlying39 type48 rfl rfl rfl rfl (by decide) (by decide) rfl rfl hq152 hq157 hq158 hq159 hq160 rfl) rfl rfl ?_
     rintro v163 w hS
     obtain ⟨A161, c162, rfl, _⟩ := hS.osShape 0 rfl
     have hS : St B w (_ :: _ :: _ :: _ :: l) hf := hS
     refine ⟨kp ⟨(by intro hx; cases hx), trivial⟩, ?_⟩
     refine RP.e0 9 rfl (OW.store (vs := [.slice A161 ((subL a3 0 x109) ++ (subL a3 (IntKind.i64.wrap (x109 + 1)) (a3.length : Int))).length c162]) 3 hS rfl rfl rfl rfl sizeOf39 rfl rfl rfl rfl) rfl ?_
     rintro _ w ⟨rfl, hS⟩
     have hS : St B w (_ :: _ :: _ :: Cl _ [_] _ :: l) hf := hS
     refine ⟨kp ⟨(by intro hx; cases hx), trivial⟩, ?_⟩
     refine RP.nil (tsr (rr [0, 2, 0, 0] hS ?_))
     refine it fun w hS => lr (ir ?_)
     have h := h.inrS
     refine RQ.ret (ir ?_)
     cases h.some
     exact rt results124 rfl ⟨A161, c162, rfl, hS.d1.d1⟩
    refine jf (RC.skip (RQ.inB_n (RQ.then_n (RC.region (pn 2 rfl (RL.nil ?_))))))
    exact fun a ha => ⟨_, h.some, _, rfl, ha.tE rfl, hS.d0⟩
   refine pn 6 rfl (ln (jf (RC.skip (RQ.inB_n (RQ.then_n (RC.region (pn 2 rfl (RL.nil ?_))))))))
   exact fun a ha => ⟨_, h.some, _, rfl, ha.tE rfl, hS.d0⟩
  refine pn 13 rfl (ln (jf (RC.skip (RQ.inB_n (RQ.then_n (RC.region (pn 2 rfl (RL.nil ?_))))))))
  exact fun a ha => ⟨_, h.some, _, rfl, ha.tE rfl, hS.d0⟩
 refine jf (RC.exit (RQ.exitT ?_))
 have h := h.inrS
 refine RQ.exitT (RQ.inB_hit (tsr (pn 2 rfl (lr ?_))))
 cases h.some
 exact rt results124 rfl ⟨A4, c5, rfl, hS.d1⟩
def log_Log_run.j34 (l631 : List api_Message) (x637 : Int) (y699 : List api_Message) (x703 x704 : Int) : Option ((Int × List api_Message × List api_Message × Int) ⊕ (log_done × api_State)) := some (.inl (x703, (setL l631 x637 (⟨(nth l631 x637).Key, (nth l631 x637).To, (nth l631 x637).Value, x704, (nth l631 x637).Anti⟩ : api_Message)), y699, IntKind.i64.wrap (x637 + 1)))
def log_Log_run.l32b (a3 : api_Message) (y454 : api_State) (x458 : Int) (l478 : List api_Message) : Int × List api_Message × List api_Message × Int → Option ((Int × List api_Message × List api_Message × Int) ⊕ (log_done × api_State))
 | (x630, l631, l634, x637) => (if x637 < (l478.length : Int) then (if 0 ≤ x637 ∧ x637 < (l631.length : Int) then ((log_Log_run_1.f (nth l631 x637) l634).bind fun (y697, y698, y699) => (if y698 = true then log_Log_run.j34 l631 x637 y699 x630 y697 else log_Log_run.j34 l631 x637 y699 (IntKind.i64.wrap (x630 + 1)) x630)) else none) else some (.inr ((⟨a3, x458, l631, (⟨false, default⟩ : Pt api_State)⟩ : log_done), y454)))
def log_Log_run.l32 (a3 : api_Message) (y454 : api_State) (x458 : Int) (l478 : List api_Message) (s : Int × List api_Message × List api_Message × Int) : Option (log_done × api_State) := loopR (log_Log_run.l32b a3 y454 x458 l478) s
def log_Log_run.j20 (a3 : api_Message) (a4 : Int) (a5 : List api_Message) (y454 : api_State) (x458 : Int) (l478 : List api_Message) : Option (log_done × api_State) := (if (([] : List api_Message).length + a5.length) * 56 ≤ 140737488355328 then log_Log_run.l32 a3 y454 x458 l478 (a4, l478, (([] : List api_Message) ++ a5), 0) else none)
def log_Log_run.j19 (a2 : log_Log) (a3 : api_Message) (a4 : Int) (a5 : List api_Message) (y454 : api_State) (l455 : List api_Out) (x458 : Int) : Option (log_done × api_State) := ((vm_Sends.f a2.w a2.state a3 l455 0).bind fun t711 => log_Log_run.j20 a3 a4 a5 y454 x458 t711)
def log_Log_run.f (a2 : log_Log) (a3 : api_Message) (a4 : Int) (a5 : List api_Message) : Option (log_done × api_State) := ((vm_Run.f a2.w a2.state a3).bind fun (y727, y728, y729) => log_Log_run.j19 a2 a3 a4 a5 y727 y728 y729)
theorem log_Log_run.ok {a2 : log_Log} {a3 : api_Message} {a4 : Int} {a5 : List api_Message} {b1 c7 : Nat} {A6 : Option Addr} (hr8 : SlR E_api_Message.rep hf A6 c7 a5) (hG0 : GlobAt hf 0 (.iface 215 (.agg #[.pointer (some ⟨1, 108, none⟩)]))) {r : log_done × api_State} (h : log_Log_run.f a2 a3 a4 a5 = some r) (hS : St B w (O_log_Log hf a2 b1 :: l) hf) :
   Calls prog 99 #[pV b1, .agg (C_api_Message a3).toArray, iV a4, sV A6 a5 c7] w (Ret fun v w => ∃ (A_1 : Option Addr) (c_2 : Nat), v = .tuple #[.agg #[iV r.1.event.Key.Time, iV r.1.event.Key.From, iV r.1.event.Key.Seq, iV r.1.event.To, iV r.1.event.Value, iV r.1.event.Uid, .bool r.1.event.Anti, iV r.1.fault, sV A_1 r.1.sent c_2, .pointer none], .agg (C_api_State r.2).toArray] ∧ St B w (OSf E_api_Message 48 (sV A_1 r.1.sent c_2) r.1.sent :: O_log_Log hf a2 b1 :: l) hf) := by
 have h := Holds.of h
 refine en func99 rfl ntmps99 rfl (sr (rr [0, 0, 0, 0] hS ?_))
 refine fun b375 b376 b377 b378 => it fun w hS => ln (RC.seq ?_)
 obtain ⟨A427, c428, A430, c431, A433, c434, cs435, hr429, hr432, hx436, hS⟩ := O_log_Log.o hS.p4
 refine RC.planS (.pure 0 (.pure 1 (.pure 2 (.early 3 0 (.pure 4 (.pure 5 (.pure 6 (.early 7 0 (.early 8 0 (.fork 9 14 (.pure 10 (.pure 11 (.pure 12 (.pure 13 (.last 14 (.last 15 (.last 16 (.last 17 .nil)))))))) (.last 9 (.pure 10 (.pure 11 (.pure 12 (.pure 13 (.last 15 (.last 16 (.last 17 .nil)))))))))))))))))) [15, 16, 17] hS (fun w hS => hS) follows rfl (by kernel_rfl) (NoTmp.then NoTmp.body) fun w hS => rq [0, 0, 0, 1, 0, 0, 0, 1, 6] hS ?_
 refine it ?_
 refine RP.fj (fun (s : api_State × List api_Out × Int) env w => ∃ y454 l455 x458, s = (y454, l455, x458) ∧ Holds (· = r) (log_Log_run.j19 a2 a3 a4 a5 y454 l455 x458) ∧ ∃ b453 A456 c457, Ev env [(0, pV b1), (2, iV a4), (5, pV b375), (7, pV b376), (8, pV b377), (9, pV b378), (10, pV b453), (29, .agg (C_api_State y454).toArray), (30, sV A456 l455 c457), (31, iV x458)] ∧ St B w (OSl 176 10 (sV A433 a2.l c434) a2.l.length cs435 :: OSf E_api_Out 265 (sV A456 l455 c457) l455 :: Cl b1 (C_log_Log a2 A427 c428 A430 c431 A433 c434) 150 :: Cl b378 [iV 0, iV 0, iV 0, iV 0, iV 0, iV 0, iV 0, iV 0, iV 0, iV 0] 70 :: Cl b377 [iV 0, iV 0, iV 0, iV 0, iV 0, iV 0, .bool false, iV 0, .slice none 0 0, .pointer none] 176 :: Cl b376 [sV A6 a5 c7] 39 :: Cl b375 (C_api_Message a3) 48 :: Cl b453 [iV 0, iV 0, iV 0, iV 0, iV 0, iV 0, iV 0, iV 0, iV 0, iV 0] 70 :: l) hf) (.last 15 (.last 16 (.last 17 .nil))) ?_ fun hk => ?_
 · rintro _ env w ⟨y454, l455, x458, rfl, h, b453, A456, c457, ha, hS⟩
   refine RP.to ha (RP.e0 15 rfl (OW.store (vs := (C_api_State y454)) 7 hS rfl rfl rfl rfl sizeOf70 rfl rfl rfl rfl) rfl ?_)
   rintro _ w ⟨rfl, hS⟩
   have hS : St B w (_ :: _ :: _ :: _ :: _ :: _ :: _ :: Cl _ [_, _, _, _, _, _, _, _, _, _] _ :: l) hf := hS
   refine ⟨kp ⟨(by intro hx; cases hx), trivial⟩, ?_⟩
   refine rq [0, 0] hS.d1.d6.p1 ?_
   refine it (RP.nil (RQ.then_n ?_))
   refine RC.join (fun (s : List api_Message) a w => ∃ l478, s = (l478) ∧ Holds (· = r) (log_Log_run.j20 a3 a4 a5 y454 x458 l478) ∧ ∃ b477 A479 c480, Has 79 [(2, iV a4), (7, pV b376), (8, pV b377), (9, pV b378), (10, pV b453), (13, pV b477)] a ∧ St B w (OSf E_api_Message 48 (sV A479 l478 c480) l478 :: O_log_Log hf a2 b1 :: Cl b378 [iV 0, iV 0, iV 0, iV 0, iV 0, iV 0, iV 0, iV 0, iV 0, iV 0] 70 :: Cl b377 [iV 0, iV 0, iV 0, iV 0, iV 0, iV 0, .bool false, iV 0, .slice none 0 0, .pointer none] 176 :: Cl b376 [sV A6 a5 c7] 39 :: Cl b453 (C_api_State y454) 70 :: Cl b477 [iV a3.Key.Time, iV a3.Key.From, iV a3.Key.Seq, iV a3.To, iV a3.Value, iV a3.Uid, .bool a3.Anti, iV x458, sV A479 l478 c480, .pointer none] 176 :: l) hf) ?_ ?_
   · rintro l478 a w ⟨_, rfl, h, b477, A479, c480, ha, hS⟩
     refine ro ha (sr (rr [5] hS ?_))
     refine it fun w hS => ?_
     obtain ⟨hq481, h⟩ := h.req
     have hS := hS.nilSl E_api_Message 48
     refine RL.e (OW.appendV (E := E_api_Message) (xs := ([] : List api_Message)) (ys := a5) 0 hS rfl underlying39 type48 rfl rfl rfl rfl (by decide) (by decide) rfl rfl (hr8.2.world hS.sub) hq481 rfl) rfl rfl ?_
     rintro v484 w hS
     obtain ⟨A482, c483, rfl, _⟩ := hS.osShape 0 rfl
     have hS : St B w (_ :: _ :: _ :: _ :: _ :: _ :: _ :: _ :: l) hf := hS
     refine rr [6] hS ?_
     refine it fun w hS => lnsr (RL.s (Vl.makeFunc (fi := []) (ca := [.tmp 7]) rfl rfl) rfl (pn 1 rfl (ln (RC.seq (sr (rr [0, 8, 0, 0] hS ?_))))))
     refine it fun w hS => ln (RC.block ?_)
     refine fun a ha => lp h (fun (s : Int × List api_Message × List api_Message × Int) a w => ∃ x630 l631 l634 x637, s = (x630, l631, l634, x637) ∧ ∃ A632 c633 A635 c636, Has 79 [(2, iV x630), (8, pV b377), (9, pV b378), (10, pV b453), (13, pV b477), (14, .func (.func 124) #[] #[pV b376]), (51, iV (l478.length : Int)), (52, iV x637)] a ∧ St B w (OSf E_api_Message 48 (sV A632 l631 c633) l631 :: OSf E_api_Message 48 (sV A635 l634 c636) l634 :: O_log_Log hf a2 b1 :: Cl b378 [iV 0, iV 0, iV 0, iV 0, iV 0, iV 0, iV 0, iV 0, iV 0, iV 0] 70 :: Cl b377 [iV 0, iV 0, iV 0, iV 0, iV 0, iV 0, .bool false, iV 0, .slice none 0 0, .pointer none] 176 :: Cl b376 [sV A635 l634 c636] 39 :: Cl b453 (C_api_State y454) 70 :: Cl b477 [iV a3.Key.Time, iV a3.Key.From, iV a3.Key.Seq, iV a3.To, iV a3.Value, iV a3.Uid, .bool a3.Anti, iV x458, sV A632 l631 c633, .pointer none] 176 :: l) hf) ⟨_, _, _, _, rfl, _, _, _, _, ha.tE rfl, hS.p1⟩ ?_
     rintro G676 _ a w ⟨x630, l631, l634, x637, rfl, A632, c633, A635, c636, ha, hS⟩ h
     refine ro ha (sr (pn 1 rfl (ln (RC.seq ?_))))
     refine RC.iteP 53 rfl h (fun hc678 h => ?_) fun hc678 h => ?_
     next =>
      refine jt (sk (RC.seq (RC.block (sr (pn 2 rfl (lnsr (rr [0, 0, 8, 0] hS ?_)))))))
      refine it fun w hS => ?_
      obtain ⟨⟨hq693, hq694⟩, h⟩ := h.req
      refine RL.s (Vl.indexOwn 0 hS rfl underlying39 sizeOf48 rfl rfl hq693 hq694) rfl (RL.s (Vl.loadA isAgg48 sizeOf48 rfl rfl ((hS.slW 0 rfl).2.2.cells hq693 hq694)) rfl ?_)
      obtain ⟨t695, hg696, h⟩ := h.bind
      have hc := log_Log_run_1.ok hg696 hS.p1.p5
      obtain ⟨y697, y698, y699⟩ := t695
      refine RL.e (OW.call (ls := [.tmp 61]) rfl rfl call124 rfl hc) rfl rfl ?_
      rintro _ w ⟨A700, c701, rfl, hS⟩
      refine pn 5 rfl (ln ?_)
      refine RC.join (fun (s : Int × Int) a w => ∃ x703 x704, s = (x703, x704) ∧ Holds (Sum.elim G676 (· = r)) (log_Log_run.j34 l631 x637 y699 x703 x704) ∧ Has 79 [(2, iV x703), (8, pV b377), (9, pV b378), (10, pV b453), (13, pV b477), (14, .func (.func 124) #[] #[pV b376]), (15, iV x637), (16, iV x704), (51, iV (l478.length : Int)), (52, iV x637)] a ∧ St B w (OSf E_api_Message 48 (sV A632 l631 c633) l631 :: OSf E_api_Message 48 (sV A700 y699 c701) y699 :: Cl b376 [sV A700 y699 c701] 39 :: O_log_Log hf a2 b1 :: Cl b378 [iV 0, iV 0, iV 0, iV 0, iV 0, iV 0, iV 0, iV 0, iV 0, iV 0] 70 :: Cl b377 [iV 0, iV 0, iV 0, iV 0, iV 0, iV 0, .bool false, iV 0, .slice none 0 0, .pointer none] 176 :: Cl b453 (C_api_State y454) 70 :: Cl b477 [iV a3.Key.Time, iV a3.Key.From, iV a3.Key.Seq, iV a3.To, iV a3.Value, iV a3.Uid, .bool a3.Anti, iV x458, sV A632 l631 c633, .pointer none] 176 :: l) hf) ?_ ?_
      · rintro _ a w ⟨x703, x704, rfl, h, ha, hS⟩
        refine ro ha (RC.region (rr [0, 8, 0, 0] hS ?_))
        refine it fun w hS => RL.s (Vl.indexOwn 0 hS rfl underlying39 sizeOf48 rfl rfl hq693 hq694) rfl (RL.s (Vl.fieldAddr (a'' := (ad A632).add (x637.toNat * 7 + 5)) underlying48 rfl sizeOf3 rfl (add_add _ _ _)) rfl (RL.e0 (OW.storeOwn (E := E_api_Message) (off := 5) (j := x637) (x' := (⟨(nth l631 x637).Key, (nth l631 x637).To, (nth l631 x637).Value, x704, (nth l631 x637).Anti⟩ : api_Message)) (vs := [iV x704]) 0 hS rfl rfl rfl rfl sizeOf3 rfl (Nat.succ_pos _) hq693 hq694 (Nat.le_of_ble_eq_true rfl) rfl rfl) rfl ?_))
        rintro _ w ⟨rfl, hS⟩
        have he705 := (hS.osN 0 rfl).1
        have hS : St B w (_ :: _ :: _ :: _ :: _ :: _ :: _ :: _ :: l) hf := (congrArg (fun k_ : Nat => St B w (OSf E_api_Message 48 (.slice A632 k_ c633) (setL l631 x637 (⟨(nth l631 x637).Key, (nth l631 x637).To, (nth l631 x637).Value, x704, (nth l631 x637).Anti⟩ : api_Message)) :: OSf E_api_Message 48 (sV A700 y699 c701) y699 :: Cl b376 [sV A700 y699 c701] 39 :: O_log_Log hf a2 b1 :: Cl b378 [iV 0, iV 0, iV 0, iV 0, iV 0, iV 0, iV 0, iV 0, iV 0, iV 0] 70 :: Cl b377 [iV 0, iV 0, iV 0, iV 0, iV 0, iV 0, .bool false, iV 0, .slice none 0 0, .pointer none] 176 :: Cl b453 (C_api_State y454) 70 :: Cl b477 [iV a3.Key.Time, iV a3.Key.From, iV a3.Key.Seq, iV a3.To, iV a3.Value, iV a3.Uid, .bool a3.Anti, iV x458, .slice A632 k_ c633, .pointer none] 176 :: l) hf) he705).mp hS
        refine RL.re 71 rfl (congrArg (fun k_ : Nat => (.slice A632 k_ c633 : Value)) he705) (RL.nil (RQ.inB_n (RQ.then_n (RC.region (pn 2 rfl (RL.nil ?_))))))
        exact fun a ha => ⟨_, h.some, _, _, _, _, rfl, _, _, _, _, ha.tE rfl, hS.p5.p5.p5.p4.p4⟩
      refine sr (pn 2 rfl (ln ?_))
      refine RC.iteM 66 rfl h (fun hc706 h => ?_) fun hc706 h => ?_
      next =>
       refine jf (RC.skip ?_)
       exact fun a ha => ⟨_, _, _, rfl, h, ha.tE rfl, hS.p2⟩
      refine jtr (pn 2 rfl (ln (RC.region (pn 3 rfl (RL.nil ?_)))))
      exact fun a ha => ⟨_, _, _, rfl, h, ha.tE rfl, hS.p2⟩
     refine jf (RC.exit (RQ.exitT ?_))
     have h := h.inrS
     refine RQ.exitT (RQ.inB_hit (RQ.then_n (RC.seq (dk [1, 4, 8, 11] [3] hS (fun w hS => hS.d4) fun w hS => rq [7, 6] hS.d4 ?_))))
     refine it (RP.e0 2 rfl (OW.store (vs := [iV a3.Key.Time, iV a3.Key.From, iV a3.Key.Seq, iV a3.To, iV a3.Value, iV a3.Uid, .bool a3.Anti, iV x458, sV A632 l631 c633, .pointer none]) 4 hS rfl rfl rfl rfl sizeOf176 rfl rfl rfl rfl) rfl ?_)
     rintro _ w ⟨rfl, hS⟩
     have hS : St B w (_ :: _ :: _ :: _ :: Cl _ [_, _, _, _, _, _, _, _, _, _] _ :: _ :: _ :: _ :: l) hf := hS
     refine ⟨kp ⟨fun _ => hS.d4, trivial⟩, ?_⟩
     refine RP.e0 3 rfl (OW.store (vs := (C_api_State y454)) 3 hS rfl rfl rfl rfl sizeOf70 rfl rfl rfl rfl) rfl ?_
     rintro _ w ⟨rfl, hS⟩
     have hS : St B w (_ :: _ :: _ :: Cl _ [_, _, _, _, _, _, _, _, _, _] _ :: _ :: _ :: _ :: _ :: l) hf := hS
     refine ⟨kp ⟨(by intro hx; cases hx), trivial⟩, ?_⟩
     refine RP.nil (tr ?_)
     cases h.some
     refine rz [4, 3] results99 hS ?_
     exact it ⟨A632, c633, rfl, hS.d1.d2.d2.d2.d2.d2⟩
   refine RC.planS (.early 0 0 (.pure 1 (.pure 2 (.pure 3 (.pure 4 (.early 5 0 (.pure 6 (.pure 7 (.pure 8 (.early 9 0 (.early 10 0 (.pure 11 (.fork 12 14 (.pure 13 (.last 14 (.last 15 .nil))) (.last 12 (.last 13 (.last 15 .nil)))))))))))))))) [15] hS (fun w hS => hS) follows rfl (by kernel_rfl) (NoTmp.then NoTmp.body) fun w hS => rq [7, 0, 0, 0, 0, 3, 0, 0, 0, 3, 7, 0] hS ?_
   refine it ?_
   refine RP.fork ?_ ?_
   · obtain ⟨hf710, hs708, hS, hr707, hb709⟩ := St.lendSl hS.p1
     obtain ⟨t711, hg712, h⟩ := h.bind
     have hc := vm_Sends.ok (hr429.mono hs708) (hr432.mono hs708) hr707 hg712 hS
     refine RPW.e 12 rfl (OW.callF (ls := [.tmp 37, .tmp 41, .tmp 42, .tmp 43, .const (iV 0)]) rfl call123 hc) rfl rfl ?_
     rintro _ w ⟨A713, c714, rfl, hS⟩
     have hS := hb709 _ _ hS
     have hS : St B w (_ :: _ :: _ :: _ :: _ :: _ :: _ :: _ :: _ :: l) hf := hS
     refine ⟨kp ⟨fun _ => hS.d1.p1, trivial⟩, ?_⟩
     refine rq [0] hS.d1.p1 ?_
     refine it (RP.e 14 rfl (OW.alloc (cs := [iV 0, iV 0, iV 0, iV 0, iV 0, iV 0, .bool false, iV 0, .slice none 0 0, .pointer none]) hS zeroValue176 rfl) rfl rfl ?_)
     rintro _ w ⟨b715, rfl, hS⟩
     refine ⟨kp ⟨fun _ => hS.d0.d1.p1, trivial⟩, ?_⟩
     refine RP.e0 15 rfl (OW.store (vs := [iV a3.Key.Time, iV a3.Key.From, iV a3.Key.Seq, iV a3.To, iV a3.Value, iV a3.Uid, .bool a3.Anti, iV x458, sV A713 t711 c714, .pointer none]) 0 hS rfl rfl rfl rfl sizeOf176 rfl rfl rfl rfl) rfl ?_
     rintro _ w ⟨rfl, hS⟩
     have hS : St B w (Cl _ [_, _, _, _, _, _, _, _, _, _] _ :: _ :: _ :: _ :: _ :: _ :: _ :: _ :: _ :: _ :: l) hf := hS
     refine ⟨kp ⟨(by intro hx; cases hx), trivial⟩, ?_⟩
     refine RP.nil ?_
     have hS := O_log_Log.c (x := a2) hr429 hr432 hx436 hS.p3.p4
     exact fun a ha => ⟨_, _, rfl, h, _, _, _, ha.tE rfl, hS.d2.d6.p6.p6.p6.p6.p4.p6⟩
   · refine RPW.e 14 rfl (OW.alloc (cs := [iV 0, iV 0, iV 0, iV 0, iV 0, iV 0, .bool false, iV 0, .slice none 0 0, .pointer none]) hS zeroValue176 rfl) rfl rfl ?_
     rintro _ w ⟨b716, rfl, hS⟩
     refine ⟨kp ⟨fun _ => hS.d0, trivial⟩, ?_⟩
     obtain ⟨hf720, hs718, hS, hr717, hb719⟩ := St.lendSl hS.p2
     obtain ⟨t721, hg722, h⟩ := h.bind
     have hc := vm_Sends.ok (hr429.mono hs718) (hr432.mono hs718) hr717 hg722 hS
     refine RP.e 12 rfl (OW.callF (ls := [.tmp 37, .tmp 41, .tmp 42, .tmp 43, .const (iV 0)]) rfl call123 hc) rfl rfl ?_
     rintro _ w ⟨A723, c724, rfl, hS⟩
     have hS := hb719 _ _ hS
     have hS : St B w (_ :: _ :: _ :: _ :: _ :: _ :: _ :: _ :: _ :: _ :: l) hf := hS
     refine ⟨kp ⟨fun _ => hS.d1.d1.p1, trivial⟩, ?_⟩
     refine rq [0] hS.d1.d1.p1 ?_
     refine it (RP.e0 15 rfl (OW.store (vs := [iV a3.Key.Time, iV a3.Key.From, iV a3.Key.Seq, iV a3.To, iV a3.Value, iV a3.Uid, .bool a3.Anti, iV x458, sV A723 t721 c724, .pointer none]) 2 hS rfl rfl rfl rfl sizeOf176 rfl rfl rfl rfl) rfl ?_)
     rintro _ w ⟨rfl, hS⟩
     have hS : St B w (_ :: _ :: Cl _ [_, _, _, _, _, _, _, _, _, _] _ :: _ :: _ :: _ :: _ :: _ :: _ :: _ :: l) hf := hS
     refine ⟨kp ⟨(by intro hx; cases hx), trivial⟩, ?_⟩
     refine RP.nil ?_
     have hS := O_log_Log.c (x := a2) hr429 hr432 hx436 hS.p3.p4
     exact fun a ha => ⟨_, _, rfl, h, _, _, _, ha.tE rfl, hS.d1.d6.p6.p6.p6.p6.p4.p5⟩
 refine RP.fork ?_ ?_
 · obtain ⟨t725, hg726, h⟩ := h.bind
   have hc := vm_Run.ok hr429 hr432 hG0 hg726 hS
   obtain ⟨y727, y728, y729⟩ := t725
   refine RPW.e 9 rfl (OW.callF (ls := [.tmp 22, .tmp 26, .tmp 27]) rfl call122 hc) rfl rfl ?_
   rintro _ w ⟨A730, c731, rfl, hS⟩
   refine ⟨kp ⟨fun _ => hS.d0, trivial⟩, ?_⟩
   refine pp 4 rfl (RP.e 14 rfl (OW.alloc (cs := [iV 0, iV 0, iV 0, iV 0, iV 0, iV 0, iV 0, iV 0, iV 0, iV 0]) hS zeroValue70 rfl) rfl rfl ?_)
   rintro _ w ⟨b732, rfl, hS⟩
   refine ⟨kp ⟨fun _ => hS.d0.d0, trivial⟩, ?_⟩
   exact hk _ _ _ ⟨_, _, _, rfl, h, _, _, _, ⟨rfl, rfl, rfl, rfl, rfl, rfl, rfl, rfl, rfl, rfl, trivial⟩, hS.p7.p7.p7.p7.p6.p6.p7⟩
 · refine RPW.e 14 rfl (OW.alloc (cs := [iV 0, iV 0, iV 0, iV 0, iV 0, iV 0, iV 0, iV 0, iV 0, iV 0]) hS zeroValue70 rfl) rfl rfl ?_
   rintro _ w ⟨b733, rfl, hS⟩
   refine ⟨kp ⟨fun _ => hS.d0, trivial⟩, ?_⟩
   obtain ⟨t734, hg735, h⟩ := h.bind
   have hc := vm_Run.ok hr429 hr432 hG0 hg735 hS
   obtain ⟨y736, y737, y738⟩ := t734
   refine RP.e 9 rfl (OW.callF (ls := [.tmp 22, .tmp 26, .tmp 27]) rfl call122 hc) rfl rfl ?_
   rintro _ w ⟨A739, c740, rfl, hS⟩
   refine ⟨kp ⟨fun _ => hS.d0.d0, trivial⟩, ?_⟩
   refine pp 4 rfl ?_
   exact hk _ _ _ ⟨_, _, _, rfl, h, _, _, _, ⟨rfl, rfl, rfl, rfl, rfl, rfl, rfl, rfl, rfl, rfl, trivial⟩, hS.p7.p7.p7.p7.p6.p5.p7⟩
def log_Log_Try.f (a2 : log_Log) (a3 : api_Message) (a4 : Int) (a5 : List api_Message) : Option (api_Entry × Int) := ((log_Log_none.f a2).bind fun t54 => (if t54 = true then some ((⟨(⟨(⟨0, 0, 0⟩ : api_Key), 0, 0, 0, false⟩ : api_Message), (⟨(⟨0, 0, 0, 0, 0, 0, 0, 0⟩ : Arr8xInti64), 0, 0⟩ : api_State), 0, ([] : List api_Message)⟩ : api_Entry), 7) else ((log_Log_may.f a2 a3 a4).bind fun t60 => (if t60 = 0 then ((log_Log_run.f a2 a3 a4 a5).bind fun (y65, y66) => ((log_done_entry.f ({ y65 with ahead := (⟨false, default⟩ : Pt api_State) } : log_done) a2.state).bind fun t85 => some (t85, 0))) else some ((⟨(⟨(⟨0, 0, 0⟩ : api_Key), 0, 0, 0, false⟩ : api_Message), (⟨(⟨0, 0, 0, 0, 0, 0, 0, 0⟩ : Arr8xInti64), 0, 0⟩ : api_State), 0, ([] : List api_Message)⟩ : api_Entry), t60)))))
theorem log_Log_Try.ok {a2 : log_Log} {a3 : api_Message} {a4 : Int} {a5 : List api_Message} {b1 c7 : Nat} {A6 : Option Addr} (hr8 : SlR E_api_Message.rep hf A6 c7 a5) (hG0 : GlobAt hf 0 (.iface 215 (.agg #[.pointer (some ⟨1, 108, none⟩)]))) {r : api_Entry × Int} (h : log_Log_Try.f a2 a3 a4 a5 = some r) (hS : St B w (O_log_Log hf a2 b1 :: l) hf) :
   Calls prog 51 #[pV b1, .agg (C_api_Message a3).toArray, iV a4, sV A6 a5 c7] w (Ret fun v w => ∃ (A_1 : Option Addr) (c_2 : Nat), v = .tuple #[.agg (C_api_Entry r.1 A_1 c_2).toArray, iV r.2] ∧ St B w (OSf E_api_Message 48 (sV A_1 r.1.Sent c_2) r.1.Sent :: O_log_Log hf a2 b1 :: l) hf) := by
 have h := Holds.of h
 refine en func51 rfl ntmps51 rfl (sr (rr [0, 0, 0] hS ?_))
 refine fun b49 b50 => it fun w hS => ln (RC.seq (sr (pn 1 rfl (cF (fun _ hg => log_Log_none.ok hg hS.p2) call94 h rfl rfl rfl ?_))))
 rintro t54 h _ w ⟨rfl, hS⟩
 refine ln ?_
 refine RC.iteB 14 rfl h (fun hc56 h => ?_) fun hc56 h => ?_
 next =>
  refine jtr (rr [0, 2, 0] hS ?_)
  refine it fun w hS => lr (RQ.ret ?_)
  have hS := hS.nilSl E_api_Message 48
  cases h.some
  refine rz [2] results51 hS ?_
  exact it ⟨none, 0, rfl, hS.d2.d2⟩
 refine jfs (RC.seq (sr (rr [0, 3, 0] hS ?_)))
 refine it fun w hS => cF (fun _ hg => log_Log_may.ok hg hS) call98 h rfl rfl rfl ?_
 rintro t60 h _ w ⟨rfl, hS⟩
 refine pn 1 rfl (lnsr (pn 2 rfl (ln ?_)))
 refine RC.iteN 21 rfl h (fun hc62 h => ?_) fun hc62 h => ?_
 next =>
  refine jfs (sr (rr [0, 3, 0, 0] hS ?_))
  refine it fun w hS => cF (fun _ hg => log_Log_run.ok hr8 hG0 hg hS) call99 h rfl rfl rfl ?_
  rintro ⟨y65, y66⟩ h _ w ⟨A67, c68, rfl, hS⟩
  refine rr [0, 0, 0, 0, 0, 2, 1] hS ?_
  refine fun b69 b70 => it fun w hS => ln (RC.seq ?_)
  obtain ⟨A71, c72, A74, c75, A77, c78, cs79, hr73, hr76, hx80, hS⟩ := O_log_Log.o hS.p3
  refine dr [1, 5, 8, 11, 14, 17, 20, 23] [5, 6, 7] hS fun w hS => rq [4, 0, 0, 0, 1] hS ?_
  refine it ?_
  obtain ⟨hf84, hs82, hS, hr81, hb83⟩ := St.lendSl hS.p4
  obtain ⟨t85, hg86, h⟩ := h.bind
  have hc := log_done_entry.ok (a1 := ({ y65 with ahead := (⟨false, default⟩ : Pt api_State) } : log_done)) hr81 ((PtR.nil (b := 0)).mono hs82) hg86 hS
  refine RP.e 5 rfl (OW.callF (ls := [.tmp 32, .tmp 36]) rfl call96 hc) rfl rfl ?_
  rintro _ w ⟨A87, c88, rfl, hS⟩
  have hS := hb83 _ _ hS
  have hS : St B w (_ :: _ :: _ :: _ :: _ :: _ :: _ :: _ :: l) hf := hS
  refine ⟨kp ⟨(by intro hx; cases hx), trivial⟩, ?_⟩
  refine RP.e0 6 rfl (OW.store (vs := (C_api_Entry t85 A87 c88)) 6 hS rfl rfl rfl rfl sizeOf79 rfl rfl rfl rfl) rfl ?_
  rintro _ w ⟨rfl, hS⟩
  have hS : St B w (_ :: _ :: _ :: _ :: _ :: _ :: Cl _ [_, _, _, _, _, _, _, _, _, _, _, _, _, _, _, _, _, _, _] _ :: _ :: l) hf := hS
  refine ⟨kp ⟨(by intro hx; cases hx), trivial⟩, ?_⟩
  refine RP.v1 7 rfl (Vl.assign rfl) rfl rfl (RP.nil (tr ?_))
  have hS := O_log_Log.c (x := a2) hr73 hr76 hx80 hS.p3.p3
  cases h.some
  refine rz [5] results51 hS ?_
  exact it ⟨A87, c88, rfl, hS.d1.d2.d2.d2.d2.p1⟩
 refine jtr (rr [0, 0, 2, 0] hS ?_)
 refine it fun w hS => lr (RQ.ret ?_)
 have hS := hS.nilSl E_api_Message 48
 cases h.some
 refine rz [2] results51 hS ?_
 exact it ⟨none, 0, rfl, hS.d2.d2⟩
def lane_Lane_fits.j23 (x905 : Int) (l989 : List (Int × Int)) : Option ((List (Int × Int) × Int) ⊕ ((lane_refusal) ⊕ (Unit))) := some (.inl (l989, IntKind.i64.wrap (x905 + 1)))
def lane_Lane_fits.j30 (a2 : lane_Lane) (l904 : List (Int × Int)) (x1156 x1319 : Int) : Option ((Int) ⊕ ((lane_refusal) ⊕ (Unit))) := (if 0 ≤ nth a2.ways x1156 ∧ nth a2.ways x1156 < (a2.m.Links.length : Int) then (if 0 < (mget l904 ((nth a2.m.Links (nth a2.ways x1156)).To)).getD 0 then (if x1319 < (mget l904 ((nth a2.m.Links (nth a2.ways x1156)).To)).getD 0 then some (.inr (.inl (⟨181⟩ : lane_refusal))) else some (.inl (IntKind.i64.wrap (x1156 + 1)))) else some (.inl (IntKind.i64.wrap (x1156 + 1)))) else none)
def lane_Lane_fits.l28b (a2 : lane_Lane) (a7 : List Int) (l904 : List (Int × Int)) : Int → Option ((Int) ⊕ ((lane_refusal) ⊕ (Unit)))
 | (x1156) => (if x1156 < (a2.ways.length : Int) then (if 0 ≤ x1156 then (if x1156 < (a7.length : Int) then lane_Lane_fits.j30 a2 l904 x1156 (nth a7 x1156) else lane_Lane_fits.j30 a2 l904 x1156 0) else none) else some (.inr (.inr (()))))
def lane_Lane_fits.l28 (a2 : lane_Lane) (a7 : List Int) (l904 : List (Int × Int)) (s : Int) : Option ((lane_refusal) ⊕ (Unit)) := loopR (lane_Lane_fits.l28b a2 a7 l904) s
def lane_Lane_fits.l22b (a2 : lane_Lane) (a3 : List api_Message) (a7 : List Int) : List (Int × Int) × Int → Option ((List (Int × Int) × Int) ⊕ ((lane_refusal) ⊕ (Unit)))
 | (l904, x905) => (if x905 < (a3.length : Int) then (if 0 ≤ x905 then (if a2.uid ≤ (nth a3 x905).Uid then lane_Lane_fits.j23 x905 (mset l904 ((nth a3 x905).To) (IntKind.i64.wrap (((mget l904 ((nth a3 x905).To)).getD 0) + 1))) else lane_Lane_fits.j23 x905 l904) else none) else (Option.map Sum.inr (lane_Lane_fits.l28 a2 a7 l904 (0))))
def lane_Lane_fits.l22 (a2 : lane_Lane) (a3 : List api_Message) (a7 : List Int) (s : List (Int × Int) × Int) : Option ((lane_refusal) ⊕ (Unit)) := loopR (lane_Lane_fits.l22b a2 a3 a7) s
def lane_Lane_fits.f (a2 : lane_Lane) (a3 : List api_Message) (a7 : List Int) : Option ((lane_refusal) ⊕ (Unit)) := lane_Lane_fits.l22 a2 a3 a7 (([] : List (Int × Int)), 0)
theorem lane_Lane_fits.ok {a2 : lane_Lane} {a3 : List api_Message} {a7 : List Int} {b1 c5 c9 : Nat} {A4 A8 : Option Addr} (hr6 : SlR E_api_Message.rep hf A4 c5 a3) (hr10 : SlR ((FI .i64).rep) hf A8 c9 a7) {r : (lane_refusal) ⊕ (Unit)} (h : lane_Lane_fits.f a2 a3 a7 = some r) (hS : St B w (O_lane_Lane hf a2 b1 :: l) hf) :
   Calls prog 52 #[pV b1, sV A4 a3 c5, sV A8 a7 c9] w (Ret fun v w => match (generalizing := false) r with | .inl r_ => v = .iface 179 (.agg #[iV r_.why]) ∧ St B w (O_lane_Lane hf a2 b1 :: l) hf | .inr (r_) => v = .nilIface ∧ St B w (O_lane_Lane hf a2 b1 :: l) hf) := by
 have h := Holds.of h
 refine en func52 rfl ntmps52 rfl (sr (pn 1 rfl (lnsr (RL.e (OW.makeMapF (kv := (Value.int .i64)) (vv := (Value.int .i64)) hS) rfl rfl ?_))))
 rintro _ w ⟨b690, rfl, hS⟩
 refine pn 1 rfl (ln (RC.seq (sr (r0 3 rfl (ln (RC.block (fun a ha => lp h (fun (s : List (Int × Int) × Int) a w => ∃ l904 x905, s = (l904, x905) ∧ Has 73 [(0, pV b1), (2, sV A8 a7 c9), (7, .map (some b690)), (15, sV A4 a3 c5), (16, iV (a3.length : Int)), (17, iV x905)] a ∧ St B w (MapF (Value.int .i64) (Value.int .i64) b690 l904 :: O_lane_Lane hf a2 b1 :: l) hf) ⟨_, _, rfl, ha.tE rfl, hS⟩ ?_)))))))
 rintro G961 _ a w ⟨l904, x905, rfl, ha, hS⟩ h
 refine ro ha (sr (pn 1 rfl (ln (RC.seq ?_))))
 refine RC.iteP 18 rfl h (fun hc963 h => ?_) fun hc963 h => ?_
 next =>
  refine jt (sk ?_)
  refine RC.join (fun (s : List (Int × Int)) a w => ∃ l989, s = (l989) ∧ Holds (Sum.elim G961 (· = r)) (lane_Lane_fits.j23 x905 l989) ∧ Has 73 [(0, pV b1), (2, sV A8 a7 c9), (7, .map (some b690)), (15, sV A4 a3 c5), (16, iV (a3.length : Int)), (17, iV x905)] a ∧ St B w (O_lane_Lane hf a2 b1 :: MapF (Value.int .i64) (Value.int .i64) b690 l989 :: l) hf) ?_ ?_
  · rintro l989 a w ⟨_, rfl, h, ha, hS⟩
    refine ro ha (RC.region (pn 2 rfl (RL.nil ?_)))
    exact fun a ha => ⟨_, h.some, _, _, rfl, ha.tE rfl, hS.p1⟩
  refine RC.block (sr ?_)
  obtain ⟨hq992, h⟩ := h.req
  refine RL.s (Vl.indexAddr underlying39 sizeOf48 rfl rfl ((hr6.2.world hS.sub).adr hq992 hc963) hq992 hc963 rfl) rfl (RL.s (Vl.loadA isAgg48 sizeOf48 rfl rfl ((hr6.2.world hS.sub).cells hq992 hc963)) rfl (rr [0, 1] hS ?_))
  refine fun b993 => it fun w hS => ln (RC.seq ?_)
  obtain ⟨A994, c995, A997, c998, A1000, c1001, A1003, c1004, b1006, b1007, A1008, c1009, A1010, c1011, b1012, b1013, hr996, hr999, hr1002, hr1005, hS⟩ := O_lane_Lane.o hS.p2
  refine dr [0, 4, 8, 11, 14, 17, 20] [6] hS fun w hS => rq [0, 8, 0, 0, 0, 1, 0] hS ?_
  refine it (RP.nil (RQ.then_n ?_))
  refine RC.iteP 27 rfl h (fun hc1014 h => ?_) fun hc1014 h => ?_
  next =>
   refine jt (RC.region (rr [0, 0, 8] hS ?_))
   refine it fun w hS => RL.s (Vl.lookupF (k := (nth a3 x905).To) (z := 0) 8 hS rfl (KeyOK.int underlying3) underlying184 zeroValue3 rfl rfl) rfl (pn 1 rfl (RL.e0 (OW.mapUpdF (k := (nth a3 x905).To) (v := IntKind.i64.wrap (((mget l904 ((nth a3 x905).To)).getD 0) + 1)) 8 hS rfl (KeyOK.int underlying3) underlying184 rfl rfl rfl rfl) rfl ?_))
   rintro _ w ⟨rfl, hS⟩
   have hS : St B w (_ :: _ :: _ :: _ :: _ :: _ :: _ :: _ :: _ :: l) hf := hS
   refine RL.nil (RQ.inB_n ?_)
   have hS := O_lane_Lane.c (x := a2) hr996 hr999 hr1002 hr1005 hS.p7.p7.p7.p7.p7.p7.p7
   exact fun a ha => ⟨_, _, rfl, h, ha.tE rfl, hS.d2⟩
  refine jf (RC.skip (RQ.inB_n ?_))
  have hS := O_lane_Lane.c (x := a2) hr996 hr999 hr1002 hr1005 hS
  exact fun a ha => ⟨_, _, rfl, h, ha.tE rfl, hS.d1⟩
 refine jf (RC.exit (RQ.exitT ?_))
 have h := h.inr
 refine RQ.exitT (RQ.inB_hit (RQ.then_n (RC.seq (sr (r0 3 rfl ?_)))))
 obtain ⟨A1035, c1036, A1038, c1039, A1041, c1042, A1044, c1045, b1047, b1048, A1049, c1050, A1051, c1052, b1053, b1054, hr1037, hr1040, hr1043, hr1046, hS⟩ := O_lane_Lane.o hS.p1
 refine rr [1, 0, 0] hS ?_
 refine it fun w hS => ln (RC.block ?_)
 have hS := O_lane_Lane.c (x := a2) hr1037 hr1040 hr1043 hr1046 hS
 refine fun a ha => lp h (fun (s : Int) a w => ∃ x1156, s = (x1156) ∧ Has 73 [(0, pV b1), (2, sV A8 a7 c9), (7, .map (some b690)), (37, sV A1044 a2.ways c1045), (38, iV (a2.ways.length : Int)), (39, iV x1156)] a ∧ St B w (O_lane_Lane hf a2 b1 :: MapF (Value.int .i64) (Value.int .i64) b690 l904 :: l) hf) ⟨_, rfl, ha.tE rfl, hS⟩ ?_
 rintro G1262 x1156 a w ⟨_, rfl, ha, hS⟩ h
 refine ro ha (sr (pn 1 rfl (ln (RC.seq ?_))))
 refine RC.iteP 40 rfl h (fun hc1264 h => ?_) fun hc1264 h => ?_
 next =>
  refine jt (sk (RC.seq (RC.block (sr (pn 1 rfl ?_)))))
  obtain ⟨hq1317, h⟩ := h.req
  refine RL.s (Vl.indexAddr underlying37 sizeOf3 rfl rfl ((hr1046.2.world hS.sub).adr hq1317 hc1264) hq1317 hc1264 rfl) rfl (RL.s (Vl.load isAgg3 rfl ((hr1046.2.world hS.sub).cell (j := 0) hq1317 hc1264 rfl)) rfl (pn 2 rfl (lnsr (pn 1 rfl (ln ?_)))))
  refine RC.join (fun (s : Int) a w => ∃ x1319, s = (x1319) ∧ Holds (Sum.elim G1262 (· = r)) (lane_Lane_fits.j30 a2 l904 x1156 x1319) ∧ Has 73 [(0, pV b1), (2, sV A8 a7 c9), (7, .map (some b690)), (11, iV (nth a2.ways x1156)), (12, iV x1319), (37, sV A1044 a2.ways c1045), (38, iV (a2.ways.length : Int)), (39, iV x1156)] a ∧ St B w (O_lane_Lane hf a2 b1 :: MapF (Value.int .i64) (Value.int .i64) b690 l904 :: l) hf) ?_ ?_
  · rintro x1319 a w ⟨_, rfl, h, ha, hS⟩
    refine ro ha (sr (r0 5 rfl ?_))
    obtain ⟨A1342, c1343, A1345, c1346, A1348, c1349, A1351, c1352, b1354, b1355, A1356, c1357, A1358, c1359, b1360, b1361, hr1344, hr1347, hr1350, hr1353, hS⟩ := O_lane_Lane.o hS
    refine rr [1, 0] hS ?_
    refine it fun w hS => ?_
    obtain ⟨⟨hq1362, hq1363⟩, h⟩ := h.req
    refine RL.s (Vl.indexAddr underlying23 sizeOf144 rfl rfl ((hr1347.2.world hS.sub).adr hq1362 hq1363) hq1362 hq1363 rfl) rfl (RL.s (Vl.fieldAddr (a'' := (ad A1345).add ((nth a2.ways x1156).toNat * 4 + 1)) underlying144 rfl sizeOf3 rfl (add_add _ _ _)) rfl (RL.s (Vl.load isAgg3 rfl ((hr1347.2.world hS.sub).cell (j := 1) hq1362 hq1363 rfl)) rfl (RL.s (Vl.lookupF (k := (nth a2.m.Links (nth a2.ways x1156)).To) (z := 0) 7 hS rfl (KeyOK.int underlying3) underlying184 zeroValue3 rfl rfl) rfl (pn 1 rfl (lnsr (pn 3 rfl ?_))))))
    refine RL.iteP 65 rfl h (fun hc1364 h => ?_) fun hc1364 h => ?_
    next =>
     refine pn 4 rfl (ln ?_)
     refine RC.iteP 69 rfl h (fun hc1365 h => ?_) fun hc1365 h => ?_
     next =>
      refine jtr (r0 3 rfl (lr (ir ?_)))
      have h := h.inrS
      refine RQ.ret (ir ?_)
      have hS := O_lane_Lane.c (x := a2) hr1344 hr1347 hr1350 hr1353 hS
      cases h.some
      exact rt results52 rfl ⟨rfl, hS.d1⟩
     refine jf (RC.skip (RQ.inB_n (RQ.then_n (RC.region (pn 2 rfl (RL.nil ?_))))))
     have hS := O_lane_Lane.c (x := a2) hr1344 hr1347 hr1350 hr1353 hS
     exact fun a ha => ⟨_, h.some, _, rfl, ha.tE rfl, hS⟩
    refine pn 4 rfl (ln (jf (RC.skip (RQ.inB_n (RQ.then_n (RC.region (pn 2 rfl (RL.nil ?_))))))))
    have hS := O_lane_Lane.c (x := a2) hr1344 hr1347 hr1350 hr1353 hS
    exact fun a ha => ⟨_, h.some, _, rfl, ha.tE rfl, hS⟩
  refine sr (r0 4 rfl (ln ?_))
  refine RC.iteP 47 rfl h (fun hc1366 h => ?_) fun hc1366 h => ?_
  next =>
   refine jt (RC.region (pn 2 rfl (RL.s (Vl.indexAddr underlying37 sizeOf3 rfl rfl ((hr10.2.world hS.sub).adr hq1317 hc1366) hq1317 hc1366 rfl) rfl (RL.s (Vl.load isAgg3 rfl ((hr10.2.world hS.sub).cell (j := 0) hq1317 hc1366 rfl)) rfl (pn 1 rfl (RL.nil ?_))))))
   exact fun a ha => ⟨_, _, rfl, h, ha.tE rfl, hS⟩
  refine jf (RC.skip ?_)
  exact fun a ha => ⟨_, _, rfl, h, ha.tE rfl, hS⟩
 refine jf (RC.exit (RQ.exitT ?_))
 have h := h.inrS
 refine RQ.exitT (RQ.inB_hit (tsr (pn 1 rfl (lr ?_))))
 cases h.some
 exact rt results52 rfl ⟨rfl, hS.d1⟩
def log_Log_due.l2b (a2 : log_Log) : Int → Option ((Int) ⊕ (Bool))
 | (x188) => (if x188 < (a2.l.length : Int) then (if 0 ≤ IntKind.i64.wrap ((IntKind.i64.wrap ((a2.l.length : Int) - 1)) - x188) ∧ IntKind.i64.wrap ((IntKind.i64.wrap ((a2.l.length : Int) - 1)) - x188) < (a2.l.length : Int) then (if ((nth a2.l (IntKind.i64.wrap ((IntKind.i64.wrap ((a2.l.length : Int) - 1)) - x188))).ahead).has = true then some (.inr (decide (a2.every ≤ IntKind.i64.wrap (x188 + 1)))) else some (.inl (IntKind.i64.wrap (x188 + 1)))) else none) else some (.inr true))
def log_Log_due.l2 (a2 : log_Log) (s : Int) : Option (Bool) := loopR (log_Log_due.l2b a2) s
def log_Log_due.f (a2 : log_Log) : Option (Bool) := log_Log_due.l2 a2 (0)
theorem log_Log_due.ok {a2 : log_Log} {b1 : Nat} {r : Bool} (h : log_Log_due.f a2 = some r) (hS : St B w (O_log_Log hf a2 b1 :: l) hf) :
   Calls prog 100 #[pV b1] w (Ret fun v w => v = .bool r ∧ St B w (O_log_Log hf a2 b1 :: l) hf) := by
 have h := Holds.of h
 refine en func100 rfl ntmps100 rfl (sr (pn 1 rfl (ln (RC.seq (sr (r0 3 rfl ?_))))))
 obtain ⟨A137, c138, A140, c141, A143, c144, cs145, hr139, hr142, hx146, hS⟩ := O_log_Log.o hS
 refine rr [1, 0, 0] hS ?_
 refine it fun w hS => ln (RC.block ?_)
 have hS := O_log_Log.c (x := a2) hr139 hr142 hx146 hS
 refine fun a ha => lp h (fun (s : Int) a w => ∃ x188, s = (x188) ∧ Has 36 [(0, pV b1), (8, iV (a2.l.length : Int)), (9, iV x188)] a ∧ St B w (O_log_Log hf a2 b1 :: l) hf) ⟨_, rfl, ha.tE rfl, hS⟩ ?_
 rintro G230 x188 a w ⟨_, rfl, ha, hS⟩ h
 refine ro ha (sr (pn 1 rfl (ln (RC.seq ?_))))
 refine RC.iteP 10 rfl h (fun hc232 h => ?_) fun hc232 h => ?_
 next =>
  refine jt (sk (RC.seq (RC.block (sr (pn 2 rfl (ln (RC.seq ?_)))))))
  obtain ⟨A252, c253, A255, c256, A258, c259, cs260, hr254, hr257, hx261, hS⟩ := O_log_Log.o hS
  refine dr [0, 3, 6, 10, 12, 15, 18, 22, 24, 27, 32, 35, 38, 41, 44, 47] [12, 13, 14, 15] hS fun w hS => rq [0, 0, 0, 1, 0, 0, 0, 1, 0, 0, 0, 0] hS ?_
  refine it ?_
  obtain ⟨⟨hq262, hq263⟩, h⟩ := h.req
  refine RP.v1 12 rfl (Vl.indexOwn 1 hS rfl underlying148 sizeOf176 rfl rfl hq262 hq263) rfl rfl (RP.v1 13 rfl (Vl.fieldAddr (a'' := (ad A258).add ((IntKind.i64.wrap ((IntKind.i64.wrap ((a2.l.length : Int) - 1)) - x188)).toNat * 10 + 9)) underlying176 rfl sizeOf174 rfl (add_add _ _ _)) rfl rfl ?_)
  obtain ⟨_, ⟨A265, c266, b268, rfl, hr267, hr269⟩, hl264⟩ := RepL.elem R_log_done_ok hx261 hq262 hq263
  refine RP.v1 14 rfl (Vl.load isAgg174 rfl (hS.litCell 1 rfl (hl264 9 _ rfl))) rfl rfl (RP.v1 15 rfl (Vl.ptNeq (fun b w => by kernel_rfl) (fun w => by kernel_rfl) rfl rfl) rfl rfl (RP.nil (RQ.then_n ?_)))
  refine RC.iteB 27 rfl h (fun hc270 h => ?_) fun hc270 h => ?_
  next =>
   refine jtr (rr [0, 0, 0, 0, 0, 1, 0, 0] hS ?_)
   refine it fun w hS => lr (ir ?_)
   have h := h.inrS
   refine RQ.ret (ir ?_)
   have hS := O_log_Log.c (x := a2) hr254 hr257 hx261 hS
   cases h.some
   exact rt results100 rfl ⟨rfl, hS⟩
  refine jf (RC.skip (RQ.inB_n (RQ.then_n (RC.region (pn 2 rfl (RL.nil ?_))))))
  have hS := O_log_Log.c (x := a2) hr254 hr257 hx261 hS
  exact fun a ha => ⟨_, h.some, _, rfl, ha.tE rfl, hS⟩
 refine jf (RC.exit (RQ.exitT ?_))
 have h := h.inrS
 refine RQ.exitT (RQ.inB_hit (tsr (pn 1 rfl (lr ?_))))
 obtain rfl := h.some
 exact rt results100 rfl ⟨rfl, hS⟩
def log_Log_Do.f (a2 : log_Log) (a3 : api_Message) (a4 : Int) (a5 : List api_Message) : Option (api_Entry × Int × log_Log) := ((log_Log_none.f a2).bind fun t168 => (if t168 = true then some ((⟨(⟨(⟨0, 0, 0⟩ : api_Key), 0, 0, 0, false⟩ : api_Message), (⟨(⟨0, 0, 0, 0, 0, 0, 0, 0⟩ : Arr8xInti64), 0, 0⟩ : api_State), 0, ([] : List api_Message)⟩ : api_Entry), 7, a2) else ((log_Log_may.f a2 a3 a4).bind fun t174 => (if t174 = 0 then ((log_Log_run.f a2 a3 a4 a5).bind fun (y179, y180) => ((log_Log_due.f a2).bind fun t202 => (if t202 = true then (if (a2.l.length + ([({ y179 with ahead := (⟨true, a2.state⟩ : Pt api_State) } : log_done)]).length) * 96 ≤ 140737488355328 then ((log_done_entry.f ({ y179 with ahead := (⟨true, a2.state⟩ : Pt api_State) } : log_done) a2.state).bind fun t258 => some (t258, 0, ({ a2 with state := y180, l := (a2.l ++ ([({ y179 with ahead := (⟨true, a2.state⟩ : Pt api_State) } : log_done)])), stuck := (!decide (y179.fault = 0)) } : log_Log))) else none) else (if (a2.l.length + ([({ y179 with ahead := (⟨false, default⟩ : Pt api_State) } : log_done)]).length) * 96 ≤ 140737488355328 then ((log_done_entry.f ({ y179 with ahead := (⟨false, default⟩ : Pt api_State) } : log_done) a2.state).bind fun t313 => some (t313, 0, ({ a2 with state := y180, l := (a2.l ++ ([({ y179 with ahead := (⟨false, default⟩ : Pt api_State) } : log_done)])), stuck := (!decide (y179.fault = 0)) } : log_Log))) else none)))) else some ((⟨(⟨(⟨0, 0, 0⟩ : api_Key), 0, 0, 0, false⟩ : api_Message), (⟨(⟨0, 0, 0, 0, 0, 0, 0, 0⟩ : Arr8xInti64), 0, 0⟩ : api_State), 0, ([] : List api_Message)⟩ : api_Entry), t174, a2)))))
theorem log_Log_Do.ok {a2 : log_Log} {a3 : api_Message} {a4 : Int} {a5 : List api_Message} {b1 c7 : Nat} {A6 : Option Addr} (hr8 : SlR E_api_Message.rep hf A6 c7 a5) (hG0 : GlobAt hf 0 (.iface 215 (.agg #[.pointer (some ⟨1, 108, none⟩)]))) {r : api_Entry × Int × log_Log} (h : log_Log_Do.f a2 a3 a4 a5 = some r) (hS : St B w (O_log_Log hf a2 b1 :: l) hf) :
   Calls prog 53 #[pV b1, .agg (C_api_Message a3).toArray, iV a4, sV A6 a5 c7] w (Ret fun v w => ∃ hf_ : Hp, Sub hf hf_ ∧ ∃ (A_1 : Option Addr) (c_2 : Nat), v = .tuple #[.agg (C_api_Entry r.1 A_1 c_2).toArray, iV r.2.1] ∧ St B w (OSf E_api_Message 48 (sV A_1 r.1.Sent c_2) r.1.Sent :: O_log_Log hf_ r.2.2 b1 :: l) hf_) := by
 have h := Holds.of h
 refine en func53 rfl ntmps53 rfl (sr (rr [0, 0, 0] hS ?_))
 refine fun b163 b164 => it fun w hS => ln (RC.seq (sr (pn 1 rfl (cF (fun _ hg => log_Log_none.ok hg hS.p2) call94 h rfl rfl rfl ?_))))
 rintro t168 h _ w ⟨rfl, hS⟩
 refine ln ?_
 refine RC.iteB 15 rfl h (fun hc170 h => ?_) fun hc170 h => ?_
 next =>
  refine jtr (rr [0, 2, 0] hS ?_)
  refine it fun w hS => lr (RQ.ret ?_)
  have hS := hS.nilSl E_api_Message 48
  cases h.some
  refine rz [2] results53 hS ?_
  exact it ⟨_, (Sub.refl _), none, 0, rfl, hS.d2.d2⟩
 refine jfs (RC.seq (sr (rr [0, 3, 0] hS ?_)))
 refine it fun w hS => cF (fun _ hg => log_Log_may.ok hg hS) call98 h rfl rfl rfl ?_
 rintro t174 h _ w ⟨rfl, hS⟩
 refine pn 1 rfl (lnsr (pn 2 rfl (ln ?_)))
 refine RC.iteN 22 rfl h (fun hc176 h => ?_) fun hc176 h => ?_
 next =>
  refine jfs (sr (rr [0, 3, 0, 0] hS ?_))
  refine it fun w hS => cF (fun _ hg => log_Log_run.ok hr8 hG0 hg hS) call99 h rfl rfl rfl ?_
  rintro ⟨y179, y180⟩ h _ w ⟨A181, c182, rfl, hS⟩
  refine rr [0, 0, 0, 0, 0, 2, 1] hS ?_
  refine fun b183 b184 => it fun w hS => lnsr (r0 3 rfl ?_)
  obtain ⟨A185, c186, A188, c189, A191, c192, cs193, hr187, hr190, hx194, hS⟩ := O_log_Log.o hS.p3
  refine rr [1, 0, 1] hS ?_
  refine fun b195 => it fun w hS => ln (RC.seq (sr (pn 1 rfl ?_)))
  have hS := O_log_Log.c (x := a2) hr187 hr190 hx194 hS.p2.p2
  refine cF (fun _ hg => log_Log_due.ok hg hS) call100 h rfl rfl rfl ?_
  rintro t202 h _ w ⟨rfl, hS⟩
  refine ln ?_
  refine RC.iteB 38 rfl h (fun hc204 h => ?_) fun hc204 h => ?_
  next =>
   refine jt (RC.region (r0 1 rfl ?_))
   obtain ⟨hf, hs205, hS, hr206⟩ := St.freeze (E := E_api_State) (x := a2.state) hS.p1 rfl
   have hS := O_log_Log.l hs205 hS
   refine rr [3] hS ?_
   refine it fun w hS => ln (RC.seq ?_)
   obtain ⟨A207, c208, A210, c211, A213, c214, cs215, hr209, hr212, hx216, hS⟩ := O_log_Log.o hS
   refine RC.planS2 (plD [0, 3, 6, 9, 12, 15, 3019, 22, 31, 33, 37, 39, 26, 29, 44, 47, 50, 53, 56, 59, 62, 65, 68]) [20, 21, 22] [9, 14, 15, 16, 17, 18, 19, 20, 21, 22] hS (fun w hS => hS.d0.d0.d2) (fun w hS => hS.d4) follows rfl (by kernel_rfl) (NoTmp.then NoTmp.body) fun w hS => rq [0, 0, 0, 0, 0, 0] hS.d0.d0.d2 ?_
   refine it (RP.s 1 6 rfl rfl hS.d4 (fun w hS => Vl.ld 0 hS isAgg148 rfl rfl rfl) rfl (rq [2, 1, 0, 2, 0] hS.d0.d0.d2 ?_))
   refine it ?_
   obtain ⟨hf, hs247, hS, hr248⟩ := St.promote hS.p4
   have hx250 : RepL R_log_done hf [iV y179.event.Key.Time, iV y179.event.Key.From, iV y179.event.Key.Seq, iV y179.event.To, iV y179.event.Value, iV y179.event.Uid, .bool y179.event.Anti, iV y179.fault, sV A181 y179.sent c182, pV b195] [({ y179 with ahead := (⟨true, a2.state⟩ : Pt api_State) } : log_done)] := (RepL.cons (c := [iV y179.event.Key.Time, iV y179.event.Key.From, iV y179.event.Key.Seq, iV y179.event.To, iV y179.event.Value, iV y179.event.Uid, .bool y179.event.Anti, iV y179.fault, sV A181 y179.sent c182, pV b195]) (r := []) ⟨_, _, _, rfl, hr248, (hr206.mono hs247).pt⟩ RepL.nil)
   refine RP.e 8 rfl (OW.buildSliceR (sz := 10) (cs := [iV y179.event.Key.Time, iV y179.event.Key.From, iV y179.event.Key.Seq, iV y179.event.To, iV y179.event.Value, iV y179.event.Uid, .bool y179.event.Anti, iV y179.fault, sV A181 y179.sent c182, pV b195]) hS underlying148 zeroValue176 sizeOf176 (parts := [(0, .tmp 47)]) rfl rfl (by decide) (by decide) (by kernel_rfl)) rfl rfl ?_
   rintro _ w ⟨b249, rfl, hS⟩
   refine ⟨kp ⟨fun _ => (St.down hS.d0.d0.d0 hs247), fun _ => (St.down hS.d0 hs247), trivial⟩, ?_⟩
   obtain ⟨hq253, h⟩ := h.req
   obtain ⟨hf, hs251, hS, hr252⟩ := St.promoteR R_log_done_ok hS rfl hx250
   refine RP.e 9 rfl (OW.appendR (R := R_log_done) R_log_done_ok (xs := a2.l) (ys := [({ y179 with ahead := (⟨true, a2.state⟩ : Pt api_State) } : log_done)]) 1 hS rfl underlying148 type176 rfl rfl rfl rfl (by decide) (by decide) ((hx216.mono hs247).mono hs251) rfl rfl hr252 hq253 rfl) rfl rfl ?_
   rintro _ w ⟨cs256, hx257, hS⟩
   obtain ⟨A254, c255, rfl, _⟩ := hS.osShape 0 rfl
   have hS : St B w (_ :: _ :: _ :: _ :: _ :: _ :: l) hf := hS
   refine ⟨kp ⟨fun _ => (St.down hS.d0.d0 (hs247.trans hs251)), (by intro hx; cases hx), trivial⟩, ?_⟩
   refine rq [0, 0] (St.down hS.d0.d0 (hs247.trans hs251)) ?_
   refine it (RP.e0 16 rfl (OW.store (vs := [.slice A254 (a2.l ++ ([({ y179 with ahead := (⟨true, a2.state⟩ : Pt api_State) } : log_done)])).length c255]) 1 hS rfl rfl rfl rfl sizeOf148 rfl rfl rfl rfl) rfl ?_)
   rintro _ w ⟨rfl, hS⟩
   have hS : St B w (_ :: Cl _ [_, _, _, _, _, _, _, _, _, _, _, _, _, _, _, _, _, _] _ :: _ :: _ :: _ :: _ :: l) hf := hS
   refine ⟨kp ⟨fun _ => (St.down hS.d0.d0 (hs247.trans hs251)), (by intro hx; cases hx), trivial⟩, ?_⟩
   refine rq [0, 0] (St.down hS.d0.d0 (hs247.trans hs251)) ?_
   refine it (RP.e0 19 rfl (OW.store (vs := (C_api_State y180)) 1 hS rfl rfl rfl rfl sizeOf70 rfl rfl rfl rfl) rfl ?_)
   rintro _ w ⟨rfl, hS⟩
   have hS : St B w (_ :: Cl _ [_, _, _, _, _, _, _, _, _, _, _, _, _, _, _, _, _, _] _ :: _ :: _ :: _ :: _ :: l) hf := hS
   refine ⟨kp ⟨fun _ => (St.down hS.d0.d0 (hs247.trans hs251)), (by intro hx; cases hx), trivial⟩, ?_⟩
   refine rq [0, 0] (St.down hS.d0.d0 (hs247.trans hs251)) ?_
   refine it (RP.e0 22 rfl (OW.store (vs := [.bool (!decide (y179.fault = 0))]) 1 hS rfl rfl rfl rfl sizeOf4 rfl rfl rfl rfl) rfl ?_)
   rintro _ w ⟨rfl, hS⟩
   have hS : St B w (_ :: Cl _ [_, _, _, _, _, _, _, _, _, _, _, _, _, _, _, _, _, _] _ :: _ :: _ :: _ :: _ :: l) hf := hS
   refine ⟨kp ⟨(by intro hx; cases hx), (by intro hx; cases hx), trivial⟩, ?_⟩
   refine RP.nil (tsr (rr [4] hS ?_))
   refine it fun w hS => RL.s (Vl.loadA (vs := (C_api_State a2.state)) isAgg70 sizeOf70 rfl rfl (((hr206.mono hs247).mono hs251).cells hS.sub)) rfl (cF (fun _ hg => log_done_entry.ok (a1 := ({ y179 with ahead := (⟨true, a2.state⟩ : Pt api_State) } : log_done)) (hr248.mono hs251) (((hr206.mono hs247).mono hs251).pt) hg hS) call96 h rfl rfl rfl ?_)
   rintro t258 h _ w ⟨A260, c261, rfl, hS⟩
   refine rr [6, 0] hS ?_
   refine it fun w hS => lr ?_
   have hS := O_log_Log.c (x := ({ a2 with state := y180, l := (a2.l ++ ([({ y179 with ahead := (⟨true, a2.state⟩ : Pt api_State) } : log_done)])), stuck := (!decide (y179.fault = 0)) } : log_Log)) ((hr209.mono hs247).mono hs251) ((hr212.mono hs247).mono hs251) hx257 hS.p1.p2
   cases h.some
   refine rz [4] results53 hS ?_
   exact it ⟨_, ((hs205.trans hs247).trans hs251), A260, c261, rfl, hS.d2.d2.d2.d2.p1⟩
  refine jfs (RC.seq ?_)
  obtain ⟨A262, c263, A265, c266, A268, c269, cs270, hr264, hr267, hx271, hS⟩ := O_log_Log.o hS
  refine RC.planS2 (plD [0, 3, 6, 9, 12, 15, 3019, 22, 31, 33, 37, 39, 26, 29, 44, 47, 50, 53, 56, 59, 62, 65, 68]) [20, 21, 22] [9, 14, 15, 16, 17, 18, 19, 20, 21, 22] hS (fun w hS => hS.d0.d0.d3) (fun w hS => hS.d5) follows rfl (by kernel_rfl) (NoTmp.then NoTmp.body) fun w hS => rq [0, 0, 0, 0, 0, 0] hS.d0.d0.d3 ?_
  refine it (RP.s 1 6 rfl rfl hS.d5 (fun w hS => Vl.ld 0 hS isAgg148 rfl rfl rfl) rfl (rq [3, 2, 0, 3, 0] hS.d0.d0.d3 ?_))
  refine it ?_
  obtain ⟨hf, hs302, hS, hr303⟩ := St.promote hS.p5
  have hx305 : RepL R_log_done hf [iV y179.event.Key.Time, iV y179.event.Key.From, iV y179.event.Key.Seq, iV y179.event.To, iV y179.event.Value, iV y179.event.Uid, .bool y179.event.Anti, iV y179.fault, sV A181 y179.sent c182, .pointer none] [({ y179 with ahead := (⟨false, default⟩ : Pt api_State) } : log_done)] := (RepL.cons (c := [iV y179.event.Key.Time, iV y179.event.Key.From, iV y179.event.Key.Seq, iV y179.event.To, iV y179.event.Value, iV y179.event.Uid, .bool y179.event.Anti, iV y179.fault, sV A181 y179.sent c182, .pointer none]) (r := []) ⟨_, _, 0, rfl, hr303, PtR.nil⟩ RepL.nil)
  refine RP.e 8 rfl (OW.buildSliceR (sz := 10) (cs := [iV y179.event.Key.Time, iV y179.event.Key.From, iV y179.event.Key.Seq, iV y179.event.To, iV y179.event.Value, iV y179.event.Uid, .bool y179.event.Anti, iV y179.fault, sV A181 y179.sent c182, .pointer none]) hS underlying148 zeroValue176 sizeOf176 (parts := [(0, .tmp 47)]) rfl rfl (by decide) (by decide) (by kernel_rfl)) rfl rfl ?_
  rintro _ w ⟨b304, rfl, hS⟩
  refine ⟨kp ⟨fun _ => (St.down hS.d0.d0.d0 hs302), fun _ => (St.down hS.d0 hs302), trivial⟩, ?_⟩
  obtain ⟨hq308, h⟩ := h.req
  obtain ⟨hf, hs306, hS, hr307⟩ := St.promoteR R_log_done_ok hS rfl hx305
  refine RP.e 9 rfl (OW.appendR (R := R_log_done) R_log_done_ok (xs := a2.l) (ys := [({ y179 with ahead := (⟨false, default⟩ : Pt api_State) } : log_done)]) 1 hS rfl underlying148 type176 rfl rfl rfl rfl (by decide) (by decide) ((hx271.mono hs302).mono hs306) rfl rfl hr307 hq308 rfl) rfl rfl ?_
  rintro _ w ⟨cs311, hx312, hS⟩
  obtain ⟨A309, c310, rfl, _⟩ := hS.osShape 0 rfl
  have hS : St B w (_ :: _ :: _ :: _ :: _ :: _ :: _ :: l) hf := hS
  refine ⟨kp ⟨fun _ => (St.down hS.d0.d0 (hs302.trans hs306)), (by intro hx; cases hx), trivial⟩, ?_⟩
  refine rq [0, 0] (St.down hS.d0.d0 (hs302.trans hs306)) ?_
  refine it (RP.e0 16 rfl (OW.store (vs := [.slice A309 (a2.l ++ ([({ y179 with ahead := (⟨false, default⟩ : Pt api_State) } : log_done)])).length c310]) 1 hS rfl rfl rfl rfl sizeOf148 rfl rfl rfl rfl) rfl ?_)
  rintro _ w ⟨rfl, hS⟩
  have hS : St B w (_ :: Cl _ [_, _, _, _, _, _, _, _, _, _, _, _, _, _, _, _, _, _] _ :: _ :: _ :: _ :: _ :: _ :: l) hf := hS
  refine ⟨kp ⟨fun _ => (St.down hS.d0.d0 (hs302.trans hs306)), (by intro hx; cases hx), trivial⟩, ?_⟩
  refine rq [0, 0] (St.down hS.d0.d0 (hs302.trans hs306)) ?_
  refine it (RP.e0 19 rfl (OW.store (vs := (C_api_State y180)) 1 hS rfl rfl rfl rfl sizeOf70 rfl rfl rfl rfl) rfl ?_)
  rintro _ w ⟨rfl, hS⟩
  have hS : St B w (_ :: Cl _ [_, _, _, _, _, _, _, _, _, _, _, _, _, _, _, _, _, _] _ :: _ :: _ :: _ :: _ :: _ :: l) hf := hS
  refine ⟨kp ⟨fun _ => (St.down hS.d0.d0 (hs302.trans hs306)), (by intro hx; cases hx), trivial⟩, ?_⟩
  refine rq [0, 0] (St.down hS.d0.d0 (hs302.trans hs306)) ?_
  refine it (RP.e0 22 rfl (OW.store (vs := [.bool (!decide (y179.fault = 0))]) 1 hS rfl rfl rfl rfl sizeOf4 rfl rfl rfl rfl) rfl ?_)
  rintro _ w ⟨rfl, hS⟩
  have hS : St B w (_ :: Cl _ [_, _, _, _, _, _, _, _, _, _, _, _, _, _, _, _, _, _] _ :: _ :: _ :: _ :: _ :: _ :: l) hf := hS
  refine ⟨kp ⟨(by intro hx; cases hx), (by intro hx; cases hx), trivial⟩, ?_⟩
  refine RP.nil (tsr (rr [5, 3] hS ?_))
  refine it fun w hS => cF (fun _ hg => log_done_entry.ok (a1 := ({ y179 with ahead := (⟨false, default⟩ : Pt api_State) } : log_done)) (hr303.mono hs306) (PtR.nil (b := 0)) hg hS) call96 h rfl rfl rfl ?_
  rintro t313 h _ w ⟨A315, c316, rfl, hS⟩
  refine rr [7, 0] hS ?_
  refine it fun w hS => lr ?_
  have hS := O_log_Log.c (x := ({ a2 with state := y180, l := (a2.l ++ ([({ y179 with ahead := (⟨false, default⟩ : Pt api_State) } : log_done)])), stuck := (!decide (y179.fault = 0)) } : log_Log)) ((hr264.mono hs302).mono hs306) ((hr267.mono hs302).mono hs306) hx312 hS.p1.p2
  cases h.some
  refine rz [5] results53 hS ?_
  exact it ⟨_, (hs302.trans hs306), A315, c316, rfl, hS.d2.d2.d2.d2.d2.p1⟩
 refine jtr (rr [0, 0, 2, 0] hS ?_)
 refine it fun w hS => lr (RQ.ret ?_)
 have hS := hS.nilSl E_api_Message 48
 cases h.some
 refine rz [2] results53 hS ?_
 exact it ⟨_, (Sub.refl _), none, 0, rfl, hS.d2.d2⟩
def lane_Lane_part_2.j16 (x688 : Int) (l764 l767 : List lane_open) : Option ((List lane_open × List lane_open × Int) ⊕ (List lane_open × lane_Lane)) := some (.inl (l764, l767, IntKind.i64.wrap (x688 + 1)))
def lane_Lane_part_2.l15b (a2 : lane_Lane) (a4 : api_Message) : List lane_open × List lane_open × Int → Option ((List lane_open × List lane_open × Int) ⊕ (List lane_open × lane_Lane))
 | (l682, l685, x688) => (if x688 < (a2.open_.length : Int) then (if 0 ≤ x688 then ((lane_Lane_Step_1.f (nth a2.open_ x688) a4).bind fun t776 => (if t776 = true then (if (l682.length + 1) * 112 ≤ 140737488355328 then lane_Lane_part_2.j16 x688 (l682 ++ ([nth a2.open_ x688])) l685 else none) else (if (l685.length + 1) * 112 ≤ 140737488355328 then lane_Lane_part_2.j16 x688 l682 (l685 ++ ([nth a2.open_ x688])) else none))) else none) else some (.inr (l682, ({ a2 with open_ := l685 } : lane_Lane))))
def lane_Lane_part_2.l15 (a2 : lane_Lane) (a4 : api_Message) (s : List lane_open × List lane_open × Int) : Option (List lane_open × lane_Lane) := loopR (lane_Lane_part_2.l15b a2 a4) s
def lane_Lane_part_2.f (a2 : lane_Lane) (a4 : api_Message) : Option (List lane_open × lane_Lane) := lane_Lane_part_2.l15 a2 a4 ([], [], 0)
theorem lane_Lane_part_2.ok {a2 : lane_Lane} {a4 : api_Message} {b1 b3 : Nat} {r : List lane_open × lane_Lane} (h : lane_Lane_part_2.f a2 a4 = some r) (hS : St B w (O_lane_Lane hf a2 b1 :: Cl b3 (C_api_Message a4) 48 :: l) hf) :
   Calls prog 55 #[pV b1, .func (.func 50) #[] #[pV b3]] w (Ret fun v w => ∃ (A_1 : Option Addr) (c_2 : Nat), v = sV A_1 r.1 c_2 ∧ St B w (OSf E_lane_open 116 (sV A_1 r.1 c_2) r.1 :: O_lane_Lane hf r.2 b1 :: Cl b3 (C_api_Message a4) 48 :: l) hf) := by
 have h := Holds.of h
 refine en func55 rfl ntmps55 rfl (sr (pn 1 rfl (lnsr (pn 2 rfl (ln (RC.seq (sr (r0 3 rfl ?_))))))))
 obtain ⟨A613, c614, A616, c617, A619, c620, A622, c623, b625, b626, A627, c628, A629, c630, b631, b632, hr615, hr618, hr621, hr624, hS⟩ := O_lane_Lane.o hS
 refine rr [1, 0, 0] hS ?_
 refine it fun w hS => ln (RC.block ?_)
 have hS := hS.nilSl E_lane_open 116
 have hS := hS.nilSl E_lane_open 116
 refine fun a ha => lp h (fun (s : List lane_open × List lane_open × Int) a w => ∃ l682 l685 x688, s = (l682, l685, x688) ∧ ∃ A683 c684 A686 c687, Has 35 [(0, pV b1), (1, .func (.func 50) #[] #[pV b3]), (5, sV A683 l682 c684), (6, sV A686 l685 c687), (12, sV A627 a2.open_ c628), (13, iV (a2.open_.length : Int)), (14, iV x688)] a ∧ St B w (OSf E_lane_open 116 (sV A627 a2.open_ c628) a2.open_ :: OSf E_api_Message 48 (sV A629 a2.orphans c630) a2.orphans :: OSf E_lane_open 116 (sV A683 l682 c684) l682 :: OSf E_lane_open 116 (sV A686 l685 c687) l685 :: Cl b1 (C_lane_Lane a2 A613 c614 A616 c617 A619 c620 A622 c623 b625 b626 A627 c628 A629 c630 b631 b632) 61 :: O_log_Log hf a2.log b625 :: O_pend_Pend hf a2.wait b626 :: MapF kv_lane_sending (Value.int .i64) b631 a2.early :: MapF kv_lane_sending Value.bool b632 a2.held :: Cl b3 (C_api_Message a4) 48 :: l) hf) ⟨_, _, _, rfl, _, _, _, _, ha.tE rfl, hS.p1.p6.p6⟩ ?_
 rintro G742 _ a w ⟨l682, l685, x688, rfl, A683, c684, A686, c687, ha, hS⟩ h
 refine ro ha (sr (pn 1 rfl (ln (RC.seq ?_))))
 refine RC.iteP 15 rfl h (fun hc744 h => ?_) fun hc744 h => ?_
 next =>
  refine jt (sk ?_)
  refine RC.join (fun (s : List lane_open × List lane_open) a w => ∃ l764 l767, s = (l764, l767) ∧ Holds (Sum.elim G742 (· = r)) (lane_Lane_part_2.j16 x688 l764 l767) ∧ ∃ A765 c766 A768 c769, Has 35 [(0, pV b1), (1, .func (.func 50) #[] #[pV b3]), (5, sV A765 l764 c766), (6, sV A768 l767 c769), (12, sV A627 a2.open_ c628), (13, iV (a2.open_.length : Int)), (14, iV x688)] a ∧ St B w (OSf E_lane_open 116 (sV A627 a2.open_ c628) a2.open_ :: OSf E_api_Message 48 (sV A629 a2.orphans c630) a2.orphans :: OSf E_lane_open 116 (sV A765 l764 c766) l764 :: OSf E_lane_open 116 (sV A768 l767 c769) l767 :: Cl b3 (C_api_Message a4) 48 :: Cl b1 (C_lane_Lane a2 A613 c614 A616 c617 A619 c620 A622 c623 b625 b626 A627 c628 A629 c630 b631 b632) 61 :: O_log_Log hf a2.log b625 :: O_pend_Pend hf a2.wait b626 :: MapF kv_lane_sending (Value.int .i64) b631 a2.early :: MapF kv_lane_sending Value.bool b632 a2.held :: l) hf) ?_ ?_
  · rintro _ a w ⟨l764, l767, rfl, h, A765, c766, A768, c769, ha, hS⟩
    refine ro ha (RC.region (pn 2 rfl (RL.nil ?_)))
    exact fun a ha => ⟨_, h.some, _, _, _, rfl, _, _, _, _, ha.tE rfl, hS.p9.p9.p9.p9.p9.p8.p8.p8.p8⟩
  refine RC.block (sr ?_)
  obtain ⟨hq772, h⟩ := h.req
  refine RL.s (Vl.indexOwn 0 hS rfl underlying53 sizeOf116 rfl rfl hq772 hc744) rfl (RL.s (Vl.loadA isAgg116 sizeOf116 rfl rfl ((hS.slW 0 rfl).2.2.cells hq772 hc744)) rfl (rr [0, 1] hS ?_))
  refine fun b773 => it fun w hS => lnsr (rr [0, 1] hS ?_)
  refine it fun w hS => ?_
  obtain ⟨t776, hg777, h⟩ := h.bind
  have hc := lane_Lane_Step_1.ok hg777 hS.p10
  refine RL.e (OW.call (ls := [.tmp 19]) rfl rfl call50 rfl hc) rfl rfl ?_
  rintro _ w ⟨rfl, hS⟩
  refine ln ?_
  refine RC.iteB 20 rfl h (fun hc778 h => ?_) fun hc778 h => ?_
  next =>
   refine jt (RC.region (rr [0, 2] hS ?_))
   refine it fun w hS => RL.e (OW.buildSlice (E := E_lane_open) (xs := [nth a2.open_ x688]) (cs := (C_lane_open (nth a2.open_ x688))) hS underlying53 zeroValue116 sizeOf116 (parts := [(0, .tmp 22)]) rfl rfl (by decide) (by decide) (by kernel_rfl) rfl) rfl rfl ?_
   rintro _ w ⟨b779, rfl, hS⟩
   obtain ⟨hq780, h⟩ := h.req
   refine RL.e (OW.append (E := E_lane_open) (xs := l682) (ys := [nth a2.open_ x688]) 5 hS rfl underlying53 type116 rfl rfl rfl rfl (by decide) rfl rfl rfl (hS.slW 0 rfl).2.2.flat (by simp only [maxLen, List.length_cons, List.length_nil] at *; omega) hq780 rfl) rfl rfl ?_
   rintro v783 w hS
   obtain ⟨A781, c782, rfl, _⟩ := hS.osShape 0 rfl
   have hS : St B w (_ :: _ :: _ :: _ :: _ :: _ :: _ :: _ :: _ :: _ :: _ :: _ :: l) hf := hS
   refine pn 1 rfl (RL.nil (RQ.inB_n ?_))
   exact fun a ha => ⟨_, _, _, rfl, h, _, _, _, _, ha.tE rfl, hS.d1.d2.p4.p1.p4.p4⟩
  refine jf (RC.region (rr [0, 2] hS ?_))
  refine it fun w hS => RL.e (OW.buildSlice (E := E_lane_open) (xs := [nth a2.open_ x688]) (cs := (C_lane_open (nth a2.open_ x688))) hS underlying53 zeroValue116 sizeOf116 (parts := [(0, .tmp 26)]) rfl rfl (by decide) (by decide) (by kernel_rfl) rfl) rfl rfl ?_
  rintro _ w ⟨b784, rfl, hS⟩
  obtain ⟨hq785, h⟩ := h.req
  refine RL.e (OW.append (E := E_lane_open) (xs := l685) (ys := [nth a2.open_ x688]) 6 hS rfl underlying53 type116 rfl rfl rfl rfl (by decide) rfl rfl rfl (hS.slW 0 rfl).2.2.flat (by simp only [maxLen, List.length_cons, List.length_nil] at *; omega) hq785 rfl) rfl rfl ?_
  rintro v788 w hS
  obtain ⟨A786, c787, rfl, _⟩ := hS.osShape 0 rfl
  have hS : St B w (_ :: _ :: _ :: _ :: _ :: _ :: _ :: _ :: _ :: _ :: _ :: _ :: l) hf := hS
  refine pn 1 rfl (RL.nil (RQ.inB_n ?_))
  exact fun a ha => ⟨_, _, _, rfl, h, _, _, _, _, ha.tE rfl, hS.d1.d2.p4.p4.p4⟩
 refine jf (RC.exit (RQ.exitT ?_))
 have h := h.inrS
 refine RQ.exitT (RQ.inB_hit (tsr (rr [0, 0, 0, 0, 5] hS ?_)))
 refine it fun w hS => lnsr (pn 2 rfl (lr ?_))
 have hS := O_lane_Lane.c (x := ({ a2 with open_ := l685 } : lane_Lane)) hr615 hr618 hr621 hr624 hS.p8.p8.p3.p5.p8.p8.p8
 cases h.some
 exact rt results55 rfl ⟨A683, c684, rfl, hS.d1.p1⟩
def lane_Lane_Step.j36 (x2075 : Int) (l2124 : List api_Message) : Option ((List api_Message × Int) ⊕ (List api_Message × Int × lane_Lane)) := some (.inl (l2124, IntKind.i64.wrap (x2075 + 1)))
def lane_Lane_Step.j48 (y2414 : api_Entry) (l2756 : List (Int × Bool)) (x2757 : Int) (l2861 : List api_Message) : Option ((List api_Message × List (Int × Bool) × Int) ⊕ (List api_Message × Int × lane_Lane)) := some (.inl (l2861, (mset l2756 ((nth y2414.Sent x2757).Uid) true), IntKind.i64.wrap (x2757 + 1)))
def lane_Lane_Step.j56 (x3399 : Int) (y3573 : lane_Lane) (l3574 : List api_Message) : Option ((lane_Lane × List api_Message × Int) ⊕ (List api_Message × Int × lane_Lane)) := some (.inl (y3573, l3574, IntKind.i64.wrap (x3399 + 1)))
def lane_Lane_Step.l55b (l2253 : List api_Message) (l2756 : List (Int × Bool)) : lane_Lane × List api_Message × Int → Option ((lane_Lane × List api_Message × Int) ⊕ (List api_Message × Int × lane_Lane))
 | (y3395, l3396, x3399) => (if x3399 < (l2253.length : Int) then (if 0 ≤ x3399 then (if (mget l2756 ((nth l2253 x3399).Uid)).getD false = true then lane_Lane_Step.j56 x3399 ({ y3395 with stats := (⟨y3395.stats.Done, y3395.stats.Undone, IntKind.i64.wrap (y3395.stats.Hits + 1), y3395.stats.Held⟩ : api_Stats) } : lane_Lane) l3396 else ((event_Twin.f (nth l2253 x3399)).bind fun t3623 => (if (l3396.length + 1) * 56 ≤ 140737488355328 then lane_Lane_Step.j56 x3399 y3395 (l3396 ++ ([t3623])) else none))) else none) else some (.inr (l3396, 0, y3395)))
def lane_Lane_Step.l55 (l2253 : List api_Message) (l2756 : List (Int × Bool)) (s : lane_Lane × List api_Message × Int) : Option (List api_Message × Int × lane_Lane) := loopR (lane_Lane_Step.l55b l2253 l2756) s
def lane_Lane_Step.l47b (l2253 : List api_Message) (y2414 : api_Entry) (y2435 : lane_Lane) : List api_Message × List (Int × Bool) × Int → Option ((List api_Message × List (Int × Bool) × Int) ⊕ (List api_Message × Int × lane_Lane))
 | (l2753, l2756, x2757) => (if x2757 < (y2414.Sent.length : Int) then (if 0 ≤ x2757 then (if y2435.uid ≤ (nth y2414.Sent x2757).Uid then (if (l2753.length + 1) * 56 ≤ 140737488355328 then lane_Lane_Step.j48 y2414 l2756 x2757 (l2753 ++ ([nth y2414.Sent x2757])) else none) else lane_Lane_Step.j48 y2414 l2756 x2757 l2753) else none) else (Option.map Sum.inr (lane_Lane_Step.l55 l2253 l2756 (({ y2435 with uid := IntKind.i64.wrap (y2435.uid + (l2753.length : Int)), stats := (⟨IntKind.i64.wrap (y2435.stats.Done + 1), y2435.stats.Undone, y2435.stats.Hits, y2435.stats.Held⟩ : api_Stats) } : lane_Lane), l2753, 0))))
def lane_Lane_Step.l47 (l2253 : List api_Message) (y2414 : api_Entry) (y2435 : lane_Lane) (s : List api_Message × List (Int × Bool) × Int) : Option (List api_Message × Int × lane_Lane) := loopR (lane_Lane_Step.l47b l2253 y2414 y2435) s
def lane_Lane_Step.j40 (a2 : lane_Lane) (y1865 : api_Message) (l2253 : List api_Message) (y2412 : log_Log) (y2414 : api_Entry) (x2417 : Int) : Option (List api_Message × Int × lane_Lane) := ((lane_Lane_release.f ({ a2 with log := y2412 } : lane_Lane) y1865).bind fun (y2424, y2425) => ((lane_Lane_part_2.f y2425 y1865).bind fun (y2434, y2435) => lane_Lane_Step.l47 l2253 y2414 y2435 ([], ([] : List (Int × Bool)), 0)))
def lane_Lane_Step.j38 (a2 : lane_Lane) (a4 : List Int) (y1865 : api_Message) (l2253 : List api_Message) (y2258 : api_Entry) (x2261 : Int) : Option (List api_Message × Int × lane_Lane) := ((lane_Lane_fits.f a2 y2258.Sent a4).bind fun t2272 => match t2272 with | .inl y2274 => ((lane_told.f y2274).bind fun t2275 => some (([] : List api_Message), t2275, a2)) | .inr (_) => ((log_Log_Do.f a2.log y1865 a2.uid l2253).bind fun (y3632, y3633, y3634) => lane_Lane_Step.j40 a2 y1865 l2253 y3634 y3632 y3633))
def lane_Lane_Step.l35b (a2 : lane_Lane) (a4 : List Int) (y1865 : api_Message) : List api_Message × Int → Option ((List api_Message × Int) ⊕ (List api_Message × Int × lane_Lane))
 | (l2072, x2075) => (if x2075 < (a2.open_.length : Int) then (if 0 ≤ x2075 then ((lane_Lane_Step_1.f (nth a2.open_ x2075) y1865).bind fun t2131 => (if t2131 = true then (if (l2072.length + 1) * 56 ≤ 140737488355328 then lane_Lane_Step.j36 x2075 (l2072 ++ ([(nth a2.open_ x2075).m])) else none) else lane_Lane_Step.j36 x2075 l2072)) else none) else (Option.map Sum.inr ((log_Log_Try.f a2.log y1865 a2.uid l2072).bind fun (y3652, y3653) => lane_Lane_Step.j38 a2 a4 y1865 l2072 y3652 y3653)))
def lane_Lane_Step.l35 (a2 : lane_Lane) (a4 : List Int) (y1865 : api_Message) (s : List api_Message × Int) : Option (List api_Message × Int × lane_Lane) := loopR (lane_Lane_Step.l35b a2 a4 y1865) s
def lane_Lane_Step.f (a2 : lane_Lane) (a3 : Int) (a4 : List Int) : Option (List api_Message × Int × lane_Lane) := ((lane_Lane_none.f a2).bind fun _ => ((lane_Lane_next.f a2 a3).bind fun t1856 => match t1856 with | .inl (y1858, y1859) => ((lane_told.f y1859).bind fun t1863 => some (([] : List api_Message), t1863, a2)) | .inr (y1865) => lane_Lane_Step.l35 a2 a4 y1865 ([], 0)))
theorem lane_Lane_Step.ok {a2 : lane_Lane} {a3 : Int} {a4 : List Int} {b1 c6 : Nat} {A5 : Option Addr} (hr7 : SlR ((FI .i64).rep) hf A5 c6 a4) (hG0 : GlobAt hf 0 (.iface 215 (.agg #[.pointer (some ⟨1, 108, none⟩)]))) {r : List api_Message × Int × lane_Lane} (h : lane_Lane_Step.f a2 a3 a4 = some r) (hS : St B w (O_lane_Lane hf a2 b1 :: l) hf) :
   Calls prog 15 #[pV b1, iV a3, sV A5 a4 c6] w (Ret fun v w => ∃ hf_ : Hp, Sub hf hf_ ∧ ∃ (A_1 : Option Addr) (c_2 : Nat), v = .tuple #[sV A_1 r.1 c_2, iV r.2.1] ∧ St B w (OSf E_api_Message 48 (sV A_1 r.1 c_2) r.1 :: O_lane_Lane hf_ r.2.2 b1 :: l) hf_) := by
 have h := Holds.of h
 refine en func15 rfl ntmps15 rfl (sr (pn 2 rfl (ln (RC.seq (sr (pn 1 rfl (cF (fun _ hg => lane_Lane_none.ok hg hS) call45 h rfl rfl rfl ?_)))))))
 rintro _ h _ w ⟨rfl, hS⟩
 refine ln (jfs (sr (pn 2 rfl ?_)))
 obtain ⟨t1856, hg1857, h⟩ := h.bind
 have hc := lane_Lane_next.ok hg1857 hS
 rcases t1856 with ⟨y1858, y1859⟩ | y1865
 · refine RL.e (OW.callF (ls := [.tmp 28, .tmp 29]) rfl call48 hc) rfl rfl ?_
   rintro _ w ⟨rfl, hS⟩
   refine rr [0, 0, 0, 0, 1, 0] hS ?_
   refine fun b1860 => it fun w hS => ln (RC.seq (sr (pn 1 rfl (RL.s (Vl.bn true rfl rfl) rfl (ln (jtr (pn 1 rfl (cF (fun _ hg => lane_told.ok hg hS) call49 h rfl rfl rfl ?_))))))))
   rintro t1863 h _ w ⟨rfl, hS⟩
   refine pn 2 rfl (lr (RQ.ret ?_))
   have hS := hS.nilSl E_api_Message 48
   cases h.some
   exact rt results15 rfl ⟨_, (Sub.refl _), none, 0, rfl, hS.d1⟩
 refine RL.e (OW.callF (ls := [.tmp 28, .tmp 29]) rfl call48 hc) rfl rfl ?_
 rintro _ w ⟨rfl, hS⟩
 refine rr [0, 0, 0, 0, 1, 0] hS ?_
 refine fun b1866 => it fun w hS => ln (RC.seq (sr (pn 1 rfl (RL.s (Vl.bn false rfl rfl) rfl (ln (jfs (sr (pn 1 rfl ?_))))))))
 refine lnsr (RL.s (Vl.makeFunc (fi := []) (ca := [.tmp 8]) rfl rfl) rfl (pn 1 rfl (ln (RC.seq (sr (r0 3 rfl ?_))))))
 obtain ⟨A2023, c2024, A2026, c2027, A2029, c2030, A2032, c2033, b2035, b2036, A2037, c2038, A2039, c2040, b2041, b2042, hr2025, hr2028, hr2031, hr2034, hS⟩ := O_lane_Lane.o hS.p1
 refine rr [1, 0, 0] hS ?_
 refine it fun w hS => ln (RC.block ?_)
 have hS := hS.nilSl E_api_Message 48
 refine fun a ha => lp h (fun (s : List api_Message × Int) a w => ∃ l2072 x2075, s = (l2072, x2075) ∧ ∃ A2073 c2074, Has 166 [(0, pV b1), (2, sV A5 a4 c6), (8, pV b1866), (10, sV A2073 l2072 c2074), (11, .func (.func 50) #[] #[pV b1866]), (41, sV A2037 a2.open_ c2038), (42, iV (a2.open_.length : Int)), (43, iV x2075)] a ∧ St B w (OSf E_lane_open 116 (sV A2037 a2.open_ c2038) a2.open_ :: OSf E_api_Message 48 (sV A2039 a2.orphans c2040) a2.orphans :: OSf E_api_Message 48 (sV A2073 l2072 c2074) l2072 :: Cl b1 (C_lane_Lane a2 A2023 c2024 A2026 c2027 A2029 c2030 A2032 c2033 b2035 b2036 A2037 c2038 A2039 c2040 b2041 b2042) 61 :: O_log_Log hf a2.log b2035 :: O_pend_Pend hf a2.wait b2036 :: MapF kv_lane_sending (Value.int .i64) b2041 a2.early :: MapF kv_lane_sending Value.bool b2042 a2.held :: Cl b1866 (C_api_Message y1865) 48 :: l) hf) ⟨_, _, rfl, _, _, ha.tE rfl, hS.p5.p5⟩ ?_
 rintro G2109 _ a w ⟨l2072, x2075, rfl, A2073, c2074, ha, hS⟩ h
 refine ro ha (sr (pn 1 rfl (ln (RC.seq ?_))))
 refine RC.iteP 44 rfl h (fun hc2111 h => ?_) fun hc2111 h => ?_
 next =>
  refine jt (sk ?_)
  refine RC.join (fun (s : List api_Message) a w => ∃ l2124, s = (l2124) ∧ Holds (Sum.elim G2109 (· = r)) (lane_Lane_Step.j36 x2075 l2124) ∧ ∃ A2125 c2126, Has 166 [(0, pV b1), (2, sV A5 a4 c6), (8, pV b1866), (10, sV A2125 l2124 c2126), (11, .func (.func 50) #[] #[pV b1866]), (41, sV A2037 a2.open_ c2038), (42, iV (a2.open_.length : Int)), (43, iV x2075)] a ∧ St B w (OSf E_lane_open 116 (sV A2037 a2.open_ c2038) a2.open_ :: OSf E_api_Message 48 (sV A2039 a2.orphans c2040) a2.orphans :: OSf E_api_Message 48 (sV A2125 l2124 c2126) l2124 :: Cl b1866 (C_api_Message y1865) 48 :: Cl b1 (C_lane_Lane a2 A2023 c2024 A2026 c2027 A2029 c2030 A2032 c2033 b2035 b2036 A2037 c2038 A2039 c2040 b2041 b2042) 61 :: O_log_Log hf a2.log b2035 :: O_pend_Pend hf a2.wait b2036 :: MapF kv_lane_sending (Value.int .i64) b2041 a2.early :: MapF kv_lane_sending Value.bool b2042 a2.held :: l) hf) ?_ ?_
  · rintro l2124 a w ⟨_, rfl, h, A2125, c2126, ha, hS⟩
    refine ro ha (RC.region (pn 2 rfl (RL.nil ?_)))
    exact fun a ha => ⟨_, h.some, _, _, rfl, _, _, ha.tE rfl, hS.p8.p8.p8.p8.p8.p7.p7.p7⟩
  refine RC.block (sr ?_)
  obtain ⟨hq2129, h⟩ := h.req
  refine RL.s (Vl.indexOwn 0 hS rfl underlying53 sizeOf116 rfl rfl hq2129 hc2111) rfl (RL.s (Vl.loadA isAgg116 sizeOf116 rfl rfl ((hS.slW 0 rfl).2.2.cells hq2129 hc2111)) rfl (rr [0, 1] hS ?_))
  refine fun b2130 => it fun w hS => lnsr (rr [0, 1] hS ?_)
  refine it fun w hS => ?_
  obtain ⟨t2131, hg2132, h⟩ := h.bind
  have hc := lane_Lane_Step_1.ok hg2132 hS.p9
  refine RL.e (OW.call (ls := [.tmp 48]) rfl rfl call50 rfl hc) rfl rfl ?_
  rintro _ w ⟨rfl, hS⟩
  refine ln ?_
  refine RC.iteB 49 rfl h (fun hc2133 h => ?_) fun hc2133 h => ?_
  next =>
   refine jt (RC.region (rr [0, 0, 2] hS ?_))
   refine it fun w hS => RL.e (OW.buildSlice (E := E_api_Message) (xs := [(nth a2.open_ x2075).m]) (cs := (C_api_Message ((nth a2.open_ x2075).m))) hS underlying39 zeroValue48 sizeOf48 (parts := [(0, .tmp 52)]) rfl rfl (by decide) (by decide) (by kernel_rfl) rfl) rfl rfl ?_
   rintro _ w ⟨b2134, rfl, hS⟩
   obtain ⟨hq2135, h⟩ := h.req
   refine RL.e (OW.append (E := E_api_Message) (xs := l2072) (ys := [(nth a2.open_ x2075).m]) 5 hS rfl underlying39 type48 rfl rfl rfl rfl (by decide) rfl rfl rfl (hS.slW 0 rfl).2.2.flat (by simp only [maxLen, List.length_cons, List.length_nil] at *; omega) hq2135 rfl) rfl rfl ?_
   rintro v2138 w hS
   obtain ⟨A2136, c2137, rfl, _⟩ := hS.osShape 0 rfl
   have hS : St B w (_ :: _ :: _ :: _ :: _ :: _ :: _ :: _ :: _ :: _ :: _ :: l) hf := hS
   refine pn 1 rfl (RL.nil (RQ.inB_n ?_))
   exact fun a ha => ⟨_, _, rfl, h, _, _, ha.tE rfl, hS.d1.d2.p3.p3⟩
  refine jf (RC.skip (RQ.inB_n ?_))
  exact fun a ha => ⟨_, _, rfl, h, _, _, ha.tE rfl, hS.d1.p3.p3.p3⟩
 refine jf (RC.exit (RQ.exitT ?_))
 have h := h.inr
 refine RQ.exitT (RQ.inB_hit (RQ.then_n (RC.seq (RC.planS (.pure 0 (.pure 1 (.pure 2 (.early 3 0 (.early 4 0 (.pure 5 (.pure 6 (.pure 7 (.early 8 0 (.pure 9 (.fork 10 14 (.pure 11 (.pure 12 (.pure 13 (.last 14 (.last 15 (.last 16 .nil)))))) (.last 10 (.pure 11 (.pure 12 (.pure 13 (.last 15 (.last 16 .nil))))))))))))))))) [15, 16] hS (fun w hS => hS.d2.d3.d3) follows rfl (by kernel_rfl) (NoTmp.then NoTmp.body) fun w hS => rq [0, 0, 0, 3, 6, 0, 0, 0, 3, 0] hS.d2.d3.d3 ?_))))
 refine it ?_
 refine RP.fj (fun (s : List api_Message × api_Entry × Int) env w => ∃ l2253 y2258 x2261, s = (l2253, y2258, x2261) ∧ Holds (· = r) (lane_Lane_Step.j38 a2 a4 y1865 l2253 y2258 x2261) ∧ ∃ hf_, Sub hf hf_ ∧ ∃ A2254 c2255 b2257 A2259 c2260, Ev env [(0, pV b1), (2, sV A5 a4 c6), (8, pV b1866), (10, sV A2254 l2253 c2255), (11, .func (.func 50) #[] #[pV b1866]), (14, pV b2257), (68, .agg (C_api_Entry y2258 A2259 c2260).toArray), (69, iV x2261)] ∧ St B w (OSf E_lane_open 116 (sV A2037 a2.open_ c2038) a2.open_ :: OSf E_api_Message 48 (sV A2039 a2.orphans c2040) a2.orphans :: OSf E_api_Message 48 (sV A2259 y2258.Sent c2260) y2258.Sent :: O_log_Log hf_ a2.log b2035 :: O_pend_Pend hf_ a2.wait b2036 :: Cl b1 (C_lane_Lane a2 A2023 c2024 A2026 c2027 A2029 c2030 A2032 c2033 b2035 b2036 A2037 c2038 A2039 c2040 b2041 b2042) 61 :: MapF kv_lane_sending (Value.int .i64) b2041 a2.early :: MapF kv_lane_sending Value.bool b2042 a2.held :: Cl b1866 (C_api_Message y1865) 48 :: Cl b2257 [iV 0, iV 0, iV 0, iV 0, iV 0, iV 0, .bool false, iV 0, iV 0, iV 0, iV 0, iV 0, iV 0, iV 0, iV 0, iV 0, iV 0, iV 0, .slice none 0 0] 79 :: l) hf_ ∧ SlR E_api_Message.rep hf_ A2254 c2255 l2253) (.last 15 (.last 16 .nil)) ?_ fun hk => ?_
 · rintro _ env w ⟨l2253, y2258, x2261, rfl, h, hf, hs2252, A2254, c2255, b2257, A2259, c2260, ha, hS, hr2256⟩
   refine RP.to ha (RP.e0 15 rfl (OW.store (vs := (C_api_Entry y2258 A2259 c2260)) 9 hS rfl rfl rfl rfl sizeOf79 rfl rfl rfl rfl) rfl ?_)
   rintro _ w ⟨rfl, hS⟩
   have hS : St B w (_ :: _ :: _ :: _ :: _ :: _ :: _ :: _ :: _ :: Cl _ [_, _, _, _, _, _, _, _, _, _, _, _, _, _, _, _, _, _, _] _ :: l) hf := hS
   refine ⟨kp ⟨(by intro hx; cases hx), trivial⟩, ?_⟩
   refine rq [0] (St.down hS.d2.d2.d2.d6 hs2252) ?_
   refine it (RP.nil (RQ.then_n (RC.seq (sr (rr [0, 0, 10, 0] hS ?_)))))
   refine it fun w hS => ?_
   have hS := O_lane_Lane.c (x := a2) (hr2025.mono hs2252) (hr2028.mono hs2252) (hr2031.mono hs2252) (hr2034.mono hs2252) hS.p7.p7.p3.p3.p6.p6.p7
   obtain ⟨hf, hs2270, hS, hr2271⟩ := St.promote hS.p1
   have hS := O_lane_Lane.l hs2270 hS
   have hS : St B w (_ :: _ :: _ :: l) hf := hS
   obtain ⟨t2272, hg2273, h⟩ := h.bind
   have hc := lane_Lane_fits.ok hr2271 ((hr7.mono hs2252).mono hs2270) hg2273 hS
   rcases t2272 with y2274 | _
   · refine RL.e (OW.callF (ls := [.tmp 70, .tmp 72, .tmp 73]) rfl call52 hc) rfl rfl ?_
     rintro _ w ⟨rfl, hS⟩
     refine pn 1 rfl (lnsr (pn 1 rfl (RL.s (Vl.bn true rfl rfl) rfl (ln (jtr (pn 1 rfl (cF (fun _ hg => lane_told.ok hg hS) call49 h rfl rfl rfl ?_)))))))
     rintro t2275 h _ w ⟨rfl, hS⟩
     refine pn 2 rfl (lr (RQ.ret ?_))
     have hS := hS.nilSl E_api_Message 48
     cases h.some
     exact rt results15 rfl ⟨_, (hs2252.trans hs2270), none, 0, rfl, hS.d2.d2⟩
   refine RL.e (OW.callF (ls := [.tmp 70, .tmp 72, .tmp 73]) rfl call52 hc) rfl rfl ?_
   rintro _ w ⟨rfl, hS⟩
   refine pn 1 rfl (lnsr (pn 1 rfl (RL.s (Vl.bn false rfl rfl) rfl (ln (jfs (RC.seq ?_))))))
   obtain ⟨A2357, c2358, A2360, c2361, A2363, c2364, A2366, c2367, b2369, b2370, A2371, c2372, A2373, c2374, b2375, b2376, hr2359, hr2362, hr2365, hr2368, hS⟩ := O_lane_Lane.o hS
   refine RC.planS (.pure 0 (.pure 1 (.pure 2 (.early 3 0 (.early 4 0 (.pure 5 (.pure 6 (.pure 7 (.early 8 0 (.pure 9 (.fork 10 14 (.pure 11 (.pure 12 (.pure 13 (.last 14 (.last 15 (.last 16 .nil)))))) (.last 10 (.pure 11 (.pure 12 (.pure 13 (.last 15 (.last 16 .nil))))))))))))))))) [15, 16] hS (fun w hS => hS.d1.d1) follows rfl (by kernel_rfl) (NoTmp.then NoTmp.body) fun w hS => rq [0, 0, 0, 1, 6, 0, 0, 0, 1, 0] hS.d1.d1 ?_
   refine it ?_
   refine RP.fj (fun (s : log_Log × api_Entry × Int) env w => ∃ y2412 y2414 x2417, s = (y2412, y2414, x2417) ∧ Holds (· = r) (lane_Lane_Step.j40 a2 y1865 l2253 y2412 y2414 x2417) ∧ ∃ hf_, Sub hf hf_ ∧ ∃ b2413 A2415 c2416, Ev env [(0, pV b1), (8, pV b1866), (10, sV A2254 l2253 c2255), (11, .func (.func 50) #[] #[pV b1866]), (17, pV b2413), (91, .agg (C_api_Entry y2414 A2415 c2416).toArray), (92, iV x2417)] ∧ St B w (OSf E_lane_open 116 (sV A2371 a2.open_ c2372) a2.open_ :: OSf E_api_Message 48 (sV A2373 a2.orphans c2374) a2.orphans :: OSf E_api_Message 48 (sV A2415 y2414.Sent c2416) y2414.Sent :: O_pend_Pend hf_ a2.wait b2370 :: O_log_Log hf_ y2412 b2369 :: Cl b1 (C_lane_Lane a2 A2357 c2358 A2360 c2361 A2363 c2364 A2366 c2367 b2369 b2370 A2371 c2372 A2373 c2374 b2375 b2376) 61 :: MapF kv_lane_sending (Value.int .i64) b2375 a2.early :: MapF kv_lane_sending Value.bool b2376 a2.held :: Cl b1866 (C_api_Message y1865) 48 :: Cl b2413 [iV 0, iV 0, iV 0, iV 0, iV 0, iV 0, .bool false, iV 0, iV 0, iV 0, iV 0, iV 0, iV 0, iV 0, iV 0, iV 0, iV 0, iV 0, .slice none 0 0] 79 :: Cl b2257 (C_api_Entry y2258 A2259 c2260) 79 :: l) hf_) (.last 15 (.last 16 .nil)) ?_ fun hk => ?_
   · rintro _ env w ⟨y2412, y2414, x2417, rfl, h, hf, hs2411, b2413, A2415, c2416, ha, hS⟩
     refine RP.to ha (RP.e0 15 rfl (OW.store (vs := (C_api_Entry y2414 A2415 c2416)) 9 hS rfl rfl rfl rfl sizeOf79 rfl rfl rfl rfl) rfl ?_)
     rintro _ w ⟨rfl, hS⟩
     have hS : St B w (_ :: _ :: _ :: _ :: _ :: _ :: _ :: _ :: _ :: Cl _ [_, _, _, _, _, _, _, _, _, _, _, _, _, _, _, _, _, _, _] _ :: _ :: l) hf := hS
     refine ⟨kp ⟨(by intro hx; cases hx), trivial⟩, ?_⟩
     refine rq [0] (St.down hS.d2.d2.d2.d6.p2 hs2411) ?_
     refine it (RP.nil (tsr (rr [0, 9] hS ?_)))
     refine it fun w hS => ?_
     have hS := O_lane_Lane.c (x := ({ a2 with log := y2412 } : lane_Lane)) (hr2359.mono hs2411) (hr2362.mono hs2411) (hr2365.mono hs2411) (hr2368.mono hs2411) hS.p7.p7.p3.p3.p5.p6.p7
     refine cF (fun _ hg => lane_Lane_release.ok hg hS) call54 h rfl rfl rfl ?_
     rintro ⟨y2424, y2425⟩ h _ w ⟨rfl, hS⟩
     refine lnsr (pn 2 rfl (cF (fun _ hg => lane_Lane_part_2.ok hg hS.p2.p1) call55 h rfl rfl rfl ?_))
     rintro ⟨y2434, y2435⟩ h _ w ⟨A2436, c2437, rfl, hS⟩
     refine lnsr (r0 4 rfl ?_)
     obtain ⟨A2458, c2459, A2461, c2462, A2464, c2465, A2467, c2468, b2470, b2471, A2472, c2473, A2474, c2475, b2476, b2477, hr2460, hr2463, hr2466, hr2469, hS⟩ := O_lane_Lane.o hS.p1
     refine rr [1, 0, 0, 0, 0, 1] hS ?_
     refine it fun w hS => lnsr (pn 1 rfl (lnsr (RL.e (OW.makeMapF (kv := (Value.int .i64)) (vv := Value.bool) hS) rfl rfl ?_)))
     rintro _ w ⟨b2479, rfl, hS⟩
     refine pn 1 rfl (ln (RC.seq (sr (rr [0, 12, 0, 0] hS ?_))))
     refine it fun w hS => ln (RC.block ?_)
     have hS := O_lane_Lane.c (x := ({ y2435 with stats := (⟨IntKind.i64.wrap (y2435.stats.Done + 1), y2435.stats.Undone, y2435.stats.Hits, y2435.stats.Held⟩ : api_Stats) } : lane_Lane)) hr2460 hr2463 hr2466 hr2469 hS.p7.p7.p7.p7.p7.p7.p7
     have hS := hS.nilSl E_api_Message 48
     refine fun a ha => lp h (fun (s : List api_Message × List (Int × Bool) × Int) a w => ∃ l2753 l2756 x2757, s = (l2753, l2756, x2757) ∧ ∃ A2754 c2755, Has 166 [(0, pV b1), (10, sV A2254 l2253 c2255), (19, sV A2754 l2753 c2755), (20, .map (some b2479)), (110, sV A2415 y2414.Sent c2416), (111, iV (y2414.Sent.length : Int)), (112, iV x2757)] a ∧ St B w (OSf E_api_Message 48 (sV A2754 l2753 c2755) l2753 :: OSf E_api_Message 48 (sV A2415 y2414.Sent c2416) y2414.Sent :: O_lane_Lane hf ({ y2435 with stats := (⟨IntKind.i64.wrap (y2435.stats.Done + 1), y2435.stats.Undone, y2435.stats.Hits, y2435.stats.Held⟩ : api_Stats) } : lane_Lane) b1 :: MapF (Value.int .i64) Value.bool b2479 l2756 :: l) hf) ⟨_, _, _, rfl, _, _, ha.tE rfl, hS.d3.d3.d4.d4.p3.p1⟩ ?_
     rintro G2828 _ a w ⟨l2753, l2756, x2757, rfl, A2754, c2755, ha, hS⟩ h
     refine ro ha (sr (pn 1 rfl (ln (RC.seq ?_))))
     refine RC.iteP 113 rfl h (fun hc2830 h => ?_) fun hc2830 h => ?_
     next =>
      refine jt (sk ?_)
      refine RC.join (fun (s : List api_Message) a w => ∃ l2861, s = (l2861) ∧ Holds (Sum.elim G2828 (· = r)) (lane_Lane_Step.j48 y2414 l2756 x2757 l2861) ∧ ∃ A2862 c2863, Has 166 [(0, pV b1), (10, sV A2254 l2253 c2255), (19, sV A2862 l2861 c2863), (20, .map (some b2479)), (110, sV A2415 y2414.Sent c2416), (111, iV (y2414.Sent.length : Int)), (112, iV x2757)] a ∧ St B w (OSf E_api_Message 48 (sV A2862 l2861 c2863) l2861 :: OSf E_api_Message 48 (sV A2415 y2414.Sent c2416) y2414.Sent :: O_lane_Lane hf ({ y2435 with stats := (⟨IntKind.i64.wrap (y2435.stats.Done + 1), y2435.stats.Undone, y2435.stats.Hits, y2435.stats.Held⟩ : api_Stats) } : lane_Lane) b1 :: MapF (Value.int .i64) Value.bool b2479 (mset l2756 ((nth y2414.Sent x2757).Uid) true) :: l) hf) ?_ ?_
      · rintro l2861 a w ⟨_, rfl, h, A2862, c2863, ha, hS⟩
        refine ro ha (RC.region (pn 2 rfl (RL.nil ?_)))
        exact fun a ha => ⟨_, h.some, _, _, _, rfl, _, _, ha.tE rfl, hS⟩
      refine RC.block (sr ?_)
      obtain ⟨hq2866, h⟩ := h.req
      refine RL.s (Vl.indexOwn 1 hS rfl underlying39 sizeOf48 rfl rfl hq2866 hc2830) rfl (RL.s (Vl.loadA isAgg48 sizeOf48 rfl rfl ((hS.slW 1 rfl).2.2.cells hq2866 hc2830)) rfl (rr [0, 1] hS ?_))
      refine fun b2867 => it fun w hS => lnsr (rr [0, 0, 1] hS ?_)
      refine it fun w hS => RL.e0 (OW.mapUpdF (k := (nth y2414.Sent x2757).Uid) (v := true) 4 hS rfl (KeyOK.int underlying3) underlying123 rfl rfl rfl rfl) rfl ?_
      rintro _ w ⟨rfl, hS⟩
      have hS : St B w (_ :: _ :: _ :: _ :: _ :: l) hf := hS
      refine ln (RC.seq ?_)
      obtain ⟨A2868, c2869, A2871, c2872, A2874, c2875, A2877, c2878, b2880, b2881, A2882, c2883, A2884, c2885, b2886, b2887, hr2870, hr2873, hr2876, hr2879, hS⟩ := O_lane_Lane.o hS.p4
      refine dr [0, 4, 8, 11, 14, 17, 20] [6] hS fun w hS => rq [0, 9, 0, 0, 0, 1, 0] hS ?_
      refine it (RP.nil (RQ.then_n ?_))
      refine RC.iteP 125 rfl h (fun hc2888 h => ?_) fun hc2888 h => ?_
      next =>
       refine jt (RC.region (rr [0, 9] hS ?_))
       refine it fun w hS => RL.e (OW.buildSlice (E := E_api_Message) (xs := [nth y2414.Sent x2757]) (cs := (C_api_Message (nth y2414.Sent x2757))) hS underlying39 zeroValue48 sizeOf48 (parts := [(0, .tmp 127)]) rfl rfl (by decide) (by decide) (by kernel_rfl) rfl) rfl rfl ?_
       rintro _ w ⟨b2889, rfl, hS⟩
       obtain ⟨hq2890, h⟩ := h.req
       refine RL.e (OW.append (E := E_api_Message) (xs := l2753) (ys := [nth y2414.Sent x2757]) 10 hS rfl underlying39 type48 rfl rfl rfl rfl (by decide) rfl rfl rfl (hS.slW 0 rfl).2.2.flat (by simp only [maxLen, List.length_cons, List.length_nil] at *; omega) hq2890 rfl) rfl rfl ?_
       rintro v2893 w hS
       obtain ⟨A2891, c2892, rfl, _⟩ := hS.osShape 0 rfl
       have hS : St B w (_ :: _ :: _ :: _ :: _ :: _ :: _ :: _ :: _ :: _ :: _ :: _ :: l) hf := hS
       refine pn 1 rfl (RL.nil (RQ.inB_n ?_))
       have hS := O_lane_Lane.c (x := ({ y2435 with stats := (⟨IntKind.i64.wrap (y2435.stats.Done + 1), y2435.stats.Undone, y2435.stats.Hits, y2435.stats.Held⟩ : api_Stats) } : lane_Lane)) hr2870 hr2873 hr2876 hr2879 hS.p8.p8.p8.p8.p8.p8.p8
       exact fun a ha => ⟨_, _, rfl, h, _, _, ha.tE rfl, hS.d2.d3.p3.p2⟩
      refine jf (RC.skip (RQ.inB_n ?_))
      have hS := O_lane_Lane.c (x := ({ y2435 with stats := (⟨IntKind.i64.wrap (y2435.stats.Done + 1), y2435.stats.Undone, y2435.stats.Hits, y2435.stats.Held⟩ : api_Stats) } : lane_Lane)) hr2870 hr2873 hr2876 hr2879 hS
      exact fun a ha => ⟨_, _, rfl, h, _, _, ha.tE rfl, hS.d2.p3.p3⟩
     refine jf (RC.exit (RQ.exitT ?_))
     have h := h.inr
     refine RQ.exitT (RQ.inB_hit (tsr (r0 3 rfl ?_)))
     obtain ⟨A2914, c2915, A2917, c2918, A2920, c2921, A2923, c2924, b2926, b2927, A2928, c2929, A2930, c2931, b2932, b2933, hr2916, hr2919, hr2922, hr2925, hS⟩ := O_lane_Lane.o hS.p2
     refine rr [1, 0, 0, 0, 0, 0, 1] hS ?_
     refine it fun w hS => ln (RC.seq (sr (r0 3 rfl (ln (RC.block ?_)))))
     have hS := O_lane_Lane.c (x := ({ y2435 with uid := IntKind.i64.wrap (y2435.uid + (l2753.length : Int)), stats := (⟨IntKind.i64.wrap (y2435.stats.Done + 1), y2435.stats.Undone, y2435.stats.Hits, y2435.stats.Held⟩ : api_Stats) } : lane_Lane)) hr2916 hr2919 hr2922 hr2925 hS
     refine fun a ha => lp h (fun (s : lane_Lane × List api_Message × Int) a w => ∃ y3395 l3396 x3399, s = (y3395, l3396, x3399) ∧ ∃ A3397 c3398, Has 166 [(0, pV b1), (19, sV A3397 l3396 c3398), (20, .map (some b2479)), (140, sV A2254 l2253 c2255), (141, iV (l2253.length : Int)), (142, iV x3399)] a ∧ St B w (OSf E_api_Message 48 (sV A3397 l3396 c3398) l3396 :: O_lane_Lane hf y3395 b1 :: MapF (Value.int .i64) Value.bool b2479 l2756 :: l) hf) ⟨_, _, _, rfl, _, _, ha.tE rfl, hS.d2.p1⟩ ?_
     rintro G3517 _ a w ⟨y3395, l3396, x3399, rfl, A3397, c3398, ha, hS⟩ h
     refine ro ha (sr (pn 1 rfl (ln (RC.seq ?_))))
     refine RC.iteP 143 rfl h (fun hc3519 h => ?_) fun hc3519 h => ?_
     next =>
      refine jt (sk ?_)
      refine RC.join (fun (s : lane_Lane × List api_Message) a w => ∃ y3573 l3574, s = (y3573, l3574) ∧ Holds (Sum.elim G3517 (· = r)) (lane_Lane_Step.j56 x3399 y3573 l3574) ∧ ∃ A3575 c3576, Has 166 [(0, pV b1), (19, sV A3575 l3574 c3576), (20, .map (some b2479)), (140, sV A2254 l2253 c2255), (141, iV (l2253.length : Int)), (142, iV x3399)] a ∧ St B w (OSf E_api_Message 48 (sV A3575 l3574 c3576) l3574 :: O_lane_Lane hf y3573 b1 :: MapF (Value.int .i64) Value.bool b2479 l2756 :: l) hf) ?_ ?_
      · rintro _ a w ⟨y3573, l3574, rfl, h, A3575, c3576, ha, hS⟩
        refine ro ha (RC.region (pn 2 rfl (RL.nil ?_)))
        exact fun a ha => ⟨_, h.some, _, _, _, rfl, _, _, ha.tE rfl, hS⟩
      refine RC.block (sr ?_)
      obtain ⟨hq3579, h⟩ := h.req
      refine RL.s (Vl.indexAddr underlying39 sizeOf48 rfl rfl ((((hr2256.mono hs2270).mono hs2411).2.world hS.sub).adr hq3579 hc3519) hq3579 hc3519 rfl) rfl (RL.s (Vl.loadA isAgg48 sizeOf48 rfl rfl ((((hr2256.mono hs2270).mono hs2411).2.world hS.sub).cells hq3579 hc3519)) rfl (rr [0, 1] hS ?_))
      refine fun b3580 => it fun w hS => ln (RC.seq (sr (rr [0, 0, 1] hS ?_)))
      refine it fun w hS => RL.s (Vl.lookupF (k := (nth l2253 x3399).Uid) (z := false) 3 hS rfl (KeyOK.int underlying3) underlying123 zeroValue4 rfl rfl) rfl (ln ?_)
      refine RC.iteB 149 rfl h (fun hc3602 h => ?_) fun hc3602 h => ?_
      next =>
       refine jtr (r0 4 rfl ?_)
       obtain ⟨A3603, c3604, A3606, c3607, A3609, c3610, A3612, c3613, b3615, b3616, A3617, c3618, A3619, c3620, b3621, b3622, hr3605, hr3608, hr3611, hr3614, hS⟩ := O_lane_Lane.o hS.p2
       refine rr [1, 0, 0, 0, 0, 1] hS ?_
       refine it fun w hS => ln (RC.exit (RQ.exitT (RQ.inB_hit ?_)))
       have hS := O_lane_Lane.c (x := ({ y3395 with stats := (⟨y3395.stats.Done, y3395.stats.Undone, IntKind.i64.wrap (y3395.stats.Hits + 1), y3395.stats.Held⟩ : api_Stats) } : lane_Lane)) hr3605 hr3608 hr3611 hr3614 hS
       exact fun a ha => ⟨_, _, _, rfl, h, _, _, ha.tE rfl, hS.d1.p1⟩
      refine jfs (RC.region (rr [0, 1] hS ?_))
      refine it fun w hS => cF (fun _ hg => event_Twin.ok hg hS) call28 h rfl rfl rfl ?_
      rintro t3623 h _ w ⟨rfl, hS⟩
      refine RL.e (OW.buildSlice (E := E_api_Message) (xs := [t3623]) (cs := (C_api_Message t3623)) hS underlying39 zeroValue48 sizeOf48 (parts := [(0, .tmp 161)]) rfl rfl (by decide) (by decide) (by kernel_rfl) rfl) rfl rfl ?_
      rintro _ w ⟨b3625, rfl, hS⟩
      obtain ⟨hq3626, h⟩ := h.req
      refine RL.e (OW.append (E := E_api_Message) (xs := l3396) (ys := [t3623]) 2 hS rfl underlying39 type48 rfl rfl rfl rfl (by decide) rfl rfl rfl (hS.slW 0 rfl).2.2.flat (by simp only [maxLen, List.length_cons, List.length_nil] at *; omega) hq3626 rfl) rfl rfl ?_
      rintro v3629 w hS
      obtain ⟨A3627, c3628, rfl, _⟩ := hS.osShape 0 rfl
      have hS : St B w (_ :: _ :: _ :: _ :: _ :: l) hf := hS
      refine pn 1 rfl (RL.nil (RQ.inB_n ?_))
      exact fun a ha => ⟨_, _, _, rfl, h, _, _, ha.tE rfl, hS.d1.d1⟩
     refine jf (RC.exit (RQ.exitT ?_))
     have h := h.inrS
     refine RQ.exitT (RQ.inB_hit (tsr (pn 3 rfl (lr ?_))))
     cases h.some
     exact rt results15 rfl ⟨_, ((hs2252.trans hs2270).trans hs2411), A3397, c3398, rfl, hS.d2⟩
   refine RP.fork ?_ ?_
   · obtain ⟨t3630, hg3631, h⟩ := h.bind
     have hc := log_Log_Do.ok (hr2256.mono hs2270) ((hG0.mono hs2252).mono hs2270) hg3631 hS.p1
     obtain ⟨y3632, y3633, y3634⟩ := t3630
     refine RPW.e 10 rfl (OW.callF (ls := [.tmp 83, .tmp 84, .tmp 88, .tmp 89]) rfl call53 hc) rfl rfl ?_
     rintro _ w ⟨hf, hs3637, A3635, c3636, rfl, hS⟩
     have hS := O_pend_Pend.l hs3637 hS.p3
     have hS : St B w (_ :: _ :: _ :: _ :: _ :: _ :: _ :: _ :: _ :: _ :: l) hf := hS
     refine ⟨kp ⟨fun _ => (St.down hS.d0.d0.d0 hs3637), trivial⟩, ?_⟩
     refine pp 3 rfl (RP.e 14 rfl (OW.alloc (cs := [iV 0, iV 0, iV 0, iV 0, iV 0, iV 0, .bool false, iV 0, iV 0, iV 0, iV 0, iV 0, iV 0, iV 0, iV 0, iV 0, iV 0, iV 0, .slice none 0 0]) hS zeroValue79 rfl) rfl rfl ?_)
     rintro _ w ⟨b3638, rfl, hS⟩
     refine ⟨kp ⟨fun _ => (St.down hS.d0.d0.d0.d0 hs3637), trivial⟩, ?_⟩
     exact hk _ _ _ ⟨_, _, _, rfl, h, _, hs3637, _, _, _, ⟨rfl, rfl, rfl, rfl, rfl, rfl, rfl, trivial⟩, hS.p9.p9.p9.p7.p7.p6.p7.p9.p9⟩
   · refine RPW.e 14 rfl (OW.alloc (cs := [iV 0, iV 0, iV 0, iV 0, iV 0, iV 0, .bool false, iV 0, iV 0, iV 0, iV 0, iV 0, iV 0, iV 0, iV 0, iV 0, iV 0, iV 0, .slice none 0 0]) hS zeroValue79 rfl) rfl rfl ?_
     rintro _ w ⟨b3639, rfl, hS⟩
     refine ⟨kp ⟨fun _ => hS.d0.d1.d1, trivial⟩, ?_⟩
     obtain ⟨t3640, hg3641, h⟩ := h.bind
     have hc := log_Log_Do.ok (hr2256.mono hs2270) ((hG0.mono hs2252).mono hs2270) hg3641 hS.p2
     obtain ⟨y3642, y3643, y3644⟩ := t3640
     refine RP.e 10 rfl (OW.callF (ls := [.tmp 83, .tmp 84, .tmp 88, .tmp 89]) rfl call53 hc) rfl rfl ?_
     rintro _ w ⟨hf, hs3647, A3645, c3646, rfl, hS⟩
     have hS := O_pend_Pend.l hs3647 hS.p4
     have hS : St B w (_ :: _ :: _ :: _ :: _ :: _ :: _ :: _ :: _ :: _ :: _ :: l) hf := hS
     refine ⟨kp ⟨fun _ => (St.down hS.d0.d0.d0.d0 hs3647), trivial⟩, ?_⟩
     refine pp 3 rfl ?_
     exact hk _ _ _ ⟨_, _, _, rfl, h, _, hs3647, _, _, _, ⟨rfl, rfl, rfl, rfl, rfl, rfl, rfl, trivial⟩, hS.p9.p9.p9.p7.p6.p5.p6.p9.p9⟩
 refine RP.fork ?_ ?_
 · obtain ⟨hf, hs3648, hS, hr3649⟩ := St.promote hS.p2
   have hS := O_log_Log.l hs3648 hS.p3
   have hS := O_pend_Pend.l hs3648 hS.p4
   have hS : St B w (_ :: _ :: _ :: _ :: _ :: _ :: _ :: _ :: l) hf := hS
   obtain ⟨t3650, hg3651, h⟩ := h.bind
   have hc := log_Log_Try.ok hr3649 (hG0.mono hs3648) hg3651 hS.p1
   obtain ⟨y3652, y3653⟩ := t3650
   refine RPW.e 10 rfl (OW.callF (ls := [.tmp 60, .tmp 61, .tmp 65, .tmp 66]) rfl call51 hc) rfl rfl ?_
   rintro _ w ⟨A3654, c3655, rfl, hS⟩
   refine ⟨kp ⟨fun _ => (St.down hS.d0.d0.d0 hs3648), trivial⟩, ?_⟩
   refine pp 3 rfl (RP.e 14 rfl (OW.alloc (cs := [iV 0, iV 0, iV 0, iV 0, iV 0, iV 0, .bool false, iV 0, iV 0, iV 0, iV 0, iV 0, iV 0, iV 0, iV 0, iV 0, iV 0, iV 0, .slice none 0 0]) hS zeroValue79 rfl) rfl rfl ?_)
   rintro _ w ⟨b3656, rfl, hS⟩
   refine ⟨kp ⟨fun _ => (St.down hS.d0.d0.d0.d0 hs3648), trivial⟩, ?_⟩
   exact hk _ _ _ ⟨_, _, _, rfl, h, _, hs3648, _, _, _, _, _, ⟨rfl, rfl, rfl, rfl, rfl, rfl, rfl, rfl, trivial⟩, hS.p9.p9.p9.p9.p7.p7.p7.p9.p9, hr3649⟩
 · refine RPW.e 14 rfl (OW.alloc (cs := [iV 0, iV 0, iV 0, iV 0, iV 0, iV 0, .bool false, iV 0, iV 0, iV 0, iV 0, iV 0, iV 0, iV 0, iV 0, iV 0, iV 0, iV 0, .slice none 0 0]) hS zeroValue79 rfl) rfl rfl ?_
   rintro _ w ⟨b3657, rfl, hS⟩
   refine ⟨kp ⟨fun _ => hS.d0.d2.d3.d3, trivial⟩, ?_⟩
   obtain ⟨hf, hs3658, hS, hr3659⟩ := St.promote hS.p3
   have hS := O_log_Log.l hs3658 hS.p4
   have hS := O_pend_Pend.l hs3658 hS.p5
   have hS : St B w (_ :: _ :: _ :: _ :: _ :: _ :: _ :: _ :: _ :: l) hf := hS
   obtain ⟨t3660, hg3661, h⟩ := h.bind
   have hc := log_Log_Try.ok hr3659 (hG0.mono hs3658) hg3661 hS.p1
   obtain ⟨y3662, y3663⟩ := t3660
   refine RP.e 10 rfl (OW.callF (ls := [.tmp 60, .tmp 61, .tmp 65, .tmp 66]) rfl call51 hc) rfl rfl ?_
   rintro _ w ⟨A3664, c3665, rfl, hS⟩
   refine ⟨kp ⟨fun _ => (St.down hS.d0.d0.d0.d0 hs3658), trivial⟩, ?_⟩
   refine pp 3 rfl ?_
   exact hk _ _ _ ⟨_, _, _, rfl, h, _, hs3658, _, _, _, _, _, ⟨rfl, rfl, rfl, rfl, rfl, rfl, rfl, rfl, trivial⟩, hS.p9.p9.p9.p9.p6.p6.p6.p9.p9, hr3659⟩
def isochronlaw17vdrain.l2b (a3 : List Int) : lane_Lane × List api_Message × Int → Option ((lane_Lane × List api_Message × Int) ⊕ (List api_Message × lane_Lane))
 | (y556, l557, x560) => (if x560 < 500 then ((lane_Lane_Settle.f y556).bind fun (y714, y715) => (if (l557.length + y714.length) * 56 ≤ 140737488355328 then ((lane_Lane_Step.f y715 4611686018427387904 a3).bind fun (y733, y734, y735) => (if y734 = 0 then (if ((l557 ++ y714).length + y733.length) * 56 ≤ 140737488355328 then some (.inl (y735, ((l557 ++ y714) ++ y733), IntKind.i64.wrap (x560 + 1))) else none) else some (.inr ((l557 ++ y714), y735)))) else none)) else some (.inr (l557, y556)))
def isochronlaw17vdrain.l2 (a3 : List Int) (s : lane_Lane × List api_Message × Int) : Option (List api_Message × lane_Lane) := loopR (isochronlaw17vdrain.l2b a3) s
def isochronlaw17vdrain.f (a2 : lane_Lane) (a3 : List Int) : Option (List api_Message × lane_Lane) := isochronlaw17vdrain.l2 a3 (a2, [], 0)
theorem isochronlaw17vdrain.ok {a2 : lane_Lane} {a3 : List Int} {b1 c5 : Nat} {A4 : Option Addr} (hr6 : SlR ((FI .i64).rep) hf A4 c5 a3) (hG0 : GlobAt hf 0 (.iface 215 (.agg #[.pointer (some ⟨1, 108, none⟩)]))) {r : List api_Message × lane_Lane} (h : isochronlaw17vdrain.f a2 a3 = some r) (hS : St B w (O_lane_Lane hf a2 b1 :: l) hf) :
   Calls prog 30 #[pV b1, sV A4 a3 c5] w (Ret fun v w => ∃ hf_ : Hp, Sub hf hf_ ∧ ∃ (A_1 : Option Addr) (c_2 : Nat), v = sV A_1 r.1 c_2 ∧ St B w (OSf E_api_Message 48 (sV A_1 r.1 c_2) r.1 :: O_lane_Lane hf_ r.2 b1 :: l) hf_) := by
 have h := Holds.of h
 refine en func30 rfl ntmps30 rfl (sr (pn 1 rfl (lnsr (pn 1 rfl (ln (RC.seq (sr (pn 1 rfl (RL.nil ?_)))))))))
 refine RQ.then_n (RC.block ?_)
 have hS := hS.nilSl E_api_Message 48
 refine fun a ha => lp h (fun (s : lane_Lane × List api_Message × Int) a w => ∃ y556 l557 x560, s = (y556, l557, x560) ∧ ∃ hf_, Sub hf hf_ ∧ ∃ A558 c559, Has 30 [(0, pV b1), (1, sV A4 a3 c5), (5, sV A558 l557 c559), (6, iV x560)] a ∧ St B w (OSf E_api_Message 48 (sV A558 l557 c559) l557 :: O_lane_Lane hf_ y556 b1 :: l) hf_) ⟨_, _, _, rfl, _, (Sub.refl _), _, _, ha.tE rfl, hS⟩ ?_
 rintro G655 _ a w ⟨y556, l557, x560, rfl, hf, hs463, A558, c559, ha, hS⟩ h
 refine ro ha (RC.seq (sr (pn 2 rfl (ln ?_))))
 refine RC.iteP 10 rfl h (fun hc657 h => ?_) fun hc657 h => ?_
 next =>
  refine jt (sk (RC.seq (RC.block (sr (pn 2 rfl (cF (fun _ hg => lane_Lane_Settle.ok hg hS.p1) call18 h rfl rfl rfl ?_))))))
  rintro ⟨y714, y715⟩ h _ w ⟨A716, c717, rfl, hS⟩
  obtain ⟨hq718, h⟩ := h.req
  refine RL.e (OW.appendV (E := E_api_Message) (xs := l557) (ys := y714) 2 hS rfl underlying39 type48 rfl rfl rfl rfl (by decide) (by decide) rfl rfl (hS.slW 0 rfl).2.2 hq718 rfl) rfl rfl ?_
  rintro v721 w hS
  obtain ⟨A719, c720, rfl, _⟩ := hS.osShape 0 rfl
  have hS : St B w (_ :: _ :: _ :: l) hf := hS
  refine pn 1 rfl (lnsr (pn 2 rfl (cF (fun _ hg => lane_Lane_Step.ok (hr6.mono hs463) (hG0.mono hs463) hg hS.p2) call15 h rfl rfl rfl ?_)))
  rintro ⟨y733, y734, y735⟩ h _ w ⟨hf, hs738, A736, c737, rfl, hS⟩
  refine pn 5 rfl (ln (RC.seq (sr (pn 2 rfl (ln ?_)))))
  refine RC.iteN 24 rfl h (fun hc740 h => ?_) fun hc740 h => ?_
  next =>
   refine jfs (RC.region (pn 2 rfl ?_))
   obtain ⟨hq741, h⟩ := h.req
   refine RL.e (OW.appendV (E := E_api_Message) (xs := (l557 ++ y714)) (ys := y733) 2 hS rfl underlying39 type48 rfl rfl rfl rfl (by decide) (by decide) rfl rfl (hS.slW 0 rfl).2.2 hq741 rfl) rfl rfl ?_
   rintro v744 w hS
   obtain ⟨A742, c743, rfl, _⟩ := hS.osShape 0 rfl
   have hS : St B w (_ :: _ :: _ :: _ :: l) hf := hS
   refine pn 1 rfl (RL.nil (RQ.inB_n (RQ.then_n (RC.region (pn 3 rfl (RL.nil ?_))))))
   exact fun a ha => ⟨_, h.some, _, _, _, rfl, _, (hs463.trans hs738), _, _, ha.tE rfl, hS.d1.d2⟩
  refine jtr (pn 2 rfl (lr (RQ.ret (ir ?_))))
  have h := h.inrS
  refine RQ.ret (ir ?_)
  cases h.some
  exact rt results30 rfl ⟨_, (hs463.trans hs738), A719, c720, rfl, hS.d0.d2.p1⟩
 refine jf (RC.exit (RQ.exitT ?_))
 have h := h.inrS
 refine RQ.exitT (RQ.inB_hit (tsr (pn 2 rfl (lr ?_))))
 cases h.some
 exact rt results30 rfl ⟨_, hs463, A558, c559, rfl, hS⟩
def lane_Lane_Orphans.f (a2 : lane_Lane) : Option (List api_Message) := ((lane_Lane_none.f a2).bind fun _ => (if (([] : List api_Message).length + a2.orphans.length) * 56 ≤ 140737488355328 then some (([] : List api_Message) ++ a2.orphans) else none))
theorem lane_Lane_Orphans.ok {a2 : lane_Lane} {b1 : Nat} {r : List api_Message} (h : lane_Lane_Orphans.f a2 = some r) (hS : St B w (O_lane_Lane hf a2 b1 :: l) hf) :
   Calls prog 26 #[pV b1] w (Ret fun v w => ∃ (A_1 : Option Addr) (c_2 : Nat), v = sV A_1 r c_2 ∧ St B w (OSf E_api_Message 48 (sV A_1 r c_2) r :: O_lane_Lane hf a2 b1 :: l) hf) := by
 have h := Holds.of h
 refine en func26 rfl ntmps26 rfl (sr (pn 1 rfl (ln (RC.seq (sr (pn 1 rfl (cF (fun _ hg => lane_Lane_none.ok hg hS) call45 h rfl rfl rfl ?_)))))))
 rintro _ h _ w ⟨rfl, hS⟩
 refine ln (jfs (sr (r0 3 rfl ?_)))
 obtain ⟨A35, c36, A38, c39, A41, c42, A44, c45, b47, b48, A49, c50, A51, c52, b53, b54, hr37, hr40, hr43, hr46, hS⟩ := O_lane_Lane.o hS
 refine rr [1] hS ?_
 refine it fun w hS => ?_
 obtain ⟨hq55, h⟩ := h.req
 have hS := hS.nilSl E_api_Message 48
 refine RL.e (OW.appendV (E := E_api_Message) (xs := ([] : List api_Message)) (ys := a2.orphans) 0 hS rfl underlying39 type48 rfl rfl rfl rfl (by decide) (by decide) rfl rfl (hS.slW 5 rfl).2.2 hq55 rfl) rfl rfl ?_
 rintro v58 w hS
 obtain ⟨A56, c57, rfl, _⟩ := hS.osShape 0 rfl
 have hS : St B w (_ :: _ :: _ :: _ :: _ :: _ :: _ :: _ :: l) hf := hS
 refine pn 1 rfl (lr ?_)
 have hS := O_lane_Lane.c (x := a2) hr37 hr40 hr43 hr46 hS.p7.p7.p7.p7.p7.p7.p7
 cases h.some
 exact rt results26 rfl ⟨A56, c57, rfl, hS.p1⟩
def log_Log_All_round0.f (a6 : log_Log) (a8 : (List api_Entry)) (a13 : Int) (a14 : api_State) : Option (List api_Entry) := (if 0 ≤ a13 ∧ a13 < (a6.l.length : Int) then ((log_done_entry.f (nth a6.l a13) a14).bind fun t68 => (if (a8.length + ([t68]).length) * 168 ≤ 140737488355328 then some (a8 ++ ([t68])) else none)) else none)
theorem log_Log_All_round0.ok {a6 : log_Log} {a8 : (List api_Entry)} {a13 : Int} {a14 : api_State} {b1 b4 b5 b7 c10 : Nat} {rc2 : Loop} {A9 : Option Addr} {cs11 : List Value} (hx12 : RepL R_api_Entry hf cs11 a8) (hr3 : RecF f47 0 25 [(1, pV b4), (3, pV b7)] rc2) {r : List api_Entry} (h : log_Log_All_round0.f a6 a8 a13 a14 = some r) (hS : St B w (pts b1 (.loop rc2) :: O_log_Log hf a6 b5 :: Cl b4 [pV b5] 51 :: Cl b7 [sV A9 a8 c10] 41 :: OSl 79 19 (sV A9 a8 c10) a8.length cs11 :: l) hf) :
   Yld prog b1 [iV a13, .agg (C_api_State a14).toArray] w (Ret fun v w => ∃ hf_ : Hp, Sub hf hf_ ∧ ∃ (A_1 : Option Addr) (c_2 : Nat) (cs_3 : List Value), v = .bool true ∧ St B w (OSl 79 19 (sV A_1 r c_2) r.length cs_3 :: pts b1 (.loop rc2) :: O_log_Log hf_ a6 b5 :: Cl b4 [pV b5] 51 :: Cl b7 [sV A_1 r c_2] 41 :: l) hf_ ∧ RepL R_api_Entry hf_ cs_3 r) := by
 have h := Holds.of h
 refine Yld.of (psl := [10, 11]) hS hr3 rfl rfl rfl ?_
 show RC _ ⟨25, [], false⟩ _ _ [(11, .agg (C_api_State a14).toArray), (10, iV a13), (1, pV b4), (3, pV b7)] w
 refine sr (pn 1 rfl (ln (RC.region (rr [0, 1] hS ?_))))
 refine fun b49 => it fun w hS => ln (RQ.bg hS.p1 hr3.state rfl fun w hS => RC.block ?_)
 obtain ⟨A50, c51, A53, c54, A56, c57, cs58, hr52, hr55, hx59, hS⟩ := O_log_Log.o hS.p2
 refine dr [1, 4, 6, 9, 13, 15, 19, 22, 26, 29, 32, 35, 38] [11, 12] hS fun w hS => rq [6, 5, 0, 0, 1, 0] hS ?_
 refine it ?_
 obtain ⟨⟨hq60, hq61⟩, h⟩ := h.req
 refine RP.s 0 6 rfl rfl hS (fun w hS => Vl.indexOwn 1 hS rfl underlying148 sizeOf176 rfl rfl hq60 hq61) rfl ?_
 obtain ⟨_, ⟨A63, c64, b66, rfl, hr65, hr67⟩, hl62⟩ := RepL.elem R_log_done_ok hx59 hq60 hq61
 refine RP.s 0 7 rfl rfl hS (fun w hS => Vl.loadA (vs := (C_log_done (nth a6.l a13) A63 c64 b66)) isAgg176 sizeOf176 rfl rfl (hS.elemCells 1 rfl hl62 (off := 0) rfl)) rfl (rq [4] hS ?_)
 refine it ?_
 obtain ⟨t68, hg69, h⟩ := h.bind
 have hc := log_done_entry.ok hr65 hr67 hg69 hS
 refine RP.e 9 rfl (OW.callF (ls := [.tmp 19, .tmp 20]) rfl call96 hc) rfl rfl ?_
 rintro _ w ⟨A70, c71, rfl, hS⟩
 refine ⟨kp ⟨fun _ => hS.d0, trivial⟩, ?_⟩
 obtain ⟨hf, hs72, hS, hr73⟩ := St.promote hS
 have hx75 : RepL R_api_Entry hf (C_api_Entry t68 A70 c71) [t68] := (RepL.cons (c := (C_api_Entry t68 A70 c71)) (r := []) ⟨_, _, rfl, hr73⟩ RepL.nil)
 refine RP.e 10 rfl (OW.buildSliceR (sz := 19) (cs := (C_api_Entry t68 A70 c71)) hS underlying41 zeroValue79 sizeOf79 (parts := [(0, .tmp 21)]) rfl rfl (by decide) (by decide) (by kernel_rfl)) rfl rfl ?_
 rintro _ w ⟨b74, rfl, hS⟩
 refine ⟨kp ⟨fun _ => (St.down hS.d0 hs72), trivial⟩, ?_⟩
 obtain ⟨hq78, h⟩ := h.req
 obtain ⟨hf, hs76, hS, hr77⟩ := St.promoteR R_api_Entry_ok hS rfl hx75
 refine RP.e 11 rfl (OW.appendR (R := R_api_Entry) R_api_Entry_ok (xs := a8) (ys := [t68]) 6 hS rfl underlying41 type79 rfl rfl rfl rfl (by decide) (by decide) ((hx12.mono hs72).mono hs76) rfl rfl hr77 hq78 rfl) rfl rfl ?_
 rintro _ w ⟨cs81, hx82, hS⟩
 obtain ⟨A79, c80, rfl, _⟩ := hS.osShape 0 rfl
 have hS : St B w (_ :: _ :: _ :: _ :: _ :: _ :: _ :: l) hf := hS
 refine ⟨kp ⟨(by intro hx; cases hx), trivial⟩, ?_⟩
 refine RP.e0 12 rfl (OW.store (vs := [.slice A79 (a8 ++ ([t68])).length c80]) 6 hS rfl rfl rfl rfl sizeOf41 rfl rfl rfl rfl) rfl ?_
 rintro _ w ⟨rfl, hS⟩
 have hS : St B w (_ :: _ :: _ :: _ :: _ :: _ :: Cl _ [_] _ :: l) hf := hS
 refine ⟨kp ⟨(by intro hx; cases hx), trivial⟩, ?_⟩
 refine RP.nil (RQ.inB_n ?_)
 have hS := O_log_Log.c (x := a6) ((hr52.mono hs72).mono hs76) ((hr55.mono hs72).mono hs76) ((hx59.mono hs72).mono hs76) hS.p2.p2
 cases h.some
 exact RQ.rn hS.p2 hr3.state hr3.pending fun w hS => ⟨_, (hs72.trans hs76), A79, c80, cs81, rfl, hS.d3.p2, hx82⟩
def log_Log_states_1v2.j23 (a6 : log_Log) (l1251 : List api_Entry) (x1257 : Int) (y1488 : api_State) : Option ((List api_Entry × api_State × Int) ⊕ (List api_Entry × Int)) := ((log_Log_All_round0.f a6 l1251 x1257 y1488).bind fun t1497 => (if 0 ≤ x1257 then ((vm_Run.f a6.w y1488 ((nth a6.l x1257).event)).bind fun (y1523, y1524, y1525) => some (.inl (t1497, y1523, IntKind.i64.wrap (x1257 + 1)))) else none))
def log_Log_states_1v2.l21b (a6 : log_Log) (x971 : Int) : List api_Entry × api_State × Int → Option ((List api_Entry × api_State × Int) ⊕ (List api_Entry × Int))
 | (l1251, y1256, x1257) => (if x1257 < (a6.l.length : Int) then (if 0 ≤ x1257 then (if ((nth a6.l x1257).ahead).has = true then log_Log_states_1v2.j23 a6 l1251 x1257 (((nth a6.l x1257).ahead).val) else log_Log_states_1v2.j23 a6 l1251 x1257 y1256) else none) else some (.inr (l1251, x971)))
def log_Log_states_1v2.l21 (a6 : log_Log) (x971 : Int) (s : List api_Entry × api_State × Int) : Option (List api_Entry × Int) := loopR (log_Log_states_1v2.l21b a6 x971) s
def log_Log_states_1v2.j14 (a6 : log_Log) (a8 : (List api_Entry)) (x971 : Int) : Option (List api_Entry × Int) := log_Log_states_1v2.l21 a6 x971 (a8, (⟨(⟨0, 0, 0, 0, 0, 0, 0, 0⟩ : Arr8xInti64), 0, 0⟩ : api_State), x971)
def log_Log_states_1v2.l24b (a6 : log_Log) (a8 : (List api_Entry)) : Int → Option ((Int) ⊕ (List api_Entry × Int))
 | (x1579) => (if 0 < x1579 then (if 0 ≤ x1579 ∧ x1579 < (a6.l.length : Int) then (if ((nth a6.l x1579).ahead).has = true then (Option.map Sum.inr (log_Log_states_1v2.j14 a6 a8 x1579)) else some (.inl (IntKind.i64.wrap (x1579 - 1)))) else none) else (Option.map Sum.inr (log_Log_states_1v2.j14 a6 a8 x1579)))
def log_Log_states_1v2.l24 (a6 : log_Log) (a8 : (List api_Entry)) (s : Int) : Option (List api_Entry × Int) := loopR (log_Log_states_1v2.l24b a6 a8) s
def log_Log_states_1v2.f (a6 : log_Log) (a8 : (List api_Entry)) (a14 : Int) : Option (List api_Entry × Int) := log_Log_states_1v2.l24 a6 a8 (a14)
theorem log_Log_states_1v2.ok {a6 : log_Log} {a8 : (List api_Entry)} {a14 : Int} {b1 b4 b5 b7 c10 b13 b15 : Nat} {rc2 : Loop} {A9 : Option Addr} {cs11 : List Value} (hx12 : RepL R_api_Entry hf cs11 a8) (hr3 : RecF f47 0 25 [(1, pV b4), (3, pV b7)] rc2) (hG0 : GlobAt hf 0 (.iface 215 (.agg #[.pointer (some ⟨1, 108, none⟩)]))) {r : List api_Entry × Int} (h : log_Log_states_1v2.f a6 a8 a14 = some r) (hS : St B w (pts b1 (.loop rc2) :: O_log_Log hf a6 b5 :: Cl b4 [pV b5] 51 :: Cl b7 [sV A9 a8 c10] 41 :: OSl 79 19 (sV A9 a8 c10) a8.length cs11 :: Cl b13 [iV a14] 3 :: Cl b15 [pV b5] 51 :: l) hf) :
   Calls prog 121 #[.func (.yield b1) #[] #[], pV b13, pV b15] w (Ret fun v w => ∃ hf_ : Hp, Sub hf hf_ ∧ ∃ (A_1 : Option Addr) (c_2 : Nat) (cs_3 : List Value), v = .tuple #[] ∧ St B w (OSl 79 19 (sV A_1 r.1 c_2) r.1.length cs_3 :: pts b1 (.loop rc2) :: O_log_Log hf_ a6 b5 :: Cl b4 [pV b5] 51 :: Cl b7 [sV A_1 r.1 c_2] 41 :: Cl b13 [iV r.2] 3 :: Cl b15 [pV b5] 51 :: l) hf_ ∧ RepL R_api_Entry hf_ cs_3 r.1) := by
 have h := Holds.of h
 refine en func121 rfl ntmps121 rfl ?_
 refine RC.join (fun (s : Int) a w => ∃ x971, s = (x971) ∧ Holds (· = r) (log_Log_states_1v2.j14 a6 a8 x971) ∧ Has 68 [(0, .func (.yield b1) #[] #[]), (1, pV b13), (2, pV b15)] a ∧ St B w (OSl 79 19 (sV A9 a8 c10) a8.length cs11 :: O_log_Log hf a6 b5 :: pts b1 (.loop rc2) :: Cl b4 [pV b5] 51 :: Cl b7 [sV A9 a8 c10] 41 :: Cl b13 [iV x971] 3 :: Cl b15 [pV b5] 51 :: l) hf) ?_ ?_
 · rintro x971 a w ⟨_, rfl, h, ha, hS⟩
   refine ro ha (sr (rr [0] hS ?_))
   refine fun b972 => it fun w hS => lnsr (rr [7, 0] hS ?_)
   refine it fun w hS => ln (RC.block (fun a ha => lp h (fun (s : List api_Entry × api_State × Int) a w => ∃ l1251 y1256 x1257, s = (l1251, y1256, x1257) ∧ ∃ hf_, Sub hf hf_ ∧ ∃ A1252 c1253 cs1254, Has 68 [(0, .func (.yield b1) #[] #[]), (2, pV b15), (4, pV b972), (5, iV x1257)] a ∧ St B w (OSl 79 19 (sV A1252 l1251 c1253) l1251.length cs1254 :: Cl b972 (C_api_State y1256) 70 :: O_log_Log hf_ a6 b5 :: pts b1 (.loop rc2) :: Cl b4 [pV b5] 51 :: Cl b7 [sV A1252 l1251 c1253] 41 :: Cl b13 [iV x971] 3 :: Cl b15 [pV b5] 51 :: l) hf_ ∧ RepL R_api_Entry hf_ cs1254 l1251) ⟨_, _, _, rfl, _, (Sub.refl _), _, _, _, ha.tE rfl, hS.p1, hx12⟩ ?_))
   rintro G1400 _ a w ⟨l1251, y1256, x1257, rfl, hf, hs1108, A1252, c1253, cs1254, ha, hS, hx1255⟩ h
   refine ro ha (RC.seq (sr (rr [0, 8, 0, 0] hS ?_)))
   refine it fun w hS => ?_
   obtain ⟨A1412, c1413, A1415, c1416, A1418, c1419, cs1420, hr1414, hr1417, hx1421, hS⟩ := O_log_Log.o hS.p2
   refine rr [1, 0, 0] hS ?_
   refine it fun w hS => ln ?_
   refine RC.iteP 29 rfl h (fun hc1422 h => ?_) fun hc1422 h => ?_
   next =>
    refine jt (sk (RC.seq (RC.block ?_)))
    refine RC.join (fun (s : api_State) a w => ∃ y1488, s = (y1488) ∧ Holds (Sum.elim G1400 (· = r)) (log_Log_states_1v2.j23 a6 l1251 x1257 y1488) ∧ Has 68 [(0, .func (.yield b1) #[] #[]), (2, pV b15), (4, pV b972), (5, iV x1257)] a ∧ St B w (OSl 79 19 (sV A1252 l1251 c1253) l1251.length cs1254 :: O_log_Log hf a6 b5 :: Cl b972 (C_api_State y1488) 70 :: pts b1 (.loop rc2) :: Cl b4 [pV b5] 51 :: Cl b7 [sV A1252 l1251 c1253] 41 :: Cl b13 [iV x971] 3 :: Cl b15 [pV b5] 51 :: l) hf) ?_ ?_
    · rintro y1488 a w ⟨_, rfl, h, ha, hS⟩
      refine ro ha (RC.seq (sr (rr [0, 0, 3] hS ?_)))
      refine it fun w hS => yc (fun _ hg1498 => log_Log_All_round0.ok hx1255 hr3 hg1498 hS.p5.p5.p3.p5) rfl h rfl rfl rfl rfl ?_
      intro t1497 h
      rintro _ w ⟨hf, hs1503, A1499, c1500, cs1501, rfl, hS, hx1502⟩
      have hS : St B w (_ :: _ :: _ :: _ :: _ :: _ :: _ :: _ :: l) hf := hS
      refine pn 1 rfl (ln (jfs ?_))
      obtain ⟨A1504, c1505, A1507, c1508, A1510, c1511, cs1512, hr1506, hr1509, hx1513, hS⟩ := O_log_Log.o hS.p2
      refine dr [1, 3, 6, 10, 13, 16, 18, 21, 25, 27, 31, 33, 37, 41, 42, 45, 48, 51, 56] [18] hS fun w hS => rq [9, 0, 0, 1, 7, 9, 0, 0, 1, 0] hS ?_
      refine it ?_
      obtain ⟨hq1514, h⟩ := h.req
      refine RP.s 0 10 rfl rfl hS (fun w hS => Vl.indexOwn 1 hS rfl underlying148 sizeOf176 rfl rfl hq1514 hc1422) rfl (RP.s0 11 rfl (fun w => Vl.fieldAddr (a'' := (ad A1510).add (x1257.toNat * 10 + 0)) underlying176 rfl sizeOf48 rfl (add_add _ _ _)) rfl ?_)
      obtain ⟨_, ⟨A1516, c1517, b1519, rfl, hr1518, hr1520⟩, hl1515⟩ := RepL.elem R_log_done_ok hx1513 hq1514 hc1422
      refine RP.s 0 12 rfl rfl hS (fun w hS => Vl.loadA (vs := (C_api_Message ((nth a6.l x1257).event))) isAgg48 sizeOf48 rfl rfl (hS.elemCells 1 rfl hl1515 (off := 0) rfl)) rfl ?_
      obtain ⟨t1521, hg1522, h⟩ := h.bind
      have hc := vm_Run.ok hr1506 hr1509 ((hG0.mono hs1108).mono hs1503) hg1522 hS
      obtain ⟨y1523, y1524, y1525⟩ := t1521
      refine RP.e 13 rfl (OW.callF (ls := [.tmp 54, .tmp 55, .tmp 63]) rfl call122 hc) rfl rfl ?_
      rintro _ w ⟨A1526, c1527, rfl, hS⟩
      refine ⟨kp ⟨fun _ => hS.d0, trivial⟩, ?_⟩
      refine pp 4 rfl (RP.e0 18 rfl (OW.store (vs := (C_api_State y1523)) 7 hS rfl rfl rfl rfl sizeOf70 rfl rfl rfl rfl) rfl ?_)
      rintro _ w ⟨rfl, hS⟩
      have hS : St B w (_ :: _ :: _ :: _ :: _ :: _ :: _ :: Cl _ [_, _, _, _, _, _, _, _, _, _] _ :: _ :: _ :: l) hf := hS
      refine ⟨kp ⟨(by intro hx; cases hx), trivial⟩, ?_⟩
      refine RP.nil (RQ.inB_n (RQ.then_n (RC.region (pn 3 rfl (RL.nil ?_)))))
      have hS := O_log_Log.c (x := a6) hr1506 hr1509 hx1513 hS.p2.p2
      exact fun a ha => ⟨_, h.some, _, _, _, rfl, _, (hs1108.trans hs1503), _, _, _, ha.tE rfl, hS.d1.p5.p2, hx1502⟩
    refine sr (rr [9, 0, 0, 1, 0] hS ?_)
    refine it fun w hS => ?_
    obtain ⟨hq1528, h⟩ := h.req
    refine RL.s (Vl.indexOwn 1 hS rfl underlying148 sizeOf176 rfl rfl hq1528 hc1422) rfl (RL.s (Vl.fieldAddr (a'' := (ad A1418).add (x1257.toNat * 10 + 9)) underlying176 rfl sizeOf174 rfl (add_add _ _ _)) rfl ?_)
    obtain ⟨_, ⟨A1530, c1531, b1533, rfl, hr1532, hr1534⟩, hl1529⟩ := RepL.elem R_log_done_ok hx1421 hq1528 hc1422
    refine RL.s (Vl.load isAgg174 rfl (hS.litCell 1 rfl (hl1529 9 _ rfl))) rfl (pn 1 rfl (lnsr (pn 1 rfl (RL.s (Vl.ptNeq (fun b w => by kernel_rfl) (fun w => by kernel_rfl) rfl rfl) rfl (ln ?_)))))
    refine RC.iteB 41 rfl h (fun hc1535 h => ?_) fun hc1535 h => ?_
    next =>
     refine jt (RC.region (pn 1 rfl (RL.s (Vl.nilCheckO hc1535 rfl) rfl (RL.s (Vl.loadA (vs := (C_api_State (((nth a6.l x1257).ahead).val))) isAgg70 sizeOf70 rfl rfl ((hr1534.on hc1535).cells hS.sub)) rfl (rr [4] hS ?_)))))
     refine it fun w hS => RL.nil ?_
     have hS := O_log_Log.c (x := a6) hr1414 hr1417 hx1421 hS
     exact fun a ha => ⟨_, _, rfl, h, ha.tE rfl, hS.p1⟩
    refine jf (RC.skip ?_)
    have hS := O_log_Log.c (x := a6) hr1414 hr1417 hx1421 hS
    exact fun a ha => ⟨_, _, rfl, h, ha.tE rfl, hS.p1⟩
   refine jf (RC.exit (RQ.exitT ?_))
   have h := h.inrS
   refine RQ.exitT (RQ.inB_hit ?_)
   have hS := O_log_Log.c (x := a6) hr1414 hr1417 hx1421 hS
   cases h.some
   exact rtE results121 rfl ⟨_, hs1108, A1252, c1253, cs1254, rfl, hS.d2.p2.p2, hx1255⟩
 refine RC.block (fun a ha => lp h (fun (s : Int) a w => ∃ x1579, s = (x1579) ∧ Has 68 [(0, .func (.yield b1) #[] #[]), (1, pV b13), (2, pV b15)] a ∧ St B w (OSl 79 19 (sV A9 a8 c10) a8.length cs11 :: pts b1 (.loop rc2) :: O_log_Log hf a6 b5 :: Cl b4 [pV b5] 51 :: Cl b7 [sV A9 a8 c10] 41 :: Cl b13 [iV x1579] 3 :: Cl b15 [pV b5] 51 :: l) hf) ⟨_, rfl, ha.tE rfl, hS.p4⟩ ?_)
 rintro G1623 x1579 a w ⟨_, rfl, ha, hS⟩ h
 refine ro ha (RC.seq (RC.seq ?_))
 obtain ⟨A1646, c1647, A1649, c1650, A1652, c1653, cs1654, hr1648, hr1651, hx1655, hS⟩ := O_log_Log.o hS.p2
 refine dr [1, 3, 6, 10, 12, 15, 19, 23, 26, 29, 32, 35, 38] [8, 9, 10, 11, 12] hS fun w hS => rq [7, 0, 0] hS ?_
 refine it ?_
 refine RP.iteP 9 rfl h (fun hc1656 h => ?_) fun hc1656 h => ?_
 next =>
  refine rq [8, 0, 0, 1, 7] hS ?_
  refine it ?_
  obtain ⟨⟨hq1657, hq1658⟩, h⟩ := h.req
  refine RP.v1 8 rfl (Vl.indexOwn 1 hS rfl underlying148 sizeOf176 rfl rfl hq1657 hq1658) rfl rfl (RP.v1 9 rfl (Vl.fieldAddr (a'' := (ad A1652).add (x1579.toNat * 10 + 9)) underlying176 rfl sizeOf174 rfl (add_add _ _ _)) rfl rfl ?_)
  obtain ⟨_, ⟨A1660, c1661, b1663, rfl, hr1662, hr1664⟩, hl1659⟩ := RepL.elem R_log_done_ok hx1655 hq1657 hq1658
  refine RP.v1 10 rfl (Vl.load isAgg174 rfl (hS.litCell 1 rfl (hl1659 9 _ rfl))) rfl rfl (RP.v1 11 rfl (Vl.ptEql (fun b w => by kernel_rfl) (fun w => by kernel_rfl) rfl rfl) rfl rfl (rq [0] hS ?_))
  refine it (RP.nil (RQ.then_n ?_))
  refine RC.iteM 19 rfl h (fun hc1665 h => ?_) fun hc1665 h => ?_
  next =>
   refine jf (RC.exit (RQ.exitT ?_))
   have h := h.inr
   refine RQ.exitT (RQ.inB_hit ?_)
   have hS := O_log_Log.c (x := a6) hr1648 hr1651 hx1655 hS
   exact fun a ha => ⟨_, _, rfl, h, ha.tE rfl, hS.p1⟩
  refine jt (sk (RC.block (RC.region (rr [7, 0, 7] hS ?_))))
  refine it fun w hS => RL.nil (RQ.inB_n ?_)
  have hS := O_log_Log.c (x := a6) hr1648 hr1651 hx1655 hS
  exact fun a ha => ⟨_, h.some, _, rfl, ha.tE rfl, hS.p2.p2⟩
 refine rq [0, 0, 0, 0, 0, 0, 0, 0, 0, 0] hS ?_
 refine it (RP.nil (RQ.then_n (jf (RC.exit (RQ.exitT ?_)))))
 have h := h.inr
 refine RQ.exitT (RQ.inB_hit ?_)
 have hS := O_log_Log.c (x := a6) hr1648 hr1651 hx1655 hS
 exact fun a ha => ⟨_, _, rfl, h, ha.tE rfl, hS.p1⟩
def log_Log_All.f (a2 : log_Log) : Option (List api_Entry) := ((log_Log_none.f a2).bind fun t50 => (if t50 = true then some ([] : List api_Entry) else ((log_Log_states.f a2 0).bind fun t72 => ((log_Log_states_1v2.f a2 ([] : List api_Entry) t72).bind fun (y82, y83) => some y82))))
theorem log_Log_All.ok {a2 : log_Log} {b1 : Nat} (hG0 : GlobAt hf 0 (.iface 215 (.agg #[.pointer (some ⟨1, 108, none⟩)]))) {r : List api_Entry} (h : log_Log_All.f a2 = some r) (hS : St B w (O_log_Log hf a2 b1 :: l) hf) :
   Calls prog 47 #[pV b1] w (Ret fun v w => ∃ hf_ : Hp, Sub hf hf_ ∧ ∃ (A_1 : Option Addr) (c_2 : Nat) (cs_3 : List Value), v = sV A_1 r c_2 ∧ St B w (OSl 79 19 (sV A_1 r c_2) r.length cs_3 :: O_log_Log hf_ a2 b1 :: l) hf_ ∧ RepL R_api_Entry hf_ cs_3 r) := by
 have h := Holds.of h
 refine enM func47 rfl ntmps47 rfl (sr (rr [0, 0] hS ?_))
 refine fun b46 => it fun w hS => ln (RC.seq (sr (rr [1] hS ?_)))
 refine it fun w hS => cF (fun _ hg => log_Log_none.ok hg hS.p1) call94 h rfl rfl rfl ?_
 rintro t50 h _ w ⟨rfl, hS⟩
 refine ln ?_
 refine RC.iteB 7 rfl h (fun hc52 h => ?_) fun hc52 h => ?_
 next =>
  refine jtr (pn 1 rfl (lr (RQ.ret ?_)))
  have hS := hS.nilSlR 79 19
  cases h.some
  exact rtM0 (vs := [.slice none 0 0]) results47 ⟨rfl, trivial⟩ ⟨_, (Sub.refl _), none, 0, ([]), rfl, hS.d2, RepL.nil⟩
 refine jfs (sr (rr [0] hS ?_))
 refine fun b53 => it fun w hS => ln (RC.seq (sr (rr [3] hS ?_)))
 refine it fun w hS => cF (fun _ hg => log_Log_states.ok hg hS.p1) call95 h rfl rfl rfl ?_
 rintro t72 h _ w ⟨b74, b75, rfl, hS⟩
 refine ln (RC.block ?_)
 have hS := hS.nilSlR 79 19
 have hS : St B w (_ :: _ :: _ :: _ :: _ :: _ :: l) hf := hS
 obtain ⟨t80, hg81, h⟩ := h.bind
 refine RC.rf (args := fun b76 => #[.func (.yield b76) #[] #[], pV b74, pV b75]) rfl call121 rfl hS (fun _ => by simp) (fun b76 d77 rc78 w hr79 hS => log_Log_states_1v2.ok RepL.nil (RecOK.to (M := 25) hr79 rfl rfl ⟨rfl, rfl, trivial⟩) hG0 hg81 hS.p4.p4.p4.p6.p7.p7.p6) ?_
 obtain ⟨y82, y83⟩ := t80
 rintro b76 d77 rc78 _ w hr79 ⟨hf, hs88, A84, c85, cs86, rfl, hS, hx87⟩
 refine RE.n hS.p1 hr79.state hr79.pending fun w hS => RQ.inB_n (tsr (rr [4, 0] hS ?_))
 refine it fun w hS => lr ?_
 obtain rfl := h.some
 exact rtM1 (vs := [sV A84 y82 c85]) results47 hS.p6 fun w hS => ⟨⟨rfl, trivial⟩, ⟨_, hs88, A84, c85, cs86, rfl, hS.d2.d2.d2.d2, hx87⟩⟩
def lane_Lane_Done.f (a2 : lane_Lane) : Option (List api_Entry) := ((lane_Lane_none.f a2).bind fun _ => ((log_Log_All.f a2.log).bind fun t58 => some t58))
theorem lane_Lane_Done.ok {a2 : lane_Lane} {b1 : Nat} (hG0 : GlobAt hf 0 (.iface 215 (.agg #[.pointer (some ⟨1, 108, none⟩)]))) {r : List api_Entry} (h : lane_Lane_Done.f a2 = some r) (hS : St B w (O_lane_Lane hf a2 b1 :: l) hf) :
   Calls prog 14 #[pV b1] w (Ret fun v w => ∃ hf_ : Hp, Sub hf hf_ ∧ ∃ (A_1 : Option Addr) (c_2 : Nat) (cs_3 : List Value), v = sV A_1 r c_2 ∧ St B w (OSl 79 19 (sV A_1 r c_2) r.length cs_3 :: O_lane_Lane hf_ a2 b1 :: l) hf_ ∧ RepL R_api_Entry hf_ cs_3 r) := by
 have h := Holds.of h
 refine en func14 rfl ntmps14 rfl (sr (pn 1 rfl (ln (RC.seq (sr (pn 1 rfl (cF (fun _ hg => lane_Lane_none.ok hg hS) call45 h rfl rfl rfl ?_)))))))
 rintro _ h _ w ⟨rfl, hS⟩
 refine ln (jfs (sr (r0 3 rfl ?_)))
 obtain ⟨A38, c39, A41, c42, A44, c45, A47, c48, b50, b51, A52, c53, A54, c55, b56, b57, hr40, hr43, hr46, hr49, hS⟩ := O_lane_Lane.o hS
 refine rr [1] hS ?_
 refine it fun w hS => cF (fun _ hg => log_Log_All.ok hG0 hg hS.p1) call47 h rfl rfl rfl ?_
 rintro t58 h _ w ⟨hf, hs64, A60, c61, cs62, rfl, hS, hx63⟩
 have hS := O_pend_Pend.l hs64 hS.p3
 refine pn 1 rfl (lr ?_)
 have hS := O_lane_Lane.c (x := a2) (hr40.mono hs64) (hr43.mono hs64) (hr46.mono hs64) (hr49.mono hs64) hS.p7.p7.p7.p7.p4.p6.p7
 obtain rfl := h.some
 exact rt results14 rfl ⟨_, hs64, A60, c61, cs62, rfl, hS.p1, hx63⟩
def isochronlaw17vfind.l4b (a3 : api_Message) (t195 : List api_Entry) : Int → Option ((Int) ⊕ (api_Entry × Bool))
 | (x307) => (if x307 < (t195.length : Int) then (if 0 ≤ x307 then ((event_One.f ((nth t195 x307).Event) a3).bind fun t355 => (if t355 = true then some (.inr ((⟨(⟨((nth t195 x307).Event).Key, ((nth t195 x307).Event).To, ((nth t195 x307).Event).Value, ((nth t195 x307).Event).Uid, (((nth t195 x307).Event).Anti)⟩ : api_Message), (nth t195 x307).Before, (nth t195 x307).Fault, (nth t195 x307).Sent⟩ : api_Entry), true)) else some (.inl (IntKind.i64.wrap (x307 + 1))))) else none) else some (.inr ((⟨(⟨(⟨0, 0, 0⟩ : api_Key), 0, 0, 0, false⟩ : api_Message), (⟨(⟨0, 0, 0, 0, 0, 0, 0, 0⟩ : Arr8xInti64), 0, 0⟩ : api_State), 0, ([] : List api_Message)⟩ : api_Entry), false)))
def isochronlaw17vfind.l4 (a3 : api_Message) (t195 : List api_Entry) (s : Int) : Option (api_Entry × Bool) := loopR (isochronlaw17vfind.l4b a3 t195) s
def isochronlaw17vfind.f (a2 : lane_Lane) (a3 : api_Message) : Option (api_Entry × Bool) := ((lane_Lane_Done.f a2).bind fun t195 => isochronlaw17vfind.l4 a3 t195 (0))
theorem isochronlaw17vfind.ok {a2 : lane_Lane} {a3 : api_Message} {b1 : Nat} (hG0 : GlobAt hf 0 (.iface 215 (.agg #[.pointer (some ⟨1, 108, none⟩)]))) {r : api_Entry × Bool} (h : isochronlaw17vfind.f a2 a3 = some r) (hS : St B w (O_lane_Lane hf a2 b1 :: l) hf) :
   Calls prog 32 #[pV b1, .agg (C_api_Message a3).toArray] w (Ret fun v w => ∃ hf_ : Hp, Sub hf hf_ ∧ ∃ (A_1 : Option Addr) (c_2 : Nat), v = .tuple #[.agg (C_api_Entry r.1 A_1 c_2).toArray, .bool r.2] ∧ St B w (O_lane_Lane hf_ a2 b1 :: l) hf_ ∧ SlR E_api_Message.rep hf_ A_1 c_2 r.1.Sent) := by
 have h := Holds.of h
 refine en func32 rfl ntmps32 rfl (sr (rr [0, 0, 0] hS ?_))
 refine fun b185 b186 => it fun w hS => lnsr (pn 1 rfl (cF (fun _ hg => lane_Lane_Done.ok hG0 hg hS.p2) call14 h rfl rfl rfl ?_))
 rintro t195 h _ w ⟨hf, hs201, A197, c198, cs199, rfl, hS, hx200⟩
 refine pn 1 rfl (ln (RC.seq (sr (pn 1 rfl (ln (RC.block (fun a ha => lp h (fun (s : Int) a w => ∃ x307, s = (x307) ∧ Has 28 [(3, pV b185), (4, pV b186), (6, sV A197 t195 c198), (7, iV x307)] a ∧ St B w (OSl 79 19 (sV A197 t195 c198) t195.length cs199 :: O_lane_Lane hf a2 b1 :: Cl b186 [iV 0, iV 0, iV 0, iV 0, iV 0, iV 0, .bool false, iV 0, iV 0, iV 0, iV 0, iV 0, iV 0, iV 0, iV 0, iV 0, iV 0, iV 0, .slice none 0 0] 79 :: Cl b185 (C_api_Message a3) 48 :: l) hf) ⟨_, rfl, ha.tE rfl, hS⟩ ?_)))))))
 rintro G335 x307 a w ⟨_, rfl, ha, hS⟩ h
 refine ro ha (RC.seq (sr (r0 4 rfl (ln ?_))))
 refine RC.iteP 13 rfl h (fun hc337 h => ?_) fun hc337 h => ?_
 next =>
  refine jt (sk (RC.seq (RC.block (RC.seq (dr [0, 3, 7, 9, 13, 17, 20] [6] hS fun w hS => pp 2 rfl ?_)))))
  obtain ⟨hq350, h⟩ := h.req
  refine RP.s 0 2 rfl rfl hS (fun w hS => Vl.indexOwn 0 hS rfl underlying41 sizeOf79 rfl rfl hq350 hc337) rfl (RP.s0 3 rfl (fun w => Vl.fieldAddr (a'' := (ad A197).add (x307.toNat * 19 + 0)) underlying79 rfl sizeOf48 rfl (add_add _ _ _)) rfl ?_)
  obtain ⟨_, ⟨A352, c353, rfl, hr354⟩, hl351⟩ := RepL.elem R_api_Entry_ok hx200 hq350 hc337
  refine RP.s 0 4 rfl rfl hS (fun w hS => Vl.loadA (vs := (C_api_Message ((nth t195 x307).Event))) isAgg48 sizeOf48 rfl rfl (hS.elemCells 0 rfl hl351 (off := 0) rfl)) rfl (rq [4] hS ?_)
  refine it ?_
  obtain ⟨t355, hg356, h⟩ := h.bind
  have hc := event_One.ok hg356 hS
  refine RP.e 6 rfl (OW.callF (ls := [.tmp 20, .tmp 21]) rfl call31 hc) rfl rfl ?_
  rintro _ w ⟨rfl, hS⟩
  refine ⟨kp ⟨(by intro hx; cases hx), trivial⟩, ?_⟩
  refine RP.nil (RQ.then_n ?_)
  refine RC.iteB 22 rfl h (fun hc357 h => ?_) fun hc357 h => ?_
  next =>
   refine jtr (pn 2 rfl (RL.s (Vl.indexOwn 0 hS rfl underlying41 sizeOf79 rfl rfl hq350 hc337) rfl ?_))
   obtain ⟨_, ⟨A359, c360, rfl, hr361⟩, hl358⟩ := RepL.elem R_api_Entry_ok hx200 hq350 hc337
   refine RL.s (Vl.loadA (vs := (C_api_Entry (nth t195 x307) A359 c360)) isAgg79 sizeOf79 rfl rfl (hS.elemCells 0 rfl hl358 (off := 0) rfl)) rfl (rr [3, 0] hS ?_)
   refine it fun w hS => lr (ir ?_)
   have h := h.inrS
   refine RQ.ret (ir ?_)
   cases h.some
   refine rz [2] results32 hS ?_
   exact it ⟨_, hs201, A359, c360, rfl, hS.d0.d1.d1, hr361⟩
  refine jf (RC.skip (RQ.inB_n (RQ.then_n (RC.region (pn 3 rfl (RL.nil ?_))))))
  exact fun a ha => ⟨_, h.some, _, rfl, ha.tE rfl, hS⟩
 refine jf (RC.exit (RQ.exitT ?_))
 have h := h.inrS
 refine RQ.exitT (RQ.inB_hit (tsr (rr [0, 3, 0] hS ?_)))
 refine it fun w hS => lr ?_
 cases h.some
 refine rz [2] results32 hS ?_
 exact it ⟨_, hs201, none, 0, rfl, hS.d0.d1.d1, SlR.nil⟩
def isochronlaw17vLaneCancels.j17 (a1 : api_Model) (y498 : Int) : Option (Bool) := ((model_Check.f a1).bind fun t507 => (if y498 = t507 then ((isochronlaw17vawake.f).bind fun t510 => some t510) else some false))
def isochronlaw17vLaneCancels.l26b (a11 : api_Message) (t547 y602 y618 : List api_Message) (y620 : lane_Lane) (t680 : List api_Message) : Int → Option ((Int) ⊕ (Bool))
 | (x725) => (if x725 < (t680.length : Int) then (if 0 ≤ x725 then ((event_One.f (nth t680 x725) (⟨(⟨a11.Key.Time, 0, a11.Key.Seq⟩ : api_Key), 0, a11.Value, a11.Uid, false⟩ : api_Message)).bind fun t745 => (if t745 = true then some (.inr false) else some (.inl (IntKind.i64.wrap (x725 + 1))))) else none) else (Option.map Sum.inr ((isochronlaw17vfind.f y620 (⟨(⟨a11.Key.Time, 0, a11.Key.Seq⟩ : api_Key), 0, a11.Value, a11.Uid, false⟩ : api_Message)).bind fun (y760, y761) => (if y761 = true then some false else (if (y618.length : Int) ≤ (y602.length : Int) then (if 0 < (y602.length : Int) then ((isochronlaw17vawake.f).bind fun t770 => some t770) else (if (t680.length : Int) ≤ (t547.length : Int) then ((isochronlaw17vawake.f).bind fun t773 => some t773) else some false)) else some false)))))
def isochronlaw17vLaneCancels.l26 (a11 : api_Message) (t547 y602 y618 : List api_Message) (y620 : lane_Lane) (t680 : List api_Message) (s : Int) : Option (Bool) := loopR (isochronlaw17vLaneCancels.l26b a11 t547 y602 y618 y620 t680) s
def isochronlaw17vLaneCancels.l24b (a11 : api_Message) (t547 y602 y618 : List api_Message) (y620 : lane_Lane) : Int → Option ((Int) ⊕ (Bool))
 | (x661) => (if x661 < (y618.length : Int) then (if 0 ≤ x661 then (if (nth y618 x661).Anti = true then some (.inl (IntKind.i64.wrap (x661 + 1))) else some (.inr false)) else none) else (Option.map Sum.inr ((lane_Lane_Waiting.f y620).bind fun t680 => isochronlaw17vLaneCancels.l26 a11 t547 y602 y618 y620 t680 (0))))
def isochronlaw17vLaneCancels.l24 (a11 : api_Message) (t547 y602 y618 : List api_Message) (y620 : lane_Lane) (s : Int) : Option (Bool) := loopR (isochronlaw17vLaneCancels.l24b a11 t547 y602 y618 y620) s
def isochronlaw17vLaneCancels.l30b (a11 : api_Message) (t547 y786 : List api_Message) (y788 : lane_Lane) (t848 : List api_Message) : Int → Option ((Int) ⊕ (Bool))
 | (x893) => (if x893 < (t848.length : Int) then (if 0 ≤ x893 then ((event_One.f (nth t848 x893) (⟨(⟨a11.Key.Time, 0, a11.Key.Seq⟩ : api_Key), 0, a11.Value, a11.Uid, false⟩ : api_Message)).bind fun t913 => (if t913 = true then some (.inr false) else some (.inl (IntKind.i64.wrap (x893 + 1))))) else none) else (Option.map Sum.inr ((isochronlaw17vfind.f y788 (⟨(⟨a11.Key.Time, 0, a11.Key.Seq⟩ : api_Key), 0, a11.Value, a11.Uid, false⟩ : api_Message)).bind fun (y928, y929) => (if y929 = true then some false else (if (y786.length : Int) ≤ 0 then (if (t848.length : Int) ≤ (t547.length : Int) then ((isochronlaw17vawake.f).bind fun t938 => some t938) else some false) else some false)))))
def isochronlaw17vLaneCancels.l30 (a11 : api_Message) (t547 y786 : List api_Message) (y788 : lane_Lane) (t848 : List api_Message) (s : Int) : Option (Bool) := loopR (isochronlaw17vLaneCancels.l30b a11 t547 y786 y788 t848) s
def isochronlaw17vLaneCancels.l28b (a11 : api_Message) (t547 y786 : List api_Message) (y788 : lane_Lane) : Int → Option ((Int) ⊕ (Bool))
 | (x829) => (if x829 < (y786.length : Int) then (if 0 ≤ x829 then (if (nth y786 x829).Anti = true then some (.inl (IntKind.i64.wrap (x829 + 1))) else some (.inr false)) else none) else (Option.map Sum.inr ((lane_Lane_Waiting.f y788).bind fun t848 => isochronlaw17vLaneCancels.l30 a11 t547 y786 y788 t848 (0))))
def isochronlaw17vLaneCancels.l28 (a11 : api_Message) (t547 y786 : List api_Message) (y788 : lane_Lane) (s : Int) : Option (Bool) := loopR (isochronlaw17vLaneCancels.l28b a11 t547 y786 y788) s
def isochronlaw17vLaneCancels.j22 (a1 : api_Model) (a11 y542 : api_Message) (t547 : List api_Message) (y564 : lane_Lane) (q592 : Bool) : Option (Bool) := (if q592 = true then ((isochronlaw17vroom.f a1 0).bind fun t594 => ((isochronlaw17vdrain.f y564 t594).bind fun (y602, y603) => ((lane_Lane_Get.f y603 y542).bind fun (y618, y619, y620) => (if y619 = 0 then ((lane_Lane_Orphans.f y620).bind fun t631 => (if (t631.length : Int) = 0 then isochronlaw17vLaneCancels.l24 a11 t547 y602 y618 y620 (0) else some false)) else some false)))) else ((lane_Lane_Get.f y564 y542).bind fun (y786, y787, y788) => (if y787 = 0 then ((lane_Lane_Orphans.f y788).bind fun t799 => (if (t799.length : Int) = 0 then isochronlaw17vLaneCancels.l28 a11 t547 y786 y788 (0) else some false)) else some false)))
def isochronlaw17vLaneCancels.j20 (a1 : api_Model) (a11 : api_Message) (a12 a13 : Bool) (y513 : lane_Lane) (y541 y542 : api_Message) : Option (Bool) := ((lane_Lane_Waiting.f y513).bind fun t547 => ((lane_Lane_Get.f y513 y541).bind fun (y562, y563, y564) => (if y563 = 0 then (if a13 = true then isochronlaw17vLaneCancels.j22 a1 a11 y542 t547 y564 (!a12) else isochronlaw17vLaneCancels.j22 a1 a11 y542 t547 y564 false) else (if y563 = 1 then ((event_Check.f (⟨(⟨a11.Key.Time, 0, a11.Key.Seq⟩ : api_Key), 0, a11.Value, a11.Uid, false⟩ : api_Message)).bind fun t942 => some (!decide (t942 = 0))) else some false))))
def isochronlaw17vLaneCancels.j19 (a1 : api_Model) (a11 : api_Message) (a12 a13 : Bool) (y513 : lane_Lane) (q522 : Bool) : Option (Bool) := (if q522 = true then some false else (if 400 < (a1.Starts.length : Int) then ((isochronlaw17vawake.f).bind fun t528 => some t528) else ((event_Twin.f (⟨(⟨a11.Key.Time, 0, a11.Key.Seq⟩ : api_Key), 0, a11.Value, a11.Uid, false⟩ : api_Message)).bind fun t533 => (if a12 = true then isochronlaw17vLaneCancels.j20 a1 a11 a12 a13 y513 t533 (⟨(⟨a11.Key.Time, 0, a11.Key.Seq⟩ : api_Key), 0, a11.Value, a11.Uid, false⟩ : api_Message) else isochronlaw17vLaneCancels.j20 a1 a11 a12 a13 y513 (⟨(⟨a11.Key.Time, 0, a11.Key.Seq⟩ : api_Key), 0, a11.Value, a11.Uid, false⟩ : api_Message) t533))))
def isochronlaw17vLaneCancels.f (a1 : api_Model) (a11 : api_Message) (a12 a13 : Bool) : Option (Bool) := ((isochronlaw17vwide.f).bind fun t494 => ((lane_New.f a1 0 t494).bind fun t496 => match t496 with | .inl y498 => (if y498 = 0 then isochronlaw17vLaneCancels.j17 a1 y498 else isochronlaw17vLaneCancels.j17 a1 y498) | .inr ((y513, y514)) => (if y514 = 0 then isochronlaw17vLaneCancels.j19 a1 a11 a12 a13 y513 false else isochronlaw17vLaneCancels.j19 a1 a11 a12 a13 y513 true)))
theorem isochronlaw17vLaneCancels.ok {a1 : api_Model} {a11 : api_Message} {a12 a13 : Bool} {A2 A5 A8 : Option Addr} {c3 c6 c9 : Nat} (hr4 : SlR (Rep.sl E_api_Instr.rep) hf A2 c3 a1.Progs) (hr7 : SlR E_api_Link.rep hf A5 c6 a1.Links) (hr10 : SlR E_api_Start.rep hf A8 c9 a1.Starts) (hG0 : GlobAt hf 0 (.iface 215 (.agg #[.pointer (some ⟨1, 108, none⟩)]))) {r : Bool} (h : isochronlaw17vLaneCancels.f a1 a11 a12 a13 = some r) (hS : St B w (l) hf) :
   Calls prog 5 #[.agg (C_api_Model a1 A2 c3 A5 c6 A8 c9).toArray, .agg (C_api_Message a11).toArray, .bool a12, .bool a13] w (Ret fun v w => v = .bool r ∧ St B w (l) hf) := by
 have h := Holds.of h
 refine en func5 rfl ntmps5 rfl (sr (rr [0, 0, 0] hS ?_))
 refine fun b482 b483 => it fun w hS => ln (RC.seq (dr [1, 5, 8, 9, 12, 15, 20, 23] [6, 7] hS fun w hS => rq [2] hS ?_))
 refine it ?_
 obtain ⟨t494, hg495, h⟩ := h.bind
 have hc := isochronlaw17vwide.ok hg495 hS
 refine RP.e 1 rfl (OW.callF (ls := []) rfl call9 hc) rfl rfl ?_
 rintro _ w ⟨rfl, hS⟩
 refine ⟨kp ⟨fun _ => hS, trivial⟩, ?_⟩
 obtain ⟨t496, hg497, h⟩ := h.bind
 have hc := lane_New.ok hr4 hr7 hr10 hG0 hg497 hS
 rcases t496 with y498 | ⟨y513, y514⟩
 · refine RP.e 2 rfl (OW.callF (ls := [.tmp 24, .const (iV 0), .tmp 25]) rfl call8 hc) rfl rfl ?_
   rintro _ w ⟨rfl, hS⟩
   refine ⟨kp ⟨fun _ => hS, trivial⟩, ?_⟩
   refine rq [0, 0, 0, 0, 0] hS ?_
   refine it (RP.nil (RQ.then_n (RC.seq ?_)))
   refine RC.join (fun (s : Unit) a w => s = () ∧ Holds (· = r) (isochronlaw17vLaneCancels.j17 a1 y498) ∧ Has 158 [(2, .bool a12), (3, .bool a13), (4, pV b482), (5, pV b483), (9, .pointer none), (10, iV y498), (34, .bool true)] a ∧ St B w (Cl b483 (C_api_Message a11) 48 :: Cl b482 (C_api_Model a1 A2 c3 A5 c6 A8 c9) 27 :: l) hf) ?_ ?_
   · rintro _ a w ⟨rfl, h, ha, hS⟩
     refine ro ha (jtr (pn 1 rfl (RL.s (Vl.bn true rfl rfl) rfl (rr [0, 0, 2] hS ?_))))
     refine it fun w hS => cF (fun _ hg => model_Check.ok hr4 hr7 hr10 hG0 hg hS) call10 h rfl rfl rfl ?_
     rintro t507 h _ w ⟨rfl, hS⟩
     refine pn 3 rfl ?_
     refine RL.iteP 43 rfl h (fun hc509 h => ?_) fun hc509 h => ?_
     next =>
      refine cF (fun _ hg => isochronlaw17vawake.ok hG0 hg hS) call11 h rfl rfl rfl ?_
      rintro t510 h _ w ⟨rfl, hS⟩
      refine pn 2 rfl (lr (RQ.ret ?_))
      obtain rfl := h.some
      exact rt results5 rfl ⟨rfl, hS.d0.d0⟩
     refine pn 3 rfl (lr (RQ.ret ?_))
     obtain rfl := h.some
     exact rt results5 rfl ⟨rfl, hS.d0.d0⟩
   refine RC.region (pn 3 rfl ?_)
   refine RL.iteN 31 rfl h (fun hc512 h => ?_) fun hc512 h => ?_
   next =>
    refine pn 1 rfl (RL.sg (Vl.bn true rfl rfl) rfl rfl (pn 1 rfl (RL.nil ?_)))
    exact fun a ha => ⟨_, rfl, h, ha.tE rfl, hS⟩
   refine pn 3 rfl (RL.nil ?_)
   exact fun a ha => ⟨_, rfl, h, ha.tE rfl, hS⟩
 refine RP.e 2 rfl (OW.callF (ls := [.tmp 24, .const (iV 0), .tmp 25]) rfl call8 hc) rfl rfl ?_
 rintro _ w ⟨hf, hs516, b515, rfl, hS⟩
 refine ⟨kp ⟨fun _ => (St.down hS.d0 hs516), trivial⟩, ?_⟩
 refine rq [0, 0, 0, 0, 0] (St.down hS.d0 hs516) ?_
 refine it (RP.nil (RQ.then_n (RC.seq ?_)))
 refine RC.join (fun (s : Bool) a w => ∃ q522, s = (q522) ∧ Holds (· = r) (isochronlaw17vLaneCancels.j19 a1 a11 a12 a13 y513 q522) ∧ Has 158 [(2, .bool a12), (3, .bool a13), (4, pV b482), (5, pV b483), (9, pV b515), (10, iV y514), (34, .bool q522)] a ∧ St B w (O_lane_Lane hf y513 b515 :: Cl b483 (C_api_Message a11) 48 :: Cl b482 (C_api_Model a1 A2 c3 A5 c6 A8 c9) 27 :: l) hf) ?_ ?_
 · rintro q522 a w ⟨_, rfl, h, ha, hS⟩
   refine ro ha ?_
   refine RC.iteB 34 rfl h (fun hc523 h => ?_) fun hc523 h => ?_
   next =>
    refine jtr (pn 1 rfl (RL.s (Vl.bn false rfl rfl) rfl (pn 10 rfl (lr (RQ.ret ?_)))))
    obtain rfl := h.some
    exact rt results5 rfl ⟨rfl, (hS.d0.d0.d0).down hs516⟩
   refine jfs (RC.seq (sr (rr [0, 3, 0, 0] hS ?_)))
   refine it fun w hS => ln ?_
   refine RC.iteP 49 rfl h (fun hc527 h => ?_) fun hc527 h => ?_
   next =>
    refine jtr (cF (fun _ hg => isochronlaw17vawake.ok (hG0.mono hs516) hg hS) call11 h rfl rfl rfl ?_)
    rintro t528 h _ w ⟨rfl, hS⟩
    refine pn 1 rfl (lr (RQ.ret ?_))
    obtain rfl := h.some
    exact rt results5 rfl ⟨rfl, (hS.d0.d0.d0).down hs516⟩
   refine jfs (sr (rr [0, 2] hS ?_))
   refine it fun w hS => lnsr (rr [0, 2] hS ?_)
   refine it fun w hS => lnsr (rr [0, 0, 2] hS ?_)
   refine it fun w hS => ?_
   refine lnsr (rr [2] hS ?_)
   refine it fun w hS => cF (fun _ hg => event_Twin.ok hg hS) call28 h rfl rfl rfl ?_
   rintro t533 h _ w ⟨rfl, hS⟩
   refine rr [0, 1] hS ?_
   refine fun b535 => it fun w hS => lnsr (rr [3, 0, 1] hS ?_)
   refine fun b537 => it fun w hS => lnsr (rr [2, 0, 1] hS ?_)
   refine fun b539 => it fun w hS => ln ?_
   refine RC.join (fun (s : api_Message × api_Message) a w => ∃ y541 y542, s = (y541, y542) ∧ Holds (· = r) (isochronlaw17vLaneCancels.j20 a1 a11 a12 a13 y513 y541 y542) ∧ Has 158 [(2, .bool a12), (3, .bool a13), (4, pV b482), (5, pV b483), (9, pV b515), (12, pV b537), (13, pV b539)] a ∧ St B w (Cl b539 (C_api_Message y542) 48 :: Cl b537 (C_api_Message y541) 48 :: O_lane_Lane hf y513 b515 :: Cl b483 [iV a11.Key.Time, iV 0, iV a11.Key.Seq, iV 0, iV a11.Value, iV a11.Uid, .bool false] 48 :: Cl b482 (C_api_Model a1 A2 c3 A5 c6 A8 c9) 27 :: l) hf) ?_ ?_
   · rintro _ a w ⟨y541, y542, rfl, h, ha, hS⟩
     refine ro ha (sr (pn 1 rfl (cF (fun _ hg => lane_Lane_Waiting.ok hg hS.p2) call13 h rfl rfl rfl ?_)))
     rintro t547 h _ w ⟨A549, c550, rfl, hS⟩
     refine r0 2 rfl (lnsr (rr [0, 4] hS ?_))
     refine it fun w hS => cF (fun _ hg => lane_Lane_Get.ok (hG0.mono hs516) hg hS.p1) call17 h rfl rfl rfl ?_
     rintro ⟨y562, y563, y564⟩ h _ w ⟨hf, hs567, A565, c566, rfl, hS⟩
     refine pn 4 rfl (ln (RC.seq (sr (pn 2 rfl (ln ?_)))))
     refine RC.iteN 72 rfl h (fun hc572 h => ?_) fun hc572 h => ?_
     next =>
      refine jfs (sr (pn 1 rfl (ln (RC.seq ?_))))
      refine RC.join (fun (s : Bool) a w => ∃ q592, s = (q592) ∧ Holds (· = r) (isochronlaw17vLaneCancels.j22 a1 a11 y542 t547 y564 q592) ∧ Has 158 [(4, pV b482), (5, pV b483), (9, pV b515), (13, pV b539), (14, iV (t547.length : Int)), (15, iV 0), (84, .bool q592)] a ∧ St B w (O_lane_Lane hf y564 b515 :: Cl b539 (C_api_Message y542) 48 :: Cl b483 [iV a11.Key.Time, iV 0, iV a11.Key.Seq, iV 0, iV a11.Value, iV a11.Uid, .bool false] 48 :: Cl b482 (C_api_Model a1 A2 c3 A5 c6 A8 c9) 27 :: l) hf) ?_ ?_
      · rintro q592 a w ⟨_, rfl, h, ha, hS⟩
        refine ro ha ?_
        refine RC.iteB 84 rfl h (fun hc593 h => ?_) fun hc593 h => ?_
        next =>
         refine jtr (rr [0, 4] hS ?_)
         refine it fun w hS => cF (fun _ hg => isochronlaw17vroom.ok ((hr4.mono hs516).mono hs567) ((hr7.mono hs516).mono hs567) ((hr10.mono hs516).mono hs567) hg hS) call12 h rfl rfl rfl ?_
         rintro t594 h _ w ⟨A596, c597, rfl, hS⟩
         obtain ⟨hf, hs598, hS, hr599⟩ := St.promote hS
         have hS := O_lane_Lane.l hs598 hS
         have hS : St B w (_ :: _ :: _ :: _ :: l) hf := hS
         refine cF (fun _ hg => isochronlaw17vdrain.ok hr599 (((hG0.mono hs516).mono hs567).mono hs598) hg hS) call30 h rfl rfl rfl ?_
         rintro ⟨y602, y603⟩ h _ w ⟨hf, hs606, A604, c605, rfl, hS⟩
         refine pn 1 rfl (ln (RC.region (r0 3 rfl (lnsr (rr [0, 3] hS ?_)))))
         refine it fun w hS => cF (fun _ hg => lane_Lane_Get.ok ((((hG0.mono hs516).mono hs567).mono hs598).mono hs606) hg hS.p1) call17 h rfl rfl rfl ?_
         rintro ⟨y618, y619, y620⟩ h _ w ⟨hf, hs623, A621, c622, rfl, hS⟩
         refine pn 5 rfl (ln (RC.seq (sr (pn 3 rfl ?_))))
         refine RL.iteN 99 rfl h (fun hc630 h => ?_) fun hc630 h => ?_
         next =>
          refine pn 1 rfl (cF (fun _ hg => lane_Lane_Orphans.ok hg hS.p1) call26 h rfl rfl rfl ?_)
          rintro t631 h _ w ⟨A633, c634, rfl, hS⟩
          refine r0 3 rfl (ln ?_)
          refine RC.iteN 104 rfl h (fun hc635 h => ?_) fun hc635 h => ?_
          next =>
           refine jfs (RC.seq (sr (pn 1 rfl (ln (RC.block (fun a ha => lp h (fun (s : Int) a w => ∃ x661, s = (x661) ∧ Has 158 [(5, pV b483), (9, pV b515), (14, iV (t547.length : Int)), (15, iV (y602.length : Int)), (17, sV A621 y618 c622), (18, iV x661)] a ∧ St B w (OSf E_api_Message 48 (sV A621 y618 c622) y618 :: O_lane_Lane hf y620 b515 :: Cl b483 [iV a11.Key.Time, iV 0, iV a11.Key.Seq, iV 0, iV a11.Value, iV a11.Uid, .bool false] 48 :: l) hf) ⟨_, rfl, ha.tE rfl, hS.d0.d2.d2.d3.p1⟩ ?_))))))
           rintro G669 x661 a w ⟨_, rfl, ha, hS⟩ h
           refine ro ha (RC.seq (sr (r0 4 rfl (ln ?_))))
           refine RC.iteP 108 rfl h (fun hc671 h => ?_) fun hc671 h => ?_
           next =>
            refine jt (sk (RC.seq (RC.block (sr (pn 2 rfl ?_)))))
            obtain ⟨hq674, h⟩ := h.req
            refine RL.s (Vl.indexOwn 0 hS rfl underlying39 sizeOf48 rfl rfl hq674 hc671) rfl (RL.s (Vl.fieldAddr (a'' := (ad A621).add (x661.toNat * 7 + 6)) underlying48 rfl sizeOf4 rfl (add_add _ _ _)) rfl (RL.s (Vl.load isAgg4 rfl ((hS.slW 0 rfl).2.2.cell (j := 6) hq674 hc671 rfl)) rfl (pn 1 rfl (ln ?_))))
            refine RC.iteM 116 rfl h (fun hc675 h => ?_) fun hc675 h => ?_
            next =>
             refine jf (RC.skip (RQ.inB_n (RQ.then_n (RC.region (pn 3 rfl (RL.nil ?_))))))
             exact fun a ha => ⟨_, h.some, _, rfl, ha.tE rfl, hS⟩
            refine jtr (pn 1 rfl (lr (ir ?_)))
            have h := h.inrS
            refine RQ.ret (ir ?_)
            obtain rfl := h.some
            exact rt results5 rfl ⟨rfl, (hS.d0.d0.d0).down ((((hs516.trans hs567).trans hs598).trans hs606).trans hs623)⟩
           refine jf (RC.exit (RQ.exitT ?_))
           have h := h.inr
           refine RQ.exitT (RQ.inB_hit (tsr (pn 1 rfl (cF (fun _ hg => lane_Lane_Waiting.ok hg hS.p1) call13 h rfl rfl rfl ?_))))
           rintro t680 h _ w ⟨A682, c683, rfl, hS⟩
           refine pn 1 rfl (ln (RC.seq (sr (pn 1 rfl (ln (RC.block (fun a ha => lp h (fun (s : Int) a w => ∃ x725, s = (x725) ∧ Has 158 [(5, pV b483), (9, pV b515), (14, iV (t547.length : Int)), (15, iV (y602.length : Int)), (17, sV A621 y618 c622), (19, sV A682 t680 c683), (20, iV x725)] a ∧ St B w (OSf E_api_Message 48 (sV A621 y618 c622) y618 :: OSf E_api_Message 48 (sV A682 t680 c683) t680 :: O_lane_Lane hf y620 b515 :: Cl b483 [iV a11.Key.Time, iV 0, iV a11.Key.Seq, iV 0, iV a11.Value, iV a11.Uid, .bool false] 48 :: l) hf) ⟨_, rfl, ha.tE rfl, hS.p2⟩ ?_)))))))
           rintro G737 x725 a w ⟨_, rfl, ha, hS⟩ h
           refine ro ha (RC.seq (sr (r0 4 rfl (ln ?_))))
           refine RC.iteP 122 rfl h (fun hc739 h => ?_) fun hc739 h => ?_
           next =>
            refine jt (sk (RC.seq (RC.block (RC.seq (dr [0, 3, 7, 10, 14, 17] [5] hS fun w hS => pp 2 rfl ?_)))))
            obtain ⟨hq744, h⟩ := h.req
            refine RP.s 0 2 rfl rfl hS (fun w hS => Vl.indexOwn 1 hS rfl underlying39 sizeOf48 rfl rfl hq744 hc739) rfl (RP.s 0 3 rfl rfl hS (fun w hS => Vl.loadA isAgg48 sizeOf48 rfl rfl ((hS.slW 1 rfl).2.2.cells hq744 hc739)) rfl (rq [4] hS ?_))
            refine it ?_
            obtain ⟨t745, hg746, h⟩ := h.bind
            have hc := event_One.ok hg746 hS
            refine RP.e 5 rfl (OW.callF (ls := [.tmp 128, .tmp 129]) rfl call31 hc) rfl rfl ?_
            rintro _ w ⟨rfl, hS⟩
            refine ⟨kp ⟨(by intro hx; cases hx), trivial⟩, ?_⟩
            refine RP.nil (RQ.then_n ?_)
            refine RC.iteB 130 rfl h (fun hc747 h => ?_) fun hc747 h => ?_
            next =>
             refine jtr (pn 1 rfl (lr (ir ?_)))
             have h := h.inrS
             refine RQ.ret (ir ?_)
             obtain rfl := h.some
             exact rt results5 rfl ⟨rfl, (hS.d0.d0.d0.d0).down ((((hs516.trans hs567).trans hs598).trans hs606).trans hs623)⟩
            refine jf (RC.skip (RQ.inB_n (RQ.then_n (RC.region (pn 3 rfl (RL.nil ?_))))))
            exact fun a ha => ⟨_, h.some, _, rfl, ha.tE rfl, hS⟩
           refine jf (RC.exit (RQ.exitT ?_))
           have h := h.inr
           refine RQ.exitT (RQ.inB_hit (tsr (rr [0, 4] hS ?_)))
           refine it fun w hS => cF (fun _ hg => isochronlaw17vfind.ok (((((hG0.mono hs516).mono hs567).mono hs598).mono hs606).mono hs623) hg hS.p2) call32 h rfl rfl rfl ?_
           rintro ⟨y760, y761⟩ h _ w ⟨hf, hs765, A762, c763, rfl, hS, hr764⟩
           refine rr [0, 0, 0, 0, 1, 0] hS ?_
           refine fun b766 => it fun w hS => lnsr (pn 3 rfl ?_)
           refine RL.iteM 139 rfl h (fun hc767 h => ?_) fun hc767 h => ?_
           next =>
            refine pn 19 rfl (lr ?_)
            obtain rfl := h.some
            exact rt results5 rfl ⟨rfl, (hS.d0.d0.d0.d0.d0).down (((((hs516.trans hs567).trans hs598).trans hs606).trans hs623).trans hs765)⟩
           refine r0 6 rfl ?_
           refine RL.iteP 145 rfl h (fun hc768 h => ?_) fun hc768 h => ?_
           next =>
            refine pn 3 rfl ?_
            refine RL.iteP 148 rfl h (fun hc769 h => ?_) fun hc769 h => ?_
            next =>
             refine pn 7 rfl (cF (fun _ hg => isochronlaw17vawake.ok ((((((hG0.mono hs516).mono hs567).mono hs598).mono hs606).mono hs623).mono hs765) hg hS) call11 h rfl rfl rfl ?_)
             rintro t770 h _ w ⟨rfl, hS⟩
             refine pn 2 rfl (lr ?_)
             obtain rfl := h.some
             exact rt results5 rfl ⟨rfl, (hS.d0.d0.d0.d0.d0).down (((((hs516.trans hs567).trans hs598).trans hs606).trans hs623).trans hs765)⟩
            refine r0 7 rfl ?_
            refine RL.iteP 155 rfl h (fun hc772 h => ?_) fun hc772 h => ?_
            next =>
             refine cF (fun _ hg => isochronlaw17vawake.ok ((((((hG0.mono hs516).mono hs567).mono hs598).mono hs606).mono hs623).mono hs765) hg hS) call11 h rfl rfl rfl ?_
             rintro t773 h _ w ⟨rfl, hS⟩
             refine pn 2 rfl (lr ?_)
             obtain rfl := h.some
             exact rt results5 rfl ⟨rfl, (hS.d0.d0.d0.d0.d0).down (((((hs516.trans hs567).trans hs598).trans hs606).trans hs623).trans hs765)⟩
            refine pn 3 rfl (lr ?_)
            obtain rfl := h.some
            exact rt results5 rfl ⟨rfl, (hS.d0.d0.d0.d0.d0).down (((((hs516.trans hs567).trans hs598).trans hs606).trans hs623).trans hs765)⟩
           refine pn 13 rfl (lr ?_)
           obtain rfl := h.some
           exact rt results5 rfl ⟨rfl, (hS.d0.d0.d0.d0.d0).down (((((hs516.trans hs567).trans hs598).trans hs606).trans hs623).trans hs765)⟩
          refine jtr (pn 1 rfl (lr (RQ.ret ?_)))
          obtain rfl := h.some
          exact rt results5 rfl ⟨rfl, (hS.d0.d0.d0.d0.d0.d0.d0).down ((((hs516.trans hs567).trans hs598).trans hs606).trans hs623)⟩
         refine pn 5 rfl (ln (jtr (pn 1 rfl (lr (RQ.ret ?_)))))
         obtain rfl := h.some
         exact rt results5 rfl ⟨rfl, (hS.d0.d0.d0.d0.d0.d0).down ((((hs516.trans hs567).trans hs598).trans hs606).trans hs623)⟩
        refine jfs (sr (rr [0, 2] hS ?_))
        refine it fun w hS => cF (fun _ hg => lane_Lane_Get.ok ((hG0.mono hs516).mono hs567) hg hS) call17 h rfl rfl rfl ?_
        rintro ⟨y786, y787, y788⟩ h _ w ⟨hf, hs791, A789, c790, rfl, hS⟩
        refine pn 5 rfl (ln (RC.seq (sr (pn 3 rfl ?_))))
        refine RL.iteN 99 rfl h (fun hc798 h => ?_) fun hc798 h => ?_
        next =>
         refine pn 1 rfl (cF (fun _ hg => lane_Lane_Orphans.ok hg hS.p1) call26 h rfl rfl rfl ?_)
         rintro t799 h _ w ⟨A801, c802, rfl, hS⟩
         refine r0 3 rfl (ln ?_)
         refine RC.iteN 104 rfl h (fun hc803 h => ?_) fun hc803 h => ?_
         next =>
          refine jfs (RC.seq (sr (pn 1 rfl (ln (RC.block (fun a ha => lp h (fun (s : Int) a w => ∃ x829, s = (x829) ∧ Has 158 [(5, pV b483), (9, pV b515), (14, iV (t547.length : Int)), (15, iV 0), (17, sV A789 y786 c790), (18, iV x829)] a ∧ St B w (OSf E_api_Message 48 (sV A789 y786 c790) y786 :: O_lane_Lane hf y788 b515 :: Cl b483 [iV a11.Key.Time, iV 0, iV a11.Key.Seq, iV 0, iV a11.Value, iV a11.Uid, .bool false] 48 :: l) hf) ⟨_, rfl, ha.tE rfl, hS.d0.d2.d3.p1⟩ ?_))))))
          rintro G837 x829 a w ⟨_, rfl, ha, hS⟩ h
          refine ro ha (RC.seq (sr (r0 4 rfl (ln ?_))))
          refine RC.iteP 108 rfl h (fun hc839 h => ?_) fun hc839 h => ?_
          next =>
           refine jt (sk (RC.seq (RC.block (sr (pn 2 rfl ?_)))))
           obtain ⟨hq842, h⟩ := h.req
           refine RL.s (Vl.indexOwn 0 hS rfl underlying39 sizeOf48 rfl rfl hq842 hc839) rfl (RL.s (Vl.fieldAddr (a'' := (ad A789).add (x829.toNat * 7 + 6)) underlying48 rfl sizeOf4 rfl (add_add _ _ _)) rfl (RL.s (Vl.load isAgg4 rfl ((hS.slW 0 rfl).2.2.cell (j := 6) hq842 hc839 rfl)) rfl (pn 1 rfl (ln ?_))))
           refine RC.iteM 116 rfl h (fun hc843 h => ?_) fun hc843 h => ?_
           next =>
            refine jf (RC.skip (RQ.inB_n (RQ.then_n (RC.region (pn 3 rfl (RL.nil ?_))))))
            exact fun a ha => ⟨_, h.some, _, rfl, ha.tE rfl, hS⟩
           refine jtr (pn 1 rfl (lr (ir ?_)))
           have h := h.inrS
           refine RQ.ret (ir ?_)
           obtain rfl := h.some
           exact rt results5 rfl ⟨rfl, (hS.d0.d0.d0).down ((hs516.trans hs567).trans hs791)⟩
          refine jf (RC.exit (RQ.exitT ?_))
          have h := h.inr
          refine RQ.exitT (RQ.inB_hit (tsr (pn 1 rfl (cF (fun _ hg => lane_Lane_Waiting.ok hg hS.p1) call13 h rfl rfl rfl ?_))))
          rintro t848 h _ w ⟨A850, c851, rfl, hS⟩
          refine pn 1 rfl (ln (RC.seq (sr (pn 1 rfl (ln (RC.block (fun a ha => lp h (fun (s : Int) a w => ∃ x893, s = (x893) ∧ Has 158 [(5, pV b483), (9, pV b515), (14, iV (t547.length : Int)), (15, iV 0), (17, sV A789 y786 c790), (19, sV A850 t848 c851), (20, iV x893)] a ∧ St B w (OSf E_api_Message 48 (sV A789 y786 c790) y786 :: OSf E_api_Message 48 (sV A850 t848 c851) t848 :: O_lane_Lane hf y788 b515 :: Cl b483 [iV a11.Key.Time, iV 0, iV a11.Key.Seq, iV 0, iV a11.Value, iV a11.Uid, .bool false] 48 :: l) hf) ⟨_, rfl, ha.tE rfl, hS.p2⟩ ?_)))))))
          rintro G905 x893 a w ⟨_, rfl, ha, hS⟩ h
          refine ro ha (RC.seq (sr (r0 4 rfl (ln ?_))))
          refine RC.iteP 122 rfl h (fun hc907 h => ?_) fun hc907 h => ?_
          next =>
           refine jt (sk (RC.seq (RC.block (RC.seq (dr [0, 3, 7, 10, 14, 17] [5] hS fun w hS => pp 2 rfl ?_)))))
           obtain ⟨hq912, h⟩ := h.req
           refine RP.s 0 2 rfl rfl hS (fun w hS => Vl.indexOwn 1 hS rfl underlying39 sizeOf48 rfl rfl hq912 hc907) rfl (RP.s 0 3 rfl rfl hS (fun w hS => Vl.loadA isAgg48 sizeOf48 rfl rfl ((hS.slW 1 rfl).2.2.cells hq912 hc907)) rfl (rq [4] hS ?_))
           refine it ?_
           obtain ⟨t913, hg914, h⟩ := h.bind
           have hc := event_One.ok hg914 hS
           refine RP.e 5 rfl (OW.callF (ls := [.tmp 128, .tmp 129]) rfl call31 hc) rfl rfl ?_
           rintro _ w ⟨rfl, hS⟩
           refine ⟨kp ⟨(by intro hx; cases hx), trivial⟩, ?_⟩
           refine RP.nil (RQ.then_n ?_)
           refine RC.iteB 130 rfl h (fun hc915 h => ?_) fun hc915 h => ?_
           next =>
            refine jtr (pn 1 rfl (lr (ir ?_)))
            have h := h.inrS
            refine RQ.ret (ir ?_)
            obtain rfl := h.some
            exact rt results5 rfl ⟨rfl, (hS.d0.d0.d0.d0).down ((hs516.trans hs567).trans hs791)⟩
           refine jf (RC.skip (RQ.inB_n (RQ.then_n (RC.region (pn 3 rfl (RL.nil ?_))))))
           exact fun a ha => ⟨_, h.some, _, rfl, ha.tE rfl, hS⟩
          refine jf (RC.exit (RQ.exitT ?_))
          have h := h.inr
          refine RQ.exitT (RQ.inB_hit (tsr (rr [0, 4] hS ?_)))
          refine it fun w hS => cF (fun _ hg => isochronlaw17vfind.ok (((hG0.mono hs516).mono hs567).mono hs791) hg hS.p2) call32 h rfl rfl rfl ?_
          rintro ⟨y928, y929⟩ h _ w ⟨hf, hs933, A930, c931, rfl, hS, hr932⟩
          refine rr [0, 0, 0, 0, 1, 0] hS ?_
          refine fun b934 => it fun w hS => lnsr (pn 3 rfl ?_)
          refine RL.iteM 139 rfl h (fun hc935 h => ?_) fun hc935 h => ?_
          next =>
           refine pn 19 rfl (lr ?_)
           obtain rfl := h.some
           exact rt results5 rfl ⟨rfl, (hS.d0.d0.d0.d0.d0).down (((hs516.trans hs567).trans hs791).trans hs933)⟩
          refine r0 6 rfl ?_
          refine RL.iteP 145 rfl h (fun hc936 h => ?_) fun hc936 h => ?_
          next =>
           refine r0 10 rfl ?_
           refine RL.iteP 155 rfl h (fun hc937 h => ?_) fun hc937 h => ?_
           next =>
            refine cF (fun _ hg => isochronlaw17vawake.ok ((((hG0.mono hs516).mono hs567).mono hs791).mono hs933) hg hS) call11 h rfl rfl rfl ?_
            rintro t938 h _ w ⟨rfl, hS⟩
            refine pn 2 rfl (lr ?_)
            obtain rfl := h.some
            exact rt results5 rfl ⟨rfl, (hS.d0.d0.d0.d0.d0).down (((hs516.trans hs567).trans hs791).trans hs933)⟩
           refine pn 3 rfl (lr ?_)
           obtain rfl := h.some
           exact rt results5 rfl ⟨rfl, (hS.d0.d0.d0.d0.d0).down (((hs516.trans hs567).trans hs791).trans hs933)⟩
          refine pn 13 rfl (lr ?_)
          obtain rfl := h.some
          exact rt results5 rfl ⟨rfl, (hS.d0.d0.d0.d0.d0).down (((hs516.trans hs567).trans hs791).trans hs933)⟩
         refine jtr (pn 1 rfl (lr (RQ.ret ?_)))
         obtain rfl := h.some
         exact rt results5 rfl ⟨rfl, (hS.d0.d0.d0.d0.d0.d0).down ((hs516.trans hs567).trans hs791)⟩
        refine pn 5 rfl (ln (jtr (pn 1 rfl (lr (RQ.ret ?_)))))
        obtain rfl := h.some
        exact rt results5 rfl ⟨rfl, (hS.d0.d0.d0.d0.d0).down ((hs516.trans hs567).trans hs791)⟩
      refine RC.region (pn 2 rfl ?_)
      refine RL.iteB 81 rfl h (fun hc940 h => ?_) fun hc940 h => ?_
      next =>
       refine pn 3 rfl (RL.nil ?_)
       exact fun a ha => ⟨_, _, rfl, h, ha.tE rfl, hS.d0.d1.d2⟩
      refine pn 3 rfl (RL.nil ?_)
      exact fun a ha => ⟨_, _, rfl, h, ha.tE rfl, hS.d0.d1.d2⟩
     refine jtr (pn 3 rfl ?_)
     refine RL.iteP 75 rfl h (fun hc941 h => ?_) fun hc941 h => ?_
     next =>
      refine rr [6] hS ?_
      refine it fun w hS => cF (fun _ hg => event_Check.ok hg hS) call29 h rfl rfl rfl ?_
      rintro t942 h _ w ⟨rfl, hS⟩
      refine pn 3 rfl (lr (RQ.ret ?_))
      cases h.some
      exact rt results5 rfl ⟨rfl, (hS.d0.d0.d0.d0.d0.d0.d0).down (hs516.trans hs567)⟩
     refine pn 5 rfl (lr (RQ.ret ?_))
     obtain rfl := h.some
     exact rt results5 rfl ⟨rfl, (hS.d0.d0.d0.d0.d0.d0.d0).down (hs516.trans hs567)⟩
   refine sr (pn 1 rfl (ln ?_))
   refine RC.iteB 59 rfl h (fun hc944 h => ?_) fun hc944 h => ?_
   next =>
    refine jtr (rr [3, 2] hS ?_)
    refine it fun w hS => ln (RC.region (rr [5, 1] hS ?_))
    refine it fun w hS => RL.nil ?_
    exact fun a ha => ⟨_, _, _, rfl, h, ha.tE rfl, hS.d2⟩
   refine jf (RC.skip ?_)
   exact fun a ha => ⟨_, _, _, rfl, h, ha.tE rfl, hS.d2⟩
 refine RC.region (pn 3 rfl ?_)
 refine RL.iteN 31 rfl h (fun hc945 h => ?_) fun hc945 h => ?_
 next =>
  refine pn 1 rfl (RL.sg (Vl.bn false rfl rfl) rfl rfl (pn 1 rfl (RL.nil ?_)))
  exact fun a ha => ⟨_, _, rfl, h, ha.tE rfl, hS⟩
 refine pn 3 rfl (RL.nil ?_)
 exact fun a ha => ⟨_, _, rfl, h, ha.tE rfl, hS⟩
end
end Go.Proofs.Gx
