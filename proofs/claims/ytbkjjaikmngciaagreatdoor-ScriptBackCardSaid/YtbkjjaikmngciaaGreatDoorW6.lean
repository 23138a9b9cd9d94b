/-
  The walks of functions, each with what it computes: printed by wip/gx.py.
-/
import Derived.Test.YtbkjjaikmngciaaGreatDoorW0
import Derived.Test.YtbkjjaikmngciaaGreatDoorW4
import Derived.Test.YtbkjjaikmngciaaGreatDoorW5
set_option linter.unusedVariables false
set_option linter.unusedSimpArgs false
set_option maxRecDepth 100000
set_option maxHeartbeats 4000000
namespace Go.Proofs.Gx
open Go.Sl Tryz
variable {B : Base} {w : World} {l : List HProp} {hf : Hp}
noncomputable section
def heap_Heap_Push.f (a2 : heap_Heap) (a3 : api_Message) : Option (Int × heap_Heap) := ((heap_Heap_none.f a2).bind fun _ => ((heap_Heap_find.f a2 a3.Key.From a3.Uid).bind fun t54 => (if 0 ≤ t54 then some (8, a2) else (if 16384 ≤ (a2.p_l.length : Int) then some (9, a2) else ((heap_pile_api_Message_push.f a2.p_l a3).bind fun t60 => some (0, (⟨t60⟩ : heap_Heap)))))))
theorem heap_Heap_Push.ok {a2 : heap_Heap} {a3 : api_Message} {b1 : Nat} {r : Int × heap_Heap} (h : heap_Heap_Push.f a2 a3 = some r) (hS : St B w (O_heap_Heap hf a2 b1 :: l) hf) :
    Calls prog 334 #[pV b1, .agg (C_api_Message a3).toArray] w (Ret fun v w => v = iV r.1 ∧ St B w (O_heap_Heap hf r.2 b1 :: l) hf) := by
  have h := Holds.of h
  refine en func334 rfl ntmps334 rfl (sr (rr [0, 0] hS ?_))
  refine fun b35 => it fun w hS => ln (RC.seq (RC.block (sr (pn 1 rfl (cF (fun _ hg => heap_Heap_none.ok hg hS.p1) call335 h rfl rfl rfl ?_)))))
  rintro _ h _ w ⟨rfl, hS⟩
  refine pn 1 rfl (ln (jf (sr (rr [0, 0, 0, 2, 0, 2] hS ?_))))
  refine it fun w hS => cF (fun _ hg => heap_Heap_find.ok hg hS) call337 h rfl rfl rfl ?_
  rintro t54 h _ w ⟨rfl, hS⟩
  refine pn 2 rfl (ln ?_)
  refine RC.iteP 8 rfl h (fun hc56 h => ?_) fun hc56 h => ?_
  next =>
   refine jtr (pn 1 rfl (lr (ir ?_)))
   cases h.some
   exact rt results334 rfl ⟨rfl, hS.d1⟩
  refine jf (sr (r0 4 rfl ?_))
  obtain ⟨A57, c58, hS⟩ := O_heap_Heap.o hS
  refine rr [1, 0, 0, 0] hS ?_
  refine it fun w hS => ln ?_
  refine RC.iteP 17 rfl h (fun hc59 h => ?_) fun hc59 h => ?_
  next =>
   refine jtr (pn 1 rfl (lr (ir ?_)))
   have hS := O_heap_Heap.c (x := a2) hS
   cases h.some
   exact rt results334 rfl ⟨rfl, hS.d1⟩
  refine jf (RC.skip (RQ.inB_n (RQ.then_n (RC.seq (dr [0, 3, 6, 11, 14] [3, 4] hS fun w hS => rq [0, 0, 0, 3] hS ?_)))))
  refine it ?_
  obtain ⟨t60, hg61, h⟩ := h.bind
  have hc := heap_pile_api_Message_push.ok hg61 hS
  refine RP.e 4 rfl (OW.callF (ls := [.tmp 27, .tmp 28]) rfl call339 hc) rfl rfl ?_
  rintro _ w ⟨A62, c63, rfl, hS⟩
  refine ⟨kp ⟨(by intro hx; cases hx), trivial⟩, ?_⟩
  refine RP.nil (tsr (pn 1 rfl (lr ?_)))
  have hS := O_heap_Heap.c (x := (⟨t60⟩ : heap_Heap)) hS.p1
  cases h.some
  exact rt results334 rfl ⟨rfl, hS.d1⟩
def pend_Pend_Push.f (a2 : pend_Pend) (a3 : api_Message) : Option (Int × pend_Pend) := ((pend_Pend_none.f a2).bind fun _ => ((heap_Heap_Push.f a2.q a3).bind fun (y24, y25) => some (y24, (⟨y25⟩ : pend_Pend))))
theorem pend_Pend_Push.ok {a2 : pend_Pend} {a3 : api_Message} {b1 : Nat} {r : Int × pend_Pend} (h : pend_Pend_Push.f a2 a3 = some r) (hS : St B w (O_pend_Pend hf a2 b1 :: l) hf) :
    Calls prog 113 #[pV b1, .agg (C_api_Message a3).toArray] w (Ret fun v w => v = iV r.1 ∧ St B w (O_pend_Pend hf r.2 b1 :: l) hf) := by
  have h := Holds.of h
  refine en func113 rfl ntmps113 rfl (sr (rr [0, 0] hS ?_))
  refine fun b16 => it fun w hS => ln (RC.seq (sr (pn 1 rfl (cF (fun _ hg => pend_Pend_none.ok hg hS.p1) call156 h rfl rfl rfl ?_))))
  rintro _ h _ w ⟨rfl, hS⟩
  refine ln (jfs (RC.seq ?_))
  obtain ⟨b21, hS⟩ := O_pend_Pend.o hS
  refine dr [0, 3, 6, 10, 14, 17, 20] [5, 6] hS fun w hS => rq [0, 0, 0, 1, 3] hS ?_
  refine it ?_
  obtain ⟨t22, hg23, h⟩ := h.bind
  have hc := heap_Heap_Push.ok hg23 hS.p1
  obtain ⟨y24, y25⟩ := t22
  refine RP.e 5 rfl (OW.invoke (F := 334) (u' := pV b21) (ls := [.tmp 11]) rfl rfl (fun w => by kernel_rfl) call334 rfl hc) rfl rfl ?_
  rintro _ w ⟨rfl, hS⟩
  refine ⟨kp ⟨(by intro hx; cases hx), trivial⟩, ?_⟩
  refine RP.v1 6 rfl (Vl.assign rfl) rfl rfl (RP.nil (tr ?_))
  have hS := O_pend_Pend.c (x := (⟨y25⟩ : pend_Pend)) hS.p1
  cases h.some
  exact rt results113 rfl ⟨rfl, hS.d1⟩
def lane_of.f (a1 : api_Message) : Option (lane_sending) := some (⟨a1.Key.From, a1.Uid⟩ : lane_sending)
theorem lane_of.ok {a1 : api_Message} {r : lane_sending} (h : lane_of.f a1 = some r) (hS : St B w (l) hf) :
    Calls prog 114 #[.agg (C_api_Message a1).toArray] w (Ret fun v w => v = .agg #[iV r.from_, iV r.uid] ∧ St B w (l) hf) := by
  have h := Holds.of h
  refine en func114 rfl ntmps114 rfl (sr (rr [0, 0] hS ?_))
  refine fun b4 b5 => it fun w hS => lnsr (rr [0, 0, 2, 0, 2, 0, 1] hS ?_)
  refine it fun w hS => lr ?_
  cases h.some
  refine rz [0] results114 hS ?_
  exact it ⟨rfl, hS.d0.d0⟩
def lane_Lane_hold.f (a2 : lane_Lane) (a3 : api_Message) : Option (lane_Lane) := ((pend_Pend_Push.f a2.wait a3).bind fun (y57, y58) => (if y57 = 0 then ((lane_of.f a3).bind fun t60 => some ({ a2 with wait := y58, held := (mset a2.held t60 true) } : lane_Lane)) else some ({ a2 with wait := y58 } : lane_Lane)))
theorem lane_Lane_hold.ok {a2 r : lane_Lane} {a3 : api_Message} {b1 : Nat} (h : lane_Lane_hold.f a2 a3 = some r) (hS : St B w (O_lane_Lane hf a2 b1 :: l) hf) :
    Calls prog 85 #[pV b1, .agg (C_api_Message a3).toArray] w (Ret fun v w => v = .tuple #[] ∧ St B w (O_lane_Lane hf r b1 :: l) hf) := by
  have h := Holds.of h
  refine en func85 rfl ntmps85 rfl (sr (rr [0] hS ?_))
  refine fun b34 => it fun w hS => ln (RC.seq ?_)
  obtain ⟨A35, c36, A38, c39, A41, c42, A44, c45, b47, b48, A49, c50, A51, c52, b53, b54, hr37, hr40, hr43, hr46, hS⟩ := O_lane_Lane.o hS.p1
  refine dr [0, 3, 6, 10, 14, 17, 20] [5, 6] hS fun w hS => rq [0, 0, 0, 1, 8] hS ?_
  refine it ?_
  obtain ⟨t55, hg56, h⟩ := h.bind
  have hc := pend_Pend_Push.ok hg56 hS.p2
  obtain ⟨y57, y58⟩ := t55
  refine RP.e 5 rfl (OW.callF (ls := [.tmp 7, .tmp 8]) rfl call113 hc) rfl rfl ?_
  rintro _ w ⟨rfl, hS⟩
  refine ⟨kp ⟨(by intro hx; cases hx), trivial⟩, ?_⟩
  refine RP.v1 6 rfl (Vl.int rfl rfl rfl) rfl rfl (RP.nil (RQ.then_n ?_))
  refine RC.iteP 10 rfl h (fun hc59 h => ?_) fun hc59 h => ?_
  next =>
   refine jt (dr [0, 3, 6, 10, 14, 17, 20] [6] hS fun w hS => rq [0, 0, 0, 2, 8] hS ?_)
   refine it ?_
   obtain ⟨t60, hg61, h⟩ := h.bind
   have hc := lane_of.ok hg61 hS
   refine RP.e 5 rfl (OW.callF (ls := [.tmp 15]) rfl call114 hc) rfl rfl ?_
   rintro _ w ⟨rfl, hS⟩
   refine ⟨kp ⟨fun _ => hS, trivial⟩, ?_⟩
   refine RP.e0 6 rfl (OW.mapUpdF (k := t60) (v := true) 6 hS rfl keyok_lane_sending underlying208 rfl rfl rfl rfl) rfl ?_
   rintro _ w ⟨rfl, hS⟩
   have hS : St B w (_ :: _ :: _ :: _ :: _ :: _ :: _ :: _ :: l) hf := hS
   refine ⟨kp ⟨(by intro hx; cases hx), trivial⟩, ?_⟩
   refine RP.nil ?_
   have hS := O_lane_Lane.c (x := ({ a2 with wait := y58, held := (mset a2.held t60 true) } : lane_Lane)) hr37 hr40 hr43 hr46 hS.p6.p6.p6.p4.p6.p6
   cases h.some
   exact rtE results85 rfl ⟨rfl, hS.d1⟩
  refine jf (RC.skip ?_)
  have hS := O_lane_Lane.c (x := ({ a2 with wait := y58 } : lane_Lane)) hr37 hr40 hr43 hr46 hS.p2.p2
  cases h.some
  exact rtE results85 rfl ⟨rfl, hS.d1⟩
def lane_New.j20 (x1039 : Int) (y1063 : lane_Lane) : Option ((lane_Lane × Int) ⊕ ((Int) ⊕ (lane_Lane × Int))) := some (.inl (y1063, IntKind.i64.wrap (x1039 + 1)))
def lane_New.l19b (a11 : Int) (t1019 : List api_Message) : lane_Lane × Int → Option ((lane_Lane × Int) ⊕ ((Int) ⊕ (lane_Lane × Int)))
  | (y1038, x1039) => (if x1039 < (t1019.length : Int) then (if 0 ≤ x1039 then (if (nth t1019 x1039).To = a11 then ((lane_Lane_hold.f y1038 (nth t1019 x1039)).bind fun t1067 => lane_New.j20 x1039 t1067) else lane_New.j20 x1039 y1038) else none) else some (.inr (.inr ((y1038, 0)))))
def lane_New.l19 (a11 : Int) (t1019 : List api_Message) (s : lane_Lane × Int) : Option ((Int) ⊕ (lane_Lane × Int)) := loopR (lane_New.l19b a11 t1019) s
def lane_New.j12 (a1 : api_Model) (a11 : Int) (a12 : api_Caps) (y586 : api_World) (l864 : List Int) : Option ((Int) ⊕ (lane_Lane × Int)) := (if (([] : List api_Link).length + a1.Links.length) * 32 ≤ 140737488355328 then ((log_New.f y586 (⟨(⟨0, 0, 0, 0, 0, 0, 0, 0⟩ : Arr8xInti64), 0, 0⟩ : api_State) 4).bind fun t935 => match t935 with | .inl _ => none | .inr ((y937, y938)) => ((pend_New.f).bind fun (y951, y952) => ((model_Starts.f a1).bind fun t1019 => lane_New.l19 a11 t1019 ((⟨({ a1 with Links := (([] : List api_Link) ++ a1.Links) } : api_Model), a11, a12, l864, y937, y951, ([] : List lane_open), ([] : List api_Message), ([] : List (lane_sending × Int)), ([] : List (lane_sending × Bool)), 0, (⟨2, 4, 0, 1000, 0⟩ : api_Setting), (⟨0, 0, 0, 0⟩ : api_Stats)⟩ : lane_Lane), 0)))) else none)
def lane_New.f (a1 : api_Model) (a11 : Int) (a12 : api_Caps) : Option ((Int) ⊕ (lane_Lane × Int)) := ((model_World.f a1 a11).bind fun (y586, y587) => (if y587 = 0 then (if a12.Link < 1 then some (.inl 1) else (if 1024 < a12.Link then some (.inl 1) else (if (if a12.Log < a12.Wait then a12.Log else a12.Wait) < 1 then some (.inl 1) else (if 4096 < (if a12.Wait < a12.Log then a12.Log else a12.Wait) then some (.inl 1) else ((model_Ways.f a1 a11).bind fun t1069 => ((tune_First.f).bind fun _ => lane_New.j12 a1 a11 a12 y586 t1069)))))) else some (.inl y587)))
theorem lane_New.ok {a1 : api_Model} {a11 : Int} {a12 : api_Caps} {A2 A5 A8 : Option Addr} {c3 c6 c9 : Nat} (hr4 : SlR (Rep.sl E_api_Instr.rep) hf A2 c3 a1.Progs) (hr7 : SlR E_api_Link.rep hf A5 c6 a1.Links) (hr10 : SlR E_api_Start.rep hf A8 c9 a1.Starts) (hG0 : GlobAt hf 0 (.iface 144 (.agg #[.pointer (some ⟨9, 53, none⟩)]))) {r : (Int) ⊕ (lane_Lane × Int)} (h : lane_New.f a1 a11 a12 = some r) (hS : St B w (l) hf) :
    Calls prog 61 #[.agg (C_api_Model a1 A2 c3 A5 c6 A8 c9).toArray, iV a11, .agg (C_api_Caps a12).toArray] w (Ret fun v w => match (generalizing := false) r with | .inl r_ => v = .tuple #[.pointer none, iV r_] ∧ St B w (l) hf | .inr (r_) => ∃ hf_ : Hp, Sub hf hf_ ∧ ∃ (b_1 : Nat), v = .tuple #[pV b_1, iV r_.2] ∧ St B w (O_lane_Lane hf_ r_.1 b_1 :: l) hf_) := by
  have h := Holds.of h
  refine en func61 rfl ntmps61 rfl (sr (rr [0, 0, 0, 0] hS ?_))
  refine fun b573 b574 => it fun w hS => lnsr (rr [2, 0] hS ?_)
  refine it fun w hS => cF (fun _ hg => model_World.ok hr4 hr7 hr10 hG0 hg hS) call80 h rfl rfl rfl ?_
  rintro ⟨y586, y587⟩ h _ w ⟨A588, c589, A590, c591, rfl, hS⟩
  refine rr [0, 0, 0, 0, 1, 0] hS ?_
  refine fun b592 => it fun w hS => ln (RC.seq (sr (pn 2 rfl (ln ?_))))
  refine RC.iteN 20 rfl h (fun hc594 h => ?_) fun hc594 h => ?_
  next =>
   refine jfs (RC.seq (sr (rr [0, 4, 0, 0] hS ?_)))
   refine it fun w hS => RL.iteP 25 rfl h (fun hc599 h => ?_) fun hc599 h => ?_
   next =>
    refine pn 20 rfl (ln (jtr (pn 2 rfl (lr (RQ.ret ?_)))))
    cases h.some
    exact rt results61 rfl ⟨rfl, hS.d0.d0.d0.d0.d0⟩
   refine rr [0, 4, 0, 0, 0] hS ?_
   refine it fun w hS => RL.iteP 30 rfl h (fun hc600 h => ?_) fun hc600 h => ?_
   next =>
    refine pn 15 rfl (ln (jtr (pn 2 rfl (lr (RQ.ret ?_)))))
    cases h.some
    exact rt results61 rfl ⟨rfl, hS.d0.d0.d0.d0.d0⟩
   refine rr [0, 4, 0, 4] hS ?_
   refine it fun w hS => RL.sg (Vl.min2 rfl rfl) rfl rfl (pn 3 rfl ?_)
   refine RL.iteP 38 rfl h (fun hc601 h => ?_) fun hc601 h => ?_
   next =>
    refine pn 7 rfl (ln (jtr (pn 2 rfl (lr (RQ.ret ?_)))))
    cases h.some
    exact rt results61 rfl ⟨rfl, hS.d0.d0.d0.d0.d0⟩
   refine rr [0, 4, 0, 4] hS ?_
   refine it fun w hS => RL.sg (Vl.max2 rfl rfl) rfl rfl (pn 2 rfl (ln ?_))
   refine RC.iteP 45 rfl h (fun hc602 h => ?_) fun hc602 h => ?_
   next =>
    refine jtr (pn 2 rfl (lr (RQ.ret ?_)))
    cases h.some
    exact rt results61 rfl ⟨rfl, hS.d0.d0.d0.d0.d0⟩
   refine jfs (RC.seq (RC.planS (.early 0 0 (.pure 1 (.early 2 0 (.early 3 0 (.pure 4 (.fork3 5 6 7 (.fork3 6 7 8 (.fork 7 8 (.last 8 (.last 9 (.last 10 (.last 11 .nil)))) (.last 7 (.last 9 (.last 10 (.last 11 .nil))))) (.fork 6 8 (.last 8 (.last 9 (.last 10 (.last 11 .nil)))) (.last 6 (.last 9 (.last 10 (.last 11 .nil))))) (.fork 6 7 (.last 7 (.last 9 (.last 10 (.last 11 .nil)))) (.last 6 (.last 9 (.last 10 (.last 11 .nil)))))) (.fork 5 7 (.fork 7 8 (.last 8 (.last 9 (.last 10 (.last 11 .nil)))) (.last 7 (.last 9 (.last 10 (.last 11 .nil))))) (.last 5 (.last 8 (.last 9 (.last 10 (.last 11 .nil)))))) (.fork 5 6 (.fork 6 8 (.last 8 (.last 9 (.last 10 (.last 11 .nil)))) (.last 6 (.last 9 (.last 10 (.last 11 .nil))))) (.last 5 (.last 8 (.last 9 (.last 10 (.last 11 .nil)))))))))))) [9, 10, 11] hS (fun w hS => hS) follows rfl (by kernel_rfl) (NoTmp.then NoTmp.body) fun w hS => rq [5, 0, 4, 5, 0] hS ?_))
   refine it ?_
   refine RP.fj (fun (s : List Int) env w => ∃ l864, s = (l864) ∧ Holds (· = r) (lane_New.j12 a1 a11 a12 y586 l864) ∧ ∃ A865 c866 b867 b868, Ev env [(1, iV a11), (3, pV b573), (8, pV b592), (46, .agg (C_api_Model a1 A2 c3 A5 c6 A8 c9).toArray), (47, iV a11), (48, .agg (C_api_Caps a12).toArray), (51, sV A865 l864 c866), (52, .map (some b867)), (53, .map (some b868)), (54, .agg #[iV 2, iV 4, iV 0, iV 1000, iV 0])] ∧ St B w (OSf E_api_Instr 74 (sV A588 y586.Prog c589) y586.Prog :: OSf E_api_Link 76 (sV A590 y586.Links c591) y586.Links :: OSf (FI .i64) 3 (sV A865 l864 c866) l864 :: Cl b592 (C_api_World y586 A588 c589 A590 c591) 204 :: Cl b573 (C_api_Model a1 A2 c3 A5 c6 A8 c9) 34 :: MapF kv_lane_sending (Value.int .i64) b867 ([] : List (lane_sending × Int)) :: MapF kv_lane_sending Value.bool b868 ([] : List (lane_sending × Bool)) :: Cl b574 (C_api_Caps a12) 36 :: l) hf) (.last 9 (.last 10 (.last 11 .nil))) ?_ fun hk => ?_
   · rintro l864 env w ⟨_, rfl, h, A865, c866, b867, b868, ha, hS⟩
     refine RP.to ha (rq [0] hS.d2.d4.d4.p4.p2.p2.p3 ?_)
     refine it ?_
     obtain ⟨hf, hs869, hS, hr870⟩ := St.promote hS.p2
     refine RP.e 10 rfl (OW.box (cs := [sV A2 a1.Progs c3, sV A5 a1.Links c6, sV A8 a1.Starts c9, .int .u64 a1.Seed, iV a1.End, iV a1.Budget, iV a11, iV a12.Link, iV a12.Wait, iV a12.Log, sV A865 l864 c866, .pointer none, .pointer none, .slice none 0 0, .slice none 0 0, .map (some b867), .map (some b868), iV 0, iV 2, iV 4, iV 0, iV 1000, iV 0, iV 0, iV 0, iV 0, iV 0]) hS rfl rfl) rfl rfl ?_
     rintro _ w ⟨b871, rfl, hS⟩
     refine ⟨kp ⟨(by intro hx; cases hx), trivial⟩, ?_⟩
     refine rq [0] (St.down hS.d0.d4.d4.p4.p2.p2.p3 hs869) ?_
     refine it (RP.nil (tsr (rr [0, 0, 5] hS ?_)))
     refine it fun w hS => ?_
     obtain ⟨hq876, h⟩ := h.req
     have hS := hS.nilSl E_api_Link 76
     refine RL.e (OW.appendV (E := E_api_Link) (xs := ([] : List api_Link)) (ys := a1.Links) 0 hS rfl underlying30 type76 rfl rfl rfl rfl (by decide) (by decide) rfl rfl ((hr7.mono hs869).2.world hS.sub) hq876 rfl) rfl rfl ?_
     rintro v879 w hS
     obtain ⟨A877, c878, rfl, _⟩ := hS.osShape 0 rfl
     have hS : St B w (_ :: _ :: _ :: _ :: _ :: _ :: _ :: _ :: _ :: l) hf := hS
     refine rr [0, 0, 0, 2] hS ?_
     refine it fun w hS => ln (RC.seq (dk [0, 4, 6, 9, 12, 15, 18, 22, 26, 27, 30, 33, 38, 41, 44] [12, 13, 14] hS (fun w hS => hS.d2.d2) fun w hS => rq [0, 3, 0, 0, 0, 0, 0, 2] hS.d2.d2 ?_))
     refine it ?_
     obtain ⟨hf, hs931, hS, hr932⟩ := St.promote hS.p2
     have hS : St B w (_ :: _ :: _ :: _ :: _ :: _ :: _ :: _ :: l) hf := hS
     obtain ⟨hf, hs933, hS, hr934⟩ := St.promote hS.p2
     have hS : St B w (_ :: _ :: _ :: _ :: _ :: _ :: _ :: l) hf := hS
     obtain ⟨t935, hg936, h⟩ := h.bind
     have hc := log_New.ok (hr932.mono hs933) hr934 hg936 hS
     rcases t935 with _ | ⟨y937, y938⟩
     · exact h.none
     refine RP.e 8 rfl (OW.callF (ls := [.tmp 66, .tmp 67, .tmp 72]) rfl call82 hc) rfl rfl ?_
     rintro _ w ⟨hf, hs940, b939, rfl, hS⟩
     refine ⟨kp ⟨fun _ => (St.down hS.d0 ((hs931.trans hs933).trans hs940)), trivial⟩, ?_⟩
     refine rq [0, 0, 0, 0, 0] (St.down hS.d0 ((hs931.trans hs933).trans hs940)) ?_
     refine it (RP.e0 14 rfl (OW.store (vs := [pV b939]) 2 hS rfl rfl rfl rfl sizeOf212 rfl rfl rfl rfl) rfl ?_)
     rintro _ w ⟨rfl, hS⟩
     have hS : St B w (_ :: _ :: Cl _ [_, _, _, _, _, _, _, _, _, _, _, _, _, _, _, _, _, _, _, _, _, _, _, _, _, _, _] _ :: _ :: _ :: _ :: _ :: _ :: l) hf := hS
     refine ⟨kp ⟨(by intro hx; cases hx), trivial⟩, ?_⟩
     refine RP.nil (tsr (rr [0, 0, 0, 0, 0, 3] hS ?_))
     refine it fun w hS => cF (fun _ hg => pend_New.ok hg hS) call83 h rfl rfl rfl ?_
     rintro ⟨y951, y952⟩ h _ w ⟨b953, rfl, hS⟩
     refine rr [0, 0, 0, 0, 0, 4] hS ?_
     refine it fun w hS => ln (RC.seq (sr (rr [6] hS ?_)))
     refine it fun w hS => cF (fun _ hg => model_Starts.ok ((((hr4.mono hs869).mono hs931).mono hs933).mono hs940) ((((hr7.mono hs869).mono hs931).mono hs933).mono hs940) ((((hr10.mono hs869).mono hs931).mono hs933).mono hs940) hg hS) call84 h rfl rfl rfl ?_
     rintro t1019 h _ w ⟨A1021, c1022, rfl, hS⟩
     refine r0 2 rfl (ln (RC.block ?_))
     obtain ⟨hf, hs1023, hS, hr1024⟩ := St.promote hS.p3
     have hS := O_pend_Pend.l hs1023 hS.p1
     have hS := O_log_Log.l hs1023 hS.p2
     have hS := hS.nilSl E_lane_open 316
     have hS := hS.nilSl E_api_Message 226
     have hS := O_lane_Lane.c (x := (⟨({ a1 with Links := (([] : List api_Link) ++ a1.Links) } : api_Model), a11, a12, l864, y937, y951, ([] : List lane_open), ([] : List api_Message), ([] : List (lane_sending × Int)), ([] : List (lane_sending × Bool)), 0, (⟨2, 4, 0, 1000, 0⟩ : api_Setting), (⟨0, 0, 0, 0⟩ : api_Stats)⟩ : lane_Lane)) (((((hr4.mono hs869).mono hs931).mono hs933).mono hs940).mono hs1023) hr1024 (((((hr10.mono hs869).mono hs931).mono hs933).mono hs940).mono hs1023) ((((hr870.mono hs931).mono hs933).mono hs940).mono hs1023) hS.p9.p9.p2.p3.p5.p5.p7
     refine fun a ha => lp h (fun (s : lane_Lane × Int) a w => ∃ y1038 x1039, s = (y1038, x1039) ∧ Has 106 [(1, iV a11), (10, pV b871), (91, sV A1021 t1019 c1022), (92, iV (t1019.length : Int)), (93, iV x1039)] a ∧ St B w (OSf E_api_Message 226 (sV A1021 t1019 c1022) t1019 :: O_lane_Lane hf y1038 b871 :: l) hf) ⟨_, _, rfl, ha.tE rfl, hS.d2.d2.d2.p1⟩ ?_
     rintro G1055 _ a w ⟨y1038, x1039, rfl, ha, hS⟩ h
     refine ro ha (sr (pn 1 rfl (ln (RC.seq ?_))))
     refine RC.iteP 94 rfl h (fun hc1057 h => ?_) fun hc1057 h => ?_
     next =>
      refine jt (sk ?_)
      refine RC.join (fun (s : lane_Lane) a w => ∃ y1063, s = (y1063) ∧ Holds (Sum.elim G1055 (· = r)) (lane_New.j20 x1039 y1063) ∧ Has 106 [(1, iV a11), (10, pV b871), (91, sV A1021 t1019 c1022), (92, iV (t1019.length : Int)), (93, iV x1039)] a ∧ St B w (OSf E_api_Message 226 (sV A1021 t1019 c1022) t1019 :: O_lane_Lane hf y1063 b871 :: l) hf) ?_ ?_
      · rintro y1063 a w ⟨_, rfl, h, ha, hS⟩
        refine ro ha (RC.region (pn 2 rfl (RL.nil ?_)))
        exact fun a ha => ⟨_, h.some, _, _, rfl, ha.tE rfl, hS⟩
      refine RC.block (sr ?_)
      obtain ⟨hq1064, h⟩ := h.req
      refine RL.s (Vl.indexOwn 0 hS rfl underlying215 sizeOf226 rfl rfl hq1064 hc1057) rfl (RL.s (Vl.loadA isAgg226 sizeOf226 rfl rfl ((hS.slW 0 rfl).2.2.cells hq1064 hc1057)) rfl (rr [0, 1] hS ?_))
      refine fun b1065 => it fun w hS => lnsr (rr [0, 1, 0, 0] hS ?_)
      refine it fun w hS => ln ?_
      refine RC.iteP 100 rfl h (fun hc1066 h => ?_) fun hc1066 h => ?_
      next =>
       refine jt (RC.region (rr [0, 1] hS ?_))
       refine it fun w hS => cF (fun _ hg => lane_Lane_hold.ok hg hS.p2) call85 h rfl rfl rfl ?_
       rintro t1067 h _ w ⟨rfl, hS⟩
       refine RL.nil (RQ.inB_n ?_)
       exact fun a ha => ⟨_, _, rfl, h, ha.tE rfl, hS.d1.p1⟩
      refine jf (RC.skip (RQ.inB_n ?_))
      exact fun a ha => ⟨_, _, rfl, h, ha.tE rfl, hS.d0⟩
     refine jf (RC.exit (RQ.exitT ?_))
     have h := h.inrS
     refine RQ.exitT (RQ.inB_hit (tsr (pn 3 rfl (lr ?_))))
     cases h.some
     exact rt results61 rfl ⟨_, ((((hs869.trans hs931).trans hs933).trans hs940).trans hs1023), b871, rfl, hS.d0⟩
   refine RP.fork3 ?_ ?_ ?_
   · obtain ⟨t1069, hg1070, h⟩ := h.bind
     have hc := model_Ways.ok hr4 hr7 hr10 hg1070 hS
     refine RPW.e 5 rfl (OW.callF (ls := [.tmp 49, .tmp 50]) rfl call63 hc) rfl rfl ?_
     rintro _ w ⟨A1071, c1072, rfl, hS⟩
     refine ⟨kp ⟨fun _ => hS.d0, trivial⟩, ?_⟩
     refine RP.fork3 ?_ ?_ ?_
     · refine RPW.e 6 rfl (OW.makeMapF (kv := kv_lane_sending) (vv := (Value.int .i64)) hS) rfl rfl ?_
       rintro _ w ⟨b1073, rfl, hS⟩
       refine ⟨kp ⟨fun _ => hS.d0.d0, trivial⟩, ?_⟩
       refine RP.fork ?_ ?_
       · refine RPW.e 7 rfl (OW.makeMapF (kv := kv_lane_sending) (vv := Value.bool) hS) rfl rfl ?_
         rintro _ w ⟨b1074, rfl, hS⟩
         refine ⟨kp ⟨fun _ => hS.d0.d0.d0, trivial⟩, ?_⟩
         obtain ⟨t1075, hg1076, h⟩ := h.bind
         have hc := tune_First.ok hg1076 hS
         refine RP.e 8 rfl (OW.callF (ls := []) rfl call81 hc) rfl rfl ?_
         rintro _ w ⟨rfl, hS⟩
         refine ⟨kp ⟨fun _ => hS.d0.d0.d0, trivial⟩, ?_⟩
         exact hk _ _ _ ⟨_, rfl, h, _, _, _, _, ⟨rfl, rfl, rfl, rfl, rfl, rfl, rfl, rfl, rfl, rfl, trivial⟩, hS.p1.p7.p4.p4.p6.p6⟩
       · obtain ⟨t1077, hg1078, h⟩ := h.bind
         have hc := tune_First.ok hg1078 hS
         refine RPW.e 8 rfl (OW.callF (ls := []) rfl call81 hc) rfl rfl ?_
         rintro _ w ⟨rfl, hS⟩
         refine ⟨kp ⟨fun _ => hS.d0.d0, trivial⟩, ?_⟩
         refine RP.e 7 rfl (OW.makeMapF (kv := kv_lane_sending) (vv := Value.bool) hS) rfl rfl ?_
         rintro _ w ⟨b1079, rfl, hS⟩
         refine ⟨kp ⟨fun _ => hS.d0.d0.d0, trivial⟩, ?_⟩
         exact hk _ _ _ ⟨_, rfl, h, _, _, _, _, ⟨rfl, rfl, rfl, rfl, rfl, rfl, rfl, rfl, rfl, rfl, trivial⟩, hS.p1.p7.p4.p4.p6.p6⟩
     · refine RPW.e 7 rfl (OW.makeMapF (kv := kv_lane_sending) (vv := Value.bool) hS) rfl rfl ?_
       rintro _ w ⟨b1080, rfl, hS⟩
       refine ⟨kp ⟨fun _ => hS.d0.d0, trivial⟩, ?_⟩
       refine RP.fork ?_ ?_
       · refine RPW.e 6 rfl (OW.makeMapF (kv := kv_lane_sending) (vv := (Value.int .i64)) hS) rfl rfl ?_
         rintro _ w ⟨b1081, rfl, hS⟩
         refine ⟨kp ⟨fun _ => hS.d0.d0.d0, trivial⟩, ?_⟩
         obtain ⟨t1082, hg1083, h⟩ := h.bind
         have hc := tune_First.ok hg1083 hS
         refine RP.e 8 rfl (OW.callF (ls := []) rfl call81 hc) rfl rfl ?_
         rintro _ w ⟨rfl, hS⟩
         refine ⟨kp ⟨fun _ => hS.d0.d0.d0, trivial⟩, ?_⟩
         exact hk _ _ _ ⟨_, rfl, h, _, _, _, _, ⟨rfl, rfl, rfl, rfl, rfl, rfl, rfl, rfl, rfl, rfl, trivial⟩, hS.p7.p4.p4.p6.p6⟩
       · obtain ⟨t1084, hg1085, h⟩ := h.bind
         have hc := tune_First.ok hg1085 hS
         refine RPW.e 8 rfl (OW.callF (ls := []) rfl call81 hc) rfl rfl ?_
         rintro _ w ⟨rfl, hS⟩
         refine ⟨kp ⟨fun _ => hS.d0.d0, trivial⟩, ?_⟩
         refine RP.e 6 rfl (OW.makeMapF (kv := kv_lane_sending) (vv := (Value.int .i64)) hS) rfl rfl ?_
         rintro _ w ⟨b1086, rfl, hS⟩
         refine ⟨kp ⟨fun _ => hS.d0.d0.d0, trivial⟩, ?_⟩
         exact hk _ _ _ ⟨_, rfl, h, _, _, _, _, ⟨rfl, rfl, rfl, rfl, rfl, rfl, rfl, rfl, rfl, rfl, trivial⟩, hS.p7.p4.p4.p6.p6⟩
     · obtain ⟨t1087, hg1088, h⟩ := h.bind
       have hc := tune_First.ok hg1088 hS
       refine RPW.e 8 rfl (OW.callF (ls := []) rfl call81 hc) rfl rfl ?_
       rintro _ w ⟨rfl, hS⟩
       refine ⟨kp ⟨fun _ => hS.d0, trivial⟩, ?_⟩
       refine RP.fork ?_ ?_
       · refine RPW.e 6 rfl (OW.makeMapF (kv := kv_lane_sending) (vv := (Value.int .i64)) hS) rfl rfl ?_
         rintro _ w ⟨b1089, rfl, hS⟩
         refine ⟨kp ⟨fun _ => hS.d0.d0, trivial⟩, ?_⟩
         refine RP.e 7 rfl (OW.makeMapF (kv := kv_lane_sending) (vv := Value.bool) hS) rfl rfl ?_
         rintro _ w ⟨b1090, rfl, hS⟩
         refine ⟨kp ⟨fun _ => hS.d0.d0.d0, trivial⟩, ?_⟩
         exact hk _ _ _ ⟨_, rfl, h, _, _, _, _, ⟨rfl, rfl, rfl, rfl, rfl, rfl, rfl, rfl, rfl, rfl, trivial⟩, hS.p1.p7.p4.p4.p6.p6⟩
       · refine RPW.e 7 rfl (OW.makeMapF (kv := kv_lane_sending) (vv := Value.bool) hS) rfl rfl ?_
         rintro _ w ⟨b1091, rfl, hS⟩
         refine ⟨kp ⟨fun _ => hS.d0.d0, trivial⟩, ?_⟩
         refine RP.e 6 rfl (OW.makeMapF (kv := kv_lane_sending) (vv := (Value.int .i64)) hS) rfl rfl ?_
         rintro _ w ⟨b1092, rfl, hS⟩
         refine ⟨kp ⟨fun _ => hS.d0.d0.d0, trivial⟩, ?_⟩
         exact hk _ _ _ ⟨_, rfl, h, _, _, _, _, ⟨rfl, rfl, rfl, rfl, rfl, rfl, rfl, rfl, rfl, rfl, trivial⟩, hS.p7.p4.p4.p6.p6⟩
   · refine RPW.e 6 rfl (OW.makeMapF (kv := kv_lane_sending) (vv := (Value.int .i64)) hS) rfl rfl ?_
     rintro _ w ⟨b1093, rfl, hS⟩
     refine ⟨kp ⟨fun _ => hS.d0, trivial⟩, ?_⟩
     refine RP.fork ?_ ?_
     · obtain ⟨t1094, hg1095, h⟩ := h.bind
       have hc := model_Ways.ok hr4 hr7 hr10 hg1095 hS
       refine RPW.e 5 rfl (OW.callF (ls := [.tmp 49, .tmp 50]) rfl call63 hc) rfl rfl ?_
       rintro _ w ⟨A1096, c1097, rfl, hS⟩
       refine ⟨kp ⟨fun _ => hS.d0.d0, trivial⟩, ?_⟩
       refine RP.fork ?_ ?_
       · refine RPW.e 7 rfl (OW.makeMapF (kv := kv_lane_sending) (vv := Value.bool) hS) rfl rfl ?_
         rintro _ w ⟨b1098, rfl, hS⟩
         refine ⟨kp ⟨fun _ => hS.d0.d0.d0, trivial⟩, ?_⟩
         obtain ⟨t1099, hg1100, h⟩ := h.bind
         have hc := tune_First.ok hg1100 hS
         refine RP.e 8 rfl (OW.callF (ls := []) rfl call81 hc) rfl rfl ?_
         rintro _ w ⟨rfl, hS⟩
         refine ⟨kp ⟨fun _ => hS.d0.d0.d0, trivial⟩, ?_⟩
         exact hk _ _ _ ⟨_, rfl, h, _, _, _, _, ⟨rfl, rfl, rfl, rfl, rfl, rfl, rfl, rfl, rfl, rfl, trivial⟩, hS.p2.p7.p4.p4.p6.p6⟩
       · obtain ⟨t1101, hg1102, h⟩ := h.bind
         have hc := tune_First.ok hg1102 hS
         refine RPW.e 8 rfl (OW.callF (ls := []) rfl call81 hc) rfl rfl ?_
         rintro _ w ⟨rfl, hS⟩
         refine ⟨kp ⟨fun _ => hS.d0.d0, trivial⟩, ?_⟩
         refine RP.e 7 rfl (OW.makeMapF (kv := kv_lane_sending) (vv := Value.bool) hS) rfl rfl ?_
         rintro _ w ⟨b1103, rfl, hS⟩
         refine ⟨kp ⟨fun _ => hS.d0.d0.d0, trivial⟩, ?_⟩
         exact hk _ _ _ ⟨_, rfl, h, _, _, _, _, ⟨rfl, rfl, rfl, rfl, rfl, rfl, rfl, rfl, rfl, rfl, trivial⟩, hS.p2.p7.p4.p4.p6.p6⟩
     · refine RPW.e 7 rfl (OW.makeMapF (kv := kv_lane_sending) (vv := Value.bool) hS) rfl rfl ?_
       rintro _ w ⟨b1104, rfl, hS⟩
       refine ⟨kp ⟨fun _ => hS.d0.d0, trivial⟩, ?_⟩
       obtain ⟨t1105, hg1106, h⟩ := h.bind
       have hc := model_Ways.ok hr4 hr7 hr10 hg1106 hS
       refine RP.e 5 rfl (OW.callF (ls := [.tmp 49, .tmp 50]) rfl call63 hc) rfl rfl ?_
       rintro _ w ⟨A1107, c1108, rfl, hS⟩
       refine ⟨kp ⟨fun _ => hS.d0.d0.d0, trivial⟩, ?_⟩
       obtain ⟨t1109, hg1110, h⟩ := h.bind
       have hc := tune_First.ok hg1110 hS
       refine RP.e 8 rfl (OW.callF (ls := []) rfl call81 hc) rfl rfl ?_
       rintro _ w ⟨rfl, hS⟩
       refine ⟨kp ⟨fun _ => hS.d0.d0.d0, trivial⟩, ?_⟩
       exact hk _ _ _ ⟨_, rfl, h, _, _, _, _, ⟨rfl, rfl, rfl, rfl, rfl, rfl, rfl, rfl, rfl, rfl, trivial⟩, hS.p2.p7.p4.p3.p6.p6⟩
   · refine RPW.e 7 rfl (OW.makeMapF (kv := kv_lane_sending) (vv := Value.bool) hS) rfl rfl ?_
     rintro _ w ⟨b1111, rfl, hS⟩
     refine ⟨kp ⟨fun _ => hS.d0, trivial⟩, ?_⟩
     refine RP.fork ?_ ?_
     · obtain ⟨t1112, hg1113, h⟩ := h.bind
       have hc := model_Ways.ok hr4 hr7 hr10 hg1113 hS
       refine RPW.e 5 rfl (OW.callF (ls := [.tmp 49, .tmp 50]) rfl call63 hc) rfl rfl ?_
       rintro _ w ⟨A1114, c1115, rfl, hS⟩
       refine ⟨kp ⟨fun _ => hS.d0.d0, trivial⟩, ?_⟩
       refine RP.fork ?_ ?_
       · refine RPW.e 6 rfl (OW.makeMapF (kv := kv_lane_sending) (vv := (Value.int .i64)) hS) rfl rfl ?_
         rintro _ w ⟨b1116, rfl, hS⟩
         refine ⟨kp ⟨fun _ => hS.d0.d0.d0, trivial⟩, ?_⟩
         obtain ⟨t1117, hg1118, h⟩ := h.bind
         have hc := tune_First.ok hg1118 hS
         refine RP.e 8 rfl (OW.callF (ls := []) rfl call81 hc) rfl rfl ?_
         rintro _ w ⟨rfl, hS⟩
         refine ⟨kp ⟨fun _ => hS.d0.d0.d0, trivial⟩, ?_⟩
         exact hk _ _ _ ⟨_, rfl, h, _, _, _, _, ⟨rfl, rfl, rfl, rfl, rfl, rfl, rfl, rfl, rfl, rfl, trivial⟩, hS.p7.p4.p3.p6.p6⟩
       · obtain ⟨t1119, hg1120, h⟩ := h.bind
         have hc := tune_First.ok hg1120 hS
         refine RPW.e 8 rfl (OW.callF (ls := []) rfl call81 hc) rfl rfl ?_
         rintro _ w ⟨rfl, hS⟩
         refine ⟨kp ⟨fun _ => hS.d0.d0, trivial⟩, ?_⟩
         refine RP.e 6 rfl (OW.makeMapF (kv := kv_lane_sending) (vv := (Value.int .i64)) hS) rfl rfl ?_
         rintro _ w ⟨b1121, rfl, hS⟩
         refine ⟨kp ⟨fun _ => hS.d0.d0.d0, trivial⟩, ?_⟩
         exact hk _ _ _ ⟨_, rfl, h, _, _, _, _, ⟨rfl, rfl, rfl, rfl, rfl, rfl, rfl, rfl, rfl, rfl, trivial⟩, hS.p7.p4.p3.p6.p6⟩
     · refine RPW.e 6 rfl (OW.makeMapF (kv := kv_lane_sending) (vv := (Value.int .i64)) hS) rfl rfl ?_
       rintro _ w ⟨b1122, rfl, hS⟩
       refine ⟨kp ⟨fun _ => hS.d0.d0, trivial⟩, ?_⟩
       obtain ⟨t1123, hg1124, h⟩ := h.bind
       have hc := model_Ways.ok hr4 hr7 hr10 hg1124 hS
       refine RP.e 5 rfl (OW.callF (ls := [.tmp 49, .tmp 50]) rfl call63 hc) rfl rfl ?_
       rintro _ w ⟨A1125, c1126, rfl, hS⟩
       refine ⟨kp ⟨fun _ => hS.d0.d0.d0, trivial⟩, ?_⟩
       obtain ⟨t1127, hg1128, h⟩ := h.bind
       have hc := tune_First.ok hg1128 hS
       refine RP.e 8 rfl (OW.callF (ls := []) rfl call81 hc) rfl rfl ?_
       rintro _ w ⟨rfl, hS⟩
       refine ⟨kp ⟨fun _ => hS.d0.d0.d0, trivial⟩, ?_⟩
       exact hk _ _ _ ⟨_, rfl, h, _, _, _, _, ⟨rfl, rfl, rfl, rfl, rfl, rfl, rfl, rfl, rfl, rfl, trivial⟩, hS.p7.p4.p2.p6.p6⟩
  refine jtr (pn 3 rfl (lr (RQ.ret ?_)))
  cases h.some
  exact rt results61 rfl ⟨rfl, hS.d0.d0.d0.d0.d0⟩
def colour_New.f  : Option (colour_Tally) := some (⟨true, 0, (⟨0, 0⟩ : Arr2xInti64), 4611686018427387904⟩ : colour_Tally)
theorem colour_New.ok {r : colour_Tally} (h : colour_New.f = some r) (hS : St B w (l) hf) :
    Calls prog 62 #[] w (Ret fun v w => ∃ (b_1 : Nat), v = pV b_1 ∧ St B w (O_colour_Tally hf r b_1 :: l) hf) := by
  have h := Holds.of h
  refine en func62 rfl ntmps62 rfl (sr (pn 1 rfl (lnsr (rr [0, 0, 0] hS ?_))))
  refine fun b2 => it fun w hS => lr ?_
  have hS := O_colour_Tally.c (x := (⟨true, 0, (⟨0, 0⟩ : Arr2xInti64), 4611686018427387904⟩ : colour_Tally)) hS
  cases h.some
  exact rt results62 rfl ⟨b2, rfl, hS⟩
def model_Into_1.f (a1 : api_Link) (a3 : Int) : Option (Bool) := some (decide (a1.To = a3))
theorem model_Into_1.ok {a1 : api_Link} {a3 : Int} {b2 : Nat} {r : Bool} (h : model_Into_1.f a1 a3 = some r) (hS : St B w (Cl b2 [iV a3] 3 :: l) hf) :
    Calls prog 88 #[.agg (C_api_Link a1).toArray, pV b2] w (Ret fun v w => v = .bool r ∧ St B w (Cl b2 [iV a3] 3 :: l) hf) := by
  have h := Holds.of h
  refine en func88 rfl ntmps88 rfl (sr (rr [0, 0] hS ?_))
  refine fun b5 => it fun w hS => lnsr (rr [0, 1, 2, 0, 0] hS ?_)
  refine it fun w hS => lr ?_
  cases h.some
  exact rt results88 rfl ⟨rfl, hS.d0⟩
def model_places_2.j8 (x131 : Int) (l174 : List Int) : Option ((List Int × Int) ⊕ (List Int)) := some (.inl (l174, IntKind.i64.wrap (x131 + 1)))
def model_places_2.l7b (a1 : api_Model) (a12 : Int) : List Int × Int → Option ((List Int × Int) ⊕ (List Int))
  | (l128, x131) => (if x131 < (a1.Links.length : Int) then (if 0 ≤ x131 then ((model_Into_1.f (nth a1.Links x131) a12).bind fun t179 => (if t179 = true then (if (l128.length + 1) * 8 ≤ 140737488355328 then model_places_2.j8 x131 (l128 ++ ([x131] : List Int)) else none) else model_places_2.j8 x131 l128)) else none) else some (.inr l128))
def model_places_2.l7 (a1 : api_Model) (a12 : Int) (s : List Int × Int) : Option (List Int) := loopR (model_places_2.l7b a1 a12) s
def model_places_2.f (a1 : api_Model) (a12 : Int) : Option (List Int) := model_places_2.l7 a1 a12 ([], 0)
theorem model_places_2.ok {a1 : api_Model} {a12 : Int} {A2 A5 A8 : Option Addr} {c3 c6 c9 b11 : Nat} (hr4 : SlR (Rep.sl E_api_Instr.rep) hf A2 c3 a1.Progs) (hr7 : SlR E_api_Link.rep hf A5 c6 a1.Links) (hr10 : SlR E_api_Start.rep hf A8 c9 a1.Starts) {r : List Int} (h : model_places_2.f a1 a12 = some r) (hS : St B w (Cl b11 [iV a12] 3 :: l) hf) :
    Calls prog 86 #[.agg (C_api_Model a1 A2 c3 A5 c6 A8 c9).toArray, .func (.func 88) #[] #[pV b11]] w (Ret fun v w => ∃ (A_1 : Option Addr) (c_2 : Nat), v = sV A_1 r c_2 ∧ St B w (OSf (FI .i64) 3 (sV A_1 r c_2) r :: Cl b11 [iV a12] 3 :: l) hf) := by
  have h := Holds.of h
  refine en func86 rfl ntmps86 rfl (sr (rr [0, 0] hS ?_))
  refine fun b100 => it fun w hS => lnsr (pn 1 rfl (ln (RC.seq (sr (rr [0, 1, 0, 0] hS ?_)))))
  refine it fun w hS => RL.nil ?_
  refine RQ.then_n (RC.block ?_)
  have hS := hS.nilSl (FI .i64) 3
  refine fun a ha => lp h (fun (s : List Int × Int) a w => ∃ l128 x131, s = (l128, x131) ∧ ∃ A129 c130, Has 25 [(1, .func (.func 88) #[] #[pV b11]), (5, sV A129 l128 c130), (9, sV A5 a1.Links c6), (10, iV (a1.Links.length : Int)), (11, iV x131)] a ∧ St B w (OSf (FI .i64) 3 (sV A129 l128 c130) l128 :: Cl b11 [iV a12] 3 :: l) hf) ⟨_, _, rfl, _, _, ha.tE rfl, hS.d1⟩ ?_
  rintro G161 _ a w ⟨l128, x131, rfl, A129, c130, ha, hS⟩ h
  refine ro ha (sr (pn 1 rfl (ln (RC.seq ?_))))
  refine RC.iteP 12 rfl h (fun hc163 h => ?_) fun hc163 h => ?_
  next =>
   refine jt (sk ?_)
   refine RC.join (fun (s : List Int) a w => ∃ l174, s = (l174) ∧ Holds (Sum.elim G161 (· = r)) (model_places_2.j8 x131 l174) ∧ ∃ A175 c176, Has 25 [(1, .func (.func 88) #[] #[pV b11]), (5, sV A175 l174 c176), (9, sV A5 a1.Links c6), (10, iV (a1.Links.length : Int)), (11, iV x131)] a ∧ St B w (OSf (FI .i64) 3 (sV A175 l174 c176) l174 :: Cl b11 [iV a12] 3 :: l) hf) ?_ ?_
   · rintro l174 a w ⟨_, rfl, h, A175, c176, ha, hS⟩
     refine ro ha (RC.region (pn 2 rfl (RL.nil ?_)))
     exact fun a ha => ⟨_, h.some, _, _, rfl, _, _, ha.tE rfl, hS⟩
   refine RC.block (sr (pn 1 rfl ?_))
   obtain ⟨hq177, h⟩ := h.req
   refine RL.s (Vl.indexAddr underlying30 sizeOf76 rfl rfl ((hr7.2.world hS.sub).adr hq177 hc163) hq177 hc163 rfl) rfl (RL.s (Vl.loadA isAgg76 sizeOf76 rfl rfl ((hr7.2.world hS.sub).cells hq177 hc163)) rfl (rr [0, 0, 1] hS ?_))
   refine fun b178 => it fun w hS => lnsr (rr [0, 1] hS ?_)
   refine it fun w hS => ?_
   obtain ⟨t179, hg180, h⟩ := h.bind
   have hc := model_Into_1.ok hg180 hS.p2
   refine RL.e (OW.call (ls := [.tmp 17]) rfl rfl call88 rfl hc) rfl rfl ?_
   rintro _ w ⟨rfl, hS⟩
   refine ln ?_
   refine RC.iteB 18 rfl h (fun hc181 h => ?_) fun hc181 h => ?_
   next =>
    refine jt (RC.region (pn 2 rfl (RL.e (OW.buildSlice (E := (FI .i64)) (xs := ([x131] : List Int)) (cs := [iV x131]) hS underlying100 zeroValue3 sizeOf3 (parts := [(0, .tmp 20)]) rfl rfl (by decide) (by decide) (by kernel_rfl) rfl) rfl rfl ?_)))
    rintro _ w ⟨b182, rfl, hS⟩
    obtain ⟨hq183, h⟩ := h.req
    refine RL.e (OW.append (E := (FI .i64)) (xs := l128) (ys := ([x131] : List Int)) 3 hS rfl underlying100 type3 rfl rfl rfl rfl (by decide) rfl rfl rfl (hS.slW 0 rfl).2.2.flat (by simp only [maxLen, List.length_cons, List.length_nil] at *; omega) hq183 rfl) rfl rfl ?_
    rintro v186 w hS
    obtain ⟨A184, c185, rfl, _⟩ := hS.osShape 0 rfl
    have hS : St B w (_ :: _ :: _ :: _ :: l) hf := hS
    refine pn 1 rfl (RL.nil (RQ.inB_n ?_))
    exact fun a ha => ⟨_, _, rfl, h, _, _, ha.tE rfl, hS.d1.d2⟩
   refine jf (RC.skip (RQ.inB_n ?_))
   exact fun a ha => ⟨_, _, rfl, h, _, _, ha.tE rfl, hS.d1.p1⟩
  refine jf (RC.exit (RQ.exitT ?_))
  have h := h.inrS
  refine RQ.exitT (RQ.inB_hit (tsr (pn 2 rfl (lr ?_))))
  obtain rfl := h.some
  exact rt results86 rfl ⟨A129, c130, rfl, hS⟩
def model_Into.f (a1 : api_Model) (a11 : Int) : Option (List Int) := ((model_places_2.f a1 a11).bind fun t20 => some t20)
theorem model_Into.ok {a1 : api_Model} {a11 : Int} {A2 A5 A8 : Option Addr} {c3 c6 c9 : Nat} (hr4 : SlR (Rep.sl E_api_Instr.rep) hf A2 c3 a1.Progs) (hr7 : SlR E_api_Link.rep hf A5 c6 a1.Links) (hr10 : SlR E_api_Start.rep hf A8 c9 a1.Starts) {r : List Int} (h : model_Into.f a1 a11 = some r) (hS : St B w (l) hf) :
    Calls prog 64 #[.agg (C_api_Model a1 A2 c3 A5 c6 A8 c9).toArray, iV a11] w (Ret fun v w => ∃ (A_1 : Option Addr) (c_2 : Nat), v = sV A_1 r c_2 ∧ St B w (OSf (FI .i64) 3 (sV A_1 r c_2) r :: l) hf) := by
  have h := Holds.of h
  refine en func64 rfl ntmps64 rfl (sr (rr [0, 0, 0] hS ?_))
  refine fun b18 b19 => it fun w hS => lnsr (rr [2] hS ?_)
  refine it fun w hS => RL.s (Vl.makeFunc (fi := []) (ca := [.tmp 3]) rfl rfl) rfl (cF (fun _ hg => model_places_2.ok hr4 hr7 hr10 hg hS) call86 h rfl rfl rfl ?_)
  rintro t20 h _ w ⟨A22, c23, rfl, hS⟩
  refine pn 1 rfl (lr ?_)
  obtain rfl := h.some
  exact rt results64 rfl ⟨A22, c23, rfl, hS.d1.d1⟩
def clock_New.f (a1 : Int) : Option ((Int) ⊕ (clock_Clocks × Int)) := (if a1 < 0 then some (.inl 1) else (if 1024 < a1 then some (.inl 1) else (if 0 ≤ a1 ∧ a1 * 8 ≤ 140737488355328 then some (.inr (((⟨true, (List.replicate (a1 : Int).toNat 0)⟩ : clock_Clocks), 0))) else none)))
theorem clock_New.ok {a1 : Int} {r : (Int) ⊕ (clock_Clocks × Int)} (h : clock_New.f a1 = some r) (hS : St B w (l) hf) :
    Calls prog 65 #[iV a1] w (Ret fun v w => match (generalizing := false) r with | .inl r_ => v = .tuple #[.pointer none, iV r_] ∧ St B w (l) hf | .inr (r_) => ∃ (b_1 : Nat), v = .tuple #[pV b_1, iV r_.2] ∧ St B w (O_clock_Clocks hf r_.1 b_1 :: l) hf) := by
  have h := Holds.of h
  refine en func65 rfl ntmps65 rfl (sr (pn 2 rfl (ln (RC.seq (sr (pn 3 rfl ?_))))))
  refine RL.iteP 6 rfl h (fun hc12 h => ?_) fun hc12 h => ?_
  next =>
   refine pn 3 rfl (ln (jtr (pn 2 rfl (lr (RQ.ret ?_)))))
   cases h.some
   exact rt results65 rfl ⟨rfl, hS⟩
  refine pn 3 rfl (ln ?_)
  refine RC.iteP 9 rfl h (fun hc13 h => ?_) fun hc13 h => ?_
  next =>
   refine jtr (pn 2 rfl (lr (RQ.ret ?_)))
   cases h.some
   exact rt results65 rfl ⟨rfl, hS⟩
  refine jfs (sr (pn 1 rfl ?_))
  obtain ⟨⟨hq14, hq15⟩, h⟩ := h.req
  refine RL.e (OW.makeN (E := (FI .i64)) (x0 := 0) hS underlying51 type2 rfl rfl rfl rfl (by decide) rfl rfl hq14 (by decide) hq15) rfl rfl ?_
  rintro _ w ⟨b16, rfl, hS⟩
  refine rr [0, 0, 0, 0] hS ?_
  refine fun b17 => it fun w hS => lr ?_
  have hS := O_clock_Clocks.c (x := (⟨true, (List.replicate (a1 : Int).toNat 0)⟩ : clock_Clocks)) hS
  cases h.some
  exact rt results65 rfl ⟨b17, rfl, hS⟩
def link_lane.f (a1 : Int) : Option (Bool) := (if 0 ≤ a1 then some (decide (a1 < 16)) else some false)
theorem link_lane.ok {a1 : Int} {r : Bool} (h : link_lane.f a1 = some r) (hS : St B w (l) hf) :
    Calls prog 89 #[iV a1] w (Ret fun v w => v = .bool r ∧ St B w (l) hf) := by
  have h := Holds.of h
  refine en func89 rfl ntmps89 rfl (sr (pn 1 rfl (lnsr (pn 3 rfl ?_))))
  refine RL.iteP 5 rfl h (fun hc3 h => ?_) fun hc3 h => ?_
  next =>
   refine pn 4 rfl (lr ?_)
   cases h.some
   exact rt results89 rfl ⟨rfl, hS⟩
  refine pn 4 rfl (lr ?_)
  obtain rfl := h.some
  exact rt results89 rfl ⟨rfl, hS⟩
def link_New.f (a1 : api_Link) (a2 : Int) : Option ((Int) ⊕ (link_Way × Int)) := ((link_lane.f a1.From).bind fun t32 => (if t32 = true then ((link_lane.f a1.To).bind fun t35 => (if t35 = true then (if a2 < 1 then some (.inl 1) else (if 1024 < a2 then some (.inl 1) else some (.inr (((⟨a1, a2, ([] : List api_Parcel)⟩ : link_Way), 0))))) else some (.inl 1))) else some (.inl 1)))
theorem link_New.ok {a1 : api_Link} {a2 : Int} {r : (Int) ⊕ (link_Way × Int)} (h : link_New.f a1 a2 = some r) (hS : St B w (l) hf) :
    Calls prog 66 #[.agg (C_api_Link a1).toArray, iV a2] w (Ret fun v w => match (generalizing := false) r with | .inl r_ => v = .tuple #[.pointer none, iV r_] ∧ St B w (l) hf | .inr (r_) => ∃ (b_1 : Nat), v = .tuple #[pV b_1, iV r_.2] ∧ St B w (O_link_Way hf r_.1 b_1 :: l) hf) := by
  have h := Holds.of h
  refine en func66 rfl ntmps66 rfl (sr (rr [0, 0, 0] hS ?_))
  refine fun b23 => it fun w hS => ln (RC.seq (sr (rr [0, 1] hS ?_)))
  refine it fun w hS => cF (fun _ hg => link_lane.ok hg hS) call89 h rfl rfl rfl ?_
  rintro t32 h _ w ⟨rfl, hS⟩
  refine pn 2 rfl ?_
  refine RL.iteM 10 rfl h (fun hc34 h => ?_) fun hc34 h => ?_
  next =>
   refine rr [0, 1] hS ?_
   refine it fun w hS => cF (fun _ hg => link_lane.ok hg hS) call89 h rfl rfl rfl ?_
   rintro t35 h _ w ⟨rfl, hS⟩
   refine pn 3 rfl ?_
   refine RL.iteM 16 rfl h (fun hc37 h => ?_) fun hc37 h => ?_
   next =>
    refine pn 4 rfl ?_
    refine RL.iteP 20 rfl h (fun hc38 h => ?_) fun hc38 h => ?_
    next =>
     refine pn 3 rfl (ln (jtr (pn 2 rfl (lr (RQ.ret ?_)))))
     cases h.some
     exact rt results66 rfl ⟨rfl, hS.d0⟩
    refine pn 3 rfl (ln ?_)
    refine RC.iteP 23 rfl h (fun hc39 h => ?_) fun hc39 h => ?_
    next =>
     refine jtr (pn 2 rfl (lr (RQ.ret ?_)))
     cases h.some
     exact rt results66 rfl ⟨rfl, hS.d0⟩
    refine jfs (sr (rr [1, 0, 0, 0, 0, 0] hS ?_))
    refine fun b40 => it fun w hS => lr ?_
    have hS := hS.nilSl E_api_Parcel 270
    have hS := O_link_Way.c (x := (⟨a1, a2, ([] : List api_Parcel)⟩ : link_Way)) hS.p1
    cases h.some
    exact rt results66 rfl ⟨b40, rfl, hS.d1⟩
   refine pn 7 rfl (ln (jtr (pn 2 rfl (lr (RQ.ret ?_)))))
   cases h.some
   exact rt results66 rfl ⟨rfl, hS.d0⟩
  refine pn 13 rfl (ln (jtr (pn 2 rfl (lr (RQ.ret ?_)))))
  cases h.some
  exact rt results66 rfl ⟨rfl, hS.d0⟩
def colour_NewToken.f (a1 : Int) : Option ((Int) ⊕ (colour_Token × Int)) := (if a1 < 1 then some (.inl 1) else (if 16 < a1 then some (.inl 1) else some (.inr (((⟨a1, 0, false, 0, 4611686018427387904⟩ : colour_Token), 0)))))
theorem colour_NewToken.ok {a1 : Int} {r : (Int) ⊕ (colour_Token × Int)} (h : colour_NewToken.f a1 = some r) (hS : St B w (l) hf) :
    Calls prog 67 #[iV a1] w (Ret fun v w => match (generalizing := false) r with | .inl r_ => v = .tuple #[.pointer none, iV r_] ∧ St B w (l) hf | .inr (r_) => ∃ (b_1 : Nat), v = .tuple #[pV b_1, iV r_.2] ∧ St B w (O_colour_Token hf r_.1 b_1 :: l) hf) := by
  have h := Holds.of h
  refine en func67 rfl ntmps67 rfl (sr (pn 2 rfl (ln (RC.seq (sr (pn 3 rfl ?_))))))
  refine RL.iteP 6 rfl h (fun hc9 h => ?_) fun hc9 h => ?_
  next =>
   refine pn 3 rfl (ln (jtr (pn 2 rfl (lr (RQ.ret ?_)))))
   cases h.some
   exact rt results67 rfl ⟨rfl, hS⟩
  refine pn 3 rfl (ln ?_)
  refine RC.iteP 9 rfl h (fun hc10 h => ?_) fun hc10 h => ?_
  next =>
   refine jtr (pn 2 rfl (lr (RQ.ret ?_)))
   cases h.some
   exact rt results67 rfl ⟨rfl, hS⟩
  refine jfs (sr (rr [0, 0, 0, 0, 0] hS ?_))
  refine fun b11 => it fun w hS => lr ?_
  have hS := O_colour_Token.c (x := (⟨a1, 0, false, 0, 4611686018427387904⟩ : colour_Token)) hS
  cases h.some
  exact rt results67 rfl ⟨b11, rfl, hS⟩
def kernel_New.l134b (l5909 : List kernel_place) (x5914 : Int) (y6523 : lane_Lane) (y6606 : colour_Tally) (l6607 t6641 : List Int) : List (Int × Int) × Int → Option ((List (Int × Int) × Int) ⊕ ((List kernel_place × Int) ⊕ ((Int) ⊕ (kernel_Kernel × Int))))
  | (l6649, x6650) => (if x6650 < (t6641.length : Int) then (if 0 ≤ x6650 then some (.inl ((mset l6649 (nth t6641 x6650) x6650), IntKind.i64.wrap (x6650 + 1))) else none) else (Option.map Sum.inr ((clock_New.f (l6649.length : Int)).bind fun t6670 => match t6670 with | .inl _ => none | .inr ((y6672, y6673)) => (if (l5909.length + 1) * 8 ≤ 140737488355328 then some (.inl ((l5909 ++ [(⟨y6523, y6606, y6672, l6607, l6649⟩ : kernel_place)]), IntKind.i64.wrap (x5914 + 1))) else none))))
def kernel_New.l134 (l5909 : List kernel_place) (x5914 : Int) (y6523 : lane_Lane) (y6606 : colour_Tally) (l6607 t6641 : List Int) (s : List (Int × Int) × Int) : Option ((List kernel_place × Int) ⊕ ((Int) ⊕ (kernel_Kernel × Int))) := loopR (kernel_New.l134b l5909 x5914 y6523 y6606 l6607 t6641) s
def kernel_New.j132 (a1 : api_Model) (l5909 : List kernel_place) (x5914 : Int) (y6523 : lane_Lane) (y6606 : colour_Tally) (l6607 : List Int) : Option ((List kernel_place × Int) ⊕ ((Int) ⊕ (kernel_Kernel × Int))) := ((model_Into.f a1 x5914).bind fun t6641 => kernel_New.l134 l5909 x5914 y6523 y6606 l6607 t6641 (([] : List (Int × Int)), 0))
def kernel_New.l136b (a1 : api_Model) (a11 : api_Caps) (l5909 : List kernel_place) : List link_Way × Int → Option ((List link_Way × Int) ⊕ ((Int) ⊕ (kernel_Kernel × Int)))
  | (l6894, x6899) => (if x6899 < (a1.Links.length : Int) then (if 0 ≤ x6899 then ((link_New.f (nth a1.Links x6899) a11.Link).bind fun t6980 => match t6980 with | .inl _ => none | .inr ((y6982, y6983)) => (if (l6894.length + 1) * 8 ≤ 140737488355328 then some (.inl ((l6894 ++ [y6982]), IntKind.i64.wrap (x6899 + 1))) else none)) else none) else (Option.map Sum.inr ((colour_NewToken.f (a1.Progs.length : Int)).bind fun t6991 => match t6991 with | .inl _ => none | .inr ((y6993, y6994)) => some (.inr (((⟨({ a1 with Links := (([] : List api_Link) ++ a1.Links) } : api_Model), l5909, l6894, y6993, 0, 64, 64, ([] : List api_Done), 0⟩ : kernel_Kernel), 0))))))
def kernel_New.l136 (a1 : api_Model) (a11 : api_Caps) (l5909 : List kernel_place) (s : List link_Way × Int) : Option ((Int) ⊕ (kernel_Kernel × Int)) := loopR (kernel_New.l136b a1 a11 l5909) s
def kernel_New.l126b (a1 : api_Model) (a11 : api_Caps) : List kernel_place × Int → Option ((List kernel_place × Int) ⊕ ((Int) ⊕ (kernel_Kernel × Int)))
  | (l5909, x5914) => (if x5914 < (a1.Progs.length : Int) then ((lane_New.f a1 x5914 a11).bind fun t6519 => match t6519 with | .inl y6521 => (if ¬ y6521 = 0 then some (.inr (.inl y6521)) else none) | .inr ((y6523, y6524)) => (if y6524 = 0 then ((colour_New.f).bind fun t6683 => ((model_Ways.f a1 x5914).bind fun t6686 => kernel_New.j132 a1 l5909 x5914 y6523 t6683 t6686)) else some (.inr (.inl y6524)))) else (Option.map Sum.inr (kernel_New.l136 a1 a11 l5909 (([] : List link_Way), 0))))
def kernel_New.l126 (a1 : api_Model) (a11 : api_Caps) (s : List kernel_place × Int) : Option ((Int) ⊕ (kernel_Kernel × Int)) := loopR (kernel_New.l126b a1 a11) s
def kernel_New.f (a1 : api_Model) (a11 : api_Caps) : Option ((Int) ⊕ (kernel_Kernel × Int)) := ((model_Check.f a1).bind fun t3515 => (if t3515 = 0 then (if (([] : List api_Link).length + a1.Links.length) * 32 ≤ 140737488355328 then kernel_New.l126 a1 a11 (([] : List kernel_place), 0) else none) else some (.inl t3515)))
theorem kernel_New.ok {a1 : api_Model} {a11 : api_Caps} {A2 A5 A8 : Option Addr} {c3 c6 c9 : Nat} (hr4 : SlR (Rep.sl E_api_Instr.rep) hf A2 c3 a1.Progs) (hr7 : SlR E_api_Link.rep hf A5 c6 a1.Links) (hr10 : SlR E_api_Start.rep hf A8 c9 a1.Starts) (hG0 : GlobAt hf 0 (.iface 144 (.agg #[.pointer (some ⟨9, 53, none⟩)]))) {r : (Int) ⊕ (kernel_Kernel × Int)} (h : kernel_New.f a1 a11 = some r) (hS : St B w (l) hf) :
    Calls prog 44 #[.agg (C_api_Model a1 A2 c3 A5 c6 A8 c9).toArray, .agg (C_api_Caps a11).toArray] w (Ret fun v w => match (generalizing := false) r with | .inl r_ => v = .tuple #[.pointer none, iV r_] ∧ St B w (l) hf | .inr (r_) => ∃ hf_ : Hp, Sub hf hf_ ∧ ∃ (b_1 : Nat), v = .tuple #[pV b_1, iV r_.2] ∧ St B w (O_kernel_Kernel hf_ r_.1 b_1 :: l) hf_) := by
  have h := Holds.of h
  refine en func44 rfl ntmps44 rfl (sr (rr [0, 0, 0, 0] hS ?_))
  refine fun b3508 b3509 => it fun w hS => lnsr (rr [0, 0, 0] hS ?_)
  refine fun b3511 => it fun w hS => ln (RC.seq (sr (rr [3] hS ?_)))
  refine it fun w hS => cF (fun _ hg => model_Check.ok hr4 hr7 hr10 hG0 hg hS) call60 h rfl rfl rfl ?_
  rintro t3515 h _ w ⟨rfl, hS⟩
  refine pn 1 rfl (lnsr (pn 2 rfl (ln ?_)))
  refine RC.iteN 23 rfl h (fun hc3517 h => ?_) fun hc3517 h => ?_
  next =>
   refine jfs (sr (rr [0, 3, 0, 0, 1] hS ?_))
   refine it fun w hS => lnsr (rr [0, 0, 3] hS ?_)
   refine it fun w hS => ?_
   obtain ⟨hq3522, h⟩ := h.req
   have hS := hS.nilSl E_api_Link 76
   refine RL.e (OW.appendV (E := E_api_Link) (xs := ([] : List api_Link)) (ys := a1.Links) 0 hS rfl underlying30 type76 rfl rfl rfl rfl (by decide) (by decide) rfl rfl (hr7.2.world hS.sub) hq3522 rfl) rfl rfl ?_
   rintro v3525 w hS
   obtain ⟨A3523, c3524, rfl, _⟩ := hS.osShape 0 rfl
   have hS : St B w (_ :: _ :: _ :: _ :: l) hf := hS
   refine rr [0, 0, 0, 2] hS ?_
   refine it fun w hS => ln (RC.seq (sr (rr [0, 4, 0, 0] hS ?_)))
   refine it fun w hS => ln (RC.block ?_)
   have hS := hS.nilSl FP 169
   have hS := hS.sepNil (O := O_kernel_place hf)
   have hl6999 := hS.sepLen
   refine fun a ha => lp h (fun (s : List kernel_place × Int) a w => ∃ l5909 x5914, s = (l5909, x5914) ∧ ∃ hf_, Sub hf hf_ ∧ ∃ A5910 c5911 bs5912, Has 135 [(2, pV b3508), (3, pV b3509), (6, pV b3511), (38, iV (a1.Progs.length : Int)), (39, iV x5914)] a ∧ St B w (OSf E_api_Link 76 (.slice A3523 (([] : List api_Link) ++ a1.Links).length c3524) (([] : List api_Link) ++ a1.Links) :: OSf FP 169 (sV A5910 bs5912 c5911) bs5912 :: SepL (O_kernel_place hf_) l5909 bs5912 :: Cl b3511 [sV A2 a1.Progs c3, .slice A3523 (([] : List api_Link) ++ a1.Links).length c3524, sV A8 a1.Starts c9, .int .u64 a1.Seed, iV a1.End, iV a1.Budget, sV A5910 bs5912 c5911, .slice none 0 0, .pointer none, iV 0, iV 64, iV 64, .slice none 0 0, iV 0] 135 :: Cl b3509 (C_api_Caps a11) 36 :: Cl b3508 (C_api_Model a1 A2 c3 A5 c6 A8 c9) 34 :: l) hf_) ⟨_, _, rfl, _, (Sub.refl _), _, _, _, ha.tE rfl, hS.p1.p2⟩ ?_
   rintro G6312 _ a w ⟨l5909, x5914, rfl, hf, hs5509, A5910, c5911, bs5912, ha, hS⟩ h
   refine ro ha ?_
   have hl5913 := hS.p2.sepLen
   refine sr (pn 1 rfl (ln (RC.seq ?_)))
   refine RC.iteP 40 rfl h (fun hc6314 h => ?_) fun hc6314 h => ?_
   next =>
    refine jt (sk (RC.seq (RC.block (sr (pn 2 rfl (lnsr (rr [6, 0, 5] hS ?_)))))))
    refine it fun w hS => ?_
    obtain ⟨t6519, hg6520, h⟩ := h.bind
    have hc := lane_New.ok (hr4.mono hs5509) (hr7.mono hs5509) (hr10.mono hs5509) (hG0.mono hs5509) hg6520 hS
    rcases t6519 with y6521 | ⟨y6523, y6524⟩
    · obtain ⟨hc6522, h⟩ := h.req
      refine RL.e (OW.callF (ls := [.tmp 43, .tmp 44, .tmp 45]) rfl call61 hc) rfl rfl ?_
      rintro _ w ⟨rfl, hS⟩
      refine pn 5 rfl (ln (RC.seq (sr (pn 2 rfl (ln (RC.re 50 rfl (congrArg Value.bool (notdec_neg hc6522)) (jtr (pn 3 rfl (ln ?_)))))))))
      refine RC.ret (RQ.ret (ir ?_))
      have h := h.inrS
      refine RQ.ret (ir ?_)
      cases h.some
      exact rt results44 rfl ⟨rfl, (hS.d0.d0.d0.d0.d0.d0).down hs5509⟩
    refine RL.e (OW.callF (ls := [.tmp 43, .tmp 44, .tmp 45]) rfl call61 hc) rfl rfl ?_
    rintro _ w ⟨hf, hs6526, b6525, rfl, hS⟩
    have hS := hS.p3.imp fun _ h => SepL.m (fun _ _ => O_kernel_place.m hs6526) h
    have hS : St B w (_ :: _ :: _ :: _ :: _ :: _ :: _ :: l) hf := hS
    refine pn 5 rfl (ln (RC.seq (sr (pn 2 rfl (ln ?_)))))
    refine RC.iteN 50 rfl h (fun hc6528 h => ?_) fun hc6528 h => ?_
    next =>
     refine jfs (RC.seq (RC.planS (.pure 0 (.early 2 0 (.pure 3 (.fork 1 5 (.fork 4 5 (.last 5 (.last 6 (.last 7 (.last 8 .nil)))) (.last 4 (.last 6 (.last 7 (.last 8 .nil))))) (.last 1 (.last 4 (.last 6 (.last 7 (.last 8 .nil))))))))) [6, 7, 8] hS (fun w hS => hS) follows rfl (by kernel_rfl) (NoTmp.then (NoTmp.block (NoTmp.then (NoTmp.then (NoTmp.block (NoTmp.then NoTmp.body)))))) fun w hS => rq [0, 7, 0] hS ?_))
     refine it ?_
     refine RP.fj (fun (s : colour_Tally × List Int) env w => ∃ y6606 l6607, s = (y6606, l6607) ∧ Holds (Sum.elim G6312 (· = r)) (kernel_New.j132 a1 l5909 x5914 y6523 y6606 l6607) ∧ ∃ b6605 A6608 c6609 b6610, Ev env [(2, pV b3508), (3, pV b3509), (6, pV b3511), (8, iV x5914), (38, iV (a1.Progs.length : Int)), (39, iV x5914), (52, pV b6525), (53, pV b6605), (56, sV A6608 l6607 c6609), (57, .map (some b6610))] ∧ St B w (OSf E_api_Link 76 (.slice A3523 (([] : List api_Link) ++ a1.Links).length c3524) (([] : List api_Link) ++ a1.Links) :: OSf FP 169 (sV A5910 bs5912 c5911) bs5912 :: OSf (FI .i64) 3 (sV A6608 l6607 c6609) l6607 :: SepL (O_kernel_place hf) l5909 bs5912 :: O_lane_Lane hf y6523 b6525 :: Cl b3511 [sV A2 a1.Progs c3, .slice A3523 (([] : List api_Link) ++ a1.Links).length c3524, sV A8 a1.Starts c9, .int .u64 a1.Seed, iV a1.End, iV a1.Budget, sV A5910 bs5912 c5911, .slice none 0 0, .pointer none, iV 0, iV 64, iV 64, .slice none 0 0, iV 0] 135 :: Cl b3509 (C_api_Caps a11) 36 :: Cl b3508 (C_api_Model a1 A2 c3 A5 c6 A8 c9) 34 :: O_colour_Tally hf y6606 b6605 :: MapF (Value.int .i64) (Value.int .i64) b6610 ([] : List (Int × Int)) :: l) hf) (.last 6 (.last 7 (.last 8 .nil))) ?_ fun hk => ?_
     · rintro _ env w ⟨y6606, l6607, rfl, h, b6605, A6608, c6609, b6610, ha, hS⟩
       refine RP.to ha (rq [0] hS.d2.d7.d7.p3.p3 ?_)
       refine it (RP.e 7 rfl (OW.box (cs := [pV b6525, pV b6605, .pointer none, sV A6608 l6607 c6609, .map (some b6610)]) hS rfl rfl) rfl rfl ?_)
       rintro _ w ⟨b6611, rfl, hS⟩
       refine ⟨kp ⟨(by intro hx; cases hx), trivial⟩, ?_⟩
       refine rq [0] hS.d0.d2.d7.d7.p3.p3 ?_
       refine it (RP.nil (RQ.then_n (RC.seq (sr (rr [9, 0] hS ?_)))))
       refine it fun w hS => cF (fun _ hg => model_Into.ok ((hr4.mono hs5509).mono hs6526) ((hr7.mono hs5509).mono hs6526) ((hr10.mono hs5509).mono hs6526) hg hS) call64 h rfl rfl rfl ?_
       rintro t6641 h _ w ⟨A6643, c6644, rfl, hS⟩
       refine r0 2 rfl (ln (RC.block (fun a ha => lp h (fun (s : List (Int × Int) × Int) a w => ∃ l6649 x6650, s = (l6649, x6650) ∧ Has 135 [(2, pV b3508), (3, pV b3509), (6, pV b3511), (11, pV b6611), (38, iV (a1.Progs.length : Int)), (39, iV x5914), (62, sV A6643 t6641 c6644), (63, iV (t6641.length : Int)), (64, iV x6650)] a ∧ St B w (OSf E_api_Link 76 (.slice A3523 (([] : List api_Link) ++ a1.Links).length c3524) (([] : List api_Link) ++ a1.Links) :: OSf FP 169 (sV A5910 bs5912 c5911) bs5912 :: OSf (FI .i64) 3 (sV A6608 l6607 c6609) l6607 :: OSf (FI .i64) 3 (sV A6643 t6641 c6644) t6641 :: Cl b6611 [pV b6525, pV b6605, .pointer none, sV A6608 l6607 c6609, .map (some b6610)] 176 :: SepL (O_kernel_place hf) l5909 bs5912 :: O_lane_Lane hf y6523 b6525 :: Cl b3511 [sV A2 a1.Progs c3, .slice A3523 (([] : List api_Link) ++ a1.Links).length c3524, sV A8 a1.Starts c9, .int .u64 a1.Seed, iV a1.End, iV a1.Budget, sV A5910 bs5912 c5911, .slice none 0 0, .pointer none, iV 0, iV 64, iV 64, .slice none 0 0, iV 0] 135 :: Cl b3509 (C_api_Caps a11) 36 :: Cl b3508 (C_api_Model a1 A2 c3 A5 c6 A8 c9) 34 :: O_colour_Tally hf y6606 b6605 :: MapF (Value.int .i64) (Value.int .i64) b6610 l6649 :: l) hf) ⟨_, _, rfl, ha.tE rfl, hS.p4.p4.p4⟩ ?_)))
       rintro G6657 _ a w ⟨l6649, x6650, rfl, ha, hS⟩ h
       refine ro ha (sr (pn 1 rfl (ln (RC.seq ?_))))
       refine RC.iteP 65 rfl h (fun hc6659 h => ?_) fun hc6659 h => ?_
       next =>
        refine jt (sk (RC.seq (RC.block (sr (pn 1 rfl ?_)))))
        obtain ⟨hq6661, h⟩ := h.req
        refine RL.s (Vl.indexOwn 3 hS rfl underlying100 sizeOf3 rfl rfl hq6661 hc6659) rfl (RL.s (Vl.load isAgg3 rfl ((hS.slW 3 rfl).2.2.cell (j := 0) hq6661 hc6659 rfl)) rfl (pn 2 rfl (ln (RC.region (rr [0, 0, 0, 5, 0, 0] hS ?_)))))
        refine it fun w hS => RL.e0 (OW.mapUpdF (k := nth t6641 x6650) (v := x6650) 11 hS rfl (KeyOK.int underlying3) underlying173 rfl rfl rfl rfl) rfl ?_
        rintro _ w ⟨rfl, hS⟩
        have hS : St B w (_ :: _ :: _ :: _ :: _ :: _ :: _ :: _ :: _ :: _ :: _ :: _ :: l) hf := hS
        refine RL.nil (RQ.inB_n (RQ.then_n (RC.region (pn 2 rfl (RL.nil ?_)))))
        exact fun a ha => ⟨_, h.some, _, _, rfl, ha.tE rfl, hS.p11.p11.p11.p11.p11.p11.p11.p11.p11.p11.p11⟩
       refine jf (RC.exit (RQ.exitT ?_))
       have h := h.inr
       refine RQ.exitT (RQ.inB_hit (tsr (rr [0, 0, 0, 0, 5] hS ?_)))
       refine it fun w hS => RL.s (Vl.lenMapF 11 hS rfl underlying173 rfl) rfl ?_
       obtain ⟨t6670, hg6671, h⟩ := h.bind
       have hc := clock_New.ok hg6671 hS
       rcases t6670 with _ | ⟨y6672, y6673⟩
       · exact h.none
       refine RL.e (OW.callF (ls := [.tmp 82]) rfl call65 hc) rfl rfl ?_
       rintro _ w ⟨b6674, rfl, hS⟩
       refine rr [0, 0, 0, 0, 0, 6] hS ?_
       refine it fun w hS => ln (RC.region (rr [0, 0, 0, 0, 9, 0] hS ?_))
       refine it fun w hS => RL.e (OW.buildSlice (E := FP) (xs := [b6611]) (cs := [pV b6611]) hS underlying131 zeroValue169 sizeOf169 (parts := [(0, .tmp 93)]) rfl rfl (by decide) (by decide) (by kernel_rfl) rfl) rfl rfl ?_
       rintro _ w ⟨b6675, rfl, hS⟩
       obtain ⟨hq6679, h⟩ := h.req
       obtain ⟨hf, hs6676, hS, hr6677⟩ := St.promote hS.p4
       have hS := O_clock_Clocks.l hs6676 hS.p1
       have hS := hS.p6.imp fun _ h => SepL.m (fun _ _ => O_kernel_place.m hs6676) h
       have hS := O_lane_Lane.l hs6676 hS.p7
       have hS := O_colour_Tally.l hs6676 hS.p11
       have hS := O_kernel_place.c (x := (⟨y6523, y6606, y6672, l6607, l6649⟩ : kernel_place)) hr6677 hS.p12.p4.p2.p3.p9
       have hS := hS.p1.sepSnoc
       have hl6678 := hS.sepLen
       refine RL.e (OW.append (E := FP) (xs := bs5912) (ys := [b6611]) 3 hS rfl underlying131 type169 rfl rfl rfl rfl (by decide) rfl rfl rfl (hS.slW 1 rfl).2.2.flat (by simp only [maxLen, List.length_cons, List.length_nil] at *; omega) (le_app hl5913 hq6679) rfl) rfl rfl ?_
       rintro v6682 w hS
       obtain ⟨A6680, c6681, rfl, _⟩ := hS.osShape 0 rfl
       have hS : St B w (_ :: _ :: _ :: _ :: _ :: _ :: _ :: _ :: l) hf := hS
       refine rr [0, 0, 6] hS ?_
       refine it fun w hS => RL.nil (RQ.inB_n (RQ.then_n (RC.region (pn 2 rfl (RL.nil ?_)))))
       exact fun a ha => ⟨_, h.some, _, _, rfl, _, ((hs5509.trans hs6526).trans hs6676), _, _, _, ha.tE rfl, hS.d2.d3.p2⟩
     refine RP.fork ?_ ?_
     · obtain ⟨t6683, hg6684, h⟩ := h.bind
       have hc := colour_New.ok hg6684 hS
       refine RPW.e 1 rfl (OW.callF (ls := []) rfl call62 hc) rfl rfl ?_
       rintro _ w ⟨b6685, rfl, hS⟩
       refine ⟨kp ⟨fun _ => hS.d0, trivial⟩, ?_⟩
       refine RP.fork ?_ ?_
       · obtain ⟨t6686, hg6687, h⟩ := h.bind
         have hc := model_Ways.ok ((hr4.mono hs5509).mono hs6526) ((hr7.mono hs5509).mono hs6526) ((hr10.mono hs5509).mono hs6526) hg6687 hS
         refine RPW.e 4 rfl (OW.callF (ls := [.tmp 54, .tmp 55]) rfl call63 hc) rfl rfl ?_
         rintro _ w ⟨A6688, c6689, rfl, hS⟩
         refine ⟨kp ⟨fun _ => hS.d0.d0, trivial⟩, ?_⟩
         refine RP.e 5 rfl (OW.makeMapF (kv := (Value.int .i64)) (vv := (Value.int .i64)) hS) rfl rfl ?_
         rintro _ w ⟨b6690, rfl, hS⟩
         refine ⟨kp ⟨fun _ => hS.d0.d0.d0, trivial⟩, ?_⟩
         exact hk _ _ _ ⟨_, _, rfl, h, _, _, _, _, ⟨rfl, rfl, rfl, rfl, rfl, rfl, rfl, rfl, rfl, rfl, trivial⟩, hS.p2.p9.p9.p9.p7.p7.p7.p9.p9⟩
       · refine RPW.e 5 rfl (OW.makeMapF (kv := (Value.int .i64)) (vv := (Value.int .i64)) hS) rfl rfl ?_
         rintro _ w ⟨b6691, rfl, hS⟩
         refine ⟨kp ⟨fun _ => hS.d0.d0, trivial⟩, ?_⟩
         obtain ⟨t6692, hg6693, h⟩ := h.bind
         have hc := model_Ways.ok ((hr4.mono hs5509).mono hs6526) ((hr7.mono hs5509).mono hs6526) ((hr10.mono hs5509).mono hs6526) hg6693 hS
         refine RP.e 4 rfl (OW.callF (ls := [.tmp 54, .tmp 55]) rfl call63 hc) rfl rfl ?_
         rintro _ w ⟨A6694, c6695, rfl, hS⟩
         refine ⟨kp ⟨fun _ => hS.d0.d0.d0, trivial⟩, ?_⟩
         exact hk _ _ _ ⟨_, _, rfl, h, _, _, _, _, ⟨rfl, rfl, rfl, rfl, rfl, rfl, rfl, rfl, rfl, rfl, trivial⟩, hS.p2.p9.p9.p9.p7.p7.p6.p9.p9⟩
     · refine RPW.e 5 rfl (OW.makeMapF (kv := (Value.int .i64)) (vv := (Value.int .i64)) hS) rfl rfl ?_
       rintro _ w ⟨b6696, rfl, hS⟩
       refine ⟨kp ⟨fun _ => hS.d0, trivial⟩, ?_⟩
       obtain ⟨t6697, hg6698, h⟩ := h.bind
       have hc := colour_New.ok hg6698 hS
       refine RP.e 1 rfl (OW.callF (ls := []) rfl call62 hc) rfl rfl ?_
       rintro _ w ⟨b6699, rfl, hS⟩
       refine ⟨kp ⟨fun _ => hS.d0.d0, trivial⟩, ?_⟩
       obtain ⟨t6700, hg6701, h⟩ := h.bind
       have hc := model_Ways.ok ((hr4.mono hs5509).mono hs6526) ((hr7.mono hs5509).mono hs6526) ((hr10.mono hs5509).mono hs6526) hg6701 hS
       refine RP.e 4 rfl (OW.callF (ls := [.tmp 54, .tmp 55]) rfl call63 hc) rfl rfl ?_
       rintro _ w ⟨A6702, c6703, rfl, hS⟩
       refine ⟨kp ⟨fun _ => hS.d0.d0.d0, trivial⟩, ?_⟩
       exact hk _ _ _ ⟨_, _, rfl, h, _, _, _, _, ⟨rfl, rfl, rfl, rfl, rfl, rfl, rfl, rfl, rfl, rfl, trivial⟩, hS.p9.p9.p9.p7.p7.p5.p9.p9⟩
    refine jtr (pn 3 rfl (lr (RQ.ret (ir ?_))))
    have h := h.inrS
    refine RQ.ret (ir ?_)
    cases h.some
    exact rt results44 rfl ⟨rfl, (hS.d0.d0.d0.d0.d0.d0.d0).down (hs5509.trans hs6526)⟩
   refine jf (RC.exit (RQ.exitT ?_))
   have h := h.inr
   refine RQ.exitT (RQ.inB_hit (RQ.then_n (RC.seq (sr (rr [0, 6, 0, 0] hS ?_)))))
   refine it fun w hS => ln (RC.block ?_)
   have hS := hS.nilSl FP 179
   have hS := hS.sepNil (O := O_link_Way hf)
   have hl6998 := hS.sepLen
   refine fun a ha => lp h (fun (s : List link_Way × Int) a w => ∃ l6894 x6899, s = (l6894, x6899) ∧ ∃ A6895 c6896 bs6897, Has 135 [(2, pV b3508), (3, pV b3509), (6, pV b3511), (100, sV A5 a1.Links c6), (101, iV (a1.Links.length : Int)), (102, iV x6899)] a ∧ St B w (OSf E_api_Link 76 (.slice A3523 (([] : List api_Link) ++ a1.Links).length c3524) (([] : List api_Link) ++ a1.Links) :: OSf FP 169 (sV A5910 bs5912 c5911) bs5912 :: OSf FP 179 (sV A6895 bs6897 c6896) bs6897 :: SepL (O_link_Way hf) l6894 bs6897 :: SepL (O_kernel_place hf) l5909 bs5912 :: Cl b3511 [sV A2 a1.Progs c3, .slice A3523 (([] : List api_Link) ++ a1.Links).length c3524, sV A8 a1.Starts c9, .int .u64 a1.Seed, iV a1.End, iV a1.Budget, sV A5910 bs5912 c5911, sV A6895 bs6897 c6896, .pointer none, iV 0, iV 64, iV 64, .slice none 0 0, iV 0] 135 :: Cl b3509 (C_api_Caps a11) 36 :: Cl b3508 (C_api_Model a1 A2 c3 A5 c6 A8 c9) 34 :: l) hf) ⟨_, _, rfl, _, _, _, ha.tE rfl, hS.p1.p3.p3⟩ ?_
   rintro G6948 _ a w ⟨l6894, x6899, rfl, A6895, c6896, bs6897, ha, hS⟩ h
   refine ro ha ?_
   have hl6898 := hS.p3.sepLen
   refine sr (pn 1 rfl (ln (RC.seq ?_)))
   refine RC.iteP 103 rfl h (fun hc6950 h => ?_) fun hc6950 h => ?_
   next =>
    refine jt (sk (RC.seq (RC.block (sr ?_))))
    obtain ⟨hq6973, h⟩ := h.req
    refine RL.s (Vl.indexAddr underlying30 sizeOf76 rfl rfl (((hr7.mono hs5509).2.world hS.sub).adr hq6973 hc6950) hq6973 hc6950 rfl) rfl (RL.s (Vl.loadA isAgg76 sizeOf76 rfl rfl (((hr7.mono hs5509).2.world hS.sub).cells hq6973 hc6950)) rfl (rr [0, 1] hS ?_))
    refine fun b6974 => it fun w hS => lnsr (rr [1, 0, 8] hS ?_)
    refine it fun w hS => ?_
    obtain ⟨t6980, hg6981, h⟩ := h.bind
    have hc := link_New.ok hg6981 hS
    rcases t6980 with _ | ⟨y6982, y6983⟩
    · exact h.none
    refine RL.e (OW.callF (ls := [.tmp 107, .tmp 109]) rfl call66 hc) rfl rfl ?_
    rintro _ w ⟨b6984, rfl, hS⟩
    refine pn 5 rfl (ln (RC.region (rr [0, 0, 0, 0, 8, 0] hS ?_)))
    refine it fun w hS => RL.e (OW.buildSlice (E := FP) (xs := [b6984]) (cs := [pV b6984]) hS underlying132 zeroValue179 sizeOf179 (parts := [(0, .tmp 118)]) rfl rfl (by decide) (by decide) (by kernel_rfl) rfl) rfl rfl ?_
    rintro _ w ⟨b6985, rfl, hS⟩
    obtain ⟨hq6987, h⟩ := h.req
    have hS := hS.p1.p6.sepSnoc
    have hl6986 := hS.sepLen
    refine RL.e (OW.append (E := FP) (xs := bs6897) (ys := [b6984]) 5 hS rfl underlying132 type179 rfl rfl rfl rfl (by decide) rfl rfl rfl (hS.slW 1 rfl).2.2.flat (by simp only [maxLen, List.length_cons, List.length_nil] at *; omega) (le_app hl6898 hq6987) rfl) rfl rfl ?_
    rintro v6990 w hS
    obtain ⟨A6988, c6989, rfl, _⟩ := hS.osShape 0 rfl
    have hS : St B w (_ :: _ :: _ :: _ :: _ :: _ :: _ :: _ :: _ :: _ :: l) hf := hS
    refine rr [0, 0, 8] hS ?_
    refine it fun w hS => RL.nil (RQ.inB_n (RQ.then_n (RC.region (pn 2 rfl (RL.nil ?_)))))
    exact fun a ha => ⟨_, h.some, _, _, rfl, _, _, _, ha.tE rfl, hS.d2.d2.p3.p3⟩
   refine jf (RC.exit (RQ.exitT ?_))
   have h := h.inr
   refine RQ.exitT (RQ.inB_hit (tsr (rr [0, 0, 8, 0] hS ?_)))
   refine it fun w hS => ?_
   obtain ⟨t6991, hg6992, h⟩ := h.bind
   have hc := colour_NewToken.ok hg6992 hS
   rcases t6991 with _ | ⟨y6993, y6994⟩
   · exact h.none
   refine RL.e (OW.callF (ls := [.tmp 128]) rfl call67 hc) rfl rfl ?_
   rintro _ w ⟨b6995, rfl, hS⟩
   refine rr [0, 0, 0, 0, 0, 7] hS ?_
   refine it fun w hS => lnsr (pn 3 rfl (lr ?_))
   obtain ⟨hf, hs6996, hS, hr6997⟩ := St.promote hS.p1
   have hS := O_colour_Token.l hs6996 hS
   have hS := hS.p3.imp fun _ h => SepL.m (fun _ _ => O_link_Way.m hs6996) h
   have hS := hS.p4.imp fun _ h => SepL.m (fun _ _ => O_kernel_place.m hs6996) h
   have hS := hS.nilSl E_api_Done 61
   have hS := O_kernel_Kernel.c (x := (⟨({ a1 with Links := (([] : List api_Link) ++ a1.Links) } : api_Model), l5909, l6894, y6993, 0, 64, 64, ([] : List api_Done), 0⟩ : kernel_Kernel)) ((hr4.mono hs5509).mono hs6996) hr6997 ((hr10.mono hs5509).mono hs6996) hS.p3.p3.p5.p4.p5.p6
   cases h.some
   exact rt results44 rfl ⟨_, (hs5509.trans hs6996), b3511, rfl, hS.d1.d1⟩
  refine jtr (pn 3 rfl (lr (RQ.ret ?_)))
  cases h.some
  exact rt results44 rfl ⟨rfl, hS.d0.d0.d0⟩
def kernel_Kernel_none.f  : Option (Unit) := some ()
theorem kernel_Kernel_none.ok {r : Unit} (h : kernel_Kernel_none.f = some r) (hS : St B w (l) hf) :
    Calls prog 68 #[.pointer none] w (Ret fun v w => v = .bool true ∧ St B w (l) hf) := by
  have h := Holds.of h
  refine en func68 rfl ntmps68 rfl (sr (pn 1 rfl (lnsr (pn 1 rfl (RL.s (Vl.bn true rfl rfl) rfl (pn 8 rfl (lr ?_)))))))
  exact rt results68 rfl ⟨rfl, hS⟩
def kernel_Kernel_Do.f (a1 : api_Pick) : Option (Int) := ((kernel_Kernel_none.f).bind fun _ => some 7)
theorem kernel_Kernel_Do.ok {a1 : api_Pick} {r : Int} (h : kernel_Kernel_Do.f a1 = some r) (hS : St B w (l) hf) :
    Calls prog 45 #[.pointer none, .agg (C_api_Pick a1).toArray] w (Ret fun v w => v = iV r ∧ St B w (l) hf) := by
  have h := Holds.of h
  refine en func45 rfl ntmps45 rfl (sr (rr [0, 0] hS ?_))
  refine fun b13 => it fun w hS => ln (RC.seq (RC.block (sr (pn 1 rfl (cF (fun _ hg => kernel_Kernel_none.ok hg hS) call68 h rfl rfl rfl ?_)))))
  rintro _ h _ w ⟨rfl, hS⟩
  refine pn 1 rfl (ln (jtr (pn 1 rfl (lr (ir ?_)))))
  obtain rfl := h.some
  exact rt results45 rfl ⟨rfl, hS.d0⟩
def kernel_Kernel_none_2.f (a2 : kernel_Kernel) : Option (Unit) := some ()
theorem kernel_Kernel_none_2.ok {a2 : kernel_Kernel} {b1 : Nat} {r : Unit} (h : kernel_Kernel_none_2.f a2 = some r) (hS : St B w (O_kernel_Kernel hf a2 b1 :: l) hf) :
    Calls prog 68 #[pV b1] w (Ret fun v w => v = .bool false ∧ St B w (O_kernel_Kernel hf a2 b1 :: l) hf) := by
  have h := Holds.of h
  refine en func68 rfl ntmps68 rfl (sr (pn 1 rfl (lnsr (pn 1 rfl (RL.s (Vl.bn false rfl rfl) rfl (r0 4 rfl ?_))))))
  obtain ⟨A23, c24, A26, c27, A29, c30, A32, c33, bs34, A36, c37, bs38, b40, A41, c42, hr25, hr28, hr31, hS⟩ := O_kernel_Kernel.o hS
  have hl35 := hS.p2.sepLen
  have hl39 := hS.p4.sepLen
  refine rr [1] hS ?_
  refine it fun w hS => RL.sg (Vl.bn false rfl rfl) rfl rfl (pn 2 rfl (lr ?_))
  have hS := O_kernel_Kernel.c (x := a2) hr25 hr28 hr31 hS
  exact rt results68 rfl ⟨rfl, hS⟩
end
end Go.Proofs.Gx
