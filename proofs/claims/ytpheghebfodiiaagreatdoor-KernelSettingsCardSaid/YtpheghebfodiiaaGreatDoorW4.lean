/-
  The walks of functions, each with what it computes: printed by wip/gx.py.
-/
import Derived.Test.YtpheghebfodiiaaGreatDoorW0
import Derived.Test.YtpheghebfodiiaaGreatDoorW2
import Derived.Test.YtpheghebfodiiaaGreatDoorW3
set_option linter.unusedVariables false
set_option linter.unusedSimpArgs false
set_option maxRecDepth 100000
set_option maxHeartbeats 4000000
namespace Go.Proofs.Gx
open Go.Sl Tryz
variable {B : Base} {w : World} {l : List HProp} {hf : Hp}
noncomputable section
def ladder_Ladder_find.j27 (x1242 x1243 : Int) (q1244 : Bool) : Option (Int × Int × Bool) := some (x1242, x1243, q1244)
def ladder_Ladder_find.l34b (a2 : ladder_Ladder) (a3 a4 x1356 : Int) : Int → Option ((Int) ⊕ ((Int) ⊕ (Int × Int × Bool)))
  | (x1552) => (if x1552 < ((nth a2.rungs x1356).length : Int) then (if 0 ≤ x1552 then ((ladder_Ladder_find_1.f (nth (nth a2.rungs x1356) x1552) a3 a4).bind fun t1584 => (if t1584 = true then (Option.map Sum.inr (Option.map Sum.inr (ladder_Ladder_find.j27 x1356 x1552 true))) else some (.inl (IntKind.i64.wrap (x1552 + 1))))) else none) else some (.inr (.inl (IntKind.i64.wrap (x1356 + 1)))))
def ladder_Ladder_find.l34 (a2 : ladder_Ladder) (a3 a4 x1356 : Int) (s : Int) : Option ((Int) ⊕ (Int × Int × Bool)) := loopR (ladder_Ladder_find.l34b a2 a3 a4 x1356) s
def ladder_Ladder_find.l32b (a2 : ladder_Ladder) (a3 a4 : Int) : Int → Option ((Int) ⊕ (Int × Int × Bool))
  | (x1356) => (if x1356 < (a2.rungs.length : Int) then (if 0 ≤ x1356 then ladder_Ladder_find.l34 a2 a3 a4 x1356 (0) else none) else (Option.map Sum.inr (ladder_Ladder_find.j27 0 0 false)))
def ladder_Ladder_find.l32 (a2 : ladder_Ladder) (a3 a4 : Int) (s : Int) : Option (Int × Int × Bool) := loopR (ladder_Ladder_find.l32b a2 a3 a4) s
def ladder_Ladder_find.l19b (a2 : ladder_Ladder) (a3 a4 : Int) : Int → Option ((Int) ⊕ (Int × Int × Bool))
  | (x873) => (if x873 < (a2.bottom.l.length : Int) then (if 0 ≤ x873 then ((ladder_Ladder_find_1.f (nth a2.bottom.l x873) a3 a4).bind fun t897 => (if t897 = true then some (.inr ((-1), x873, true)) else some (.inl (IntKind.i64.wrap (x873 + 1))))) else none) else (Option.map Sum.inr (ladder_Ladder_find.l32 a2 a3 a4 (0))))
def ladder_Ladder_find.l19 (a2 : ladder_Ladder) (a3 a4 : Int) (s : Int) : Option (Int × Int × Bool) := loopR (ladder_Ladder_find.l19b a2 a3 a4) s
def ladder_Ladder_find.f (a2 : ladder_Ladder) (a3 a4 : Int) : Option (Int × Int × Bool) := ladder_Ladder_find.l19 a2 a3 a4 (0)
theorem ladder_Ladder_find.ok {a2 : ladder_Ladder} {a3 a4 : Int} {b1 : Nat} {r : Int × Int × Bool} (h : ladder_Ladder_find.f a2 a3 a4 = some r) (hS : St B w (O_ladder_Ladder hf a2 b1 :: l) hf) :
    Calls prog 294 #[pV b1, iV a3, iV a4] w (Ret fun v w => v = .tuple #[iV r.1, iV r.2.1, .bool r.2.2] ∧ St B w (O_ladder_Ladder hf a2 b1 :: l) hf) := by
  have h := Holds.of h
  refine en func294 rfl ntmps294 rfl (sr (rr [0, 0, 0, 0, 0] hS ?_))
  refine fun b798 b799 => it fun w hS => ln (RC.scope rfl (sr (RL.s (Vl.makeFunc (fi := []) (ca := [.tmp 4, .tmp 5]) rfl rfl) rfl (pn 1 rfl (ln (RC.seq (sr ?_)))))))
  refine r0 4 rfl ?_
  obtain ⟨A856, c857, A858, c859, hs860, hS⟩ := O_ladder_Ladder.o hS.p2
  have hl861 := hS.p3.sepLen
  refine rr [1, 0, 0] hS ?_
  refine it fun w hS => ln (RC.block (fun a ha => lp h (fun (s : Int) a w => ∃ x873, s = (x873) ∧ Has 60 [(0, pV b1), (6, iV 0), (7, iV 0), (8, .bool false), (9, .func (.func 300) #[] #[pV b798, pV b799]), (21, sV A856 a2.bottom.l c857), (22, iV (a2.bottom.l.length : Int)), (23, iV x873)] a ∧ St B w (OSf E_api_Message 115 (sV A856 a2.bottom.l c857) a2.bottom.l :: OSf FSl 399 (sV A858 hs860 c859) hs860 :: Cl b1 [sV A856 a2.bottom.l c857, iV a2.most, sV A858 hs860 c859] 278 :: SepL (ORw E_api_Message 115) a2.rungs hs860 :: Cl b799 [iV a4] 3 :: Cl b798 [iV a3] 3 :: l) hf) ⟨_, rfl, ha.tE rfl, hS.p2.p2⟩ ?_))
  rintro G887 x873 a w ⟨_, rfl, ha, hS⟩ h
  refine ro ha (sr (pn 1 rfl (ln (RC.seq ?_))))
  refine RC.iteP 24 rfl h (fun hc889 h => ?_) fun hc889 h => ?_
  next =>
   refine jt (sk (RC.seq (RC.block (sr (pn 1 rfl ?_)))))
   obtain ⟨hq895, h⟩ := h.req
   refine RL.s (Vl.indexOwn 0 hS rfl underlying99 sizeOf115 rfl rfl hq895 hc889) rfl (RL.s (Vl.loadA isAgg115 sizeOf115 rfl rfl ((hS.slW 0 rfl).2.2.cells hq895 hc889)) rfl (rr [0, 0, 1] hS ?_))
   refine fun b896 => it fun w hS => lnsr (rr [0, 1] hS ?_)
   refine it fun w hS => ?_
   obtain ⟨t897, hg898, h⟩ := h.bind
   have hc := ladder_Ladder_find_1.ok hg898 hS.p5.p6
   refine RL.e (OW.call (ls := [.tmp 29]) rfl rfl call300 rfl hc) rfl rfl ?_
   rintro _ w ⟨rfl, hS⟩
   refine ln ?_
   refine RC.iteB 30 rfl h (fun hc899 h => ?_) fun hc899 h => ?_
   next =>
    refine jtr (pn 4 rfl (lr (ir ?_)))
    have h := h.inrS
    refine RQ.ret (ir (RQ.scR ?_))
    have hS := O_ladder_Ladder.c (x := a2) (hs_5 := hs860) hS.p6.p5.p5.p6
    cases h.some
    exact rt results294 rfl ⟨rfl, hS.d1.d1.d1⟩
   refine jf (RC.skip (RQ.inB_n (RQ.then_n (RC.region (pn 2 rfl (RL.nil ?_))))))
   exact fun a ha => ⟨_, h.some, _, rfl, ha.tE rfl, hS.d2.p1.p5.p5.p5.p5⟩
  refine jf (RC.exit (RQ.exitT ?_))
  have h := h.inr
  refine RQ.exitT (RQ.inB_hit (RQ.then_n (RC.seq (RC.label rfl (RQ.then_n ?_)))))
  refine RC.join (fun (s : Int × Int × Bool) a w => ∃ x1242 x1243 q1244, s = (x1242, x1243, q1244) ∧ Holds (· = r) (ladder_Ladder_find.j27 x1242 x1243 q1244) ∧ Has 60 [(6, iV x1242), (7, iV x1243), (8, .bool q1244)] a ∧ St B w (O_ladder_Ladder hf a2 b1 :: l) hf) ?_ ?_
  · rintro _ a w ⟨x1242, x1243, q1244, rfl, h, ha, hS⟩
    refine ro ha (sr (pn 6 rfl (lr (RQ.scR ?_))))
    cases h.some
    exact rt results294 rfl ⟨rfl, hS⟩
  refine sr (rr [0, 0, 0, 3] hS ?_)
  refine it fun w hS => RL.s (Vl.lenO hl861 underlying276 rfl) rfl (pn 1 rfl (ln (RC.block (fun a ha => lp h (fun (s : Int) a w => ∃ x1356, s = (x1356) ∧ Has 60 [(6, iV 0), (7, iV 0), (8, .bool false), (9, .func (.func 300) #[] #[pV b798, pV b799]), (36, sV A858 hs860 c859), (37, iV (a2.rungs.length : Int)), (38, iV x1356)] a ∧ St B w (OSf FSl 399 (sV A858 hs860 c859) hs860 :: OSf E_api_Message 115 (sV A856 a2.bottom.l c857) a2.bottom.l :: Cl b1 [sV A856 a2.bottom.l c857, iV a2.most, sV A858 hs860 c859] 278 :: SepL (ORw E_api_Message 115) a2.rungs hs860 :: Cl b799 [iV a4] 3 :: Cl b798 [iV a3] 3 :: l) hf) ⟨_, rfl, ha.tE rfl, hS.p1⟩ ?_))))
  rintro G1472 x1356 a w ⟨_, rfl, ha, hS⟩ h
  refine ro ha (sr (pn 1 rfl (ln (RC.seq ?_))))
  refine RC.iteP 39 rfl h (fun hc1474 h => ?_) fun hc1474 h => ?_
  next =>
   refine jt (sk (RC.seq (RC.block (sr (pn 1 rfl ?_)))))
   obtain ⟨hq1532, h⟩ := h.req
   refine RL.s (Vl.indexOwn 0 hS rfl underlying276 sizeOf399 rfl rfl hq1532 (lt_len hl861 hc1474)) rfl (RL.s (Vl.load isAgg399 rfl ((hS.slW 0 rfl).2.2.cell (j := 0) hq1532 (lt_len hl861 hc1474) rfl)) rfl (pn 2 rfl (lnsr (pn 1 rfl ?_))))
   obtain ⟨A1536, c1537, he1538, hS⟩ := (hS.p3.sepTake hq1532 hc1474).orO
   have hS : St B w (_ :: _ :: _ :: _ :: _ :: _ :: _ :: l) hf := hS
   refine RL.re 42 rfl (congrArg hV he1538) (RL.re 13 rfl (congrArg hV he1538) (RL.re 43 rfl (congrArg hV he1538) (r0 2 rfl (ln (RC.block (fun a ha => lp h (fun (s : Int) a w => ∃ x1552, s = (x1552) ∧ Has 60 [(6, iV 0), (7, iV 0), (8, .bool false), (9, .func (.func 300) #[] #[pV b798, pV b799]), (12, iV x1356), (36, sV A858 hs860 c859), (37, iV (a2.rungs.length : Int)), (38, iV x1356), (43, .slice A1536 (nth a2.rungs x1356).length c1537), (44, iV ((nth a2.rungs x1356).length : Int)), (45, iV x1552)] a ∧ St B w (OSf FSl 399 (sV A858 hs860 c859) hs860 :: OSf E_api_Message 115 (.slice A1536 (nth a2.rungs x1356).length c1537) (nth a2.rungs x1356) :: OSf E_api_Message 115 (sV A856 a2.bottom.l c857) a2.bottom.l :: SepH (ORw E_api_Message 115) a2.rungs hs860 x1356 :: Cl b1 [sV A856 a2.bottom.l c857, iV a2.most, sV A858 hs860 c859] 278 :: Cl b799 [iV a4] 3 :: Cl b798 [iV a3] 3 :: l) hf) ⟨_, rfl, ha.tE rfl, hS.p3.p1.p3⟩ ?_))))))
   rintro G1570 x1552 a w ⟨_, rfl, ha, hS⟩ h
   refine ro ha (sr (pn 1 rfl (ln (RC.seq ?_))))
   refine RC.iteP 46 rfl h (fun hc1572 h => ?_) fun hc1572 h => ?_
   next =>
    refine jt (sk (RC.seq (RC.block (sr (pn 1 rfl ?_)))))
    obtain ⟨hq1582, h⟩ := h.req
    refine RL.s (Vl.indexOwn 1 hS rfl underlying399 sizeOf115 rfl rfl hq1582 hc1572) rfl (RL.s (Vl.loadA isAgg115 sizeOf115 rfl rfl ((hS.slW 1 rfl).2.2.cells hq1582 hc1572)) rfl (rr [0, 0, 1] hS ?_))
    refine fun b1583 => it fun w hS => lnsr (rr [0, 1] hS ?_)
    refine it fun w hS => ?_
    obtain ⟨t1584, hg1585, h⟩ := h.bind
    have hc := ladder_Ladder_find_1.ok hg1585 hS.p6.p7
    refine RL.e (OW.call (ls := [.tmp 51]) rfl rfl call300 rfl hc) rfl rfl ?_
    rintro _ w ⟨rfl, hS⟩
    refine ln ?_
    refine RC.iteB 52 rfl h (fun hc1586 h => ?_) fun hc1586 h => ?_
    next =>
     refine jtr (pn 5 rfl (ln (RC.exit (RQ.inB_miss rfl (RQ.exitT ?_)))))
     have h := h.inr
     refine RQ.exitT (RQ.inB_miss rfl (RQ.inB_miss rfl (RQ.exitT ?_)))
     have h := h.inr
     refine RQ.exitT (RQ.inB_hit ?_)
     have hS := (St.orB he1538 hS.p6.p5).sepPut0 hq1532 hc1474
     have hS : St B w (_ :: _ :: _ :: _ :: _ :: _ :: _ :: l) hf := hS
     have hS := O_ladder_Ladder.c (x := a2) (hs_5 := hs860) hS.p4.p5.p6
     exact fun a ha => ⟨_, _, _, _, rfl, h, ha.tE rfl, hS.d1.d1.d1⟩
    refine jf (RC.skip (RQ.inB_n (RQ.then_n (RC.region (pn 2 rfl (RL.nil ?_))))))
    exact fun a ha => ⟨_, h.some, _, rfl, ha.tE rfl, hS.d2.p1.p6.p6.p6.p6.p6⟩
   refine jf (RC.exit (RQ.exitT ?_))
   have h := h.inrS
   refine RQ.exitT (RQ.inB_hit (RQ.inB_n (RQ.then_n (RC.region (pn 2 rfl (RL.nil ?_))))))
   have hS := (St.orB he1538 hS.p3.p2).sepPut0 hq1532 hc1474
   have hS : St B w (_ :: _ :: _ :: _ :: _ :: _ :: l) hf := hS
   exact fun a ha => ⟨_, h.some, _, rfl, ha.tE rfl, hS.p3.p3.p3⟩
  refine jf (RC.exit (RQ.exitT ?_))
  have h := h.inr
  refine RQ.exitT (RQ.inB_hit ?_)
  have hS := O_ladder_Ladder.c (x := a2) (hs_5 := hs860) hS.p1.p2
  exact fun a ha => ⟨_, _, _, _, rfl, h, ha.tE rfl, hS.d1.d1⟩
def ladder_Ladder_Len.l2b (a2 : ladder_Ladder) : Int × Int → Option ((Int × Int) ⊕ (Int))
  | (x84, x85) => (if x85 < (a2.rungs.length : Int) then (if 0 ≤ x85 then some (.inl (IntKind.i64.wrap (x84 + ((nth a2.rungs x85).length : Int)), IntKind.i64.wrap (x85 + 1))) else none) else some (.inr x84))
def ladder_Ladder_Len.l2 (a2 : ladder_Ladder) (s : Int × Int) : Option (Int) := loopR (ladder_Ladder_Len.l2b a2) s
def ladder_Ladder_Len.f (a2 : ladder_Ladder) : Option (Int) := ((ladder_Ladder_none.f a2).bind fun t59 => (if t59 = true then some 0 else ladder_Ladder_Len.l2 a2 ((a2.bottom.l.length : Int), 0)))
theorem ladder_Ladder_Len.ok {a2 : ladder_Ladder} {b1 : Nat} {r : Int} (h : ladder_Ladder_Len.f a2 = some r) (hS : St B w (O_ladder_Ladder hf a2 b1 :: l) hf) :
    Calls prog 289 #[pV b1] w (Ret fun v w => v = iV r ∧ St B w (O_ladder_Ladder hf a2 b1 :: l) hf) := by
  have h := Holds.of h
  refine en func289 rfl ntmps289 rfl (sr (pn 1 rfl (ln (RC.seq (sr (pn 1 rfl (cF (fun _ hg => ladder_Ladder_none.ok hg hS) call293 h rfl rfl rfl ?_)))))))
  rintro t59 h _ w ⟨rfl, hS⟩
  refine ln ?_
  refine RC.iteB 7 rfl h (fun hc61 h => ?_) fun hc61 h => ?_
  next =>
   refine jtr (pn 1 rfl (lr (RQ.ret ?_)))
   obtain rfl := h.some
   exact rt results289 rfl ⟨rfl, hS⟩
  refine jfs (sr (r0 4 rfl ?_))
  obtain ⟨A68, c69, A70, c71, hs72, hS⟩ := O_ladder_Ladder.o hS
  have hl73 := hS.p3.sepLen
  refine rr [1, 0, 0] hS ?_
  refine it fun w hS => ln (RC.seq (sr (rr [0, 0, 0, 1] hS ?_)))
  refine it fun w hS => RL.s (Vl.lenO hl73 underlying276 rfl) rfl (pn 1 rfl (ln (RC.block (fun a ha => lp h (fun (s : Int × Int) a w => ∃ x84 x85, s = (x84, x85) ∧ Has 29 [(3, iV x84), (17, sV A70 hs72 c71), (18, iV (a2.rungs.length : Int)), (19, iV x85)] a ∧ St B w (OSf FSl 399 (sV A70 hs72 c71) hs72 :: OSf E_api_Message 115 (sV A68 a2.bottom.l c69) a2.bottom.l :: Cl b1 [sV A68 a2.bottom.l c69, iV a2.most, sV A70 hs72 c71] 278 :: SepL (ORw E_api_Message 115) a2.rungs hs72 :: l) hf) ⟨_, _, rfl, ha.tE rfl, hS.p1.p2⟩ ?_))))
  rintro G98 _ a w ⟨x84, x85, rfl, ha, hS⟩ h
  refine ro ha (sr (pn 1 rfl (ln (RC.seq ?_))))
  refine RC.iteP 20 rfl h (fun hc100 h => ?_) fun hc100 h => ?_
  next =>
   refine jt (sk (RC.seq (RC.block (sr ?_))))
   obtain ⟨hq105, h⟩ := h.req
   refine RL.s (Vl.indexOwn 0 hS rfl underlying276 sizeOf399 rfl rfl hq105 (lt_len hl73 hc100)) rfl (RL.s (Vl.load isAgg399 rfl ((hS.slW 0 rfl).2.2.cell (j := 0) hq105 (lt_len hl73 hc100) rfl)) rfl (pn 1 rfl (ln (RC.region (pn 2 rfl ?_)))))
   obtain ⟨A106, c107, he108, hS⟩ := (hS.p3.sepTake hq105 hc100).orO
   have hS : St B w (_ :: _ :: _ :: _ :: _ :: l) hf := hS
   refine RL.re 22 rfl (congrArg hV he108) (RL.re 5 rfl (congrArg hV he108) (RL.re 24 rfl (congrArg hV he108) (r0 3 rfl (RL.nil (RQ.inB_n (RQ.then_n (RC.region (pn 2 rfl (RL.nil ?_)))))))))
   have hS := (St.orB he108 hS).sepPut0 hq105 hc100
   have hS : St B w (_ :: _ :: _ :: _ :: l) hf := hS
   exact fun a ha => ⟨_, h.some, _, _, rfl, ha.tE rfl, hS.p3.p3.p3⟩
  refine jf (RC.exit (RQ.exitT ?_))
  have h := h.inrS
  refine RQ.exitT (RQ.inB_hit (tsr (pn 2 rfl (lr ?_))))
  have hS := O_ladder_Ladder.c (x := a2) (hs_5 := hs72) hS.p1.p2
  obtain rfl := h.some
  exact rt results289 rfl ⟨rfl, hS⟩
def ladder_above.l2b (a1 : List api_Message) (a5 : api_Message) : Int → Option ((Int) ⊕ (Bool))
  | (x59) => (if x59 < (a1.length : Int) then (if 0 ≤ x59 then ((event_Before.f a5 (nth a1 x59)).bind fun t83 => (if t83 = true then some (.inl (IntKind.i64.wrap (x59 + 1))) else some (.inr false))) else none) else some (.inr true))
def ladder_above.l2 (a1 : List api_Message) (a5 : api_Message) (s : Int) : Option (Bool) := loopR (ladder_above.l2b a1 a5) s
def ladder_above.f (a1 : List api_Message) (a5 : api_Message) : Option (Bool) := ladder_above.l2 a1 a5 (0)
theorem ladder_above.ok {a1 : List api_Message} {a5 : api_Message} {A2 : Option Addr} {c3 : Nat} (hr4 : SlR E_api_Message.rep hf A2 c3 a1) {r : Bool} (h : ladder_above.f a1 a5 = some r) (hS : St B w (l) hf) :
    Calls prog 296 #[sV A2 a1 c3, .agg (C_api_Message a5).toArray] w (Ret fun v w => v = .bool r ∧ St B w (l) hf) := by
  have h := Holds.of h
  refine en func296 rfl ntmps296 rfl (sr (rr [0, 0] hS ?_))
  refine fun b47 => it fun w hS => ln (RC.seq (sr (r0 3 rfl (ln (RC.block (fun a ha => lp h (fun (s : Int) a w => ∃ x59, s = (x59) ∧ Has 18 [(3, pV b47), (7, sV A2 a1 c3), (8, iV (a1.length : Int)), (9, iV x59)] a ∧ St B w (Cl b47 (C_api_Message a5) 115 :: l) hf) ⟨_, rfl, ha.tE rfl, hS⟩ ?_))))))
  rintro G73 x59 a w ⟨_, rfl, ha, hS⟩ h
  refine ro ha (sr (pn 1 rfl (ln (RC.seq ?_))))
  refine RC.iteP 10 rfl h (fun hc75 h => ?_) fun hc75 h => ?_
  next =>
   refine jt (sk (RC.seq (RC.block (sr ?_))))
   obtain ⟨hq81, h⟩ := h.req
   refine RL.s (Vl.indexAddr underlying399 sizeOf115 rfl rfl ((hr4.2.world hS.sub).adr hq81 hc75) hq81 hc75 rfl) rfl (RL.s (Vl.loadA isAgg115 sizeOf115 rfl rfl ((hr4.2.world hS.sub).cells hq81 hc75)) rfl (rr [0, 1] hS ?_))
   refine fun b82 => it fun w hS => lnsr (rr [2, 1] hS ?_)
   refine it fun w hS => cF (fun _ hg => event_Before.ok hg hS) call97 h rfl rfl rfl ?_
   rintro t83 h _ w ⟨rfl, hS⟩
   refine pn 1 rfl (ln ?_)
   refine RC.iteM 16 rfl h (fun hc85 h => ?_) fun hc85 h => ?_
   next =>
    refine jf (RC.skip (RQ.inB_n (RQ.then_n (RC.region (pn 2 rfl (RL.nil ?_))))))
    exact fun a ha => ⟨_, h.some, _, rfl, ha.tE rfl, hS.d0⟩
   refine jtr (pn 1 rfl (lr (ir ?_)))
   have h := h.inrS
   refine RQ.ret (ir ?_)
   obtain rfl := h.some
   exact rt results296 rfl ⟨rfl, hS.d0.d0⟩
  refine jf (RC.exit (RQ.exitT ?_))
  have h := h.inrS
  refine RQ.exitT (RQ.inB_hit (tsr (pn 1 rfl (lr ?_))))
  obtain rfl := h.some
  exact rt results296 rfl ⟨rfl, hS.d0⟩
def ladder_behind.f (a1 : List api_Message) (a5 : api_Message) : Option (Bool) := (if (a1.length : Int) = 0 then some true else (if 0 ≤ IntKind.i64.wrap ((a1.length : Int) - 1) ∧ IntKind.i64.wrap ((a1.length : Int) - 1) < (a1.length : Int) then ((event_Before.f a5 (nth a1 (IntKind.i64.wrap ((a1.length : Int) - 1)))).bind fun t18 => some (!t18)) else none))
theorem ladder_behind.ok {a1 : List api_Message} {a5 : api_Message} {A2 : Option Addr} {c3 : Nat} (hr4 : SlR E_api_Message.rep hf A2 c3 a1) {r : Bool} (h : ladder_behind.f a1 a5 = some r) (hS : St B w (l) hf) :
    Calls prog 297 #[sV A2 a1 c3, .agg (C_api_Message a5).toArray] w (Ret fun v w => v = .bool r ∧ St B w (l) hf) := by
  have h := Holds.of h
  refine en func297 rfl ntmps297 rfl (sr (rr [0, 0] hS ?_))
  refine fun b14 => it fun w hS => ln (RC.seq (dr [0, 3, 6, 9, 13, 15, 20, 23, 26, 29, 32, 35, 38, 41, 44] [11, 12, 13, 14] hS fun w hS => rq [0, 0, 0, 0] hS ?_))
  refine it ?_
  refine RP.iteP 8 rfl h (fun hc15 h => ?_) fun hc15 h => ?_
  next =>
   refine rq [0, 0, 0, 0, 0, 0, 0, 0, 0, 0, 0] hS ?_
   refine it (RP.nil (tr ?_))
   obtain rfl := h.some
   exact rt results297 rfl ⟨rfl, hS.d0⟩
  refine rq [1, 0, 0, 0, 0] hS ?_
  refine it ?_
  obtain ⟨⟨hq16, hq17⟩, h⟩ := h.req
  refine RP.v1 9 rfl (Vl.indexAddr underlying99 sizeOf115 rfl rfl ((hr4.2.world hS.sub).adr hq16 hq17) hq16 hq17 rfl) rfl rfl (RP.v1 10 rfl (Vl.loadA isAgg115 sizeOf115 rfl rfl ((hr4.2.world hS.sub).cells hq16 hq17)) rfl rfl ?_)
  obtain ⟨t18, hg19, h⟩ := h.bind
  have hc := event_Before.ok hg19 hS
  refine RP.e 11 rfl (OW.callF (ls := [.tmp 9, .tmp 15]) rfl call97 hc) rfl rfl ?_
  rintro _ w ⟨rfl, hS⟩
  refine ⟨kp ⟨(by intro hx; cases hx), trivial⟩, ?_⟩
  refine rq [0, 0, 0] hS ?_
  refine it (RP.nil (tr ?_))
  cases h.some
  exact rt results297 rfl ⟨rfl, hS.d0⟩
def ladder_bottom_insert.j5 (a2 : ladder_Ladder) (a9 : api_Message) (x157 : Int) : Option (List api_Message) := (if (a2.bottom.l.length + 1) * 56 ≤ 140737488355328 then (if 0 ≤ IntKind.i64.wrap (x157 + 1) ∧ IntKind.i64.wrap (x157 + 1) ≤ ((a2.bottom.l ++ ([(⟨(⟨0, 0, 0⟩ : api_Key), 0, 0, 0, false⟩ : api_Message)])).length : Int) then (if 0 ≤ x157 ∧ x157 ≤ ((a2.bottom.l ++ ([(⟨(⟨0, 0, 0⟩ : api_Key), 0, 0, 0, false⟩ : api_Message)])).length : Int) then (if x157 < ((movL (a2.bottom.l ++ ([(⟨(⟨0, 0, 0⟩ : api_Key), 0, 0, 0, false⟩ : api_Message)])) (IntKind.i64.wrap (x157 + 1) : Int).toNat (x157 : Int).toNat (min ((a2.bottom.l ++ ([(⟨(⟨0, 0, 0⟩ : api_Key), 0, 0, 0, false⟩ : api_Message)])).length - (x157 : Int).toNat) ((a2.bottom.l ++ ([(⟨(⟨0, 0, 0⟩ : api_Key), 0, 0, 0, false⟩ : api_Message)])).length - (IntKind.i64.wrap (x157 + 1) : Int).toNat))).length : Int) then some (setL (movL (a2.bottom.l ++ ([(⟨(⟨0, 0, 0⟩ : api_Key), 0, 0, 0, false⟩ : api_Message)])) (IntKind.i64.wrap (x157 + 1) : Int).toNat (x157 : Int).toNat (min ((a2.bottom.l ++ ([(⟨(⟨0, 0, 0⟩ : api_Key), 0, 0, 0, false⟩ : api_Message)])).length - (x157 : Int).toNat) ((a2.bottom.l ++ ([(⟨(⟨0, 0, 0⟩ : api_Key), 0, 0, 0, false⟩ : api_Message)])).length - (IntKind.i64.wrap (x157 + 1) : Int).toNat))) x157 a9) else none) else none) else none) else none)
def ladder_bottom_insert.l6b (a2 : ladder_Ladder) (a9 : api_Message) : Int → Option ((Int) ⊕ (List api_Message))
  | (x193) => (if 0 < x193 then (if 0 ≤ IntKind.i64.wrap (x193 - 1) ∧ IntKind.i64.wrap (x193 - 1) < (a2.bottom.l.length : Int) then ((event_Before.f a9 (nth a2.bottom.l (IntKind.i64.wrap (x193 - 1)))).bind fun t217 => (if t217 = true then some (.inl (IntKind.i64.wrap (x193 - 1))) else (Option.map Sum.inr (ladder_bottom_insert.j5 a2 a9 x193)))) else none) else (Option.map Sum.inr (ladder_bottom_insert.j5 a2 a9 x193)))
def ladder_bottom_insert.l6 (a2 : ladder_Ladder) (a9 : api_Message) (s : Int) : Option (List api_Message) := loopR (ladder_bottom_insert.l6b a2 a9) s
def ladder_bottom_insert.f (a2 : ladder_Ladder) (a9 : api_Message) : Option (List api_Message) := ladder_bottom_insert.l6 a2 a9 ((a2.bottom.l.length : Int))
theorem ladder_bottom_insert.ok {a2 : ladder_Ladder} {a9 : api_Message} {b1 c4 c6 : Nat} {A3 A5 : Option Addr} {hs7 : List (Option Addr × Nat × Nat)} (hl8 : a2.rungs.length = hs7.length) {r : List api_Message} (h : ladder_bottom_insert.f a2 a9 = some r) (hS : St B w (Cl b1 [sV A3 a2.bottom.l c4, iV a2.most, sV A5 hs7 c6] 278 :: OSf E_api_Message 115 (sV A3 a2.bottom.l c4) a2.bottom.l :: OSf FSl 399 (sV A5 hs7 c6) hs7 :: SepL (ORw E_api_Message 115) a2.rungs hs7 :: l) hf) :
    Calls prog 298 #[pV b1, .agg (C_api_Message a9).toArray] w (Ret fun v w => ∃ (A_1 : Option Addr) (c_2 : Nat), v = .tuple #[] ∧ St B w (OSf E_api_Message 115 (sV A_1 r c_2) r :: Cl b1 [sV A_1 r c_2, iV a2.most, sV A5 hs7 c6] 278 :: OSf FSl 399 (sV A5 hs7 c6) hs7 :: SepL (ORw E_api_Message 115) a2.rungs hs7 :: l) hf) := by
  have h := Holds.of h
  refine en func298 rfl ntmps298 rfl (sr (rr [0] hS ?_))
  refine fun b116 => it fun w hS => lnsr (rr [0, 0, 0, 2, 0, 0] hS ?_)
  refine it fun w hS => ln ?_
  refine RC.join (fun (s : Int) a w => ∃ x157, s = (x157) ∧ Holds (· = r) (ladder_bottom_insert.j5 a2 a9 x157) ∧ Has 57 [(0, pV b1), (3, pV b116), (4, iV x157)] a ∧ St B w (OSf E_api_Message 115 (sV A3 a2.bottom.l c4) a2.bottom.l :: OSf FSl 399 (sV A5 hs7 c6) hs7 :: Cl b116 (C_api_Message a9) 115 :: Cl b1 [sV A3 a2.bottom.l c4, iV a2.most, sV A5 hs7 c6] 278 :: SepL (ORw E_api_Message 115) a2.rungs hs7 :: l) hf) ?_ ?_
  · rintro x157 a w ⟨_, rfl, h, ha, hS⟩
    refine ro ha (sr (rr [0, 0, 0, 0, 4, 0] hS ?_))
    refine it fun w hS => RL.e (OW.buildSlice (E := E_api_Message) (xs := [(⟨(⟨0, 0, 0⟩ : api_Key), 0, 0, 0, false⟩ : api_Message)]) (cs := [iV 0, iV 0, iV 0, iV 0, iV 0, iV 0, .bool false]) hS underlying99 zeroValue115 sizeOf115 (parts := [(0, .tmp 31)]) rfl rfl (by decide) (by decide) (by kernel_rfl) rfl) rfl rfl ?_
    rintro _ w ⟨b163, rfl, hS⟩
    obtain ⟨hq164, h⟩ := h.req
    refine RL.e (OW.append (E := E_api_Message) (xs := a2.bottom.l) (ys := [(⟨(⟨0, 0, 0⟩ : api_Key), 0, 0, 0, false⟩ : api_Message)]) 1 hS rfl underlying99 type115 rfl rfl rfl rfl (by decide) rfl rfl rfl (hS.slW 0 rfl).2.2.flat (by simp only [maxLen, List.length_cons, List.length_nil] at *; omega) hq164 rfl) rfl rfl ?_
    rintro v167 w hS
    obtain ⟨A165, c166, rfl, _⟩ := hS.osShape 0 rfl
    have hS : St B w (_ :: _ :: _ :: _ :: _ :: _ :: l) hf := hS
    refine rr [0, 0, 5] hS ?_
    refine it fun w hS => ln (RC.seq (dr [0, 3, 6, 10, 12, 15, 19, 21, 24, 27, 31, 35, 38, 41] [13] hS fun w hS => rq [0, 0, 0, 5, 0, 0] hS ?_))
    refine it ?_
    obtain ⟨⟨hq173, hq174⟩, h⟩ := h.req
    refine RP.s 0 6 rfl rfl hS (fun w hS => Vl.sliceLO (xs := (a2.bottom.l ++ ([(⟨(⟨0, 0, 0⟩ : api_Key), 0, 0, 0, false⟩ : api_Message)]))) 0 hS rfl underlying99 sizeOf115 rfl rfl  hq173 hq174) rfl (rq [0, 0, 0, 5, 0] hS ?_)
    refine it ?_
    obtain ⟨⟨hq175, hq176⟩, h⟩ := h.req
    refine RP.v1 12 rfl (Vl.sliceLO (xs := (a2.bottom.l ++ ([(⟨(⟨0, 0, 0⟩ : api_Key), 0, 0, 0, false⟩ : api_Message)]))) 0 hS rfl underlying99 sizeOf115 rfl rfl  hq175 hq176) rfl rfl (RP.e 13 rfl (OW.copyOwn (E := E_api_Message) (a := IntKind.i64.wrap (x157 + 1)) (b := x157) 0 hS rfl underlying99 type115 rfl (by decide) rfl rfl hq173 hq174 hq175 hq176 rfl) rfl rfl ?_)
    rintro _ w ⟨rfl, hS⟩
    have he177 := (hS.osN 0 rfl).1
    have hS : St B w (_ :: _ :: _ :: _ :: _ :: _ :: l) hf := (congrArg (fun k_ : Nat => St B w (OSf E_api_Message 115 (.slice A165 k_ c166) (movL (a2.bottom.l ++ ([(⟨(⟨0, 0, 0⟩ : api_Key), 0, 0, 0, false⟩ : api_Message)])) (IntKind.i64.wrap (x157 + 1) : Int).toNat (x157 : Int).toNat (min ((a2.bottom.l ++ ([(⟨(⟨0, 0, 0⟩ : api_Key), 0, 0, 0, false⟩ : api_Message)])).length - (x157 : Int).toNat) ((a2.bottom.l ++ ([(⟨(⟨0, 0, 0⟩ : api_Key), 0, 0, 0, false⟩ : api_Message)])).length - (IntKind.i64.wrap (x157 + 1) : Int).toNat))) :: OSf E_api_Message 115 (.slice (some ⟨b163, 0, none⟩) ([(⟨(⟨0, 0, 0⟩ : api_Key), 0, 0, 0, false⟩ : api_Message)]).length 1) ([(⟨(⟨0, 0, 0⟩ : api_Key), 0, 0, 0, false⟩ : api_Message)]) :: OSf FSl 399 (sV A5 hs7 c6) hs7 :: Cl b116 (C_api_Message a9) 115 :: Cl b1 [.slice A165 k_ c166, iV a2.most, sV A5 hs7 c6] 278 :: SepL (ORw E_api_Message 115) a2.rungs hs7 :: l) hf) he177).mp hS
    refine ⟨kp ⟨(by intro hx; cases hx), trivial⟩, ?_⟩
    refine RP.re 33 rfl (congrArg (fun k_ : Nat => (.slice A165 k_ c166 : Value)) he177) (RP.re 39 rfl (congrArg (fun k_ : Nat => (.slice A165 k_ c166 : Value)) he177) (RP.re 46 rfl (congrArg (fun k_ : Nat => (.slice A165 k_ c166 : Value)) he177) (RP.nil (RQ.then_n (dr [0, 3, 6, 10, 12, 17, 20, 23] [6, 7] hS fun w hS => rq [0, 0, 0, 5, 0, 4] hS ?_)))))
    refine it ?_
    obtain ⟨hq178, h⟩ := h.req
    refine RP.v1 6 rfl (Vl.indexOwn 0 hS rfl underlying99 sizeOf115 rfl rfl hq175 hq178) rfl rfl (RP.e0 7 rfl (OW.storeOwn (E := E_api_Message) (off := 0) (j := x157) (x' := a9) (vs := (C_api_Message a9)) 0 hS rfl rfl rfl rfl sizeOf115 rfl (Nat.succ_pos _) hq175 hq178 (Nat.le_of_ble_eq_true rfl) rfl rfl) rfl ?_)
    rintro _ w ⟨rfl, hS⟩
    have he179 := (hS.osN 0 rfl).1
    have hS : St B w (_ :: _ :: _ :: _ :: _ :: _ :: l) hf := (congrArg (fun k_ : Nat => St B w (OSf E_api_Message 115 (.slice A165 k_ c166) (setL (movL (a2.bottom.l ++ ([(⟨(⟨0, 0, 0⟩ : api_Key), 0, 0, 0, false⟩ : api_Message)])) (IntKind.i64.wrap (x157 + 1) : Int).toNat (x157 : Int).toNat (min ((a2.bottom.l ++ ([(⟨(⟨0, 0, 0⟩ : api_Key), 0, 0, 0, false⟩ : api_Message)])).length - (x157 : Int).toNat) ((a2.bottom.l ++ ([(⟨(⟨0, 0, 0⟩ : api_Key), 0, 0, 0, false⟩ : api_Message)])).length - (IntKind.i64.wrap (x157 + 1) : Int).toNat))) x157 a9) :: OSf E_api_Message 115 (.slice (some ⟨b163, 0, none⟩) ([(⟨(⟨0, 0, 0⟩ : api_Key), 0, 0, 0, false⟩ : api_Message)]).length 1) ([(⟨(⟨0, 0, 0⟩ : api_Key), 0, 0, 0, false⟩ : api_Message)]) :: OSf FSl 399 (sV A5 hs7 c6) hs7 :: Cl b116 (C_api_Message a9) 115 :: Cl b1 [.slice A165 k_ c166, iV a2.most, sV A5 hs7 c6] 278 :: SepL (ORw E_api_Message 115) a2.rungs hs7 :: l) hf) he179).mp hS
    refine ⟨kp ⟨(by intro hx; cases hx), trivial⟩, ?_⟩
    refine RP.re 33 rfl (congrArg (fun k_ : Nat => (.slice A165 k_ c166 : Value)) he179) (RP.re 39 rfl (congrArg (fun k_ : Nat => (.slice A165 k_ c166 : Value)) he179) (RP.re 46 rfl (congrArg (fun k_ : Nat => (.slice A165 k_ c166 : Value)) he179) (RP.re 53 rfl (congrArg (fun k_ : Nat => (.slice A165 k_ c166 : Value)) he179) (RP.nil ?_))))
    cases h.some
    exact rtE results298 rfl ⟨A165, c166, rfl, hS.d1.d2.p2.p1⟩
  refine RC.block (fun a ha => lp h (fun (s : Int) a w => ∃ x193, s = (x193) ∧ Has 57 [(0, pV b1), (3, pV b116), (4, iV x193)] a ∧ St B w (OSf E_api_Message 115 (sV A3 a2.bottom.l c4) a2.bottom.l :: OSf FSl 399 (sV A5 hs7 c6) hs7 :: Cl b116 (C_api_Message a9) 115 :: Cl b1 [sV A3 a2.bottom.l c4, iV a2.most, sV A5 hs7 c6] 278 :: SepL (ORw E_api_Message 115) a2.rungs hs7 :: l) hf) ⟨_, rfl, ha.tE rfl, hS.p3.p3⟩ ?_)
  rintro G207 x193 a w ⟨_, rfl, ha, hS⟩ h
  refine ro ha (RC.seq (RC.seq (dr [0, 3, 6, 10, 12, 15, 18, 22, 26, 29, 32, 35, 38, 41] [12, 13] hS fun w hS => pp 3 rfl ?_)))
  refine RP.iteP 12 rfl h (fun hc214 h => ?_) fun hc214 h => ?_
  next =>
   refine rq [3, 0, 0, 0, 4, 0, 0] hS ?_
   refine it ?_
   obtain ⟨⟨hq215, hq216⟩, h⟩ := h.req
   refine RP.v1 10 rfl (Vl.indexOwn 0 hS rfl underlying99 sizeOf115 rfl rfl hq215 hq216) rfl rfl (RP.v1 11 rfl (Vl.loadA isAgg115 sizeOf115 rfl rfl ((hS.slW 0 rfl).2.2.cells hq215 hq216)) rfl rfl ?_)
   obtain ⟨t217, hg218, h⟩ := h.bind
   have hc := event_Before.ok hg218 hS
   refine RP.e 12 rfl (OW.callF (ls := [.tmp 13, .tmp 21]) rfl call97 hc) rfl rfl ?_
   rintro _ w ⟨rfl, hS⟩
   refine ⟨kp ⟨(by intro hx; cases hx), trivial⟩, ?_⟩
   refine rq [0] hS ?_
   refine it (RP.nil (RQ.then_n ?_))
   refine RC.iteB 23 rfl h (fun hc219 h => ?_) fun hc219 h => ?_
   next =>
    refine jt (sk (RC.block (RC.region (pn 3 rfl (RL.nil (RQ.inB_n ?_))))))
    exact fun a ha => ⟨_, h.some, _, rfl, ha.tE rfl, hS⟩
   refine jf (RC.exit (RQ.exitT ?_))
   have h := h.inr
   refine RQ.exitT (RQ.inB_hit ?_)
   exact fun a ha => ⟨_, _, rfl, h, ha.tE rfl, hS⟩
  refine rq [0, 0, 0, 0, 0, 0, 0, 0, 0, 0, 0] hS ?_
  refine it (RP.nil (RQ.then_n (jf (RC.exit (RQ.exitT ?_)))))
  have h := h.inr
  refine RQ.exitT (RQ.inB_hit ?_)
  exact fun a ha => ⟨_, _, rfl, h, ha.tE rfl, hS⟩
def ladder_Ladder_spill.f (a2 : ladder_Ladder) : Option (ladder_Ladder) := (if (a2.bottom.l.length : Int) ≤ IntKind.i64.wrap (2 * a2.most) then some a2 else (if 0 ≤ IntKind.i64.wrap (Int.tdiv (a2.bottom.l.length : Int) 2) ∧ IntKind.i64.wrap (Int.tdiv (a2.bottom.l.length : Int) 2) ≤ (a2.bottom.l.length : Int) then (if (([] : List api_Message).length + (subL a2.bottom.l (IntKind.i64.wrap (Int.tdiv (a2.bottom.l.length : Int) 2)) (a2.bottom.l.length : Int)).length) * 56 ≤ 140737488355328 then (if (a2.rungs.length + 1) * 24 ≤ 140737488355328 then some (⟨(⟨(subL a2.bottom.l 0 (IntKind.i64.wrap (Int.tdiv (a2.bottom.l.length : Int) 2)))⟩ : ladder_bottom), a2.most, (a2.rungs ++ [(([] : List api_Message) ++ (subL a2.bottom.l (IntKind.i64.wrap (Int.tdiv (a2.bottom.l.length : Int) 2)) (a2.bottom.l.length : Int)))])⟩ : ladder_Ladder) else none) else none) else none))
theorem ladder_Ladder_spill.ok {a2 r : ladder_Ladder} {b1 : Nat} (h : ladder_Ladder_spill.f a2 = some r) (hS : St B w (O_ladder_Ladder hf a2 b1 :: l) hf) :
    Calls prog 299 #[pV b1] w (Ret fun v w => v = .tuple #[] ∧ St B w (O_ladder_Ladder hf r b1 :: l) hf) := by
  have h := Holds.of h
  refine en func299 rfl ntmps299 rfl (RC.seq (RC.seq ?_))
  obtain ⟨A48, c49, A50, c51, hs52, hS⟩ := O_ladder_Ladder.o hS
  have hl53 := hS.p3.sepLen
  refine dr [0, 3, 6, 9, 13, 15, 20, 23, 26, 29, 32, 35] [11] hS fun w hS => rq [0, 0, 0, 0, 1, 0, 0, 0, 0, 1, 0, 0] hS ?_
  refine it (RP.nil (RQ.then_n ?_))
  refine RC.iteP 14 rfl h (fun hc54 h => ?_) fun hc54 h => ?_
  next =>
   refine jt (RC.ret (RQ.ret ?_))
   have hS := O_ladder_Ladder.c (x := a2) (hs_5 := hs52) hS
   obtain rfl := h.some
   exact rt results299 rfl ⟨rfl, hS⟩
  refine jfs (sr (rr [0, 0, 0, 0, 1, 0] hS ?_))
  refine it fun w hS => RL.s (Vl.quo rfl rfl (by decide)) rfl (pn 1 rfl (ln (RC.seq (dr [0, 3, 6, 9, 13, 15, 18, 21, 24, 28, 32, 35, 38, 41, 44, 47, 50, 53] [14, 15, 16, 17] hS fun w hS => rq [0, 0, 0, 0, 1, 0, 0, 0, 0, 1, 0] hS ?_))))
  refine it ?_
  obtain ⟨⟨hq67, hq68⟩, h⟩ := h.req
  refine RP.v1 11 rfl (Vl.sliceLO (xs := a2.bottom.l) 1 hS rfl underlying99 sizeOf115 rfl rfl  hq67 hq68) rfl rfl ?_
  obtain ⟨hq69, h⟩ := h.req
  have hS := hS.nilSl E_api_Message 115
  refine RP.e 12 rfl (OW.appT underlying399 underlying99 (OW.appendV (E := E_api_Message) (xs := ([] : List api_Message)) (ys := (subL a2.bottom.l (IntKind.i64.wrap (Int.tdiv (a2.bottom.l.length : Int) 2)) (a2.bottom.l.length : Int))) 0 hS rfl underlying399 type115 rfl rfl rfl rfl (by decide) (by decide) rfl rfl ((hS.slW 2 rfl).2.2.sub hq67 hq68 (Int.le_refl _) (hS.slW 2 rfl).2.1) hq69 rfl)) rfl rfl ?_
  rintro v72 w hS
  obtain ⟨A70, c71, rfl, _⟩ := hS.osShape 0 rfl
  have hS : St B w (_ :: _ :: _ :: _ :: _ :: l) hf := hS
  refine ⟨kp ⟨fun _ => hS.d0, trivial⟩, ?_⟩
  refine RP.e 13 rfl (OW.buildSlice (E := FSl) (xs := [(A70, (([] : List api_Message) ++ (subL a2.bottom.l (IntKind.i64.wrap (Int.tdiv (a2.bottom.l.length : Int) 2)) (a2.bottom.l.length : Int))).length, c71)]) (cs := [.slice A70 (([] : List api_Message) ++ (subL a2.bottom.l (IntKind.i64.wrap (Int.tdiv (a2.bottom.l.length : Int) 2)) (a2.bottom.l.length : Int))).length c71]) hS underlying276 zeroValue399 sizeOf399 (parts := [(0, .tmp 34)]) rfl rfl (by decide) (by decide) (by kernel_rfl) rfl) rfl rfl ?_
  rintro _ w ⟨b73, rfl, hS⟩
  refine ⟨kp ⟨fun _ => hS.d0.d0, trivial⟩, ?_⟩
  obtain ⟨hq75, h⟩ := h.req
  have hS := (St.orC (E := E_api_Message) (x := (([] : List api_Message) ++ (subL a2.bottom.l (IntKind.i64.wrap (Int.tdiv (a2.bottom.l.length : Int) 2)) (a2.bottom.l.length : Int)))) (A := A70) (c := c71) hS.p5.p2).p1.sepSnoc
  have hl74 := hS.sepLen
  refine RP.e 14 rfl (OW.append (E := FSl) (xs := hs52) (ys := ([(A70, (([] : List api_Message) ++ (subL a2.bottom.l (IntKind.i64.wrap (Int.tdiv (a2.bottom.l.length : Int) 2)) (a2.bottom.l.length : Int))).length, c71)] : List Hdr)) 4 hS rfl underlying276 type399 rfl rfl rfl rfl (by decide) rfl rfl rfl (hS.slW 1 rfl).2.2.flat (by simp only [maxLen, List.length_cons, List.length_nil] at *; omega) (le_app hl53 hq75) rfl) rfl rfl ?_
  rintro v78 w hS
  obtain ⟨A76, c77, rfl, _⟩ := hS.osShape 0 rfl
  have hS : St B w (_ :: _ :: _ :: _ :: _ :: l) hf := hS
  refine ⟨kp ⟨(by intro hx; cases hx), trivial⟩, ?_⟩
  refine RP.v1 15 rfl (Vl.nilCheck rfl) rfl rfl (RP.v1 16 rfl (Vl.fa 2 underlying278 rfl sizeOf276 rfl rfl) rfl rfl (RP.e0 17 rfl (OW.store (vs := [.slice A76 (hs52 ++ ([(A70, (([] : List api_Message) ++ (subL a2.bottom.l (IntKind.i64.wrap (Int.tdiv (a2.bottom.l.length : Int) 2)) (a2.bottom.l.length : Int))).length, c71)] : List Hdr)).length c77]) 3 hS rfl rfl rfl rfl sizeOf276 rfl rfl rfl rfl) rfl ?_))
  rintro _ w ⟨rfl, hS⟩
  have hS : St B w (_ :: _ :: _ :: Cl _ [_, _, _] _ :: _ :: l) hf := hS
  refine ⟨kp ⟨(by intro hx; cases hx), trivial⟩, ?_⟩
  refine RP.nil (RQ.then_n (RC.region (rr [0, 0, 0, 0, 0, 4, 0] hS ?_)))
  refine it fun w hS => RL.s (Vl.sliceHO (xs := a2.bottom.l) 4 hS rfl underlying99 sizeOf115 rfl rfl  hq67 hq68) rfl (r0 3 rfl ?_)
  have hS : St B w (_ :: _ :: _ :: _ :: _ :: l) hf := hS.part0 4 rfl hq67 hq68 rfl
  refine rr [4] hS ?_
  refine it fun w hS => RL.nil ?_
  have hS := O_ladder_Ladder.c (x := (⟨(⟨(subL a2.bottom.l 0 (IntKind.i64.wrap (Int.tdiv (a2.bottom.l.length : Int) 2)))⟩ : ladder_bottom), a2.most, (a2.rungs ++ [(([] : List api_Message) ++ (subL a2.bottom.l (IntKind.i64.wrap (Int.tdiv (a2.bottom.l.length : Int) 2)) (a2.bottom.l.length : Int)))])⟩ : ladder_Ladder)) (hs_5 := (hs52 ++ ([(A70, (([] : List api_Message) ++ (subL a2.bottom.l (IntKind.i64.wrap (Int.tdiv (a2.bottom.l.length : Int) 2)) (a2.bottom.l.length : Int))).length, c71)] : List Hdr))) hS.p4.p4
  cases h.some
  exact rtE results299 rfl ⟨rfl, hS.d1⟩
def ladder_Ladder_Push.j7 (a2 : ladder_Ladder) (a3 : api_Message) (x536 : Int) (q551 : Bool) : Option (Int × ladder_Ladder) := (if q551 = true then ((ladder_bottom_insert.f a2 a3).bind fun t559 => ((ladder_Ladder_spill.f ({ a2 with bottom := (⟨t559⟩ : ladder_bottom) } : ladder_Ladder)).bind fun t563 => some (0, t563))) else (if x536 = (a2.rungs.length : Int) then (if (a2.rungs.length + 1) * 24 ≤ 140737488355328 then some (0, ({ a2 with rungs := (a2.rungs ++ [[a3]]) } : ladder_Ladder)) else none) else (if 0 ≤ x536 ∧ x536 < (a2.rungs.length : Int) then (if ((nth a2.rungs x536).length + 1) * 56 ≤ 140737488355328 then some (0, ({ a2 with rungs := (setL a2.rungs x536 ((nth a2.rungs x536) ++ ([a3]))) } : ladder_Ladder)) else none) else none)))
def ladder_Ladder_Push.j6 (a2 : ladder_Ladder) (a3 : api_Message) (x536 : Int) : Option (Int × ladder_Ladder) := (if x536 = (a2.rungs.length : Int) then (if (a2.bottom.l.length : Int) < a2.most then ladder_Ladder_Push.j7 a2 a3 x536 true else ((ladder_behind.f a2.bottom.l a3).bind fun t618 => ladder_Ladder_Push.j7 a2 a3 x536 (!t618))) else ladder_Ladder_Push.j7 a2 a3 x536 false)
def ladder_Ladder_Push.l8b (a2 : ladder_Ladder) (a3 : api_Message) : Int → Option ((Int) ⊕ (Int × ladder_Ladder))
  | (x661) => (if 0 < x661 then (if 0 ≤ IntKind.i64.wrap (x661 - 1) ∧ IntKind.i64.wrap (x661 - 1) < (a2.rungs.length : Int) then ((ladder_above.f (nth a2.rungs (IntKind.i64.wrap (x661 - 1))) a3).bind fun t741 => (if t741 = true then (Option.map Sum.inr (ladder_Ladder_Push.j6 a2 a3 x661)) else some (.inl (IntKind.i64.wrap (x661 - 1))))) else none) else (Option.map Sum.inr (ladder_Ladder_Push.j6 a2 a3 x661)))
def ladder_Ladder_Push.l8 (a2 : ladder_Ladder) (a3 : api_Message) (s : Int) : Option (Int × ladder_Ladder) := loopR (ladder_Ladder_Push.l8b a2 a3) s
def ladder_Ladder_Push.f (a2 : ladder_Ladder) (a3 : api_Message) : Option (Int × ladder_Ladder) := ((ladder_Ladder_none.f a2).bind fun t379 => (if t379 = true then some (7, a2) else ((ladder_Ladder_find.f a2 a3.Key.From a3.Uid).bind fun (y390, y391, y392) => (if y392 = true then some (8, a2) else ((ladder_Ladder_Len.f a2).bind fun t397 => (if 16384 ≤ t397 then some (9, a2) else ladder_Ladder_Push.l8 a2 a3 ((a2.rungs.length : Int))))))))
theorem ladder_Ladder_Push.ok {a2 : ladder_Ladder} {a3 : api_Message} {b1 : Nat} {r : Int × ladder_Ladder} (h : ladder_Ladder_Push.f a2 a3 = some r) (hS : St B w (O_ladder_Ladder hf a2 b1 :: l) hf) :
    Calls prog 291 #[pV b1, .agg (C_api_Message a3).toArray] w (Ret fun v w => v = iV r.1 ∧ St B w (O_ladder_Ladder hf r.2 b1 :: l) hf) := by
  have h := Holds.of h
  refine en func291 rfl ntmps291 rfl (sr (rr [0, 0] hS ?_))
  refine fun b375 => it fun w hS => ln (RC.seq (sr (pn 1 rfl (cF (fun _ hg => ladder_Ladder_none.ok hg hS.p1) call293 h rfl rfl rfl ?_))))
  rintro t379 h _ w ⟨rfl, hS⟩
  refine ln ?_
  refine RC.iteB 10 rfl h (fun hc381 h => ?_) fun hc381 h => ?_
  next =>
   refine jtr (pn 1 rfl (lr (RQ.ret ?_)))
   cases h.some
   exact rt results291 rfl ⟨rfl, hS.d1⟩
  refine jfs (RC.seq (sr (rr [0, 0, 0, 2, 0, 2] hS ?_)))
  refine it fun w hS => cF (fun _ hg => ladder_Ladder_find.ok hg hS) call294 h rfl rfl rfl ?_
  rintro ⟨y390, y391, y392⟩ h _ w ⟨rfl, hS⟩
  refine pn 7 rfl (lnsr (pn 1 rfl (ln ?_)))
  refine RC.iteB 22 rfl h (fun hc393 h => ?_) fun hc393 h => ?_
  next =>
   refine jtr (pn 1 rfl (lr (RQ.ret ?_)))
   cases h.some
   exact rt results291 rfl ⟨rfl, hS.d1⟩
  refine jfs (RC.seq (sr (pn 1 rfl (cF (fun _ hg => ladder_Ladder_Len.ok hg hS) call289 h rfl rfl rfl ?_))))
  rintro t397 h _ w ⟨rfl, hS⟩
  refine pn 1 rfl (ln ?_)
  refine RC.iteP 25 rfl h (fun hc399 h => ?_) fun hc399 h => ?_
  next =>
   refine jtr (pn 1 rfl (lr (RQ.ret ?_)))
   cases h.some
   exact rt results291 rfl ⟨rfl, hS.d1⟩
  refine jfs (sr (r0 3 rfl ?_))
  obtain ⟨A406, c407, A408, c409, hs410, hS⟩ := O_ladder_Ladder.o hS
  have hl411 := hS.p3.sepLen
  refine rr [1] hS ?_
  refine it fun w hS => RL.s (Vl.lenO hl411 underlying276 rfl) rfl (pn 1 rfl (ln ?_))
  refine RC.join (fun (s : Int) a w => ∃ x536, s = (x536) ∧ Holds (· = r) (ladder_Ladder_Push.j6 a2 a3 x536) ∧ Has 121 [(0, pV b1), (3, pV b375), (8, iV x536)] a ∧ St B w (O_ladder_Ladder hf a2 b1 :: Cl b375 (C_api_Message a3) 115 :: l) hf) ?_ ?_
  · rintro x536 a w ⟨_, rfl, h, ha, hS⟩
    refine ro ha (RC.seq (RC.block ?_))
    refine RC.join (fun (s : Bool) a w => ∃ q551, s = (q551) ∧ Holds (· = r) (ladder_Ladder_Push.j7 a2 a3 x536 q551) ∧ Has 121 [(0, pV b1), (3, pV b375), (8, iV x536), (64, .bool q551)] a ∧ St B w (O_ladder_Ladder hf a2 b1 :: Cl b375 (C_api_Message a3) 115 :: l) hf) ?_ ?_
    · rintro q551 a w ⟨_, rfl, h, ha, hS⟩
      refine ro ha ?_
      refine RC.iteB 64 rfl h (fun hc552 h => ?_) fun hc552 h => ?_
      next =>
       refine jt (RC.seq (dr [0, 3, 6, 11, 14] [3, 4] hS fun w hS => rq [0, 0, 0, 2] hS ?_))
       refine it ?_
       obtain ⟨A553, c554, A555, c556, hs557, hS⟩ := O_ladder_Ladder.o hS
       have hl558 := hS.p3.sepLen
       obtain ⟨t559, hg560, h⟩ := h.bind
       have hc := ladder_bottom_insert.ok hl558 hg560 hS
       refine RP.e 4 rfl (OW.callF (ls := [.tmp 97, .tmp 98]) rfl call298 hc) rfl rfl ?_
       rintro _ w ⟨A561, c562, rfl, hS⟩
       refine ⟨kp ⟨(by intro hx; cases hx), trivial⟩, ?_⟩
       refine RP.nil (RQ.then_n (RC.region (pn 1 rfl ?_)))
       have hS := O_ladder_Ladder.c (x := ({ a2 with bottom := (⟨t559⟩ : ladder_bottom) } : ladder_Ladder)) (hs_5 := hs557) hS.p1
       refine cF (fun _ hg => ladder_Ladder_spill.ok hg hS) call299 h rfl rfl rfl ?_
       rintro t563 h _ w ⟨rfl, hS⟩
       refine RL.nil (RQ.inB_n (tsr (pn 1 rfl (lr ?_))))
       cases h.some
       exact rt results291 rfl ⟨rfl, hS.d1⟩
      refine jf (sr (r0 4 rfl ?_))
      obtain ⟨A571, c572, A573, c574, hs575, hS⟩ := O_ladder_Ladder.o hS
      have hl576 := hS.p3.sepLen
      refine rr [1] hS ?_
      refine it fun w hS => RL.s (Vl.lenO hl576 underlying276 rfl) rfl (pn 2 rfl (ln ?_))
      refine RC.iteP 102 rfl h (fun hc577 h => ?_) fun hc577 h => ?_
      next =>
       refine jt (dr [0, 3, 6, 9, 13, 17, 20, 23, 26, 29, 32, 35] [8, 9, 10, 11] hS fun w hS => rq [0, 0, 0, 0, 1, 5] hS ?_)
       refine it (RP.e 6 rfl (OW.buildSlice (E := E_api_Message) (xs := [a3]) (cs := (C_api_Message a3)) hS underlying399 zeroValue115 sizeOf115 (parts := [(0, .tmp 115)]) rfl rfl (by decide) (by decide) (by kernel_rfl) rfl) rfl rfl ?_)
       rintro _ w ⟨b578, rfl, hS⟩
       refine ⟨kp ⟨fun _ => hS.d0, trivial⟩, ?_⟩
       refine RP.e 7 rfl (OW.buildSlice (E := FSl) (xs := [((some ⟨b578, 0, none⟩), ([a3]).length, 1)]) (cs := [.slice (some ⟨b578, 0, none⟩) ([a3]).length 1]) hS underlying276 zeroValue399 sizeOf399 (parts := [(0, .tmp 116)]) rfl rfl (by decide) (by decide) (by kernel_rfl) rfl) rfl rfl ?_
       rintro _ w ⟨b579, rfl, hS⟩
       refine ⟨kp ⟨fun _ => hS.d0.d0, trivial⟩, ?_⟩
       obtain ⟨hq581, h⟩ := h.req
       have hS := (St.orC (E := E_api_Message) (x := [a3]) (A := (some ⟨b578, 0, none⟩)) (c := 1) hS.p5.p2).p1.sepSnoc
       have hl580 := hS.sepLen
       refine RP.e 8 rfl (OW.append (E := FSl) (xs := hs575) (ys := ([((some ⟨b578, 0, none⟩), ([a3]).length, 1)] : List Hdr)) 4 hS rfl underlying276 type399 rfl rfl rfl rfl (by decide) rfl rfl rfl (hS.slW 1 rfl).2.2.flat (by simp only [maxLen, List.length_cons, List.length_nil] at *; omega) (le_app hl576 hq581) rfl) rfl rfl ?_
       rintro v584 w hS
       obtain ⟨A582, c583, rfl, _⟩ := hS.osShape 0 rfl
       have hS : St B w (_ :: _ :: _ :: _ :: _ :: _ :: l) hf := hS
       refine ⟨kp ⟨(by intro hx; cases hx), trivial⟩, ?_⟩
       refine RP.v1 9 rfl (Vl.nilCheck rfl) rfl rfl (RP.v1 10 rfl (Vl.fa 2 underlying278 rfl sizeOf276 rfl rfl) rfl rfl (RP.e0 11 rfl (OW.store (vs := [.slice A582 (hs575 ++ ([((some ⟨b578, 0, none⟩), ([a3]).length, 1)] : List Hdr)).length c583]) 3 hS rfl rfl rfl rfl sizeOf276 rfl rfl rfl rfl) rfl ?_))
       rintro _ w ⟨rfl, hS⟩
       have hS : St B w (_ :: _ :: _ :: Cl _ [_, _, _] _ :: _ :: _ :: l) hf := hS
       refine ⟨kp ⟨(by intro hx; cases hx), trivial⟩, ?_⟩
       refine RP.nil (RQ.inB_n (tsr (pn 1 rfl (lr ?_))))
       have hS := O_ladder_Ladder.c (x := ({ a2 with rungs := (a2.rungs ++ [[a3]]) } : ladder_Ladder)) (hs_5 := (hs575 ++ ([((some ⟨b578, 0, none⟩), ([a3]).length, 1)] : List Hdr))) hS.p4.p4
       cases h.some
       exact rt results291 rfl ⟨rfl, hS.d1.d1⟩
      refine jf (dk [0, 3, 6, 10, 12, 15, 18, 21, 25, 27, 31, 34, 38, 41, 44, 47, 50] [15, 16] hS (fun w hS => hS.d3) fun w hS => rq [0, 0, 0, 1, 0, 0, 0, 0, 1, 0] hS.d3 ?_)
      refine it ?_
      obtain ⟨⟨hq595, hq596⟩, h⟩ := h.req
      refine RP.s 0 10 rfl rfl hS.d3 (fun w hS => Vl.indexOwn 2 hS rfl underlying276 sizeOf399 rfl rfl hq595 (lt_len hl576 hq596)) rfl (RP.s 0 11 rfl rfl hS.d3 (fun w hS => Vl.load isAgg399 rfl ((hS.slW 2 rfl).2.2.cell (j := 0) hq595 (lt_len hl576 hq596) rfl)) rfl (RP.v1 12 rfl (Vl.lw 4 hS isAgg115 sizeOf115 rfl rfl rfl) rfl rfl (RP.e 13 rfl (OW.buildSlice (E := E_api_Message) (xs := [a3]) (cs := (C_api_Message a3)) hS underlying399 zeroValue115 sizeOf115 (parts := [(0, .tmp 60)]) rfl rfl (by decide) (by decide) (by kernel_rfl) rfl) rfl rfl ?_)))
      rintro _ w ⟨b597, rfl, hS⟩
      refine ⟨kp ⟨fun _ => hS.d0.d3, trivial⟩, ?_⟩
      obtain ⟨A598, c599, he600, hS⟩ := (hS.p4.sepTake hq595 hq596).orO
      have hS : St B w (_ :: _ :: _ :: _ :: _ :: _ :: _ :: l) hf := hS
      refine RP.re 59 rfl (congrArg hV he600) ?_
      obtain ⟨hq601, h⟩ := h.req
      refine RP.e 14 rfl (OW.append (E := E_api_Message) (xs := (nth a2.rungs x536)) (ys := [a3]) 0 hS rfl underlying399 type115 rfl rfl rfl rfl (by decide) rfl rfl rfl (hS.slW 2 rfl).2.2.flat (by simp only [maxLen, List.length_cons, List.length_nil] at *; omega) hq601 rfl) rfl rfl ?_
      rintro v604 w hS
      obtain ⟨A602, c603, rfl, _⟩ := hS.osShape 0 rfl
      have hS : St B w (_ :: _ :: _ :: _ :: _ :: _ :: _ :: l) hf := hS
      refine ⟨kp ⟨fun _ => hS.d0.d0.d0, trivial⟩, ?_⟩
      refine RP.v1 15 rfl (Vl.indexOwn 5 hS rfl underlying276 sizeOf399 rfl rfl hq595 (lt_len hl576 hq596)) rfl rfl (RP.e0 16 rfl (OW.storeOwn (E := FSl) (off := 0) (j := x536) (x' := (A602, ((nth a2.rungs x536) ++ ([a3])).length, c603)) (vs := [.slice A602 ((nth a2.rungs x536) ++ ([a3])).length c603]) 5 hS rfl rfl rfl rfl sizeOf399 rfl (Nat.succ_pos _) hq595 (lt_len hl576 hq596) (Nat.le_of_ble_eq_true rfl) rfl rfl) rfl ?_)
      rintro _ w ⟨rfl, hS⟩
      have he605 := (hS.osN 5 rfl).1
      have hS : St B w (_ :: _ :: _ :: _ :: _ :: _ :: _ :: l) hf := (congrArg (fun k_ : Nat => St B w (OSf E_api_Message 115 (.slice A602 ((nth a2.rungs x536) ++ ([a3])).length c603) ((nth a2.rungs x536) ++ ([a3])) :: SepH (ORw E_api_Message 115) a2.rungs hs575 x536 :: OSf E_api_Message 115 (.slice (some ⟨b597, 0, none⟩) ([a3]).length 1) ([a3]) :: Cl b1 [sV A571 a2.bottom.l c572, iV a2.most, .slice A573 k_ c574] 278 :: OSf E_api_Message 115 (sV A571 a2.bottom.l c572) a2.bottom.l :: OSf FSl 399 (.slice A573 k_ c574) (setL hs575 x536 (A602, ((nth a2.rungs x536) ++ ([a3])).length, c603)) :: Cl b375 (C_api_Message a3) 115 :: l) hf) he605).mp hS
      have hS := (hS).orC
      have hS := hS.sepPutB hq595 hq596
      have hS : St B w (_ :: _ :: _ :: _ :: _ :: _ :: l) hf := hS
      refine ⟨kp ⟨(by intro hx; cases hx), trivial⟩, ?_⟩
      refine RP.re 107 rfl (congrArg (fun k_ : Nat => (.slice A573 k_ c574 : Value)) he605) (RP.re 51 rfl (congrArg (fun k_ : Nat => (.slice A573 k_ c574 : Value)) he605) (RP.re 56 rfl (congrArg (fun k_ : Nat => (.slice A573 k_ c574 : Value)) he605) (RP.nil (RQ.inB_n (tsr (pn 1 rfl (lr ?_)))))))
      have hS := O_ladder_Ladder.c (x := ({ a2 with rungs := (setL a2.rungs x536 ((nth a2.rungs x536) ++ ([a3]))) } : ladder_Ladder)) (hs_5 := (setL hs575 x536 (A602, ((nth a2.rungs x536) ++ ([a3])).length, c603))) hS.p4.p4.p4
      cases h.some
      exact rt results291 rfl ⟨rfl, hS.d1.d1⟩
    obtain ⟨A606, c607, A608, c609, hs610, hS⟩ := O_ladder_Ladder.o hS
    have hl611 := hS.p3.sepLen
    refine dr [0, 3, 6, 9, 13, 15, 18, 21, 24, 27, 30, 33, 37, 39, 42, 45, 48, 52, 54, 57, 60, 63, 66, 69, 73, 77, 80, 83, 86, 89, 92] [26, 27, 28, 29, 30] hS fun w hS => rq [0, 0, 0, 0, 1] hS ?_
    refine it (RP.s0 5 rfl (fun w => Vl.lenO hl611 underlying276 rfl) rfl (pp 2 rfl ?_))
    refine RP.iteP 72 rfl h (fun hc612 h => ?_) fun hc612 h => ?_
    next =>
     refine rq [0, 0, 0, 0, 1, 0, 0, 0, 0, 1, 0, 0] hS ?_
     refine it ?_
     refine RP.iteP 84 rfl h (fun hc613 h => ?_) fun hc613 h => ?_
     next =>
      refine rq [0, 0, 0, 0, 0, 0, 0, 0, 0, 0, 0] hS ?_
      refine it (RP.nil ?_)
      have hS := O_ladder_Ladder.c (x := a2) (hs_5 := hs610) hS
      exact fun a ha => ⟨_, _, rfl, h, ha.tE rfl, hS⟩
     refine rq [0, 0, 0, 0, 1, 5] hS ?_
     refine it ?_
     obtain ⟨hf617, hs615, hS, hr614, hb616⟩ := St.lendSl hS.p1
     obtain ⟨t618, hg619, h⟩ := h.bind
     have hc := ladder_behind.ok hr614 hg619 hS
     refine RP.e 26 rfl (OW.callF (ls := [.tmp 89, .tmp 90]) rfl call297 hc) rfl rfl ?_
     rintro _ w ⟨rfl, hS⟩
     have hS := hb616 _ _ hS
     have hS : St B w (_ :: _ :: _ :: _ :: _ :: l) hf := hS
     refine ⟨kp ⟨(by intro hx; cases hx), trivial⟩, ?_⟩
     refine rq [0, 0, 0, 0] hS.p1 ?_
     refine it (RP.nil ?_)
     have hS := O_ladder_Ladder.c (x := a2) (hs_5 := hs610) hS.p1
     exact fun a ha => ⟨_, _, rfl, h, ha.tE rfl, hS⟩
    refine rq [0, 0, 0, 0, 0, 0, 0, 0, 0, 0, 0, 0, 0, 0, 0, 0, 0, 0, 0, 0, 0, 0, 0] hS ?_
    refine it (RP.nil ?_)
    have hS := O_ladder_Ladder.c (x := a2) (hs_5 := hs610) hS
    exact fun a ha => ⟨_, _, rfl, h, ha.tE rfl, hS⟩
  refine RC.block ?_
  have hS := O_ladder_Ladder.c (x := a2) (hs_5 := hs410) hS
  refine fun a ha => lp h (fun (s : Int) a w => ∃ x661, s = (x661) ∧ Has 121 [(0, pV b1), (3, pV b375), (8, iV x661)] a ∧ St B w (O_ladder_Ladder hf a2 b1 :: Cl b375 (C_api_Message a3) 115 :: l) hf) ⟨_, rfl, ha.tE rfl, hS⟩ ?_
  rintro G703 x661 a w ⟨_, rfl, ha, hS⟩ h
  refine ro ha (RC.seq (RC.seq ?_))
  obtain ⟨A725, c726, A727, c728, hs729, hS⟩ := O_ladder_Ladder.o hS
  have hl730 := hS.p3.sepLen
  refine dr [0, 3, 6, 9, 12, 15, 19, 21, 24, 28, 31, 35, 38, 41, 44] [12, 13, 14] hS fun w hS => pp 3 rfl ?_
  refine RP.iteP 33 rfl h (fun hc731 h => ?_) fun hc731 h => ?_
  next =>
   refine rq [0, 0, 0, 1, 0, 0] hS ?_
   refine it ?_
   obtain ⟨⟨hq732, hq733⟩, h⟩ := h.req
   refine RP.sg 0 9 rfl rfl hS (fun w hS => Vl.indexOwn 2 hS rfl underlying276 sizeOf399 rfl rfl hq732 (lt_len hl730 hq733)) rfl rfl (RP.sg 0 10 rfl rfl hS (fun w hS => Vl.load isAgg399 rfl ((hS.slW 2 rfl).2.2.cell (j := 0) hq732 (lt_len hl730 hq733) rfl)) rfl rfl (rq [5] hS ?_))
   refine it ?_
   obtain ⟨A734, c735, he736, hS⟩ := (hS.p3.sepTake hq732 hq733).orO
   have hS : St B w (_ :: _ :: _ :: _ :: _ :: _ :: l) hf := hS
   refine RP.re 41 rfl (congrArg hV he736) ?_
   obtain ⟨hf740, hs738, hS, hr737, hb739⟩ := St.lendSl hS
   obtain ⟨t741, hg742, h⟩ := h.bind
   have hc := ladder_above.ok hr737 hg742 hS
   refine RP.e 12 rfl (OW.callF (ls := [.tmp 41, .tmp 42]) rfl call296 hc) rfl rfl ?_
   rintro _ w ⟨rfl, hS⟩
   have hS := hb739 _ _ hS
   have hS : St B w (_ :: _ :: _ :: _ :: _ :: _ :: l) hf := hS
   refine ⟨kp ⟨(by intro hx; cases hx), trivial⟩, ?_⟩
   refine RP.v1 13 rfl (Vl.not rfl) rfl rfl (RP.v1 14 rfl (Vl.pickT rfl rfl) rfl rfl (RP.nil (RQ.then_n ?_)))
   refine RC.iteM 45 rfl h (fun hc743 h => ?_) fun hc743 h => ?_
   next =>
    refine jf (RC.exit (RQ.exitT ?_))
    have h := h.inr
    refine RQ.exitT (RQ.inB_hit ?_)
    have hS := (St.orB he736 hS).sepPut0 hq732 hq733
    have hS : St B w (_ :: _ :: _ :: _ :: _ :: l) hf := hS
    have hS := O_ladder_Ladder.c (x := a2) (hs_5 := hs729) hS.p3.p3.p3
    exact fun a ha => ⟨_, _, rfl, h, ha.tE rfl, hS⟩
   refine jt (sk (RC.block (RC.region (pn 3 rfl (RL.nil (RQ.inB_n ?_))))))
   have hS := (St.orB he736 hS).sepPut0 hq732 hq733
   have hS : St B w (_ :: _ :: _ :: _ :: _ :: l) hf := hS
   have hS := O_ladder_Ladder.c (x := a2) (hs_5 := hs729) hS.p3.p3.p3
   exact fun a ha => ⟨_, h.some, _, rfl, ha.tE rfl, hS⟩
  refine rq [0, 0, 0, 0, 0, 0, 0, 0, 0, 0, 0, 0] hS ?_
  refine it (RP.nil (RQ.then_n (jf (RC.exit (RQ.exitT ?_)))))
  have h := h.inr
  refine RQ.exitT (RQ.inB_hit ?_)
  have hS := O_ladder_Ladder.c (x := a2) (hs_5 := hs729) hS
  exact fun a ha => ⟨_, _, rfl, h, ha.tE rfl, hS⟩
def pend_Pend_Push.f (a2 : pend_Pend) (a3 : api_Message) : Option (Int × pend_Pend) := ((pend_Pend_none.f a2).bind fun _ => (a2.q.on (fun y37 => ((heap_Heap_Push.f y37 a3).bind fun (y43, y44) => some (y43, (⟨.c0 y44⟩ : pend_Pend)))) (fun y38 => ((calendar_Calendar_Push.f y38 a3).bind fun (y48, y49) => some (y48, (⟨.c1 y49⟩ : pend_Pend)))) (fun y39 => ((ladder_Ladder_Push.f y39 a3).bind fun (y54, y55) => some (y54, (⟨.c2 y55⟩ : pend_Pend))))))
theorem pend_Pend_Push.ok {a2 : pend_Pend} {a3 : api_Message} {b1 : Nat} {r : Int × pend_Pend} (h : pend_Pend_Push.f a2 a3 = some r) (hS : St B w (O_pend_Pend hf a2 b1 :: l) hf) :
    Calls prog 57 #[pV b1, .agg (C_api_Message a3).toArray] w (Ret fun v w => ∃ hf_ : Hp, Sub hf hf_ ∧ v = iV r.1 ∧ St B w (O_pend_Pend hf_ r.2 b1 :: l) hf_) := by
  have h := Holds.of h
  refine en func57 rfl ntmps57 rfl (sr (rr [0, 0] hS ?_))
  refine fun b31 => it fun w hS => ln (RC.seq (sr (pn 1 rfl (cF (fun _ hg => pend_Pend_none.ok hg hS.p1) call90 h rfl rfl rfl ?_))))
  rintro _ h _ w ⟨rfl, hS⟩
  refine ln (jfs (RC.seq ?_))
  rcases hx36 : a2.q with y37 | y38 | y39
  next =>
   have h := Q_pend_Pend.h0 hx36 h
   obtain ⟨b40, hS⟩ := O_pend_Pend.o0 hx36 hS
   refine dr [0, 3, 6, 10, 14, 17, 20] [5, 6] hS fun w hS => rq [0, 0, 0, 1, 3] hS ?_
   refine it ?_
   obtain ⟨t41, hg42, h⟩ := h.bind
   have hc := heap_Heap_Push.ok hg42 hS.p1
   obtain ⟨y43, y44⟩ := t41
   refine RP.e 5 rfl (OW.invoke (F := 254) (u' := pV b40) (ls := [.tmp 11]) rfl rfl (fun w => by kernel_rfl) call254 rfl hc) rfl rfl ?_
   rintro _ w ⟨rfl, hS⟩
   refine ⟨kp ⟨(by intro hx; cases hx), trivial⟩, ?_⟩
   refine RP.v1 6 rfl (Vl.assign rfl) rfl rfl (RP.nil (tr ?_))
   have hS := O_pend_Pend.c0 (x := (⟨.c0 y44⟩ : pend_Pend)) rfl hS.p1
   cases h.some
   exact rt results57 rfl ⟨_, (Sub.refl _), rfl, hS.d1⟩
  next =>
   have h := Q_pend_Pend.h1 hx36 h
   obtain ⟨b45, hS⟩ := O_pend_Pend.o1 hx36 hS
   refine dr [0, 3, 6, 10, 14, 17, 20] [5, 6] hS fun w hS => rq [0, 0, 0, 1, 3] hS ?_
   refine it ?_
   obtain ⟨t46, hg47, h⟩ := h.bind
   have hc := calendar_Calendar_Push.ok hg47 hS.p1
   obtain ⟨y48, y49⟩ := t46
   refine RP.e 5 rfl (OW.invoke (F := 277) (u' := pV b45) (ls := [.tmp 11]) rfl rfl (fun w => by kernel_rfl) call277 rfl hc) rfl rfl ?_
   rintro _ w ⟨hf, hs50, rfl, hS⟩
   refine ⟨kp ⟨(by intro hx; cases hx), trivial⟩, ?_⟩
   refine RP.v1 6 rfl (Vl.assign rfl) rfl rfl (RP.nil (tr ?_))
   have hS := O_pend_Pend.c1 (x := (⟨.c1 y49⟩ : pend_Pend)) rfl hS.p1
   cases h.some
   exact rt results57 rfl ⟨_, hs50, rfl, hS.d1⟩
  have h := Q_pend_Pend.h2 hx36 h
  obtain ⟨b51, hS⟩ := O_pend_Pend.o2 hx36 hS
  refine dr [0, 3, 6, 10, 14, 17, 20] [5, 6] hS fun w hS => rq [0, 0, 0, 1, 3] hS ?_
  refine it ?_
  obtain ⟨t52, hg53, h⟩ := h.bind
  have hc := ladder_Ladder_Push.ok hg53 hS.p1
  obtain ⟨y54, y55⟩ := t52
  refine RP.e 5 rfl (OW.invoke (F := 291) (u' := pV b51) (ls := [.tmp 11]) rfl rfl (fun w => by kernel_rfl) call291 rfl hc) rfl rfl ?_
  rintro _ w ⟨rfl, hS⟩
  refine ⟨kp ⟨(by intro hx; cases hx), trivial⟩, ?_⟩
  refine RP.v1 6 rfl (Vl.assign rfl) rfl rfl (RP.nil (tr ?_))
  have hS := O_pend_Pend.c2 (x := (⟨.c2 y55⟩ : pend_Pend)) rfl hS.p1
  cases h.some
  exact rt results57 rfl ⟨_, (Sub.refl _), rfl, hS.d1⟩
def lane_of.f (a1 : api_Message) : Option (lane_sending) := some (⟨a1.Key.From, a1.Uid⟩ : lane_sending)
theorem lane_of.ok {a1 : api_Message} {r : lane_sending} (h : lane_of.f a1 = some r) (hS : St B w (l) hf) :
    Calls prog 58 #[.agg (C_api_Message a1).toArray] w (Ret fun v w => v = .agg #[iV r.from_, iV r.uid] ∧ St B w (l) hf) := by
  have h := Holds.of h
  refine en func58 rfl ntmps58 rfl (sr (rr [0, 0] hS ?_))
  refine fun b4 b5 => it fun w hS => lnsr (rr [0, 0, 2, 0, 2, 0, 1] hS ?_)
  refine it fun w hS => lr ?_
  cases h.some
  refine rz [0] results58 hS ?_
  exact it ⟨rfl, hS.d0.d0⟩
def lane_Lane_hold.f (a2 : lane_Lane) (a3 : api_Message) : Option (lane_Lane) := ((pend_Pend_Push.f a2.wait a3).bind fun (y58, y59) => (if y58 = 0 then ((lane_of.f a3).bind fun t62 => some ({ a2 with wait := y59, held := (mset a2.held t62 true) } : lane_Lane)) else some ({ a2 with wait := y59 } : lane_Lane)))
theorem lane_Lane_hold.ok {a2 r : lane_Lane} {a3 : api_Message} {b1 : Nat} (h : lane_Lane_hold.f a2 a3 = some r) (hS : St B w (O_lane_Lane hf a2 b1 :: l) hf) :
    Calls prog 31 #[pV b1, .agg (C_api_Message a3).toArray] w (Ret fun v w => ∃ hf_ : Hp, Sub hf hf_ ∧ v = .tuple #[] ∧ St B w (O_lane_Lane hf_ r b1 :: l) hf_) := by
  have h := Holds.of h
  refine en func31 rfl ntmps31 rfl (sr (rr [0] hS ?_))
  refine fun b35 => it fun w hS => ln (RC.seq ?_)
  obtain ⟨A36, c37, A39, c40, A42, c43, A45, c46, b48, b49, A50, c51, A52, c53, b54, b55, hr38, hr41, hr44, hr47, hS⟩ := O_lane_Lane.o hS.p1
  refine dr [0, 3, 6, 10, 14, 17, 20] [5, 6] hS fun w hS => rq [0, 0, 0, 1, 8] hS ?_
  refine it ?_
  obtain ⟨t56, hg57, h⟩ := h.bind
  have hc := pend_Pend_Push.ok hg57 hS.p2
  obtain ⟨y58, y59⟩ := t56
  refine RP.e 5 rfl (OW.callF (ls := [.tmp 7, .tmp 8]) rfl call57 hc) rfl rfl ?_
  rintro _ w ⟨hf, hs60, rfl, hS⟩
  have hS := O_log_Log.l hs60 hS.p2
  have hS : St B w (_ :: _ :: _ :: _ :: _ :: _ :: _ :: _ :: l) hf := hS
  refine ⟨kp ⟨(by intro hx; cases hx), trivial⟩, ?_⟩
  refine RP.v1 6 rfl (Vl.int rfl rfl rfl) rfl rfl (RP.nil (RQ.then_n ?_))
  refine RC.iteP 10 rfl h (fun hc61 h => ?_) fun hc61 h => ?_
  next =>
   refine jt (dr [0, 3, 6, 10, 14, 17, 20] [6] hS fun w hS => rq [0, 0, 0, 3, 8] hS ?_)
   refine it ?_
   obtain ⟨t62, hg63, h⟩ := h.bind
   have hc := lane_of.ok hg63 hS
   refine RP.e 5 rfl (OW.callF (ls := [.tmp 15]) rfl call58 hc) rfl rfl ?_
   rintro _ w ⟨rfl, hS⟩
   refine ⟨kp ⟨fun _ => hS, trivial⟩, ?_⟩
   refine RP.e0 6 rfl (OW.mapUpdF (k := t62) (v := true) 6 hS rfl keyok_lane_sending underlying95 rfl rfl rfl rfl) rfl ?_
   rintro _ w ⟨rfl, hS⟩
   have hS : St B w (_ :: _ :: _ :: _ :: _ :: _ :: _ :: _ :: l) hf := hS
   refine ⟨kp ⟨(by intro hx; cases hx), trivial⟩, ?_⟩
   refine RP.nil ?_
   have hS := O_lane_Lane.c (x := ({ a2 with wait := y59, held := (mset a2.held t62 true) } : lane_Lane)) (hr38.mono hs60) (hr41.mono hs60) (hr44.mono hs60) (hr47.mono hs60) hS.p6.p6.p6.p5.p5.p6
   cases h.some
   exact rtE results31 rfl ⟨_, hs60, rfl, hS.d1⟩
  refine jf (RC.skip ?_)
  have hS := O_lane_Lane.c (x := ({ a2 with wait := y59 } : lane_Lane)) (hr38.mono hs60) (hr41.mono hs60) (hr44.mono hs60) (hr47.mono hs60) hS.p2
  cases h.some
  exact rtE results31 rfl ⟨_, hs60, rfl, hS.d1⟩
end
end Go.Proofs.Gx
