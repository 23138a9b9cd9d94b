/-
  The walks of functions, each with what it computes: printed by wip/gx.py.
-/
import Derived.Test.YtbkjjaikmngciaaGreatDoorW0
set_option linter.unusedVariables false
set_option linter.unusedSimpArgs false
set_option maxRecDepth 100000
set_option maxHeartbeats 4000000
namespace Go.Proofs.Gx
open Go.Sl Tryz
variable {B : Base} {w : World} {l : List HProp} {hf : Hp}
noncomputable section
def isochronlaw21vprogram.l14b (a1 a5 : List (List api_Instr)) (x978 : Int) : Int → Option ((Int) ⊕ ((Int) ⊕ (Bool)))
  | (x1398) => (if x1398 < ((nth a1 x978).length : Int) then (if 0 ≤ x1398 then (if x1398 < ((nth a5 x978).length : Int) then (if nth (nth a1 x978) x1398 = nth (nth a5 x978) x1398 then some (.inl (IntKind.i64.wrap (x1398 + 1))) else some (.inr (.inr false))) else none) else none) else some (.inr (.inl (IntKind.i64.wrap (x978 + 1)))))
def isochronlaw21vprogram.l14 (a1 a5 : List (List api_Instr)) (x978 : Int) (s : Int) : Option ((Int) ⊕ (Bool)) := loopR (isochronlaw21vprogram.l14b a1 a5 x978) s
def isochronlaw21vprogram.l12b (a1 a5 : List (List api_Instr)) : Int → Option ((Int) ⊕ (Bool))
  | (x978) => (if x978 < (a1.length : Int) then (if 0 ≤ x978 then (if x978 < (a5.length : Int) then (if ((nth a1 x978).length : Int) = ((nth a5 x978).length : Int) then isochronlaw21vprogram.l14 a1 a5 x978 (0) else some (.inr false)) else none) else none) else some (.inr true))
def isochronlaw21vprogram.l12 (a1 a5 : List (List api_Instr)) (s : Int) : Option (Bool) := loopR (isochronlaw21vprogram.l12b a1 a5) s
def isochronlaw21vprogram.f (a1 a5 : List (List api_Instr)) : Option (Bool) := (if (a1.length : Int) = (a5.length : Int) then isochronlaw21vprogram.l12 a1 a5 (0) else some false)
theorem isochronlaw21vprogram.ok {a1 a5 : List (List api_Instr)} {A2 A6 : Option Addr} {c3 c7 : Nat} (hr4 : SlR (Rep.sl E_api_Instr.rep) hf A2 c3 a1) (hr8 : SlR (Rep.sl E_api_Instr.rep) hf A6 c7 a5) {r : Bool} (h : isochronlaw21vprogram.f a1 a5 = some r) (hS : St B w (l) hf) :
    Calls prog 26 #[sV A2 a1 c3, sV A6 a5 c7] w (Ret fun v w => v = .bool r ∧ St B w (l) hf) := by
  have h := Holds.of h
  refine en func26 rfl ntmps26 rfl (sr (pn 1 rfl (ln (RC.seq (sr (r0 5 rfl (ln ?_)))))))
  refine RC.iteN 11 rfl h (fun hc738 h => ?_) fun hc738 h => ?_
  next =>
   refine jfs (RC.seq (sr (pn 1 rfl (ln (RC.block (fun a ha => lp h (fun (s : Int) a w => ∃ x978, s = (x978) ∧ Has 53 [(0, sV A2 a1 c3), (1, sV A6 a5 c7), (5, iV x978)] a ∧ St B w (l) hf) ⟨_, rfl, ha.tE rfl, hS⟩ ?_))))))
   rintro G1222 x978 a w ⟨_, rfl, ha, hS⟩ h
   refine ro ha (RC.seq (sr (r0 4 rfl (ln ?_))))
   refine RC.iteP 15 rfl h (fun hc1224 h => ?_) fun hc1224 h => ?_
   next =>
    refine jt (sk (RC.seq (RC.block (RC.seq (RC.seq (dr [0, 3, 7, 10, 12, 15, 20, 23, 26, 29, 32] [10] hS fun w hS => pp 2 rfl ?_))))))
    obtain ⟨hq1356, h⟩ := h.req
    refine RP.s 0 2 rfl rfl hS (fun w hS => Vl.indexAddr underlying29 sizeOf72 rfl rfl (hr4.2.adr hq1356 hc1224) hq1356 hc1224 rfl) rfl ?_
    obtain ⟨_, _, ⟨A1357, c1358, rfl, hr1359⟩, hl1360⟩ := hr4.2.elem hq1356 hc1224
    refine RP.s 0 3 rfl rfl hS (fun w hS => Vl.load isAgg72 rfl (cellH_world hS.sub (hl1360 0 _ rfl))) rfl (rq [0, 0, 0] hS ?_)
    refine it ?_
    obtain ⟨hq1361, h⟩ := h.req
    refine RP.v1 7 rfl (Vl.indexAddr underlying29 sizeOf72 rfl rfl (hr8.2.adr hq1356 hq1361) hq1356 hq1361 rfl) rfl rfl ?_
    obtain ⟨_, _, ⟨A1362, c1363, rfl, hr1364⟩, hl1365⟩ := hr8.2.elem hq1356 hq1361
    refine RP.v1 8 rfl (Vl.load isAgg72 rfl (cellH_world hS.sub (hl1365 0 _ rfl))) rfl rfl (rq [0, 0] hS ?_)
    refine it (RP.nil (RQ.then_n ?_))
    refine RC.iteN 28 rfl h (fun hc1366 h => ?_) fun hc1366 h => ?_
    next =>
     refine jfs (sr (pn 1 rfl (ln (RC.block (fun a ha => lp h (fun (s : Int) a w => ∃ x1398, s = (x1398) ∧ Has 53 [(0, sV A2 a1 c3), (1, sV A6 a5 c7), (5, iV x978), (6, iV x1398)] a ∧ St B w (l) hf) ⟨_, rfl, ha.tE rfl, hS⟩ ?_)))))
     rintro G1432 x1398 a w ⟨_, rfl, ha, hS⟩ h
     refine ro ha (RC.seq (sr (pn 3 rfl (RL.s (Vl.indexAddr underlying29 sizeOf72 rfl rfl (hr4.2.adr hq1356 hc1224) hq1356 hc1224 rfl) rfl ?_))))
     obtain ⟨_, _, ⟨A1438, c1439, rfl, hr1440⟩, hl1441⟩ := hr4.2.elem hq1356 hc1224
     refine RL.s (Vl.load isAgg72 rfl (cellH_world hS.sub (hl1441 0 _ rfl))) rfl (r0 2 rfl (ln ?_))
     refine RC.iteP 35 rfl h (fun hc1442 h => ?_) fun hc1442 h => ?_
     next =>
      refine jt (sk (RC.seq (RC.block (RC.seq (dr [0, 3, 7, 10, 12, 16, 19, 21, 24, 28, 31, 35, 38, 41, 44] [14] hS fun w hS => pp 2 rfl (RP.s 0 2 rfl rfl hS (fun w hS => Vl.indexAddr underlying29 sizeOf72 rfl rfl (hr4.2.adr hq1356 hc1224) hq1356 hc1224 rfl) rfl ?_))))))
      obtain ⟨_, _, ⟨A1454, c1455, rfl, hr1456⟩, hl1457⟩ := hr4.2.elem hq1356 hc1224
      refine RP.s 0 3 rfl rfl hS (fun w hS => Vl.load isAgg72 rfl (cellH_world hS.sub (hl1457 0 _ rfl))) rfl (pp 1 rfl ?_)
      obtain ⟨hq1458, h⟩ := h.req
      refine RP.s 0 5 rfl rfl hS (fun w hS => Vl.indexAddr underlying72 sizeOf74 rfl rfl ((hr1456.2.world hS.sub).adr hq1458 hc1442) hq1458 hc1442 rfl) rfl (RP.s 0 6 rfl rfl hS (fun w hS => Vl.loadA isAgg74 sizeOf74 rfl rfl ((hr1456.2.world hS.sub).cells hq1458 hc1442)) rfl (pp 2 rfl (RP.s 0 9 rfl rfl hS (fun w hS => Vl.indexAddr underlying29 sizeOf72 rfl rfl (hr8.2.adr hq1356 hq1361) hq1356 hq1361 rfl) rfl ?_)))
      obtain ⟨_, _, ⟨A1459, c1460, rfl, hr1461⟩, hl1462⟩ := hr8.2.elem hq1356 hq1361
      refine RP.s 0 10 rfl rfl hS (fun w hS => Vl.load isAgg72 rfl (cellH_world hS.sub (hl1462 0 _ rfl))) rfl (rq [0] hS ?_)
      refine it ?_
      obtain ⟨hq1463, h⟩ := h.req
      refine RP.v1 12 rfl (Vl.indexAddr underlying72 sizeOf74 rfl rfl ((hr1461.2.world hS.sub).adr hq1458 hq1463) hq1458 hq1463 rfl) rfl rfl (RP.v1 13 rfl (Vl.loadA isAgg74 sizeOf74 rfl rfl ((hr1461.2.world hS.sub).cells hq1458 hq1463)) rfl rfl (RP.v1 14 rfl (Vl.neqS (run_neq_api_Instr _ _ (nth (nth a1 x978) x1398) (nth (nth a5 x978) x1398)) rfl rfl) rfl rfl (RP.nil (RQ.then_n ?_))))
      refine RC.iteN 52 rfl h (fun hc1464 h => ?_) fun hc1464 h => ?_
      next =>
       refine jf (RC.skip (RQ.inB_n (RQ.then_n (RC.region (pn 3 rfl (RL.nil ?_))))))
       exact fun a ha => ⟨_, h.some, _, rfl, ha.tE rfl, hS⟩
      refine jtr (pn 1 rfl (lr (ir ?_)))
      have h := h.inrS
      refine RQ.ret (RQ.inB_ret (ir ?_))
      have h := h.inrS
      refine RQ.ret (ir ?_)
      obtain rfl := h.some
      exact rt results26 rfl ⟨rfl, hS⟩
     refine jf (RC.exit (RQ.exitT ?_))
     have h := h.inrS
     refine RQ.exitT (RQ.inB_hit (RQ.inB_n (RQ.then_n (RC.region (pn 3 rfl (RL.nil ?_))))))
     exact fun a ha => ⟨_, h.some, _, rfl, ha.tE rfl, hS⟩
    refine jtr (pn 1 rfl (lr (RQ.ret (ir ?_))))
    have h := h.inrS
    refine RQ.ret (ir ?_)
    obtain rfl := h.some
    exact rt results26 rfl ⟨rfl, hS⟩
   refine jf (RC.exit (RQ.exitT ?_))
   have h := h.inrS
   refine RQ.exitT (RQ.inB_hit (tsr (pn 1 rfl (lr ?_))))
   obtain rfl := h.some
   exact rt results26 rfl ⟨rfl, hS⟩
  refine jtr (pn 1 rfl (lr (RQ.ret ?_)))
  obtain rfl := h.some
  exact rt results26 rfl ⟨rfl, hS⟩
def isochronlaw21vsame.l10b (a23 a27 : List api_Pick) : Int → Option ((Int) ⊕ (Bool))
  | (x328) => (if x328 < (a23.length : Int) then (if 0 ≤ x328 then (if x328 < (a27.length : Int) then (if nth a23 x328 = nth a27 x328 then some (.inl (IntKind.i64.wrap (x328 + 1))) else some (.inr false)) else none) else none) else some (.inr true))
def isochronlaw21vsame.l10 (a23 a27 : List api_Pick) (s : Int) : Option (Bool) := loopR (isochronlaw21vsame.l10b a23 a27) s
def isochronlaw21vsame.l9b (a1 a11 : api_Model) (a23 a27 : List api_Pick) : Int → Option ((Int) ⊕ (Bool))
  | (x302) => (if x302 < (a1.Starts.length : Int) then (if 0 ≤ x302 then (if x302 < (a11.Starts.length : Int) then (if nth a1.Starts x302 = nth a11.Starts x302 then some (.inl (IntKind.i64.wrap (x302 + 1))) else some (.inr false)) else none) else none) else (Option.map Sum.inr (isochronlaw21vsame.l10 a23 a27 (0))))
def isochronlaw21vsame.l9 (a1 a11 : api_Model) (a23 a27 : List api_Pick) (s : Int) : Option (Bool) := loopR (isochronlaw21vsame.l9b a1 a11 a23 a27) s
def isochronlaw21vsame.l7b (a1 a11 : api_Model) (a23 a27 : List api_Pick) : Int → Option ((Int) ⊕ (Bool))
  | (x250) => (if x250 < (a1.Links.length : Int) then (if 0 ≤ x250 then (if x250 < (a11.Links.length : Int) then (if nth a1.Links x250 = nth a11.Links x250 then some (.inl (IntKind.i64.wrap (x250 + 1))) else some (.inr false)) else none) else none) else (Option.map Sum.inr (isochronlaw21vsame.l9 a1 a11 a23 a27 (0))))
def isochronlaw21vsame.l7 (a1 a11 : api_Model) (a23 a27 : List api_Pick) (s : Int) : Option (Bool) := loopR (isochronlaw21vsame.l7b a1 a11 a23 a27) s
def isochronlaw21vsame.f (a1 a11 : api_Model) (a21 a22 : api_Caps) (a23 a27 : List api_Pick) : Option (Bool) := ((isochronlaw21vprogram.f a1.Progs a11.Progs).bind fun t207 => (if t207 = true then (if (a1.Links.length : Int) = (a11.Links.length : Int) then (if (a1.Starts.length : Int) = (a11.Starts.length : Int) then (if a1.Seed = a11.Seed then (if a1.End = a11.End then (if a1.Budget = a11.Budget then (if a21 = a22 then (if (a23.length : Int) = (a27.length : Int) then isochronlaw21vsame.l7 a1 a11 a23 a27 (0) else some false) else some false) else some false) else some false) else some false) else some false) else some false) else some false))
theorem isochronlaw21vsame.ok {a1 a11 : api_Model} {a21 a22 : api_Caps} {a23 a27 : List api_Pick} {A2 A5 A8 A12 A15 A18 A24 A28 : Option Addr} {c3 c6 c9 c13 c16 c19 c25 c29 : Nat} (hr4 : SlR (Rep.sl E_api_Instr.rep) hf A2 c3 a1.Progs) (hr7 : SlR E_api_Link.rep hf A5 c6 a1.Links) (hr10 : SlR E_api_Start.rep hf A8 c9 a1.Starts) (hr14 : SlR (Rep.sl E_api_Instr.rep) hf A12 c13 a11.Progs) (hr17 : SlR E_api_Link.rep hf A15 c16 a11.Links) (hr20 : SlR E_api_Start.rep hf A18 c19 a11.Starts) (hr26 : SlR E_api_Pick.rep hf A24 c25 a23) (hr30 : SlR E_api_Pick.rep hf A28 c29 a27) {r : Bool} (h : isochronlaw21vsame.f a1 a11 a21 a22 a23 a27 = some r) (hS : St B w (l) hf) :
    Calls prog 12 #[.agg (C_api_Model a1 A2 c3 A5 c6 A8 c9).toArray, .agg (C_api_Model a11 A12 c13 A15 c16 A18 c19).toArray, .agg (C_api_Caps a21).toArray, .agg (C_api_Caps a22).toArray, sV A24 a23 c25, sV A28 a27 c29] w (Ret fun v w => v = .bool r ∧ St B w (l) hf) := by
  have h := Holds.of h
  refine en func12 rfl ntmps12 rfl (sr (rr [0, 0, 0, 0, 0] hS ?_))
  refine fun b193 b194 b195 b196 => it fun w hS => ln (RC.seq (sr (rr [0, 4, 0, 3] hS ?_)))
  refine it fun w hS => cF (fun _ hg => isochronlaw21vprogram.ok hr4 hr14 hg hS) call26 h rfl rfl rfl ?_
  rintro t207 h _ w ⟨rfl, hS⟩
  refine pn 2 rfl ?_
  refine RL.iteM 22 rfl h (fun hc209 h => ?_) fun hc209 h => ?_
  next =>
   refine rr [0, 4, 0, 0, 3, 0, 0, 0, 0] hS ?_
   refine it fun w hS => RL.iteN 31 rfl h (fun hc210 h => ?_) fun hc210 h => ?_
   next =>
    refine rr [0, 4, 0, 0, 3, 0, 0, 0, 0] hS ?_
    refine it fun w hS => RL.iteN 40 rfl h (fun hc211 h => ?_) fun hc211 h => ?_
    next =>
     refine rr [0, 4, 0, 3, 0, 0, 0] hS ?_
     refine it fun w hS => RL.iteN 47 rfl h (fun hc212 h => ?_) fun hc212 h => ?_
     next =>
      refine rr [0, 4, 0, 3, 0, 0, 0] hS ?_
      refine it fun w hS => RL.iteN 54 rfl h (fun hc213 h => ?_) fun hc213 h => ?_
      next =>
       refine rr [0, 4, 0, 3, 0, 0, 0] hS ?_
       refine it fun w hS => RL.iteN 61 rfl h (fun hc214 h => ?_) fun hc214 h => ?_
       next =>
        refine rr [2, 1] hS ?_
        refine it fun w hS => RL.sg (Vl.neqS (run_neq_api_Caps _ _ a21 a22) rfl rfl) rfl rfl (pn 2 rfl ?_)
        refine RL.iteN 66 rfl h (fun hc215 h => ?_) fun hc215 h => ?_
        next =>
         refine r0 6 rfl (ln ?_)
         refine RC.iteN 72 rfl h (fun hc216 h => ?_) fun hc216 h => ?_
         next =>
          refine jfs (RC.seq (sr (pn 1 rfl (ln (RC.block (fun a ha => lp h (fun (s : Int) a w => ∃ x250, s = (x250) ∧ Has 124 [(4, sV A24 a23 c25), (5, sV A28 a27 c29), (6, pV b193), (7, pV b194), (13, iV x250)] a ∧ St B w (Cl b194 (C_api_Model a11 A12 c13 A15 c16 A18 c19) 34 :: Cl b193 (C_api_Model a1 A2 c3 A5 c6 A8 c9) 34 :: l) hf) ⟨_, rfl, ha.tE rfl, hS.d0.d0⟩ ?_))))))
          rintro G260 x250 a w ⟨_, rfl, ha, hS⟩ h
          refine ro ha (RC.seq (sr (rr [0, 0, 2, 0, 0] hS ?_)))
          refine it fun w hS => ln ?_
          refine RC.iteP 77 rfl h (fun hc262 h => ?_) fun hc262 h => ?_
          next =>
           refine jt (sk (RC.seq (RC.block (RC.seq (dr [0, 4, 6, 10, 13, 15, 19, 23, 26, 29, 32] [10] hS fun w hS => rq [0, 2, 0] hS ?_)))))
           refine it ?_
           obtain ⟨hq266, h⟩ := h.req
           refine RP.s 0 3 rfl rfl hS (fun w hS => Vl.indexAddr underlying30 sizeOf76 rfl rfl ((hr7.2.world hS.sub).adr hq266 hc262) hq266 hc262 rfl) rfl (RP.s 0 4 rfl rfl hS (fun w hS => Vl.loadA isAgg76 sizeOf76 rfl rfl ((hr7.2.world hS.sub).cells hq266 hc262)) rfl (rq [0, 1, 0] hS ?_))
           refine it ?_
           obtain ⟨hq267, h⟩ := h.req
           refine RP.v1 8 rfl (Vl.indexAddr underlying30 sizeOf76 rfl rfl ((hr17.2.world hS.sub).adr hq266 hq267) hq266 hq267 rfl) rfl rfl (RP.v1 9 rfl (Vl.loadA isAgg76 sizeOf76 rfl rfl ((hr17.2.world hS.sub).cells hq266 hq267)) rfl rfl (RP.v1 10 rfl (Vl.neqS (run_neq_api_Link _ _ (nth a1.Links x250) (nth a11.Links x250)) rfl rfl) rfl rfl (RP.nil (RQ.then_n ?_))))
           refine RC.iteN 90 rfl h (fun hc268 h => ?_) fun hc268 h => ?_
           next =>
            refine jf (RC.skip (RQ.inB_n (RQ.then_n (RC.region (pn 3 rfl (RL.nil ?_))))))
            exact fun a ha => ⟨_, h.some, _, rfl, ha.tE rfl, hS⟩
           refine jtr (pn 1 rfl (lr (ir ?_)))
           have h := h.inrS
           refine RQ.ret (ir ?_)
           obtain rfl := h.some
           exact rt results12 rfl ⟨rfl, hS.d0.d0⟩
          refine jf (RC.exit (RQ.exitT ?_))
          have h := h.inr
          refine RQ.exitT (RQ.inB_hit (RQ.then_n (RC.seq (sr (pn 1 rfl (ln (RC.block (fun a ha => lp h (fun (s : Int) a w => ∃ x302, s = (x302) ∧ Has 124 [(4, sV A24 a23 c25), (5, sV A28 a27 c29), (6, pV b193), (7, pV b194), (14, iV x302)] a ∧ St B w (Cl b194 (C_api_Model a11 A12 c13 A15 c16 A18 c19) 34 :: Cl b193 (C_api_Model a1 A2 c3 A5 c6 A8 c9) 34 :: l) hf) ⟨_, rfl, ha.tE rfl, hS⟩ ?_))))))))
          rintro G312 x302 a w ⟨_, rfl, ha, hS⟩ h
          refine ro ha (RC.seq (sr (rr [0, 0, 2, 0, 0] hS ?_)))
          refine it fun w hS => ln ?_
          refine RC.iteP 95 rfl h (fun hc314 h => ?_) fun hc314 h => ?_
          next =>
           refine jt (sk (RC.seq (RC.block (RC.seq (dr [0, 4, 6, 10, 13, 15, 19, 23, 26, 29, 32] [10] hS fun w hS => rq [0, 2, 0] hS ?_)))))
           refine it ?_
           obtain ⟨hq318, h⟩ := h.req
           refine RP.s 0 3 rfl rfl hS (fun w hS => Vl.indexAddr underlying31 sizeOf78 rfl rfl ((hr10.2.world hS.sub).adr hq318 hc314) hq318 hc314 rfl) rfl (RP.s 0 4 rfl rfl hS (fun w hS => Vl.loadA isAgg78 sizeOf78 rfl rfl ((hr10.2.world hS.sub).cells hq318 hc314)) rfl (rq [0, 1, 0] hS ?_))
           refine it ?_
           obtain ⟨hq319, h⟩ := h.req
           refine RP.v1 8 rfl (Vl.indexAddr underlying31 sizeOf78 rfl rfl ((hr20.2.world hS.sub).adr hq318 hq319) hq318 hq319 rfl) rfl rfl (RP.v1 9 rfl (Vl.loadA isAgg78 sizeOf78 rfl rfl ((hr20.2.world hS.sub).cells hq318 hq319)) rfl rfl (RP.v1 10 rfl (Vl.neqS (run_neq_api_Start _ _ (nth a1.Starts x302) (nth a11.Starts x302)) rfl rfl) rfl rfl (RP.nil (RQ.then_n ?_))))
           refine RC.iteN 108 rfl h (fun hc320 h => ?_) fun hc320 h => ?_
           next =>
            refine jf (RC.skip (RQ.inB_n (RQ.then_n (RC.region (pn 3 rfl (RL.nil ?_))))))
            exact fun a ha => ⟨_, h.some, _, rfl, ha.tE rfl, hS⟩
           refine jtr (pn 1 rfl (lr (ir ?_)))
           have h := h.inrS
           refine RQ.ret (ir ?_)
           obtain rfl := h.some
           exact rt results12 rfl ⟨rfl, hS.d0.d0⟩
          refine jf (RC.exit (RQ.exitT ?_))
          have h := h.inr
          refine RQ.exitT (RQ.inB_hit (RQ.then_n (RC.seq (sr (pn 1 rfl (ln (RC.block (fun a ha => lp h (fun (s : Int) a w => ∃ x328, s = (x328) ∧ Has 124 [(4, sV A24 a23 c25), (5, sV A28 a27 c29), (15, iV x328)] a ∧ St B w (l) hf) ⟨_, rfl, ha.tE rfl, hS.d0.d0⟩ ?_))))))))
          rintro G338 x328 a w ⟨_, rfl, ha, hS⟩ h
          refine ro ha (RC.seq (sr (r0 4 rfl (ln ?_))))
          refine RC.iteP 112 rfl h (fun hc340 h => ?_) fun hc340 h => ?_
          next =>
           refine jt (sk (RC.seq (RC.block (RC.seq (dr [0, 3, 7, 10, 12, 17, 20, 23, 26] [8] hS fun w hS => pp 2 rfl ?_)))))
           obtain ⟨hq344, h⟩ := h.req
           refine RP.s 0 2 rfl rfl hS (fun w hS => Vl.indexAddr underlying37 sizeOf80 rfl rfl ((hr26.2.world hS.sub).adr hq344 hc340) hq344 hc340 rfl) rfl (RP.s 0 3 rfl rfl hS (fun w hS => Vl.loadA isAgg80 sizeOf80 rfl rfl ((hr26.2.world hS.sub).cells hq344 hc340)) rfl (rq [0, 0] hS ?_))
           refine it ?_
           obtain ⟨hq345, h⟩ := h.req
           refine RP.v1 6 rfl (Vl.indexAddr underlying37 sizeOf80 rfl rfl ((hr30.2.world hS.sub).adr hq344 hq345) hq344 hq345 rfl) rfl rfl (RP.v1 7 rfl (Vl.loadA isAgg80 sizeOf80 rfl rfl ((hr30.2.world hS.sub).cells hq344 hq345)) rfl rfl (RP.v1 8 rfl (Vl.neqS (run_neq_api_Pick _ _ (nth a23 x328) (nth a27 x328)) rfl rfl) rfl rfl (RP.nil (RQ.then_n ?_))))
           refine RC.iteN 123 rfl h (fun hc346 h => ?_) fun hc346 h => ?_
           next =>
            refine jf (RC.skip (RQ.inB_n (RQ.then_n (RC.region (pn 3 rfl (RL.nil ?_))))))
            exact fun a ha => ⟨_, h.some, _, rfl, ha.tE rfl, hS⟩
           refine jtr (pn 1 rfl (lr (ir ?_)))
           have h := h.inrS
           refine RQ.ret (ir ?_)
           obtain rfl := h.some
           exact rt results12 rfl ⟨rfl, hS⟩
          refine jf (RC.exit (RQ.exitT ?_))
          have h := h.inrS
          refine RQ.exitT (RQ.inB_hit (tsr (pn 1 rfl (lr ?_))))
          obtain rfl := h.some
          exact rt results12 rfl ⟨rfl, hS⟩
         refine jtr (pn 1 rfl (lr (RQ.ret ?_)))
         obtain rfl := h.some
         exact rt results12 rfl ⟨rfl, hS.d0.d0.d0.d0⟩
        refine pn 6 rfl (ln (jtr (pn 1 rfl (lr (RQ.ret ?_)))))
        obtain rfl := h.some
        exact rt results12 rfl ⟨rfl, hS.d0.d0.d0.d0⟩
       refine pn 11 rfl (ln (jtr (pn 1 rfl (lr (RQ.ret ?_)))))
       obtain rfl := h.some
       exact rt results12 rfl ⟨rfl, hS.d0.d0.d0.d0⟩
      refine pn 18 rfl (ln (jtr (pn 1 rfl (lr (RQ.ret ?_)))))
      obtain rfl := h.some
      exact rt results12 rfl ⟨rfl, hS.d0.d0.d0.d0⟩
     refine pn 25 rfl (ln (jtr (pn 1 rfl (lr (RQ.ret ?_)))))
     obtain rfl := h.some
     exact rt results12 rfl ⟨rfl, hS.d0.d0.d0.d0⟩
    refine pn 32 rfl (ln (jtr (pn 1 rfl (lr (RQ.ret ?_)))))
    obtain rfl := h.some
    exact rt results12 rfl ⟨rfl, hS.d0.d0.d0.d0⟩
   refine pn 41 rfl (ln (jtr (pn 1 rfl (lr (RQ.ret ?_)))))
   obtain rfl := h.some
   exact rt results12 rfl ⟨rfl, hS.d0.d0.d0.d0⟩
  refine pn 50 rfl (ln (jtr (pn 1 rfl (lr (RQ.ret ?_)))))
  obtain rfl := h.some
  exact rt results12 rfl ⟨rfl, hS.d0.d0.d0.d0⟩
end
end Go.Proofs.Gx
