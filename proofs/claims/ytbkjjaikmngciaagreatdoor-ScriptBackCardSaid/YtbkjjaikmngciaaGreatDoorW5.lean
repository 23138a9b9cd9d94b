/-
  The walks of functions, each with what it computes: printed by wip/gx.py.
-/
import Derived.Test.YtbkjjaikmngciaaGreatDoorW0
import Derived.Test.YtbkjjaikmngciaaGreatDoorW3
import Derived.Test.YtbkjjaikmngciaaGreatDoorW4
set_option linter.unusedVariables false
set_option linter.unusedSimpArgs false
set_option maxRecDepth 100000
set_option maxHeartbeats 4000000
namespace Go.Proofs.Gx
open Go.Sl Tryz
variable {B : Base} {w : World} {l : List HProp} {hf : Hp}
noncomputable section
def model_places.j8 (x131 : Int) (l174 : List Int) : Option ((List Int × Int) ⊕ (List Int)) := some (.inl (l174, IntKind.i64.wrap (x131 + 1)))
def model_places.l7b (a1 : api_Model) (a12 : Int) : List Int × Int → Option ((List Int × Int) ⊕ (List Int))
  | (l128, x131) => (if x131 < (a1.Links.length : Int) then (if 0 ≤ x131 then ((model_Ways_1.f (nth a1.Links x131) a12).bind fun t179 => (if t179 = true then (if (l128.length + 1) * 8 ≤ 140737488355328 then model_places.j8 x131 (l128 ++ ([x131] : List Int)) else none) else model_places.j8 x131 l128)) else none) else some (.inr l128))
def model_places.l7 (a1 : api_Model) (a12 : Int) (s : List Int × Int) : Option (List Int) := loopR (model_places.l7b a1 a12) s
def model_places.f (a1 : api_Model) (a12 : Int) : Option (List Int) := model_places.l7 a1 a12 ([], 0)
theorem model_places.ok {a1 : api_Model} {a12 : Int} {A2 A5 A8 : Option Addr} {c3 c6 c9 b11 : Nat} (hr4 : SlR (Rep.sl E_api_Instr.rep) hf A2 c3 a1.Progs) (hr7 : SlR E_api_Link.rep hf A5 c6 a1.Links) (hr10 : SlR E_api_Start.rep hf A8 c9 a1.Starts) {r : List Int} (h : model_places.f a1 a12 = some r) (hS : St B w (Cl b11 [iV a12] 3 :: l) hf) :
    Calls prog 86 #[.agg (C_api_Model a1 A2 c3 A5 c6 A8 c9).toArray, .func (.func 87) #[] #[pV b11]] w (Ret fun v w => ∃ (A_1 : Option Addr) (c_2 : Nat), v = sV A_1 r c_2 ∧ St B w (OSf (FI .i64) 3 (sV A_1 r c_2) r :: Cl b11 [iV a12] 3 :: l) hf) := by
  have h := Holds.of h
  refine en func86 rfl ntmps86 rfl (sr (rr [0, 0] hS ?_))
  refine fun b100 => it fun w hS => lnsr (pn 1 rfl (ln (RC.seq (sr (rr [0, 1, 0, 0] hS ?_)))))
  refine it fun w hS => RL.nil ?_
  refine RQ.then_n (RC.block ?_)
  have hS := hS.nilSl (FI .i64) 3
  refine fun a ha => lp h (fun (s : List Int × Int) a w => ∃ l128 x131, s = (l128, x131) ∧ ∃ A129 c130, Has 25 [(1, .func (.func 87) #[] #[pV b11]), (5, sV A129 l128 c130), (9, sV A5 a1.Links c6), (10, iV (a1.Links.length : Int)), (11, iV x131)] a ∧ St B w (OSf (FI .i64) 3 (sV A129 l128 c130) l128 :: Cl b11 [iV a12] 3 :: l) hf) ⟨_, _, rfl, _, _, ha.tE rfl, hS.d1⟩ ?_
  rintro G161 _ a w ⟨l128, x131, rfl, A129, c130, ha, hS⟩ h
  refine ro ha (sr (pn 1 rfl (ln (RC.seq ?_))))
  refine RC.iteP 12 rfl h (fun hc163 h => ?_) fun hc163 h => ?_
  next =>
   refine jt (sk ?_)
   refine RC.join (fun (s : List Int) a w => ∃ l174, s = (l174) ∧ Holds (Sum.elim G161 (· = r)) (model_places.j8 x131 l174) ∧ ∃ A175 c176, Has 25 [(1, .func (.func 87) #[] #[pV b11]), (5, sV A175 l174 c176), (9, sV A5 a1.Links c6), (10, iV (a1.Links.length : Int)), (11, iV x131)] a ∧ St B w (OSf (FI .i64) 3 (sV A175 l174 c176) l174 :: Cl b11 [iV a12] 3 :: l) hf) ?_ ?_
   · rintro l174 a w ⟨_, rfl, h, A175, c176, ha, hS⟩
     refine ro ha (RC.region (pn 2 rfl (RL.nil ?_)))
     exact fun a ha => ⟨_, h.some, _, _, rfl, _, _, ha.tE rfl, hS⟩
   refine RC.block (sr (pn 1 rfl ?_))
   obtain ⟨hq177, h⟩ := h.req
   refine RL.s (Vl.indexAddr underlying30 sizeOf76 rfl rfl ((hr7.2.world hS.sub).adr hq177 hc163) hq177 hc163 rfl) rfl (RL.s (Vl.loadA isAgg76 sizeOf76 rfl rfl ((hr7.2.world hS.sub).cells hq177 hc163)) rfl (rr [0, 0, 1] hS ?_))
   refine fun b178 => it fun w hS => lnsr (rr [0, 1] hS ?_)
   refine it fun w hS => ?_
   obtain ⟨t179, hg180, h⟩ := h.bind
   have hc := model_Ways_1.ok hg180 hS.p2
   refine RL.e (OW.call (ls := [.tmp 17]) rfl rfl call87 rfl hc) rfl rfl ?_
   rintro _ w ⟨rfl, hS⟩
   refine ln ?_
   refine RC.iteB 18 rfl h (fun hc181 h => ?_) fun hc181 h => ?_
   next =>
    refine jt (RC.region (pn 2 rfl (RL.e (OW.buildSlice (E := (FI .i64)) (xs := ([x131] : List Int)) (cs := [iV x131]) hS underlying100 zeroValue3 sizeOf3 (parts := [(0, .tmp 20)]) rfl rfl (by decide) (by decide) (by kernel_rfl) rfl) rfl rfl ?_)))
    rintro _ w ⟨b182, rfl, hS⟩
    obtain ⟨hq183, h⟩ := h.req
    refine RL.e (OW.append (E := (FI .i64)) (xs := l128) (ys := ([x131] : List Int)) 3 hS rfl underlying100 type3 rfl rfl rfl rfl (by decide) rfl rfl rfl (hS.slW 0 rfl).2.2.flat (by simp only [maxLen, List.length_cons, List.length_nil] at *; omega) hq183 rfl) rfl rfl ?_
    rintro v186 w hS
    obtain ⟨A184, c185, rfl, _⟩ := hS.osShape 0 rfl
    have hS : St B w (_ :: _ :: _ :: _ :: l) hf := hS
    refine pn 1 rfl (RL.nil (RQ.inB_n ?_))
    exact fun a ha => ⟨_, _, rfl, h, _, _, ha.tE rfl, hS.d1.d2⟩
   refine jf (RC.skip (RQ.inB_n ?_))
   exact fun a ha => ⟨_, _, rfl, h, _, _, ha.tE rfl, hS.d1.p1⟩
  refine jf (RC.exit (RQ.exitT ?_))
  have h := h.inrS
  refine RQ.exitT (RQ.inB_hit (tsr (pn 2 rfl (lr ?_))))
  obtain rfl := h.some
  exact rt results86 rfl ⟨A129, c130, rfl, hS⟩
def model_Ways.f (a1 : api_Model) (a11 : Int) : Option (List Int) := ((model_places.f a1 a11).bind fun t20 => some t20)
theorem model_Ways.ok {a1 : api_Model} {a11 : Int} {A2 A5 A8 : Option Addr} {c3 c6 c9 : Nat} (hr4 : SlR (Rep.sl E_api_Instr.rep) hf A2 c3 a1.Progs) (hr7 : SlR E_api_Link.rep hf A5 c6 a1.Links) (hr10 : SlR E_api_Start.rep hf A8 c9 a1.Starts) {r : List Int} (h : model_Ways.f a1 a11 = some r) (hS : St B w (l) hf) :
    Calls prog 63 #[.agg (C_api_Model a1 A2 c3 A5 c6 A8 c9).toArray, iV a11] w (Ret fun v w => ∃ (A_1 : Option Addr) (c_2 : Nat), v = sV A_1 r c_2 ∧ St B w (OSf (FI .i64) 3 (sV A_1 r c_2) r :: l) hf) := by
  have h := Holds.of h
  refine en func63 rfl ntmps63 rfl (sr (rr [0, 0, 0] hS ?_))
  refine fun b18 b19 => it fun w hS => lnsr (rr [2] hS ?_)
  refine it fun w hS => RL.s (Vl.makeFunc (fi := []) (ca := [.tmp 3]) rfl rfl) rfl (cF (fun _ hg => model_places.ok hr4 hr7 hr10 hg hS) call86 h rfl rfl rfl ?_)
  rintro t20 h _ w ⟨A22, c23, rfl, hS⟩
  refine pn 1 rfl (lr ?_)
  obtain rfl := h.some
  exact rt results63 rfl ⟨A22, c23, rfl, hS.d1.d1⟩
def model_World.l6b (a1 : api_Model) (a11 : Int) (l231 : List api_Instr) (t303 : List Int) : List api_Link × Int → Option ((List api_Link × Int) ⊕ (api_World × Int))
  | (l327, x330) => (if x330 < (t303.length : Int) then (if 0 ≤ x330 then (if 0 ≤ nth t303 x330 ∧ nth t303 x330 < (a1.Links.length : Int) then (if (l327.length + 1) * 32 ≤ 140737488355328 then some (.inl ((l327 ++ ([nth a1.Links (nth t303 x330)])), IntKind.i64.wrap (x330 + 1))) else none) else none) else none) else some (.inr ((⟨l231, a11, l327, a1.Seed⟩ : api_World), 0)))
def model_World.l6 (a1 : api_Model) (a11 : Int) (l231 : List api_Instr) (t303 : List Int) (s : List api_Link × Int) : Option (api_World × Int) := loopR (model_World.l6b a1 a11 l231 t303) s
def model_World.j4 (a1 : api_Model) (a11 : Int) (l231 : List api_Instr) : Option (api_World × Int) := ((model_Ways.f a1 a11).bind fun t303 => model_World.l6 a1 a11 l231 t303 ([], 0))
def model_World.f (a1 : api_Model) (a11 : Int) : Option (api_World × Int) := ((model_Check.f a1).bind fun t205 => (if t205 = 0 then ((model_lane.f a1 a11).bind fun t211 => (if t211 = true then (if 0 ≤ a11 ∧ a11 < (a1.Progs.length : Int) then (if (([] : List api_Instr).length + (nth a1.Progs a11).length) * 32 ≤ 140737488355328 then model_World.j4 a1 a11 (([] : List api_Instr) ++ (nth a1.Progs a11)) else none) else none) else some ((⟨([] : List api_Instr), 0, ([] : List api_Link), 0⟩ : api_World), 1))) else some ((⟨([] : List api_Instr), 0, ([] : List api_Link), 0⟩ : api_World), t205)))
theorem model_World.ok {a1 : api_Model} {a11 : Int} {A2 A5 A8 : Option Addr} {c3 c6 c9 : Nat} (hr4 : SlR (Rep.sl E_api_Instr.rep) hf A2 c3 a1.Progs) (hr7 : SlR E_api_Link.rep hf A5 c6 a1.Links) (hr10 : SlR E_api_Start.rep hf A8 c9 a1.Starts) (hG0 : GlobAt hf 0 (.iface 144 (.agg #[.pointer (some ⟨9, 53, none⟩)]))) {r : api_World × Int} (h : model_World.f a1 a11 = some r) (hS : St B w (l) hf) :
    Calls prog 80 #[.agg (C_api_Model a1 A2 c3 A5 c6 A8 c9).toArray, iV a11] w (Ret fun v w => ∃ (A_1 : Option Addr) (c_2 : Nat) (A_3 : Option Addr) (c_4 : Nat), v = .tuple #[.agg (C_api_World r.1 A_1 c_2 A_3 c_4).toArray, iV r.2] ∧ St B w (OSf E_api_Instr 74 (sV A_1 r.1.Prog c_2) r.1.Prog :: OSf E_api_Link 76 (sV A_3 r.1.Links c_4) r.1.Links :: l) hf) := by
  have h := Holds.of h
  refine en func80 rfl ntmps80 rfl (sr (rr [0, 0, 0] hS ?_))
  refine fun b200 b201 => it fun w hS => ln (RC.seq (sr (rr [2] hS ?_)))
  refine it fun w hS => cF (fun _ hg => model_Check.ok hr4 hr7 hr10 hG0 hg hS) call60 h rfl rfl rfl ?_
  rintro t205 h _ w ⟨rfl, hS⟩
  refine pn 1 rfl (lnsr (pn 2 rfl (ln ?_)))
  refine RC.iteN 13 rfl h (fun hc207 h => ?_) fun hc207 h => ?_
  next =>
   refine jfs (RC.seq (sr (rr [2, 0] hS ?_)))
   refine it fun w hS => cF (fun _ hg => model_lane.ok hr4 hr7 hr10 hg hS) call110 h rfl rfl rfl ?_
   rintro t211 h _ w ⟨rfl, hS⟩
   refine pn 1 rfl (ln ?_)
   refine RC.iteM 19 rfl h (fun hc213 h => ?_) fun hc213 h => ?_
   next =>
    refine jfs ?_
    refine RC.join (fun (s : List api_Instr) a w => ∃ l231, s = (l231) ∧ Holds (· = r) (model_World.j4 a1 a11 l231) ∧ ∃ b230 A232 c233, Has 51 [(1, iV a11), (2, pV b200), (4, pV b201), (7, pV b230)] a ∧ St B w (OSf E_api_Instr 74 (sV A232 l231 c233) l231 :: Cl b201 [.slice none 0 0, iV 0, .slice none 0 0, .int .u64 0] 204 :: Cl b200 (C_api_Model a1 A2 c3 A5 c6 A8 c9) 34 :: Cl b230 [sV A232 l231 c233, iV a11, .slice none 0 0, .int .u64 a1.Seed] 204 :: l) hf) ?_ ?_
    · rintro l231 a w ⟨_, rfl, h, b230, A232, c233, ha, hS⟩
      refine ro ha (RC.seq (sr (rr [3, 0] hS ?_)))
      refine it fun w hS => cF (fun _ hg => model_Ways.ok hr4 hr7 hr10 hg hS) call63 h rfl rfl rfl ?_
      rintro t303 h _ w ⟨A305, c306, rfl, hS⟩
      refine r0 2 rfl (ln (RC.block ?_))
      have hS := hS.nilSl E_api_Link 76
      refine fun a ha => lp h (fun (s : List api_Link × Int) a w => ∃ l327 x330, s = (l327, x330) ∧ ∃ A328 c329, Has 51 [(2, pV b200), (4, pV b201), (7, pV b230), (33, sV A305 t303 c306), (34, iV (t303.length : Int)), (35, iV x330)] a ∧ St B w (OSf E_api_Instr 74 (sV A232 l231 c233) l231 :: OSf E_api_Link 76 (sV A328 l327 c329) l327 :: OSf (FI .i64) 3 (sV A305 t303 c306) t303 :: Cl b201 [.slice none 0 0, iV 0, .slice none 0 0, .int .u64 0] 204 :: Cl b200 (C_api_Model a1 A2 c3 A5 c6 A8 c9) 34 :: Cl b230 [sV A232 l231 c233, iV a11, sV A328 l327 c329, .int .u64 a1.Seed] 204 :: l) hf) ⟨_, _, rfl, _, _, ha.tE rfl, hS.p2⟩ ?_
      rintro G353 _ a w ⟨l327, x330, rfl, A328, c329, ha, hS⟩ h
      refine ro ha (sr (pn 1 rfl (ln (RC.seq ?_))))
      refine RC.iteP 36 rfl h (fun hc355 h => ?_) fun hc355 h => ?_
      next =>
       refine jt (sk (RC.seq (RC.block (sr ?_))))
       obtain ⟨hq364, h⟩ := h.req
       refine RL.s (Vl.indexOwn 2 hS rfl underlying100 sizeOf3 rfl rfl hq364 hc355) rfl (RL.s (Vl.load isAgg3 rfl ((hS.slW 2 rfl).2.2.cell (j := 0) hq364 hc355 rfl)) rfl (pn 1 rfl (ln (dr [0, 4, 6, 10, 14, 17, 20, 23, 26, 29, 32] [8, 9, 10] hS fun w hS => rq [0, 6, 0, 5, 0] hS ?_))))
       refine it ?_
       obtain ⟨⟨hq365, hq366⟩, h⟩ := h.req
       refine RP.v1 5 rfl (Vl.indexAddr underlying30 sizeOf76 rfl rfl ((hr7.2.world hS.sub).adr hq365 hq366) hq365 hq366 rfl) rfl rfl (RP.v1 6 rfl (Vl.loadA isAgg76 sizeOf76 rfl rfl ((hr7.2.world hS.sub).cells hq365 hq366)) rfl rfl (RP.e 7 rfl (OW.buildSlice (E := E_api_Link) (xs := [nth a1.Links (nth t303 x330)]) (cs := (C_api_Link (nth a1.Links (nth t303 x330)))) hS underlying30 zeroValue76 sizeOf76 (parts := [(0, .tmp 45)]) rfl rfl (by decide) (by decide) (by kernel_rfl) rfl) rfl rfl ?_))
       rintro _ w ⟨b367, rfl, hS⟩
       refine ⟨kp ⟨fun _ => hS.d0, trivial⟩, ?_⟩
       obtain ⟨hq368, h⟩ := h.req
       refine RP.e 8 rfl (OW.append (E := E_api_Link) (xs := l327) (ys := [nth a1.Links (nth t303 x330)]) 2 hS rfl underlying30 type76 rfl rfl rfl rfl (by decide) rfl rfl rfl (hS.slW 0 rfl).2.2.flat (by simp only [maxLen, List.length_cons, List.length_nil] at *; omega) hq368 rfl) rfl rfl ?_
       rintro v371 w hS
       obtain ⟨A369, c370, rfl, _⟩ := hS.osShape 0 rfl
       have hS : St B w (_ :: _ :: _ :: _ :: _ :: _ :: _ :: l) hf := hS
       refine ⟨kp ⟨(by intro hx; cases hx), trivial⟩, ?_⟩
       refine RP.v1 9 rfl (Vl.fa 2 underlying204 rfl sizeOf30 rfl rfl) rfl rfl (RP.e0 10 rfl (OW.store (vs := [.slice A369 (l327 ++ ([nth a1.Links (nth t303 x330)])).length c370]) 6 hS rfl rfl rfl rfl sizeOf30 rfl rfl rfl rfl) rfl ?_)
       rintro _ w ⟨rfl, hS⟩
       have hS : St B w (_ :: _ :: _ :: _ :: _ :: _ :: Cl _ [_, _, _, _] _ :: l) hf := hS
       refine ⟨kp ⟨(by intro hx; cases hx), trivial⟩, ?_⟩
       refine RP.nil (RQ.inB_n (RQ.then_n (RC.region (pn 2 rfl (RL.nil ?_)))))
       exact fun a ha => ⟨_, h.some, _, _, rfl, _, _, ha.tE rfl, hS.d1.p1⟩
      refine jf (RC.exit (RQ.exitT ?_))
      have h := h.inrS
      refine RQ.exitT (RQ.inB_hit (tsr (rr [6, 4, 0] hS ?_)))
      refine it fun w hS => lr ?_
      cases h.some
      refine rz [3] results80 hS ?_
      exact it ⟨A232, c233, A328, c329, rfl, hS.d2.d2.d2.d2⟩
    refine RC.planS (.pure 0 (.early 1 0 (.pure 2 (.early 3 0 (.early 4 0 (.pure 6 (.pure 7 (.early 8 0 (.fork 5 10 (.pure 9 (.last 10 (.last 11 .nil))) (.last 5 (.last 9 (.last 11 .nil)))))))))))) [11] hS (fun w hS => hS) follows rfl (by kernel_rfl) (NoTmp.then NoTmp.body) fun w hS => rq [0, 2, 0] hS ?_
    refine it ?_
    obtain ⟨⟨hq372, hq373⟩, h⟩ := h.req
    refine RP.s 0 3 rfl rfl hS (fun w hS => Vl.indexAddr underlying29 sizeOf72 rfl rfl (hr4.2.adr hq372 hq373) hq372 hq373 rfl) rfl ?_
    obtain ⟨_, _, ⟨A374, c375, rfl, hr376⟩, hl377⟩ := hr4.2.elem hq372 hq373
    refine RP.s 0 4 rfl rfl hS (fun w hS => Vl.load isAgg72 rfl (cellH_world hS.sub (hl377 0 _ rfl))) rfl (rq [0, 0, 2] hS ?_)
    refine it ?_
    refine RP.fork ?_ ?_
    · obtain ⟨hq378, h⟩ := h.req
      have hS := hS.nilSl E_api_Instr 74
      refine RPW.e 5 rfl (OW.appendV (E := E_api_Instr) (xs := ([] : List api_Instr)) (ys := nth a1.Progs a11) 0 hS rfl underlying72 type74 rfl rfl rfl rfl (by decide) (by decide) rfl rfl (hr376.2.world hS.sub) hq378 rfl) rfl rfl ?_
      rintro v381 w hS
      obtain ⟨A379, c380, rfl, _⟩ := hS.osShape 0 rfl
      have hS : St B w (_ :: _ :: _ :: l) hf := hS
      refine ⟨kp ⟨fun _ => hS.d0, trivial⟩, ?_⟩
      refine rq [0] hS.d0 ?_
      refine it (RP.e 10 rfl (OW.alloc (cs := [.slice none 0 0, iV 0, .slice none 0 0, .int .u64 0]) hS zeroValue204 rfl) rfl rfl ?_)
      rintro _ w ⟨b382, rfl, hS⟩
      refine ⟨kp ⟨fun _ => hS.d0.d0, trivial⟩, ?_⟩
      refine RP.e0 11 rfl (OW.store (vs := [.slice A379 (([] : List api_Instr) ++ (nth a1.Progs a11)).length c380, iV a11, .slice none 0 0, .int .u64 a1.Seed]) 0 hS rfl rfl rfl rfl sizeOf204 rfl rfl rfl rfl) rfl ?_
      rintro _ w ⟨rfl, hS⟩
      have hS : St B w (Cl _ [_, _, _, _] _ :: _ :: _ :: _ :: l) hf := hS
      refine ⟨kp ⟨(by intro hx; cases hx), trivial⟩, ?_⟩
      refine RP.nil ?_
      exact fun a ha => ⟨_, _, rfl, h, _, _, _, ha.tE rfl, hS.p3.p3.p3⟩
    · refine RPW.e 10 rfl (OW.alloc (cs := [.slice none 0 0, iV 0, .slice none 0 0, .int .u64 0]) hS zeroValue204 rfl) rfl rfl ?_
      rintro _ w ⟨b383, rfl, hS⟩
      refine ⟨kp ⟨fun _ => hS.d0, trivial⟩, ?_⟩
      obtain ⟨hq384, h⟩ := h.req
      have hS := hS.nilSl E_api_Instr 74
      refine RP.e 5 rfl (OW.appendV (E := E_api_Instr) (xs := ([] : List api_Instr)) (ys := nth a1.Progs a11) 0 hS rfl underlying72 type74 rfl rfl rfl rfl (by decide) (by decide) rfl rfl (hr376.2.world hS.sub) hq384 rfl) rfl rfl ?_
      rintro v387 w hS
      obtain ⟨A385, c386, rfl, _⟩ := hS.osShape 0 rfl
      have hS : St B w (_ :: _ :: _ :: _ :: l) hf := hS
      refine ⟨kp ⟨fun _ => hS.d0.d0, trivial⟩, ?_⟩
      refine rq [0] hS.d0.d0 ?_
      refine it (RP.e0 11 rfl (OW.store (vs := [.slice A385 (([] : List api_Instr) ++ (nth a1.Progs a11)).length c386, iV a11, .slice none 0 0, .int .u64 a1.Seed]) 1 hS rfl rfl rfl rfl sizeOf204 rfl rfl rfl rfl) rfl ?_)
      rintro _ w ⟨rfl, hS⟩
      have hS : St B w (_ :: Cl _ [_, _, _, _] _ :: _ :: _ :: l) hf := hS
      refine ⟨kp ⟨(by intro hx; cases hx), trivial⟩, ?_⟩
      refine RP.nil ?_
      exact fun a ha => ⟨_, _, rfl, h, _, _, _, ha.tE rfl, hS.p3.p3.p2⟩
   refine jtr (rr [0, 1, 0] hS ?_)
   refine it fun w hS => lr (RQ.ret ?_)
   have hS := hS.nilSl E_api_Instr 74
   have hS := hS.nilSl E_api_Link 76
   cases h.some
   refine rz [2] results80 hS ?_
   exact it ⟨none, 0, none, 0, rfl, hS.d2.d2.p1⟩
  refine jtr (rr [0, 0, 1, 0] hS ?_)
  refine it fun w hS => lr (RQ.ret ?_)
  have hS := hS.nilSl E_api_Instr 74
  have hS := hS.nilSl E_api_Link 76
  cases h.some
  refine rz [2] results80 hS ?_
  exact it ⟨none, 0, none, 0, rfl, hS.d2.d2.p1⟩
def tune_First.f  : Option (Unit) := some ()
theorem tune_First.ok {r : Unit} (h : tune_First.f = some r) (hS : St B w (l) hf) :
    Calls prog 81 #[] w (Ret fun v w => v = .agg #[iV 2, iV 4, iV 0, iV 1000, iV 0] ∧ St B w (l) hf) := by
  have h := Holds.of h
  refine en func81 rfl ntmps81 rfl (sr (rr [0] hS ?_))
  refine fun b2 => it fun w hS => lnsr (rr [0, 1] hS ?_)
  refine it fun w hS => lr ?_
  have e := h.some
  refine rz [0] results81 hS ?_
  exact it ⟨rfl, hS.d0⟩
def vm_lane.f (a1 : Int) : Option (Bool) := (if 0 ≤ a1 then some (decide (a1 < 16)) else some false)
theorem vm_lane.ok {a1 : Int} {r : Bool} (h : vm_lane.f a1 = some r) (hS : St B w (l) hf) :
    Calls prog 152 #[iV a1] w (Ret fun v w => v = .bool r ∧ St B w (l) hf) := by
  have h := Holds.of h
  refine en func152 rfl ntmps152 rfl (sr (pn 1 rfl (lnsr (pn 3 rfl ?_))))
  refine RL.iteP 5 rfl h (fun hc3 h => ?_) fun hc3 h => ?_
  next =>
   refine pn 4 rfl (lr ?_)
   cases h.some
   exact rt results152 rfl ⟨rfl, hS⟩
  refine pn 4 rfl (lr ?_)
  obtain rfl := h.some
  exact rt results152 rfl ⟨rfl, hS⟩
def vm_Check.l2b (a1 : api_World) : Int → Option ((Int) ⊕ (Int))
  | (x119) => (if x119 < (a1.Links.length : Int) then (if 0 ≤ x119 then ((vm_lane.f ((nth a1.Links x119).To)).bind fun t155 => (if t155 = true then (if (nth a1.Links x119).Look < 1 then some (.inr 1) else ((vtime_Valid.f ((nth a1.Links x119).Look)).bind fun t159 => (if t159 = true then some (.inl (IntKind.i64.wrap (x119 + 1))) else some (.inr 1)))) else some (.inr 1))) else none) else some (.inr 0))
def vm_Check.l2 (a1 : api_World) (s : Int) : Option (Int) := loopR (vm_Check.l2b a1) s
def vm_Check.f (a1 : api_World) : Option (Int) := ((code_Check.f a1.Prog).bind fun t89 => (if t89 = 0 then ((vm_lane.f a1.Self).bind fun t96 => (if t96 = true then (if 1024 < (a1.Links.length : Int) then some 1 else vm_Check.l2 a1 (0)) else some 1)) else some t89))
theorem vm_Check.ok {a1 : api_World} {A2 A5 : Option Addr} {c3 c6 : Nat} (hr4 : SlR E_api_Instr.rep hf A2 c3 a1.Prog) (hr7 : SlR E_api_Link.rep hf A5 c6 a1.Links) {r : Int} (h : vm_Check.f a1 = some r) (hS : St B w (l) hf) :
    Calls prog 111 #[.agg (C_api_World a1 A2 c3 A5 c6).toArray] w (Ret fun v w => v = iV r ∧ St B w (l) hf) := by
  have h := Holds.of h
  refine en func111 rfl ntmps111 rfl (sr (rr [0, 0] hS ?_))
  refine fun b85 => it fun w hS => ln (RC.seq (sr (rr [0, 1] hS ?_)))
  refine it fun w hS => cF (fun _ hg => code_Check.ok hr4 hg hS) call150 h rfl rfl rfl ?_
  rintro t89 h _ w ⟨rfl, hS⟩
  refine pn 1 rfl (lnsr (pn 2 rfl (ln ?_)))
  refine RC.iteN 10 rfl h (fun hc91 h => ?_) fun hc91 h => ?_
  next =>
   refine jfs (RC.seq (sr (rr [0, 1] hS ?_)))
   refine it fun w hS => cF (fun _ hg => vm_lane.ok hg hS) call152 h rfl rfl rfl ?_
   rintro t96 h _ w ⟨rfl, hS⟩
   refine pn 2 rfl ?_
   refine RL.iteM 16 rfl h (fun hc98 h => ?_) fun hc98 h => ?_
   next =>
    refine rr [0, 1, 0, 0, 0] hS ?_
    refine it fun w hS => ln ?_
    refine RC.iteP 21 rfl h (fun hc99 h => ?_) fun hc99 h => ?_
    next =>
     refine jtr (pn 1 rfl (lr (RQ.ret ?_)))
     obtain rfl := h.some
     exact rt results111 rfl ⟨rfl, hS.d0⟩
    refine jfs (RC.seq (sr (rr [0, 1, 0, 0] hS ?_)))
    refine it fun w hS => ln (RC.block (fun a ha => lp h (fun (s : Int) a w => ∃ x119, s = (x119) ∧ Has 45 [(23, sV A5 a1.Links c6), (24, iV (a1.Links.length : Int)), (25, iV x119)] a ∧ St B w (l) hf) ⟨_, rfl, ha.tE rfl, hS.d0⟩ ?_))
    rintro G141 x119 a w ⟨_, rfl, ha, hS⟩ h
    refine ro ha (sr (pn 1 rfl (ln (RC.seq ?_))))
    refine RC.iteP 26 rfl h (fun hc143 h => ?_) fun hc143 h => ?_
    next =>
     refine jt (sk (RC.seq (RC.block (sr ?_))))
     obtain ⟨hq153, h⟩ := h.req
     refine RL.s (Vl.indexAddr underlying30 sizeOf76 rfl rfl ((hr7.2.world hS.sub).adr hq153 hc143) hq153 hc143 rfl) rfl (RL.s (Vl.loadA isAgg76 sizeOf76 rfl rfl ((hr7.2.world hS.sub).cells hq153 hc143)) rfl (rr [0, 1] hS ?_))
     refine fun b154 => it fun w hS => lnsr (rr [0, 1] hS ?_)
     refine it fun w hS => cF (fun _ hg => vm_lane.ok hg hS) call152 h rfl rfl rfl ?_
     rintro t155 h _ w ⟨rfl, hS⟩
     refine pn 2 rfl ?_
     refine RL.iteM 33 rfl h (fun hc157 h => ?_) fun hc157 h => ?_
     next =>
      refine rr [0, 1, 0, 0, 0] hS ?_
      refine it fun w hS => RL.iteP 38 rfl h (fun hc158 h => ?_) fun hc158 h => ?_
      next =>
       refine pn 5 rfl (ln (jtr (pn 1 rfl (lr (ir ?_)))))
       have h := h.inrS
       refine RQ.ret (ir ?_)
       obtain rfl := h.some
       exact rt results111 rfl ⟨rfl, hS.d0⟩
      refine rr [0, 1] hS ?_
      refine it fun w hS => cF (fun _ hg => vtime_Valid.ok hg hS) call149 h rfl rfl rfl ?_
      rintro t159 h _ w ⟨rfl, hS⟩
      refine pn 2 rfl (ln ?_)
      refine RC.iteM 43 rfl h (fun hc161 h => ?_) fun hc161 h => ?_
      next =>
       refine jf (RC.skip (RQ.inB_n (RQ.then_n (RC.region (pn 2 rfl (RL.nil ?_))))))
       exact fun a ha => ⟨_, h.some, _, rfl, ha.tE rfl, hS.d0⟩
      refine jtr (pn 1 rfl (lr (ir ?_)))
      have h := h.inrS
      refine RQ.ret (ir ?_)
      obtain rfl := h.some
      exact rt results111 rfl ⟨rfl, hS.d0⟩
     refine pn 10 rfl (ln (jtr (pn 1 rfl (lr (ir ?_)))))
     have h := h.inrS
     refine RQ.ret (ir ?_)
     obtain rfl := h.some
     exact rt results111 rfl ⟨rfl, hS.d0⟩
    refine jf (RC.exit (RQ.exitT ?_))
    have h := h.inrS
    refine RQ.exitT (RQ.inB_hit (tsr (pn 1 rfl (lr ?_))))
    obtain rfl := h.some
    exact rt results111 rfl ⟨rfl, hS⟩
   refine pn 5 rfl (ln (jtr (pn 1 rfl (lr (RQ.ret ?_)))))
   obtain rfl := h.some
   exact rt results111 rfl ⟨rfl, hS.d0⟩
  refine jtr (pn 2 rfl (lr (RQ.ret ?_)))
  obtain rfl := h.some
  exact rt results111 rfl ⟨rfl, hS.d0⟩
def log_New.f (a1 : api_World) (a8 : api_State) (a9 : Int) : Option ((Int) ⊕ (log_Log × Int)) := ((vm_Check.f a1).bind fun t44 => (if t44 = 0 then (if (if a8.Sent < a8.Draws then a8.Sent else a8.Draws) < 0 then some (.inl 1) else (if 1099511627776 < (if a8.Draws < a8.Sent then a8.Sent else a8.Draws) then some (.inl 1) else (if a9 < 1 then some (.inl 1) else (if 1024 < a9 then some (.inl 1) else (if (([] : List api_Instr).length + a1.Prog.length) * 32 ≤ 140737488355328 then (if (([] : List api_Link).length + a1.Links.length) * 32 ≤ 140737488355328 then some (.inr (((⟨({ a1 with Prog := (([] : List api_Instr) ++ a1.Prog), Links := (([] : List api_Link) ++ a1.Links) } : api_World), true, a8, a9, ([] : List log_done), false⟩ : log_Log), 0))) else none) else none))))) else some (.inl t44)))
theorem log_New.ok {a1 : api_World} {a8 : api_State} {a9 : Int} {A2 A5 : Option Addr} {c3 c6 : Nat} (hr4 : SlR E_api_Instr.rep hf A2 c3 a1.Prog) (hr7 : SlR E_api_Link.rep hf A5 c6 a1.Links) {r : (Int) ⊕ (log_Log × Int)} (h : log_New.f a1 a8 a9 = some r) (hS : St B w (l) hf) :
    Calls prog 82 #[.agg (C_api_World a1 A2 c3 A5 c6).toArray, .agg (C_api_State a8).toArray, iV a9] w (Ret fun v w => match (generalizing := false) r with | .inl r_ => v = .tuple #[.pointer none, iV r_] ∧ St B w (l) hf | .inr (r_) => ∃ hf_ : Hp, Sub hf hf_ ∧ ∃ (b_1 : Nat), v = .tuple #[pV b_1, iV r_.2] ∧ St B w (O_log_Log hf_ r_.1 b_1 :: l) hf_) := by
  have h := Holds.of h
  refine en func82 rfl ntmps82 rfl (sr (rr [0, 0, 0, 0] hS ?_))
  refine fun b39 b40 => it fun w hS => ln (RC.seq (sr (rr [2] hS ?_)))
  refine it fun w hS => cF (fun _ hg => vm_Check.ok hr4 hr7 hg hS) call111 h rfl rfl rfl ?_
  rintro t44 h _ w ⟨rfl, hS⟩
  refine pn 1 rfl (lnsr (pn 2 rfl (ln ?_)))
  refine RC.iteN 12 rfl h (fun hc46 h => ?_) fun hc46 h => ?_
  next =>
   refine jfs (RC.seq (sr (rr [0, 1, 0, 1] hS ?_)))
   refine it fun w hS => RL.s (Vl.min2 rfl rfl) rfl (pn 2 rfl ?_)
   refine RL.iteP 20 rfl h (fun hc51 h => ?_) fun hc51 h => ?_
   next =>
    refine pn 15 rfl (ln (jtr (pn 2 rfl (lr (RQ.ret ?_)))))
    cases h.some
    exact rt results82 rfl ⟨rfl, hS.d0.d0⟩
   refine rr [0, 1, 0, 1] hS ?_
   refine it fun w hS => RL.sg (Vl.max2 rfl rfl) rfl rfl (pn 3 rfl ?_)
   refine RL.iteP 28 rfl h (fun hc52 h => ?_) fun hc52 h => ?_
   next =>
    refine pn 7 rfl (ln (jtr (pn 2 rfl (lr (RQ.ret ?_)))))
    cases h.some
    exact rt results82 rfl ⟨rfl, hS.d0.d0⟩
   refine pn 4 rfl ?_
   refine RL.iteP 32 rfl h (fun hc53 h => ?_) fun hc53 h => ?_
   next =>
    refine pn 3 rfl (ln (jtr (pn 2 rfl (lr (RQ.ret ?_)))))
    cases h.some
    exact rt results82 rfl ⟨rfl, hS.d0.d0⟩
   refine pn 3 rfl (ln ?_)
   refine RC.iteP 35 rfl h (fun hc54 h => ?_) fun hc54 h => ?_
   next =>
    refine jtr (pn 2 rfl (lr (RQ.ret ?_)))
    cases h.some
    exact rt results82 rfl ⟨rfl, hS.d0.d0⟩
   refine jfs (sr (rr [0, 2] hS ?_))
   refine it fun w hS => ?_
   obtain ⟨hq55, h⟩ := h.req
   have hS := hS.nilSl E_api_Instr 74
   refine RL.e (OW.appendV (E := E_api_Instr) (xs := ([] : List api_Instr)) (ys := a1.Prog) 0 hS rfl underlying72 type74 rfl rfl rfl rfl (by decide) (by decide) rfl rfl (hr4.2.world hS.sub) hq55 rfl) rfl rfl ?_
   rintro v58 w hS
   obtain ⟨A56, c57, rfl, _⟩ := hS.osShape 0 rfl
   have hS : St B w (_ :: _ :: _ :: l) hf := hS
   refine rr [0, 3] hS ?_
   refine it fun w hS => lnsr (rr [0, 3] hS ?_)
   refine it fun w hS => ?_
   obtain ⟨hq59, h⟩ := h.req
   have hS := hS.nilSl E_api_Link 76
   refine RL.e (OW.appendV (E := E_api_Link) (xs := ([] : List api_Link)) (ys := a1.Links) 0 hS rfl underlying30 type76 rfl rfl rfl rfl (by decide) (by decide) rfl rfl (hr7.2.world hS.sub) hq59 rfl) rfl rfl ?_
   rintro v62 w hS
   obtain ⟨A60, c61, rfl, _⟩ := hS.osShape 0 rfl
   have hS : St B w (_ :: _ :: _ :: _ :: l) hf := hS
   refine rr [0, 4] hS ?_
   refine it fun w hS => lnsr (rr [4, 3, 0, 0] hS ?_)
   refine it fun w hS => ?_
   obtain ⟨hf, hs63, hS, hr64⟩ := St.promote hS.p1
   obtain ⟨hf, hs65, hS, hr66⟩ := St.promote hS
   refine rr [0, 0, 0] hS ?_
   refine fun b67 => it fun w hS => lr ?_
   have hS := hS.nilSlR 390 10
   have hS := O_log_Log.c (x := (⟨({ a1 with Prog := (([] : List api_Instr) ++ a1.Prog), Links := (([] : List api_Link) ++ a1.Links) } : api_World), true, a8, a9, ([] : List log_done), false⟩ : log_Log)) (hr64.mono hs65) hr66 RepL.nil hS.p1
   cases h.some
   exact rt results82 rfl ⟨_, (hs63.trans hs65), b67, rfl, hS.d1.d1⟩
  refine jtr (pn 3 rfl (lr (RQ.ret ?_)))
  cases h.some
  exact rt results82 rfl ⟨rfl, hS.d0.d0⟩
def heap_New.f  : Option (heap_Heap) := some (⟨([] : List api_Message)⟩ : heap_Heap)
theorem heap_New.ok {r : heap_Heap} (h : heap_New.f = some r) (hS : St B w (l) hf) :
    Calls prog 153 #[] w (Ret fun v w => ∃ (b_1 : Nat), v = pV b_1 ∧ St B w (O_heap_Heap hf r b_1 :: l) hf) := by
  have h := Holds.of h
  refine en func153 rfl ntmps153 rfl (sr (pn 1 rfl (lnsr (rr [0, 0, 0, 0] hS ?_))))
  refine fun b2 => it fun w hS => lr ?_
  have hS := hS.nilSl E_api_Message 226
  have hS := O_heap_Heap.c (x := (⟨([] : List api_Message)⟩ : heap_Heap)) hS.p1
  cases h.some
  exact rt results153 rfl ⟨b2, rfl, hS⟩
def pend_fresh.f  : Option (heap_Heap) := ((heap_New.f).bind fun t4 => some t4)
theorem pend_fresh.ok {r : heap_Heap} (h : pend_fresh.f = some r) (hS : St B w (l) hf) :
    Calls prog 112 #[iV 0] w (Ret fun v w => ∃ (b_1 : Nat), v = .iface 301 (pV b_1) ∧ St B w (O_heap_Heap hf r b_1 :: l) hf) := by
  have h := Holds.of h
  refine en func112 rfl ntmps112 rfl (sr (pn 1 rfl (ln (RC.seq (sr (pn 1 rfl (ln (RC.block (sr (pn 2 rfl ?_))))))))))
  refine ln (jtr (cF (fun _ hg => heap_New.ok hg hS) call153 h rfl rfl rfl ?_))
  rintro t4 h _ w ⟨b6, rfl, hS⟩
  refine r0 2 rfl (lr (ir ?_))
  obtain rfl := h.some
  exact rt results112 rfl ⟨b6, rfl, hS⟩
def pend_New.f  : Option (pend_Pend × Int) := ((pend_fresh.f).bind fun t11 => some ((⟨t11⟩ : pend_Pend), 0))
theorem pend_New.ok {r : pend_Pend × Int} (h : pend_New.f = some r) (hS : St B w (l) hf) :
    Calls prog 83 #[iV 0] w (Ret fun v w => ∃ (b_1 : Nat), v = .tuple #[pV b_1, iV r.2] ∧ St B w (O_pend_Pend hf r.1 b_1 :: l) hf) := by
  have h := Holds.of h
  refine en func83 rfl ntmps83 rfl (sr (pn 2 rfl (lnsr (pn 1 rfl (cF (fun _ hg => pend_fresh.ok hg hS) call112 h rfl rfl rfl ?_)))))
  rintro t11 h _ w ⟨b13, rfl, hS⟩
  refine pn 1 rfl (ln (RC.seq (sr (pn 1 rfl (RL.s (Vl.bn false rfl rfl) rfl (ln (jfs (sr (rr [0, 0, 0, 0, 0] hS ?_)))))))))
  refine fun b14 => it fun w hS => ?_
  refine lr ?_
  have hS := O_pend_Pend.c (x := (⟨t11⟩ : pend_Pend)) hS
  cases h.some
  exact rt results83 rfl ⟨b14, rfl, hS⟩
def model_Starts.l2b (a1 : api_Model) : List api_Message × Int → Option ((List api_Message × Int) ⊕ (List api_Message))
  | (l90, x93) => (if x93 < (a1.Starts.length : Int) then (if 0 ≤ x93 then (if (l90.length + 1) * 56 ≤ 140737488355328 then some (.inl ((l90 ++ ([(⟨(⟨(nth a1.Starts x93).Time, (-1), x93⟩ : api_Key), (nth a1.Starts x93).To, (nth a1.Starts x93).Value, x93, false⟩ : api_Message)])), IntKind.i64.wrap (x93 + 1))) else none) else none) else some (.inr l90))
def model_Starts.l2 (a1 : api_Model) (s : List api_Message × Int) : Option (List api_Message) := loopR (model_Starts.l2b a1) s
def model_Starts.f (a1 : api_Model) : Option (List api_Message) := model_Starts.l2 a1 ([], 0)
theorem model_Starts.ok {a1 : api_Model} {A2 A5 A8 : Option Addr} {c3 c6 c9 : Nat} (hr4 : SlR (Rep.sl E_api_Instr.rep) hf A2 c3 a1.Progs) (hr7 : SlR E_api_Link.rep hf A5 c6 a1.Links) (hr10 : SlR E_api_Start.rep hf A8 c9 a1.Starts) {r : List api_Message} (h : model_Starts.f a1 = some r) (hS : St B w (l) hf) :
    Calls prog 84 #[.agg (C_api_Model a1 A2 c3 A5 c6 A8 c9).toArray] w (Ret fun v w => ∃ (A_1 : Option Addr) (c_2 : Nat), v = sV A_1 r c_2 ∧ St B w (OSf E_api_Message 226 (sV A_1 r c_2) r :: l) hf) := by
  have h := Holds.of h
  refine en func84 rfl ntmps84 rfl (sr (rr [0, 0] hS ?_))
  refine fun b71 => it fun w hS => lnsr (pn 1 rfl (ln (RC.seq (sr (rr [0, 1, 0, 0] hS ?_)))))
  refine it fun w hS => RL.nil ?_
  refine RQ.then_n (RC.block ?_)
  have hS := hS.nilSl E_api_Message 226
  refine fun a ha => lp h (fun (s : List api_Message × Int) a w => ∃ l90 x93, s = (l90, x93) ∧ ∃ A91 c92, Has 29 [(3, sV A91 l90 c92), (7, sV A8 a1.Starts c9), (8, iV (a1.Starts.length : Int)), (9, iV x93)] a ∧ St B w (OSf E_api_Message 226 (sV A91 l90 c92) l90 :: l) hf) ⟨_, _, rfl, _, _, ha.tE rfl, hS.d1⟩ ?_
  rintro G114 _ a w ⟨l90, x93, rfl, A91, c92, ha, hS⟩ h
  refine ro ha (sr (pn 1 rfl (ln (RC.seq ?_))))
  refine RC.iteP 10 rfl h (fun hc116 h => ?_) fun hc116 h => ?_
  next =>
   refine jt (sk (RC.seq (RC.block (sr (pn 1 rfl ?_)))))
   obtain ⟨hq124, h⟩ := h.req
   refine RL.s (Vl.indexAddr underlying31 sizeOf78 rfl rfl ((hr10.2.world hS.sub).adr hq124 hc116) hq124 hc116 rfl) rfl (RL.s (Vl.loadA isAgg78 sizeOf78 rfl rfl ((hr10.2.world hS.sub).cells hq124 hc116)) rfl (rr [0, 0, 1] hS ?_))
   refine fun b125 => it fun w hS => ln (RC.region (rr [0, 0, 1, 0, 0, 0, 1, 0, 1, 0, 0] hS ?_))
   refine it fun w hS => RL.e (OW.buildSlice (E := E_api_Message) (xs := [(⟨(⟨(nth a1.Starts x93).Time, (-1), x93⟩ : api_Key), (nth a1.Starts x93).To, (nth a1.Starts x93).Value, x93, false⟩ : api_Message)]) (cs := [iV ((nth a1.Starts x93).Time), iV (-1), iV x93, iV ((nth a1.Starts x93).To), iV ((nth a1.Starts x93).Value), iV x93, .bool false]) hS underlying215 zeroValue226 sizeOf226 (parts := [(0, .tmp 24)]) rfl rfl (by decide) (by decide) (by kernel_rfl) rfl) rfl rfl ?_
   rintro _ w ⟨b126, rfl, hS⟩
   obtain ⟨hq127, h⟩ := h.req
   refine RL.e (OW.append (E := E_api_Message) (xs := l90) (ys := [(⟨(⟨(nth a1.Starts x93).Time, (-1), x93⟩ : api_Key), (nth a1.Starts x93).To, (nth a1.Starts x93).Value, x93, false⟩ : api_Message)]) 2 hS rfl underlying215 type226 rfl rfl rfl rfl (by decide) rfl rfl rfl (hS.slW 0 rfl).2.2.flat (by simp only [maxLen, List.length_cons, List.length_nil] at *; omega) hq127 rfl) rfl rfl ?_
   rintro v130 w hS
   obtain ⟨A128, c129, rfl, _⟩ := hS.osShape 0 rfl
   have hS : St B w (_ :: _ :: _ :: l) hf := hS
   refine pn 1 rfl (RL.nil (RQ.inB_n (RQ.then_n (RC.region (pn 2 rfl (RL.nil ?_))))))
   exact fun a ha => ⟨_, h.some, _, _, rfl, _, _, ha.tE rfl, hS.d1.d1⟩
  refine jf (RC.exit (RQ.exitT ?_))
  have h := h.inrS
  refine RQ.exitT (RQ.inB_hit (tsr (pn 2 rfl (lr ?_))))
  obtain rfl := h.some
  exact rt results84 rfl ⟨A91, c92, rfl, hS⟩
def pend_Pend_none.f (a2 : pend_Pend) : Option (Unit) := some ()
theorem pend_Pend_none.ok {a2 : pend_Pend} {b1 : Nat} {r : Unit} (h : pend_Pend_none.f a2 = some r) (hS : St B w (O_pend_Pend hf a2 b1 :: l) hf) :
    Calls prog 156 #[pV b1] w (Ret fun v w => v = .bool false ∧ St B w (O_pend_Pend hf a2 b1 :: l) hf) := by
  have h := Holds.of h
  refine en func156 rfl ntmps156 rfl (sr (pn 1 rfl (lnsr (pn 1 rfl (RL.s (Vl.bn false rfl rfl) rfl (r0 4 rfl ?_))))))
  obtain ⟨b4, hS⟩ := O_pend_Pend.o hS
  refine rr [1] hS ?_
  refine it fun w hS => RL.sg (Vl.bn false rfl rfl) rfl rfl (pn 2 rfl (lr ?_))
  have hS := O_pend_Pend.c (x := a2) hS
  exact rt results156 rfl ⟨rfl, hS⟩
def heap_Heap_none.f (a2 : heap_Heap) : Option (Unit) := some ()
theorem heap_Heap_none.ok {a2 : heap_Heap} {b1 : Nat} {r : Unit} (h : heap_Heap_none.f a2 = some r) (hS : St B w (O_heap_Heap hf a2 b1 :: l) hf) :
    Calls prog 335 #[pV b1] w (Ret fun v w => v = .bool false ∧ St B w (O_heap_Heap hf a2 b1 :: l) hf) := by
  have h := Holds.of h
  refine en func335 rfl ntmps335 rfl (sr (pn 1 rfl (lnsr (pn 1 rfl (RL.s (Vl.bn false rfl rfl) rfl (r0 5 rfl ?_))))))
  obtain ⟨A5, c6, hS⟩ := O_heap_Heap.o hS
  refine rr [1] hS ?_
  refine it fun w hS => RL.sg (Vl.bn false rfl rfl) rfl rfl (pn 2 rfl (lr ?_))
  have hS := O_heap_Heap.c (x := a2) hS
  exact rt results335 rfl ⟨rfl, hS⟩
def heap_pile_api_Message_each.f (a4 : List api_Message) : Option (Unit) := some ()
theorem heap_pile_api_Message_each.ok {a4 : List api_Message} {b1 c3 : Nat} {A2 : Option Addr} {r : Unit} (h : heap_pile_api_Message_each.f a4 = some r) (hS : St B w (Cl b1 [sV A2 a4 c3, .func (.func 163) #[] #[]] 374 :: OSf E_api_Message 226 (sV A2 a4 c3) a4 :: l) hf) :
    Calls prog 341 #[pV b1] w (Ret fun v w => ∃ (b_1 : Nat), v = .func (.func 346) #[] #[pV b_1] ∧ St B w (Cl b_1 [pV b1] 489 :: Cl b1 [sV A2 a4 c3, .func (.func 163) #[] #[]] 374 :: OSf E_api_Message 226 (sV A2 a4 c3) a4 :: l) hf) := by
  have h := Holds.of h
  refine en func341 rfl ntmps341 rfl (sr (rr [0, 0] hS ?_))
  refine fun b6 => it fun w hS => lnsr (RL.s (Vl.makeFunc (fi := []) (ca := [.tmp 1]) rfl rfl) rfl (pn 1 rfl (lr ?_)))
  exact rt results341 rfl ⟨b6, rfl, hS⟩
def heap_Heap_find_round0.f (a5 a7 a9 a10 : Int) (a11 : api_Message) : Option ((Int) ⊕ (Unit)) := (if a11.Key.From = a5 then (if a11.Uid = a7 then some (.inl a10) else some (.inr (()))) else some (.inr (())))
theorem heap_Heap_find_round0.ok {a5 a7 a9 a10 : Int} {a11 : api_Message} {b1 b4 b6 b8 : Nat} {rc2 : Loop} (hr3 : RecF f337 0 27 [(4, pV b4), (5, pV b6), (6, pV b8)] rc2) {r : (Int) ⊕ (Unit)} (h : heap_Heap_find_round0.f a5 a7 a9 a10 a11 = some r) (hS : St B w (pts b1 (.loop rc2) :: Cl b4 [iV a5] 3 :: Cl b6 [iV a7] 3 :: Cl b8 [iV a9] 3 :: l) hf) :
    Yld prog b1 [iV a10, .agg (C_api_Message a11).toArray] w (Ret fun v w => match (generalizing := false) r with | .inl r_ => v = .bool false ∧ St B w (pts b1 (.loop (pd rc2 .ret)) :: Cl b4 [iV a5] 3 :: Cl b6 [iV a7] 3 :: Cl b8 [iV r_] 3 :: l) hf | .inr (r_) => v = .bool true ∧ St B w (pts b1 (.loop rc2) :: Cl b4 [iV a5] 3 :: Cl b6 [iV a7] 3 :: Cl b8 [iV a9] 3 :: l) hf) := by
  have h := Holds.of h
  refine Yld.of (psl := [13, 14]) hS hr3 rfl rfl rfl ?_
  show RC _ ⟨27, [], false⟩ _ _ [(14, .agg (C_api_Message a11).toArray), (13, iV a10), (4, pV b4), (5, pV b6), (6, pV b8)] w
  refine sr (pn 1 rfl (ln (RC.region (rr [0, 1] hS ?_))))
  refine fun b15 => it fun w hS => ln (RQ.bg hS.p1 hr3.state rfl fun w hS => RC.block (sr (rr [0, 0, 2, 3, 0, 0] hS ?_)))
  refine it fun w hS => RL.iteP 20 rfl h (fun hc16 h => ?_) fun hc16 h => ?_
  next =>
   refine rr [0, 2, 4, 0, 0] hS ?_
   refine it fun w hS => ln ?_
   refine RC.iteP 25 rfl h (fun hc17 h => ?_) fun hc17 h => ?_
   next =>
    refine jtr (rr [0, 5] hS ?_)
    refine it fun w hS => lr (RQ.inB_ret ?_)
    cases h.some
    exact RQ.rr hS fun w hS => ⟨rfl, hS.d1⟩
   refine jf (RC.skip (RQ.inB_n ?_))
   cases h.some
   exact RQ.rn hS hr3.state hr3.pending fun w hS => ⟨rfl, hS.d1⟩
  refine pn 5 rfl (ln (jf (RC.skip (RQ.inB_n ?_))))
  cases h.some
  exact RQ.rn hS hr3.state hr3.pending fun w hS => ⟨rfl, hS.d1⟩
def heap_pile_api_Message_each_1.l2b (a5 a7 a9 : Int) (a14 : List api_Message) : Int → Option ((Int) ⊕ ((Int) ⊕ (Unit)))
  | (x64) => (if x64 < (a14.length : Int) then (if 0 ≤ x64 then ((heap_Heap_find_round0.f a5 a7 a9 x64 (nth a14 x64)).bind fun t88 => match t88 with | .inl y90 => some (.inr (.inl y90)) | .inr (_) => some (.inl (IntKind.i64.wrap (x64 + 1)))) else none) else some (.inr (.inr (()))))
def heap_pile_api_Message_each_1.l2 (a5 a7 a9 : Int) (a14 : List api_Message) (s : Int) : Option ((Int) ⊕ (Unit)) := loopR (heap_pile_api_Message_each_1.l2b a5 a7 a9 a14) s
def heap_pile_api_Message_each_1.f (a5 a7 a9 : Int) (a14 : List api_Message) : Option ((Int) ⊕ (Unit)) := heap_pile_api_Message_each_1.l2 a5 a7 a9 a14 (0)
theorem heap_pile_api_Message_each_1.ok {a5 a7 a9 : Int} {a14 : List api_Message} {b1 b4 b6 b8 b10 b11 c13 : Nat} {rc2 : Loop} {A12 : Option Addr} (hr3 : RecF f337 0 27 [(4, pV b4), (5, pV b6), (6, pV b8)] rc2) {r : (Int) ⊕ (Unit)} (h : heap_pile_api_Message_each_1.f a5 a7 a9 a14 = some r) (hS : St B w (pts b1 (.loop rc2) :: Cl b4 [iV a5] 3 :: Cl b6 [iV a7] 3 :: Cl b8 [iV a9] 3 :: Cl b11 [sV A12 a14 c13, .func (.func 163) #[] #[]] 374 :: OSf E_api_Message 226 (sV A12 a14 c13) a14 :: Cl b10 [pV b11] 489 :: l) hf) :
    Calls prog 346 #[.func (.yield b1) #[] #[], pV b10] w (Ret fun v w => match (generalizing := false) r with | .inl r_ => v = .tuple #[] ∧ St B w (pts b1 (.loop (pd rc2 .ret)) :: Cl b4 [iV a5] 3 :: Cl b6 [iV a7] 3 :: Cl b8 [iV r_] 3 :: Cl b11 [sV A12 a14 c13, .func (.func 163) #[] #[]] 374 :: OSf E_api_Message 226 (sV A12 a14 c13) a14 :: Cl b10 [pV b11] 489 :: l) hf | .inr (r_) => v = .tuple #[] ∧ St B w (pts b1 (.loop rc2) :: Cl b4 [iV a5] 3 :: Cl b6 [iV a7] 3 :: Cl b8 [iV a9] 3 :: Cl b11 [sV A12 a14 c13, .func (.func 163) #[] #[]] 374 :: OSf E_api_Message 226 (sV A12 a14 c13) a14 :: Cl b10 [pV b11] 489 :: l) hf) := by
  have h := Holds.of h
  refine en func346 rfl ntmps346 rfl (sr (rr [7, 0, 0, 5, 0, 0] hS ?_))
  refine it fun w hS => ln (RC.block (fun a ha => lp h (fun (s : Int) a w => ∃ x64, s = (x64) ∧ Has 21 [(0, .func (.yield b1) #[] #[]), (8, sV A12 a14 c13), (9, iV (a14.length : Int)), (10, iV x64)] a ∧ St B w (OSf E_api_Message 226 (sV A12 a14 c13) a14 :: pts b1 (.loop rc2) :: Cl b4 [iV a5] 3 :: Cl b6 [iV a7] 3 :: Cl b8 [iV a9] 3 :: Cl b11 [sV A12 a14 c13, .func (.func 163) #[] #[]] 374 :: Cl b10 [pV b11] 489 :: l) hf) ⟨_, rfl, ha.tE rfl, hS.p5⟩ ?_))
  rintro G78 x64 a w ⟨_, rfl, ha, hS⟩ h
  refine ro ha (sr (pn 1 rfl (ln (RC.seq ?_))))
  refine RC.iteP 11 rfl h (fun hc80 h => ?_) fun hc80 h => ?_
  next =>
   refine jt (sk (RC.seq (RC.block (sr (pn 1 rfl ?_)))))
   obtain ⟨hq86, h⟩ := h.req
   refine RL.s (Vl.indexOwn 0 hS rfl underlying215 sizeOf226 rfl rfl hq86 hc80) rfl (RL.s (Vl.loadA isAgg226 sizeOf226 rfl rfl ((hS.slW 0 rfl).2.2.cells hq86 hc80)) rfl (rr [0, 0, 1] hS ?_))
   refine fun b87 => it fun w hS => lnsr (rr [0, 0, 1] hS ?_)
   refine it fun w hS => yc (fun _ hg89 => heap_Heap_find_round0.ok hr3 hg89 hS.p5.p5.p5.p5) rfl h rfl rfl rfl rfl ?_
   intro t88 h
   rcases t88 with y90 | _
   · rintro _ w ⟨rfl, hS⟩
     have hS : St B w (_ :: _ :: _ :: _ :: _ :: _ :: _ :: _ :: l) hf := hS
     refine pn 1 rfl (ln (jt (RC.ret (ir ?_))))
     have h := h.inrS
     refine RQ.ret (RQ.inB_ret ?_)
     cases h.some
     exact rt results346 rfl ⟨rfl, hS.d4.p5.p4.p4.p4.p4⟩
   · rintro _ w ⟨rfl, hS⟩
     have hS : St B w (_ :: _ :: _ :: _ :: _ :: _ :: _ :: _ :: l) hf := hS
     refine pn 1 rfl (ln (jf (RC.skip (RQ.inB_n (RQ.then_n (RC.region (pn 2 rfl (RL.nil ?_))))))))
     exact fun a ha => ⟨_, h.some, _, rfl, ha.tE rfl, hS.d4.p4⟩
  refine jf (RC.exit (RQ.exitT ?_))
  have h := h.inrS
  refine RQ.exitT (RQ.inB_hit ?_)
  cases h.some
  exact rtE results346 rfl ⟨rfl, hS.p5.p5.p5.p5.p5⟩
def heap_Heap_find.f (a2 : heap_Heap) (a3 a4 : Int) : Option (Int) := ((heap_pile_api_Message_each.f a2.p_l).bind fun _ => ((heap_pile_api_Message_each_1.f a3 a4 0 a2.p_l).bind fun t82 => match t82 with | .inl y84 => some y84 | .inr (_) => some (-1)))
theorem heap_Heap_find.ok {a2 : heap_Heap} {a3 a4 r : Int} {b1 : Nat} (h : heap_Heap_find.f a2 a3 a4 = some r) (hS : St B w (O_heap_Heap hf a2 b1 :: l) hf) :
    Calls prog 337 #[pV b1, iV a3, iV a4] w (Ret fun v w => v = iV r ∧ St B w (O_heap_Heap hf a2 b1 :: l) hf) := by
  have h := Holds.of h
  refine enM func337 rfl ntmps337 rfl (sr (rr [0, 0, 0] hS ?_))
  refine fun b48 b49 b50 => it fun w hS => ln (RC.seq (sr (r0 3 rfl ?_)))
  obtain ⟨A73, c74, hS⟩ := O_heap_Heap.o hS.p3
  refine cF (fun _ hg => heap_pile_api_Message_each.ok hg hS) call341 h rfl rfl rfl ?_
  rintro _ h _ w ⟨b77, rfl, hS⟩
  refine ln (RC.block ?_)
  obtain ⟨t82, hg83, h⟩ := h.bind
  refine RC.rf (args := fun b78 => #[.func (.yield b78) #[] #[], pV b77]) rfl call346 rfl hS (fun _ => by simp) (fun b78 d79 rc80 w hr81 hS => heap_pile_api_Message_each_1.ok (RecOK.to (M := 27) hr81 rfl rfl ⟨rfl, rfl, rfl, trivial⟩) hg83 hS.p2.p4.p4.p5.p6.p7.p6) ?_
  rcases t82 with y84 | _
  · rintro b78 d79 rc80 _ w hr81 ⟨rfl, hS⟩
    refine RE.r hS fun w hS => ir ?_
    have hS := O_heap_Heap.c (x := a2) hS.p4.p4
    obtain rfl := h.some
    exact rtM1 (vs := [iV y84]) results337 hS.p5 fun w hS => ⟨⟨⟨_, rfl, run_loadVar1 isAgg3 (hS.cell 3 rfl rfl)⟩, trivial⟩, ⟨rfl, hS.d1.d1.d1.d1⟩⟩
  · rintro b78 d79 rc80 _ w hr81 ⟨rfl, hS⟩
    refine RE.n hS hr81.state hr81.pending fun w hS => RQ.inB_n (tsr (rr [3] hS ?_))
    refine it fun w hS => lr ?_
    have hS := O_heap_Heap.c (x := a2) hS.p4.p4
    cases h.some
    exact rtM1 (vs := [iV (-1)]) results337 hS.p5 fun w hS => ⟨⟨⟨_, rfl, run_loadVar1 isAgg3 (hS.cell 3 rfl rfl)⟩, trivial⟩, ⟨rfl, hS.d1.d1.d1.d1⟩⟩
def cmp_isNaN_int64.f (a1 : Int) : Option (Bool) := some (!decide (a1 = a1))
theorem cmp_isNaN_int64.ok {a1 : Int} {r : Bool} (h : cmp_isNaN_int64.f a1 = some r) (hS : St B w (l) hf) :
    Calls prog 242 #[iV a1] w (Ret fun v w => v = .bool r ∧ St B w (l) hf) := by
  have h := Holds.of h
  refine en func242 rfl ntmps242 rfl (sr (pn 1 rfl (lnsr (pn 4 rfl (lr ?_)))))
  cases h.some
  exact rt results242 rfl ⟨rfl, hS⟩
def cmp_Compare_int64.f (a1 a2 : Int) : Option (Int) := ((cmp_isNaN_int64.f a1).bind fun t16 => ((cmp_isNaN_int64.f a2).bind fun t18 => (if t16 = true then (if t18 = true then some 0 else some (-1)) else (if t18 = true then some 1 else (if a1 < a2 then some (-1) else (if a2 < a1 then some 1 else some 0))))))
theorem cmp_Compare_int64.ok {a1 a2 r : Int} (h : cmp_Compare_int64.f a1 a2 = some r) (hS : St B w (l) hf) :
    Calls prog 223 #[iV a1, iV a2] w (Ret fun v w => v = iV r ∧ St B w (l) hf) := by
  have h := Holds.of h
  refine en func223 rfl ntmps223 rfl (sr (pn 1 rfl (lnsr (pn 1 rfl (cF (fun _ hg => cmp_isNaN_int64.ok hg hS) call242 h rfl rfl rfl ?_)))))
  rintro t16 h _ w ⟨rfl, hS⟩
  refine pn 1 rfl (lnsr (pn 1 rfl (cF (fun _ hg => cmp_isNaN_int64.ok hg hS) call242 h rfl rfl rfl ?_)))
  rintro t18 h _ w ⟨rfl, hS⟩
  refine pn 1 rfl (ln (RC.seq (sr (pn 1 rfl (ln ?_)))))
  refine RC.iteB 11 rfl h (fun hc22 h => ?_) fun hc22 h => ?_
  next =>
   refine jt (RC.seq (sr (pn 1 rfl (ln ?_))))
   refine RC.iteB 12 rfl h (fun hc23 h => ?_) fun hc23 h => ?_
   next =>
    refine jtr (pn 1 rfl (lr (RQ.ret (RQ.ret ?_))))
    obtain rfl := h.some
    exact rt results223 rfl ⟨rfl, hS⟩
   refine jfs (sr (pn 1 rfl (lr (RQ.ret ?_))))
   cases h.some
   exact rt results223 rfl ⟨rfl, hS⟩
  refine jfs (RC.seq (sr (pn 1 rfl (ln ?_))))
  refine RC.iteB 13 rfl h (fun hc25 h => ?_) fun hc25 h => ?_
  next =>
   refine jtr (pn 1 rfl (lr (RQ.ret ?_)))
   obtain rfl := h.some
   exact rt results223 rfl ⟨rfl, hS⟩
  refine jfs (RC.seq (sr (pn 3 rfl (ln ?_))))
  refine RC.iteP 16 rfl h (fun hc27 h => ?_) fun hc27 h => ?_
  next =>
   refine jtr (pn 1 rfl (lr (RQ.ret ?_)))
   cases h.some
   exact rt results223 rfl ⟨rfl, hS⟩
  refine jfs (RC.seq (sr (pn 3 rfl (ln ?_))))
  refine RC.iteP 19 rfl h (fun hc28 h => ?_) fun hc28 h => ?_
  next =>
   refine jtr (pn 1 rfl (lr (RQ.ret ?_)))
   obtain rfl := h.some
   exact rt results223 rfl ⟨rfl, hS⟩
  refine jfs (sr (pn 1 rfl (lr ?_)))
  obtain rfl := h.some
  exact rt results223 rfl ⟨rfl, hS⟩
def cmp_isNaN_int.f (a1 : Int) : Option (Bool) := some (!decide (a1 = a1))
theorem cmp_isNaN_int.ok {a1 : Int} {r : Bool} (h : cmp_isNaN_int.f a1 = some r) (hS : St B w (l) hf) :
    Calls prog 243 #[iV a1] w (Ret fun v w => v = .bool r ∧ St B w (l) hf) := by
  have h := Holds.of h
  refine en func243 rfl ntmps243 rfl (sr (pn 1 rfl (lnsr (pn 4 rfl (lr ?_)))))
  cases h.some
  exact rt results243 rfl ⟨rfl, hS⟩
def cmp_Compare_int.f (a1 a2 : Int) : Option (Int) := ((cmp_isNaN_int.f a1).bind fun t16 => ((cmp_isNaN_int.f a2).bind fun t18 => (if t16 = true then (if t18 = true then some 0 else some (-1)) else (if t18 = true then some 1 else (if a1 < a2 then some (-1) else (if a2 < a1 then some 1 else some 0))))))
theorem cmp_Compare_int.ok {a1 a2 r : Int} (h : cmp_Compare_int.f a1 a2 = some r) (hS : St B w (l) hf) :
    Calls prog 224 #[iV a1, iV a2] w (Ret fun v w => v = iV r ∧ St B w (l) hf) := by
  have h := Holds.of h
  refine en func224 rfl ntmps224 rfl (sr (pn 1 rfl (lnsr (pn 1 rfl (cF (fun _ hg => cmp_isNaN_int.ok hg hS) call243 h rfl rfl rfl ?_)))))
  rintro t16 h _ w ⟨rfl, hS⟩
  refine pn 1 rfl (lnsr (pn 1 rfl (cF (fun _ hg => cmp_isNaN_int.ok hg hS) call243 h rfl rfl rfl ?_)))
  rintro t18 h _ w ⟨rfl, hS⟩
  refine pn 1 rfl (ln (RC.seq (sr (pn 1 rfl (ln ?_)))))
  refine RC.iteB 11 rfl h (fun hc22 h => ?_) fun hc22 h => ?_
  next =>
   refine jt (RC.seq (sr (pn 1 rfl (ln ?_))))
   refine RC.iteB 12 rfl h (fun hc23 h => ?_) fun hc23 h => ?_
   next =>
    refine jtr (pn 1 rfl (lr (RQ.ret (RQ.ret ?_))))
    obtain rfl := h.some
    exact rt results224 rfl ⟨rfl, hS⟩
   refine jfs (sr (pn 1 rfl (lr (RQ.ret ?_))))
   cases h.some
   exact rt results224 rfl ⟨rfl, hS⟩
  refine jfs (RC.seq (sr (pn 1 rfl (ln ?_))))
  refine RC.iteB 13 rfl h (fun hc25 h => ?_) fun hc25 h => ?_
  next =>
   refine jtr (pn 1 rfl (lr (RQ.ret ?_)))
   obtain rfl := h.some
   exact rt results224 rfl ⟨rfl, hS⟩
  refine jfs (RC.seq (sr (pn 3 rfl (ln ?_))))
  refine RC.iteP 16 rfl h (fun hc27 h => ?_) fun hc27 h => ?_
  next =>
   refine jtr (pn 1 rfl (lr (RQ.ret ?_)))
   cases h.some
   exact rt results224 rfl ⟨rfl, hS⟩
  refine jfs (RC.seq (sr (pn 3 rfl (ln ?_))))
  refine RC.iteP 19 rfl h (fun hc28 h => ?_) fun hc28 h => ?_
  next =>
   refine jtr (pn 1 rfl (lr (RQ.ret ?_)))
   obtain rfl := h.some
   exact rt results224 rfl ⟨rfl, hS⟩
  refine jfs (sr (pn 1 rfl (lr ?_)))
  obtain rfl := h.some
  exact rt results224 rfl ⟨rfl, hS⟩
def cmp_Or_int.l2b (a1 : List Int) : Int → Option ((Int) ⊕ (Int))
  | (x30) => (if x30 < (a1.length : Int) then (if 0 ≤ x30 then (if nth a1 x30 = 0 then some (.inl (IntKind.i64.wrap (x30 + 1))) else some (.inr (nth a1 x30))) else none) else some (.inr 0))
def cmp_Or_int.l2 (a1 : List Int) (s : Int) : Option (Int) := loopR (cmp_Or_int.l2b a1) s
def cmp_Or_int.f (a1 : List Int) : Option (Int) := cmp_Or_int.l2 a1 (0)
theorem cmp_Or_int.ok {a1 : List Int} {A2 : Option Addr} {c3 : Nat} (hr4 : SlR ((FI .i64).rep) hf A2 c3 a1) {r : Int} (h : cmp_Or_int.f a1 = some r) (hS : St B w (l) hf) :
    Calls prog 222 #[sV A2 a1 c3] w (Ret fun v w => v = iV r ∧ St B w (l) hf) := by
  have h := Holds.of h
  refine en func222 rfl ntmps222 rfl (sr (pn 1 rfl (lnsr (pn 1 rfl (ln (RC.seq (sr (r0 3 rfl (RL.nil ?_)))))))))
  refine RQ.then_n (RC.block (fun a ha => lp h (fun (s : Int) a w => ∃ x30, s = (x30) ∧ Has 18 [(3, iV 0), (6, sV A2 a1 c3), (7, iV (a1.length : Int)), (8, iV x30)] a ∧ St B w (l) hf) ⟨_, rfl, ha.tE rfl, hS⟩ ?_))
  rintro G38 x30 a w ⟨_, rfl, ha, hS⟩ h
  refine ro ha (sr (pn 1 rfl (ln (RC.seq ?_))))
  refine RC.iteP 9 rfl h (fun hc40 h => ?_) fun hc40 h => ?_
  next =>
   refine jt (sk (RC.seq (RC.block (sr ?_))))
   obtain ⟨hq43, h⟩ := h.req
   refine RL.s (Vl.indexAddr underlying100 sizeOf3 rfl rfl ((hr4.2.world hS.sub).adr hq43 hc40) hq43 hc40 rfl) rfl (RL.s (Vl.load isAgg3 rfl ((hr4.2.world hS.sub).cell (j := 0) hq43 hc40 rfl)) rfl (pn 1 rfl (lnsr (pn 3 rfl (ln ?_)))))
   refine RC.iteN 14 rfl h (fun hc44 h => ?_) fun hc44 h => ?_
   next =>
    refine jf (RC.skip (RQ.inB_n (RQ.then_n (RC.region (pn 2 rfl (RL.nil ?_))))))
    exact fun a ha => ⟨_, h.some, _, rfl, ha.tE rfl, hS⟩
   refine jtr (pn 2 rfl (lr (ir ?_)))
   have h := h.inrS
   refine RQ.ret (ir ?_)
   cases h.some
   exact rt results222 rfl ⟨rfl, hS⟩
  refine jf (RC.exit (RQ.exitT ?_))
  have h := h.inrS
  refine RQ.exitT (RQ.inB_hit (tsr (pn 2 rfl (lr ?_))))
  obtain rfl := h.some
  exact rt results222 rfl ⟨rfl, hS⟩
def event_Compare.f (a1 a2 : api_Key) : Option (Int) := (if a1 = a2 then some 0 else ((cmp_Compare_int64.f a1.Time a2.Time).bind fun t24 => ((cmp_Compare_int.f a1.From a2.From).bind fun t26 => ((cmp_Compare_int.f a1.Seq a2.Seq).bind fun t28 => ((cmp_Or_int.f ([t24, t26, t28] : List Int)).bind fun t35 => some t35)))))
theorem event_Compare.ok {a1 a2 : api_Key} {r : Int} (h : event_Compare.f a1 a2 = some r) (hS : St B w (l) hf) :
    Calls prog 190 #[.agg (C_api_Key a1).toArray, .agg (C_api_Key a2).toArray] w (Ret fun v w => v = iV r ∧ St B w (l) hf) := by
  have h := Holds.of h
  refine en func190 rfl ntmps190 rfl (sr (rr [0, 0, 0] hS ?_))
  refine fun b20 b21 => it fun w hS => ln (RC.seq (sr (rr [2, 1] hS ?_)))
  refine it fun w hS => RL.s (Vl.eqlS (run_eql_api_Key _ _ a1 a2) rfl rfl) rfl (ln ?_)
  refine RC.iteP 7 rfl h (fun hc23 h => ?_) fun hc23 h => ?_
  next =>
   refine jtr (pn 1 rfl (lr (RQ.ret ?_)))
   obtain rfl := h.some
   exact rt results190 rfl ⟨rfl, hS.d0.d0⟩
  refine jfs (RC.seq (dr [0, 4, 6, 10, 15, 19, 21, 25, 30, 34, 36, 40, 14, 29, 44, 47, 50, 53] [14, 15, 16, 17] hS fun w hS => rq [0, 2, 0, 1, 0, 2, 0, 1, 0, 2, 0, 1] hS ?_))
  refine it ?_
  obtain ⟨t24, hg25, h⟩ := h.bind
  have hc := cmp_Compare_int64.ok hg25 hS
  refine RP.e 4 rfl (OW.callF (ls := [.tmp 9, .tmp 11]) rfl call223 hc) rfl rfl ?_
  rintro _ w ⟨rfl, hS⟩
  refine ⟨kp ⟨fun _ => hS, trivial⟩, ?_⟩
  obtain ⟨t26, hg27, h⟩ := h.bind
  have hc := cmp_Compare_int.ok hg27 hS
  refine RP.e 9 rfl (OW.callF (ls := [.tmp 14, .tmp 16]) rfl call224 hc) rfl rfl ?_
  rintro _ w ⟨rfl, hS⟩
  refine ⟨kp ⟨fun _ => hS, trivial⟩, ?_⟩
  obtain ⟨t28, hg29, h⟩ := h.bind
  have hc := cmp_Compare_int.ok hg29 hS
  refine RP.e 14 rfl (OW.callF (ls := [.tmp 19, .tmp 21]) rfl call224 hc) rfl rfl ?_
  rintro _ w ⟨rfl, hS⟩
  refine ⟨kp ⟨(by intro hx; cases hx), trivial⟩, ?_⟩
  refine RP.e 15 rfl (OW.buildSlice (E := (FI .i64)) (xs := ([t24, t26, t28] : List Int)) (cs := [iV t24, iV t26, iV t28]) hS underlying100 zeroValue3 sizeOf3 (parts := [(0, .tmp 12), (1, .tmp 17), (2, .tmp 22)]) rfl rfl (by decide) (by decide) (by kernel_rfl) rfl) rfl rfl ?_
  rintro _ w ⟨b30, rfl, hS⟩
  refine ⟨kp ⟨(by intro hx; cases hx), trivial⟩, ?_⟩
  obtain ⟨hf34, hs32, hS, hr31, hb33⟩ := St.lendSl hS
  obtain ⟨t35, hg36, h⟩ := h.bind
  have hc := cmp_Or_int.ok hr31 hg36 hS
  refine RP.e 16 rfl (OW.callF (ls := [.tmp 23]) rfl call222 hc) rfl rfl ?_
  rintro _ w ⟨rfl, hS⟩
  have hS := hb33 _ _ hS
  have hS : St B w (_ :: _ :: _ :: l) hf := hS
  refine ⟨kp ⟨(by intro hx; cases hx), trivial⟩, ?_⟩
  refine rq [0] hS.d0 ?_
  refine it (RP.nil (tr ?_))
  obtain rfl := h.some
  exact rt results190 rfl ⟨rfl, hS.d0.d0.d0⟩
def event_order.f (a1 a2 : api_Message) : Option (Int) := ((event_Compare.f a1.Key a2.Key).bind fun t18 => ((cmp_Compare_int.f a1.Uid a2.Uid).bind fun t20 => ((cmp_Or_int.f ([t18, t20] : List Int)).bind fun t27 => some t27)))
theorem event_order.ok {a1 a2 : api_Message} {r : Int} (h : event_order.f a1 a2 = some r) (hS : St B w (l) hf) :
    Calls prog 207 #[.agg (C_api_Message a1).toArray, .agg (C_api_Message a2).toArray] w (Ret fun v w => v = iV r ∧ St B w (l) hf) := by
  have h := Holds.of h
  refine en func207 rfl ntmps207 rfl (sr (rr [0, 0, 0] hS ?_))
  refine fun b16 b17 => it fun w hS => ln (RC.seq (dr [0, 4, 6, 10, 15, 19, 21, 25, 14, 29, 32, 35, 38] [9, 10, 11, 12] hS fun w hS => rq [0, 2, 0, 1, 0, 2, 0, 1] hS ?_))
  refine it ?_
  obtain ⟨t18, hg19, h⟩ := h.bind
  have hc := event_Compare.ok hg19 hS
  refine RP.e 4 rfl (OW.callF (ls := [.tmp 6, .tmp 8]) rfl call190 hc) rfl rfl ?_
  rintro _ w ⟨rfl, hS⟩
  refine ⟨kp ⟨fun _ => hS, trivial⟩, ?_⟩
  obtain ⟨t20, hg21, h⟩ := h.bind
  have hc := cmp_Compare_int.ok hg21 hS
  refine RP.e 9 rfl (OW.callF (ls := [.tmp 11, .tmp 13]) rfl call224 hc) rfl rfl ?_
  rintro _ w ⟨rfl, hS⟩
  refine ⟨kp ⟨(by intro hx; cases hx), trivial⟩, ?_⟩
  refine RP.e 10 rfl (OW.buildSlice (E := (FI .i64)) (xs := ([t18, t20] : List Int)) (cs := [iV t18, iV t20]) hS underlying100 zeroValue3 sizeOf3 (parts := [(0, .tmp 9), (1, .tmp 14)]) rfl rfl (by decide) (by decide) (by kernel_rfl) rfl) rfl rfl ?_
  rintro _ w ⟨b22, rfl, hS⟩
  refine ⟨kp ⟨(by intro hx; cases hx), trivial⟩, ?_⟩
  obtain ⟨hf26, hs24, hS, hr23, hb25⟩ := St.lendSl hS
  obtain ⟨t27, hg28, h⟩ := h.bind
  have hc := cmp_Or_int.ok hr23 hg28 hS
  refine RP.e 11 rfl (OW.callF (ls := [.tmp 15]) rfl call222 hc) rfl rfl ?_
  rintro _ w ⟨rfl, hS⟩
  have hS := hb25 _ _ hS
  have hS : St B w (_ :: _ :: _ :: l) hf := hS
  refine ⟨kp ⟨(by intro hx; cases hx), trivial⟩, ?_⟩
  refine rq [0] hS.d0 ?_
  refine it (RP.nil (tr ?_))
  obtain rfl := h.some
  exact rt results207 rfl ⟨rfl, hS.d0.d0.d0⟩
def event_Before.f (a1 a2 : api_Message) : Option (Bool) := ((event_order.f a1 a2).bind fun t9 => some (decide (t9 < 0)))
theorem event_Before.ok {a1 a2 : api_Message} {r : Bool} (h : event_Before.f a1 a2 = some r) (hS : St B w (l) hf) :
    Calls prog 163 #[.agg (C_api_Message a1).toArray, .agg (C_api_Message a2).toArray] w (Ret fun v w => v = .bool r ∧ St B w (l) hf) := by
  have h := Holds.of h
  refine en func163 rfl ntmps163 rfl (sr (rr [0, 0, 0] hS ?_))
  refine fun b7 b8 => it fun w hS => lnsr (rr [2, 1] hS ?_)
  refine it fun w hS => cF (fun _ hg => event_order.ok hg hS) call207 h rfl rfl rfl ?_
  rintro t9 h _ w ⟨rfl, hS⟩
  refine pn 2 rfl (lr ?_)
  cases h.some
  exact rt results163 rfl ⟨rfl, hS.d0.d0⟩
def heap_pile_api_Message_up.l2b : List api_Message × Int → Option ((List api_Message × Int) ⊕ (List api_Message))
  | (l99, x102) => (if 0 < x102 then (if 0 ≤ x102 ∧ x102 < (l99.length : Int) then (if 0 ≤ IntKind.i64.wrap (Int.tdiv (IntKind.i64.wrap (x102 - 1)) 2) ∧ IntKind.i64.wrap (Int.tdiv (IntKind.i64.wrap (x102 - 1)) 2) < (l99.length : Int) then ((event_Before.f (nth l99 x102) (nth l99 (IntKind.i64.wrap (Int.tdiv (IntKind.i64.wrap (x102 - 1)) 2)))).bind fun t140 => (if t140 = true then (if IntKind.i64.wrap (Int.tdiv (IntKind.i64.wrap (x102 - 1)) 2) < ((setL l99 x102 (nth l99 (IntKind.i64.wrap (Int.tdiv (IntKind.i64.wrap (x102 - 1)) 2)))).length : Int) then some (.inl ((setL (setL l99 x102 (nth l99 (IntKind.i64.wrap (Int.tdiv (IntKind.i64.wrap (x102 - 1)) 2)))) (IntKind.i64.wrap (Int.tdiv (IntKind.i64.wrap (x102 - 1)) 2)) (nth l99 x102)), IntKind.i64.wrap (Int.tdiv (IntKind.i64.wrap (x102 - 1)) 2))) else none) else some (.inr l99))) else none) else none) else some (.inr l99))
def heap_pile_api_Message_up.l2 (s : List api_Message × Int) : Option (List api_Message) := loopR (heap_pile_api_Message_up.l2b) s
def heap_pile_api_Message_up.f (a4 : List api_Message) (a5 : Int) : Option (List api_Message) := heap_pile_api_Message_up.l2 (a4, a5)
theorem heap_pile_api_Message_up.ok {a4 r : List api_Message} {a5 : Int} {b1 c3 : Nat} {A2 : Option Addr} (h : heap_pile_api_Message_up.f a4 a5 = some r) (hS : St B w (Cl b1 [sV A2 a4 c3, .func (.func 163) #[] #[]] 374 :: OSf E_api_Message 226 (sV A2 a4 c3) a4 :: l) hf) :
    Calls prog 343 #[pV b1, iV a5] w (Ret fun v w => ∃ (A_1 : Option Addr) (c_2 : Nat), v = .tuple #[] ∧ St B w (OSf E_api_Message 226 (sV A_1 r c_2) r :: Cl b1 [sV A_1 r c_2, .func (.func 163) #[] #[]] 374 :: l) hf) := by
  have h := Holds.of h
  refine en func343 rfl ntmps343 rfl (RC.block (fun a ha => lp h (fun (s : List api_Message × Int) a w => ∃ l99 x102, s = (l99, x102) ∧ ∃ A100 c101, Has 57 [(0, pV b1), (1, iV x102)] a ∧ St B w (OSf E_api_Message 226 (sV A100 l99 c101) l99 :: Cl b1 [sV A100 l99 c101, .func (.func 163) #[] #[]] 374 :: l) hf) ⟨_, _, rfl, _, _, ha.tE rfl, hS.p1⟩ ?_))
  rintro G126 _ a w ⟨l99, x102, rfl, A100, c101, ha, hS⟩ h
  refine ro ha (RC.seq (sr (pn 2 rfl (ln ?_))))
  refine RC.iteP 6 rfl h (fun hc128 h => ?_) fun hc128 h => ?_
  next =>
   refine jt (sk (RC.block (sr (pn 2 rfl (RL.s (Vl.quo rfl rfl (by decide)) rfl (pn 1 rfl (ln (RC.seq (RC.seq (dr [0, 3, 6, 10, 12, 15, 18, 22, 24, 28, 31, 33, 36, 39, 43, 47, 50, 53, 56, 59] [18, 19] hS fun w hS => rq [0, 0, 0, 2, 0, 0, 0, 2, 0] hS ?_))))))))))
   refine it ?_
   obtain ⟨⟨hq136, hq137⟩, h⟩ := h.req
   refine RP.s 0 9 rfl rfl hS (fun w hS => Vl.indexOwn 0 hS rfl underlying215 sizeOf226 rfl rfl hq136 hq137) rfl (RP.s 0 10 rfl rfl hS (fun w hS => Vl.loadA isAgg226 sizeOf226 rfl rfl ((hS.slW 0 rfl).2.2.cells hq136 hq137)) rfl (rq [0, 0, 0, 2, 0] hS ?_))
   refine it ?_
   obtain ⟨⟨hq138, hq139⟩, h⟩ := h.req
   refine RP.v1 16 rfl (Vl.indexOwn 0 hS rfl underlying215 sizeOf226 rfl rfl hq138 hq139) rfl rfl (RP.v1 17 rfl (Vl.loadA isAgg226 sizeOf226 rfl rfl ((hS.slW 0 rfl).2.2.cells hq138 hq139)) rfl rfl ?_)
   obtain ⟨t140, hg141, h⟩ := h.bind
   have hc := event_Before.ok hg141 hS
   refine RP.e 18 rfl (OW.call (ls := [.tmp 20, .tmp 27]) rfl rfl call163 rfl hc) rfl rfl ?_
   rintro _ w ⟨rfl, hS⟩
   refine ⟨kp ⟨(by intro hx; cases hx), trivial⟩, ?_⟩
   refine rq [0] hS ?_
   refine it (RP.nil (RQ.then_n ?_))
   refine RC.iteM 29 rfl h (fun hc142 h => ?_) fun hc142 h => ?_
   next =>
    refine jfs (RC.seq (dr [0, 3, 6, 10, 12, 15, 18, 21, 25, 27, 30, 33, 36, 40, 42, 46, 49, 51, 54, 57, 61, 65, 68, 71, 74, 77, 80, 83] [24, 25, 26, 27] hS fun w hS => rq [0, 0, 0, 2, 0, 0, 0, 0, 2, 0, 0, 0, 0, 2, 0] hS ?_))
    refine it (RP.s 0 15 rfl rfl hS (fun w hS => Vl.indexOwn 0 hS rfl underlying215 sizeOf226 rfl rfl hq138 hq139) rfl (RP.s 0 16 rfl rfl hS (fun w hS => Vl.loadA isAgg226 sizeOf226 rfl rfl ((hS.slW 0 rfl).2.2.cells hq138 hq139)) rfl (rq [0, 0, 0, 2, 0] hS ?_)))
    refine it (RP.v1 22 rfl (Vl.indexOwn 0 hS rfl underlying215 sizeOf226 rfl rfl hq136 hq137) rfl rfl (RP.v1 23 rfl (Vl.loadA isAgg226 sizeOf226 rfl rfl ((hS.slW 0 rfl).2.2.cells hq136 hq137)) rfl rfl (RP.v1 24 rfl (Vl.indexOwn 0 hS rfl underlying215 sizeOf226 rfl rfl hq136 hq137) rfl rfl (RP.e0 25 rfl (OW.storeOwn (E := E_api_Message) (off := 0) (j := x102) (x' := nth l99 (IntKind.i64.wrap (Int.tdiv (IntKind.i64.wrap (x102 - 1)) 2))) (vs := (C_api_Message (nth l99 (IntKind.i64.wrap (Int.tdiv (IntKind.i64.wrap (x102 - 1)) 2))))) 0 hS rfl rfl rfl rfl sizeOf226 rfl (Nat.succ_pos _) hq136 hq137 (Nat.le_of_ble_eq_true rfl) rfl rfl) rfl ?_))))
    rintro _ w ⟨rfl, hS⟩
    have he143 := (hS.osN 0 rfl).1
    have hS : St B w (_ :: _ :: l) hf := (congrArg (fun k_ : Nat => St B w (OSf E_api_Message 226 (.slice A100 k_ c101) (setL l99 x102 (nth l99 (IntKind.i64.wrap (Int.tdiv (IntKind.i64.wrap (x102 - 1)) 2)))) :: Cl b1 [.slice A100 k_ c101, .func (.func 163) #[] #[]] 374 :: l) hf) he143).mp hS
    refine ⟨kp ⟨(by intro hx; cases hx), trivial⟩, ?_⟩
    refine RP.re 17 rfl (congrArg (fun k_ : Nat => (.slice A100 k_ c101 : Value)) he143) (RP.re 24 rfl (congrArg (fun k_ : Nat => (.slice A100 k_ c101 : Value)) he143) (RP.re 33 rfl (congrArg (fun k_ : Nat => (.slice A100 k_ c101 : Value)) he143) (RP.re 38 rfl (congrArg (fun k_ : Nat => (.slice A100 k_ c101 : Value)) he143) (RP.re 43 rfl (congrArg (fun k_ : Nat => (.slice A100 k_ c101 : Value)) he143) (RP.re 50 rfl (congrArg (fun k_ : Nat => (.slice A100 k_ c101 : Value)) he143) ?_)))))
    obtain ⟨hq144, h⟩ := h.req
    refine RP.v1 26 rfl (Vl.indexOwn 0 hS rfl underlying215 sizeOf226 rfl rfl hq138 hq144) rfl rfl (RP.e0 27 rfl (OW.storeOwn (E := E_api_Message) (off := 0) (j := IntKind.i64.wrap (Int.tdiv (IntKind.i64.wrap (x102 - 1)) 2)) (x' := nth l99 x102) (vs := (C_api_Message (nth l99 x102))) 0 hS rfl rfl rfl rfl sizeOf226 rfl (Nat.succ_pos _) hq138 hq144 (Nat.le_of_ble_eq_true rfl) rfl rfl) rfl ?_)
    rintro _ w ⟨rfl, hS⟩
    have he145 := (hS.osN 0 rfl).1
    have hS : St B w (_ :: _ :: l) hf := (congrArg (fun k_ : Nat => St B w (OSf E_api_Message 226 (.slice A100 k_ c101) (setL (setL l99 x102 (nth l99 (IntKind.i64.wrap (Int.tdiv (IntKind.i64.wrap (x102 - 1)) 2)))) (IntKind.i64.wrap (Int.tdiv (IntKind.i64.wrap (x102 - 1)) 2)) (nth l99 x102)) :: Cl b1 [.slice A100 k_ c101, .func (.func 163) #[] #[]] 374 :: l) hf) he145).mp hS
    refine ⟨kp ⟨(by intro hx; cases hx), trivial⟩, ?_⟩
    refine RP.re 17 rfl (congrArg (fun k_ : Nat => (.slice A100 k_ c101 : Value)) he145) (RP.re 24 rfl (congrArg (fun k_ : Nat => (.slice A100 k_ c101 : Value)) he145) (RP.re 33 rfl (congrArg (fun k_ : Nat => (.slice A100 k_ c101 : Value)) he145) (RP.re 38 rfl (congrArg (fun k_ : Nat => (.slice A100 k_ c101 : Value)) he145) (RP.re 43 rfl (congrArg (fun k_ : Nat => (.slice A100 k_ c101 : Value)) he145) (RP.re 50 rfl (congrArg (fun k_ : Nat => (.slice A100 k_ c101 : Value)) he145) (RP.nil (RQ.then_n (RC.region (pn 2 rfl (RL.nil (RQ.inB_n ?_)))))))))))
    exact fun a ha => ⟨_, h.some, _, _, rfl, _, _, ha.tE rfl, hS⟩
   refine jt (RC.ret (RQ.ret (RQ.inB_ret ?_)))
   have h := h.inrS
   refine RQ.ret (RQ.inB_ret ?_)
   obtain rfl := h.some
   exact rt results343 rfl ⟨A100, c101, rfl, hS⟩
  refine jf (RC.exit (RQ.exitT ?_))
  have h := h.inrS
  refine RQ.exitT (RQ.inB_hit ?_)
  obtain rfl := h.some
  exact rtE results343 rfl ⟨A100, c101, rfl, hS⟩
def heap_pile_api_Message_push.f (a4 : List api_Message) (a5 : api_Message) : Option (List api_Message) := (if (a4.length + 1) * 56 ≤ 140737488355328 then ((heap_pile_api_Message_up.f (a4 ++ ([a5])) (IntKind.i64.wrap (((a4 ++ ([a5])).length : Int) - 1))).bind fun t34 => some t34) else none)
theorem heap_pile_api_Message_push.ok {a4 r : List api_Message} {a5 : api_Message} {b1 c3 : Nat} {A2 : Option Addr} (h : heap_pile_api_Message_push.f a4 a5 = some r) (hS : St B w (Cl b1 [sV A2 a4 c3, .func (.func 163) #[] #[]] 374 :: OSf E_api_Message 226 (sV A2 a4 c3) a4 :: l) hf) :
    Calls prog 339 #[pV b1, .agg (C_api_Message a5).toArray] w (Ret fun v w => ∃ (A_1 : Option Addr) (c_2 : Nat), v = .tuple #[] ∧ St B w (OSf E_api_Message 226 (sV A_1 r c_2) r :: Cl b1 [sV A_1 r c_2, .func (.func 163) #[] #[]] 374 :: l) hf) := by
  have h := Holds.of h
  refine en func339 rfl ntmps339 rfl (sr (rr [0] hS ?_))
  refine fun b23 => it fun w hS => ln (RC.seq (dr [0, 3, 6, 9, 13, 17, 20, 23, 26, 29, 32] [7, 8, 9, 10] hS fun w hS => rq [0, 0, 0, 0, 2, 1] hS ?_))
  refine it (RP.e 6 rfl (OW.buildSlice (E := E_api_Message) (xs := [a5]) (cs := (C_api_Message a5)) hS underlying215 zeroValue226 sizeOf226 (parts := [(0, .tmp 9)]) rfl rfl (by decide) (by decide) (by kernel_rfl) rfl) rfl rfl ?_)
  rintro _ w ⟨b29, rfl, hS⟩
  refine ⟨kp ⟨fun _ => hS.d0, trivial⟩, ?_⟩
  obtain ⟨hq30, h⟩ := h.req
  refine RP.e 7 rfl (OW.append (E := E_api_Message) (xs := a4) (ys := [a5]) 3 hS rfl underlying215 type226 rfl rfl rfl rfl (by decide) rfl rfl rfl (hS.slW 0 rfl).2.2.flat (by simp only [maxLen, List.length_cons, List.length_nil] at *; omega) hq30 rfl) rfl rfl ?_
  rintro v33 w hS
  obtain ⟨A31, c32, rfl, _⟩ := hS.osShape 0 rfl
  have hS : St B w (_ :: _ :: _ :: _ :: l) hf := hS
  refine ⟨kp ⟨(by intro hx; cases hx), trivial⟩, ?_⟩
  refine RP.v1 8 rfl (Vl.nilCheck rfl) rfl rfl (RP.v1 9 rfl (Vl.fa 0 underlying372 rfl sizeOf215 rfl rfl) rfl rfl (RP.e0 10 rfl (OW.store (vs := [.slice A31 (a4 ++ ([a5])).length c32]) 3 hS rfl rfl rfl rfl sizeOf215 rfl rfl rfl rfl) rfl ?_))
  rintro _ w ⟨rfl, hS⟩
  have hS : St B w (_ :: _ :: _ :: Cl _ [_, _] _ :: l) hf := hS
  refine ⟨kp ⟨(by intro hx; cases hx), trivial⟩, ?_⟩
  refine RP.nil (RQ.then_n (RC.region (rr [0, 0, 0, 0, 4, 0, 0] hS ?_)))
  refine it fun w hS => cF (fun _ hg => heap_pile_api_Message_up.ok hg hS.p3) call343 h rfl rfl rfl ?_
  rintro t34 h _ w ⟨A36, c37, rfl, hS⟩
  refine RL.nil ?_
  obtain rfl := h.some
  exact rtE results339 rfl ⟨A36, c37, rfl, hS.d2.d2⟩
end
end Go.Proofs.Gx
