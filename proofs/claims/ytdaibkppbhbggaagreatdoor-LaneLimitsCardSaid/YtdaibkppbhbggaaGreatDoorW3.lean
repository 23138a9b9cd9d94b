/-
  The walks of functions, each with what it computes: printed by wip/gx.py.
-/
import Derived.Test.YtdaibkppbhbggaaGreatDoorW2
set_option linter.unusedVariables false
set_option linter.unusedSimpArgs false
set_option maxRecDepth 100000
set_option maxHeartbeats 4000000
namespace Go.Proofs.Gx
open Go.Sl Tryz
variable {B : Base} {w : World} {l : List HProp} {hf : Hp}
noncomputable section
def log_Log_All_round0.f (a6 : log_Log) (a8 : (List api_Entry)) (a13 : Int) (a14 : api_State) : Option (List api_Entry) := (if 0 ≤ a13 ∧ a13 < (a6.l.length : Int) then ((log_done_entry.f (nth a6.l a13) a14).bind fun t68 => (if (a8.length + ([t68]).length) * 168 ≤ 140737488355328 then some (a8 ++ ([t68])) else none)) else none)
theorem log_Log_All_round0.ok {a6 : log_Log} {a8 : (List api_Entry)} {a13 : Int} {a14 : api_State} {b1 : Nat} {rc2 : Loop} {b4 b5 b7 : Nat} {A9 : Option Addr} {c10 : Nat} {cs11 : List Value} (hx12 : RepL R_api_Entry hf cs11 a8) (hr3 : RecF f47 0 25 [(1, .pointer (some ⟨b4, 0, none⟩)), (3, .pointer (some ⟨b7, 0, none⟩))] rc2) {r : List api_Entry} (h : log_Log_All_round0.f a6 a8 a13 a14 = some r) (hS : St B w (pts b1 (.loop rc2) :: O_log_Log hf a6 b5 :: Cl b4 [.pointer (some ⟨b5, 0, none⟩)] 51 :: Cl b7 [.slice A9 a8.length c10] 41 :: OSl 79 19 (.slice A9 a8.length c10) a8.length cs11 :: l) hf) :
    Yld prog b1 [.int .i64 a13, .agg (C_api_State a14).toArray] w (Ret fun v w => ∃ hf_ : Hp, Sub hf hf_ ∧ ∃ (A_1 : Option Addr) (c_2 : Nat) (cs_3 : List Value), v = .bool true ∧ St B w (OSl 79 19 (.slice A_1 r.length c_2) r.length cs_3 :: pts b1 (.loop rc2) :: O_log_Log hf_ a6 b5 :: Cl b4 [.pointer (some ⟨b5, 0, none⟩)] 51 :: Cl b7 [.slice A_1 r.length c_2] 41 :: l) hf_ ∧ RepL R_api_Entry hf_ cs_3 r) := by
  have h := Holds.of h
  refine Yld.of (psl := [10, 11]) hS hr3 rfl rfl rfl ?_
  show RC _ ⟨25, [], false⟩ _ _ [(11, .agg (C_api_State a14).toArray), (10, .int .i64 a13), (1, .pointer (some ⟨b4, 0, none⟩)), (3, .pointer (some ⟨b7, 0, none⟩))] w
  refine sr (pn 1 rfl (ln (RC.region (al hS zeroValue70 rfl rfl rfl fun b49 w hS => RL.e0 (OW.store (vs := (C_api_State a14)) 0 hS rfl rfl rfl rfl sizeOf70 rfl rfl rfl rfl) rfl ?_))))
  rintro _ w ⟨rfl, hS⟩
  have hS : St B w (Cl _ [_, _, _, _, _, _, _, _, _, _] _ :: _ :: _ :: _ :: _ :: _ :: l) hf := hS
  refine ln (RQ.bg hS.p1 hr3.state rfl fun w hS => RC.block ?_)
  obtain ⟨A50, c51, A53, c54, A56, c57, cs58, hr52, hr55, hx59, hS⟩ := O_log_Log.o hS.p2
  refine RC.planS (plD [1, 4, 6, 9, 13, 15, 19, 22, 26, 29, 32, 35, 38]) [11, 12] hS (fun w hS => hS) follows rfl (by kernel_rfl) (NoTmp.block NoTmp.round) fun w hS => RP.s 0 0 rfl rfl hS (fun w hS => Vl.ld 5 hS isAgg41 rfl rfl rfl) rfl (RP.s 0 1 rfl rfl hS (fun w hS => Vl.ld 4 hS isAgg51 rfl rfl rfl) rfl (pp 1 rfl (RP.s0 3 rfl (fun w => Vl.fa 16 underlying150 rfl sizeOf148 rfl rfl) rfl (RP.s 0 4 rfl rfl hS (fun w hS => Vl.ld 0 hS isAgg148 rfl rfl rfl) rfl (pp 1 rfl ?_)))))
  obtain ⟨⟨hq60, hq61⟩, h⟩ := h.req
  refine RP.s 0 6 rfl rfl hS (fun w hS => Vl.indexOwn 1 hS rfl underlying148 sizeOf176 rfl rfl hq60 hq61) rfl ?_
  obtain ⟨_, ⟨A63, c64, b66, rfl, hr65, hr67⟩, hl62⟩ := RepL.elem R_log_done_ok hx59 hq60 hq61
  refine RP.s 0 7 rfl rfl hS (fun w hS => Vl.loadA (vs := (C_log_done (nth a6.l a13) A63 c64 b66)) isAgg176 sizeOf176 rfl rfl (hS.elemCells 1 rfl hl62 (off := 0) rfl)) rfl (RP.v1 8 rfl (Vl.lw 3 hS isAgg70 sizeOf70 rfl rfl rfl) rfl rfl ?_)
  obtain ⟨t68, hg69, h⟩ := h.bind
  have hc := log_done_entry.ok hr65 hr67 hg69 hS
  refine RP.e 9 rfl (OW.callF (ls := [.tmp 19, .tmp 20]) rfl call96 hc) rfl rfl ?_
  rintro _ w ⟨A70, c71, rfl, hS⟩
  refine ⟨kp ⟨fun _ => hS.d0, trivial⟩, ?_⟩
  obtain ⟨hf, hs72, hS, hr73⟩ := St.promote hS
  have hx75 : RepL R_api_Entry hf (C_api_Entry t68 A70 c71) [t68] := (RepL.cons (c := (C_api_Entry t68 A70 c71)) (r := []) ⟨_, _, rfl, hr73⟩ RepL.nil)
  refine RP.e 10 rfl (OW.buildSliceR (sz := 19) (cs := (C_api_Entry t68 A70 c71)) hS underlying41 zeroValue79 sizeOf79 (parts := [(0, .tmp 21)]) rfl rfl (by decide) (by decide) (by kernel_rfl)) rfl rfl ?_
  rintro _ w ⟨b74, rfl, hS⟩
  refine ⟨kp ⟨fun _ => (St.down hS.d0 hs72), trivial⟩, ?_⟩
  obtain ⟨hq78, h⟩ := h.req
  obtain ⟨hf, hs76, hS, hr77⟩ := St.promoteR R_api_Entry_ok hS rfl hx75
  refine RP.e 11 rfl (OW.appendR (R := R_api_Entry) R_api_Entry_ok (xs := a8) (ys := [t68]) 6 hS rfl underlying41 type79 rfl rfl rfl rfl (by decide) (by decide) ((hx12.mono hs72).mono hs76) rfl rfl hr77 hq78 rfl) rfl rfl ?_
  rintro _ w ⟨cs81, hx82, hS⟩
  obtain ⟨A79, c80, rfl, _⟩ := hS.osShape 0 rfl
  have hS : St B w (_ :: _ :: _ :: _ :: _ :: _ :: _ :: l) hf := hS
  refine ⟨kp ⟨(by intro hx; cases hx), trivial⟩, ?_⟩
  refine RP.e0 12 rfl (OW.store (vs := [.slice A79 (a8 ++ ([t68])).length c80]) 6 hS rfl rfl rfl rfl sizeOf41 rfl rfl rfl rfl) rfl ?_
  rintro _ w ⟨rfl, hS⟩
  have hS : St B w (_ :: _ :: _ :: _ :: _ :: _ :: Cl _ [_] _ :: l) hf := hS
  refine ⟨kp ⟨(by intro hx; cases hx), trivial⟩, ?_⟩
  refine RP.nil (RQ.inB_n ?_)
  have hS := O_log_Log.c (x := a6) ((hr52.mono hs72).mono hs76) ((hr55.mono hs72).mono hs76) ((hx59.mono hs72).mono hs76) hS.p2.p2
  obtain rfl := h.some
  exact RQ.rn hS.p2 hr3.state hr3.pending fun w hS => ⟨_, (hs72.trans hs76), A79, c80, cs81, rfl, hS.d3.p2, hx82⟩
def event_lane.f (a1 : Int) : Option (Bool) := (if 0 ≤ a1 then some (decide (a1 < 16)) else some false)
theorem event_lane.ok {a1 : Int} {r : Bool} (h : event_lane.f a1 = some r) (hS : St B w (l) hf) :
    Calls prog 74 #[.int .i64 a1] w (Ret fun v w => v = .bool r ∧ St B w (l) hf) := by
  have h := Holds.of h
  refine en func74 rfl ntmps74 rfl (sr (pn 1 rfl (lnsr (pn 3 rfl ?_))))
  refine RL.iteP 5 rfl h (fun hc3 h => ?_) fun hc3 h => ?_
  next =>
   refine pn 4 rfl (lr ?_)
   obtain rfl := h.some
   exact rt results74 rfl ⟨rfl, hS⟩
  refine pn 4 rfl (lr ?_)
  obtain rfl := h.some
  exact rt results74 rfl ⟨rfl, hS⟩
def event_Check.f (a1 : api_Message) : Option (Int) := ((vtime_Valid.f a1.Key.Time).bind fun t19 => (if t19 = true then ((event_lane.f a1.Key.From).bind fun t22 => (if t22 = true then ((event_lane.f a1.To).bind fun t25 => (if t25 = true then (if 0 ≤ (if a1.Uid < a1.Key.Seq then a1.Uid else a1.Key.Seq) then some 0 else some 1) else some 1)) else (if a1.Key.From = (-1) then ((event_lane.f a1.To).bind fun t30 => (if t30 = true then (if 0 ≤ (if a1.Uid < a1.Key.Seq then a1.Uid else a1.Key.Seq) then some 0 else some 1) else some 1)) else some 1))) else some 1))
theorem event_Check.ok {a1 : api_Message} {r : Int} (h : event_Check.f a1 = some r) (hS : St B w (l) hf) :
    Calls prog 29 #[.agg (C_api_Message a1).toArray] w (Ret fun v w => v = .int .i64 r ∧ St B w (l) hf) := by
  have h := Holds.of h
  refine en func29 rfl ntmps29 rfl (sr (bx hS rfl rfl rfl rfl fun b18 w hS => pn 1 rfl (ln (RC.seq (sr (RL.s (Vl.fa 0 underlying48 rfl sizeOf46 rfl rfl) rfl (RL.s (Vl.fa 0 underlying46 rfl sizeOf2 rfl rfl) rfl (RL.s (Vl.ld 0 hS isAgg2 rfl rfl rfl) rfl (cF (fun _ hg => vtime_Valid.ok hg hS) call73 h rfl rfl rfl ?_)))))))))
  rintro t19 h _ w ⟨rfl, hS⟩
  refine pn 1 rfl ?_
  refine RL.iteB 7 rfl h (fun hc21 h => ?_) fun hc21 h => ?_
  next =>
   refine RL.sg (Vl.fa 0 underlying48 rfl sizeOf46 rfl rfl) rfl rfl (RL.sg (Vl.fa 1 underlying46 rfl sizeOf3 rfl rfl) rfl rfl (RL.sg (Vl.ld 0 hS isAgg3 rfl rfl rfl) rfl rfl (cF (fun _ hg => event_lane.ok hg hS) call74 h rfl rfl rfl ?_)))
   rintro t22 h _ w ⟨rfl, hS⟩
   refine pn 1 rfl ?_
   refine RL.iteB 12 rfl h (fun hc24 h => ?_) fun hc24 h => ?_
   next =>
    refine pn 7 rfl (RL.sg (Vl.fa 3 underlying48 rfl sizeOf3 rfl rfl) rfl rfl (RL.sg (Vl.ld 0 hS isAgg3 rfl rfl rfl) rfl rfl (cF (fun _ hg => event_lane.ok hg hS) call74 h rfl rfl rfl ?_)))
    rintro t25 h _ w ⟨rfl, hS⟩
    refine pn 2 rfl ?_
    refine RL.iteB 24 rfl h (fun hc27 h => ?_) fun hc27 h => ?_
    next =>
     refine RL.sg (Vl.fa 0 underlying48 rfl sizeOf46 rfl rfl) rfl rfl (RL.sg (Vl.fa 2 underlying46 rfl sizeOf3 rfl rfl) rfl rfl (RL.sg (Vl.ld 0 hS isAgg3 rfl rfl rfl) rfl rfl (RL.sg (Vl.fa 5 underlying48 rfl sizeOf3 rfl rfl) rfl rfl (RL.sg (Vl.ld 0 hS isAgg3 rfl rfl rfl) rfl rfl (RL.sg (Vl.min2 rfl rfl) rfl rfl (pn 2 rfl (ln ?_)))))))
     refine RC.iteP 32 rfl h (fun hc28 h => ?_) fun hc28 h => ?_
     next =>
      refine RC.condT rfl (sr (pn 1 rfl (lr (RQ.ret ?_))))
      obtain rfl := h.some
      exact rt results29 rfl ⟨rfl, hS.d0⟩
     refine RC.condF rfl (sk (sr (pn 1 rfl (lr ?_))))
     obtain rfl := h.some
     exact rt results29 rfl ⟨rfl, hS.d0⟩
    refine pn 8 rfl (ln (RC.condF rfl (sk (sr (pn 1 rfl (lr ?_))))))
    obtain rfl := h.some
    exact rt results29 rfl ⟨rfl, hS.d0⟩
   refine RL.sg (Vl.fa 0 underlying48 rfl sizeOf46 rfl rfl) rfl rfl (RL.sg (Vl.fa 1 underlying46 rfl sizeOf3 rfl rfl) rfl rfl (RL.sg (Vl.ld 0 hS isAgg3 rfl rfl rfl) rfl rfl (pn 4 rfl ?_)))
   refine RL.iteP 19 rfl h (fun hc29 h => ?_) fun hc29 h => ?_
   next =>
    refine RL.sg (Vl.fa 3 underlying48 rfl sizeOf3 rfl rfl) rfl rfl (RL.sg (Vl.ld 0 hS isAgg3 rfl rfl rfl) rfl rfl (cF (fun _ hg => event_lane.ok hg hS) call74 h rfl rfl rfl ?_))
    rintro t30 h _ w ⟨rfl, hS⟩
    refine pn 2 rfl ?_
    refine RL.iteB 24 rfl h (fun hc32 h => ?_) fun hc32 h => ?_
    next =>
     refine RL.sg (Vl.fa 0 underlying48 rfl sizeOf46 rfl rfl) rfl rfl (RL.sg (Vl.fa 2 underlying46 rfl sizeOf3 rfl rfl) rfl rfl (RL.sg (Vl.ld 0 hS isAgg3 rfl rfl rfl) rfl rfl (RL.sg (Vl.fa 5 underlying48 rfl sizeOf3 rfl rfl) rfl rfl (RL.sg (Vl.ld 0 hS isAgg3 rfl rfl rfl) rfl rfl (RL.sg (Vl.min2 rfl rfl) rfl rfl (pn 2 rfl (ln ?_)))))))
     refine RC.iteP 32 rfl h (fun hc33 h => ?_) fun hc33 h => ?_
     next =>
      refine RC.condT rfl (sr (pn 1 rfl (lr (RQ.ret ?_))))
      obtain rfl := h.some
      exact rt results29 rfl ⟨rfl, hS.d0⟩
     refine RC.condF rfl (sk (sr (pn 1 rfl (lr ?_))))
     obtain rfl := h.some
     exact rt results29 rfl ⟨rfl, hS.d0⟩
    refine pn 8 rfl (ln (RC.condF rfl (sk (sr (pn 1 rfl (lr ?_))))))
    obtain rfl := h.some
    exact rt results29 rfl ⟨rfl, hS.d0⟩
   refine pn 13 rfl (ln (RC.condF rfl (sk (sr (pn 1 rfl (lr ?_))))))
   obtain rfl := h.some
   exact rt results29 rfl ⟨rfl, hS.d0⟩
  refine pn 25 rfl (ln (RC.condF rfl (sk (sr (pn 1 rfl (lr ?_))))))
  obtain rfl := h.some
  exact rt results29 rfl ⟨rfl, hS.d0⟩
def vm_operators.f  : Option (Unit) := some ()
theorem vm_operators.ok {r : Unit} (h : vm_operators.f = some r) (hS : St B w (l) hf) :
    Calls prog 135 #[] w (Ret fun v w => ∃ (b_1 : Nat), v = .map (some b_1) ∧ St B w (MapL b_1 [({ key := .int .i64 0, val := .func (.func 139) #[] #[], born := 0 } : MapEntry), ({ key := .int .i64 1, val := .func (.func 140) #[] #[], born := 1 } : MapEntry), ({ key := .int .i64 2, val := .func (.func 141) #[] #[], born := 2 } : MapEntry), ({ key := .int .i64 3, val := .func (.func 142) #[] #[], born := 3 } : MapEntry), ({ key := .int .i64 4, val := .func (.func 143) #[] #[], born := 4 } : MapEntry), ({ key := .int .i64 5, val := .func (.func 144) #[] #[], born := 5 } : MapEntry), ({ key := .int .i64 6, val := .func (.func 145) #[] #[], born := 6 } : MapEntry), ({ key := .int .i64 7, val := .func (.func 146) #[] #[], born := 7 } : MapEntry), ({ key := .int .i64 8, val := .func (.func 147) #[] #[], born := 8 } : MapEntry), ({ key := .int .i64 9, val := .func (.func 148) #[] #[], born := 9 } : MapEntry), ({ key := .int .i64 10, val := .func (.func 149) #[] #[], born := 10 } : MapEntry), ({ key := .int .i64 11, val := .func (.func 150) #[] #[], born := 11 } : MapEntry), ({ key := .int .i64 12, val := .func (.func 151) #[] #[], born := 12 } : MapEntry), ({ key := .int .i64 13, val := .func (.func 152) #[] #[], born := 13 } : MapEntry), ({ key := .int .i64 14, val := .func (.func 153) #[] #[], born := 14 } : MapEntry), ({ key := .int .i64 15, val := .func (.func 154) #[] #[], born := 15 } : MapEntry), ({ key := .int .i64 16, val := .func (.func 155) #[] #[], born := 16 } : MapEntry)] 17 :: l) hf) := by
  have h := Holds.of h
  refine en func135 rfl ntmps135 rfl (sr (pn 1 rfl (lnsr (RL.e (OW.makeMapL hS) rfl rfl ?_))))
  rintro _ w ⟨b2, rfl, hS⟩
  refine RL.e0 (OW.insertL 0 hS rfl underlying274 underlying3 rfl rfl rfl rfl rfl rfl rfl) rfl ?_
  rintro _ w ⟨rfl, hS⟩
  have hS : St B w (_ :: l) hf := hS
  refine RL.e0 (OW.insertL 0 hS rfl underlying274 underlying3 rfl rfl rfl rfl rfl rfl rfl) rfl ?_
  rintro _ w ⟨rfl, hS⟩
  have hS : St B w (_ :: l) hf := hS
  refine RL.e0 (OW.insertL 0 hS rfl underlying274 underlying3 rfl rfl rfl rfl rfl rfl rfl) rfl ?_
  rintro _ w ⟨rfl, hS⟩
  have hS : St B w (_ :: l) hf := hS
  refine RL.e0 (OW.insertL 0 hS rfl underlying274 underlying3 rfl rfl rfl rfl rfl rfl rfl) rfl ?_
  rintro _ w ⟨rfl, hS⟩
  have hS : St B w (_ :: l) hf := hS
  refine RL.e0 (OW.insertL 0 hS rfl underlying274 underlying3 rfl rfl rfl rfl rfl rfl rfl) rfl ?_
  rintro _ w ⟨rfl, hS⟩
  have hS : St B w (_ :: l) hf := hS
  refine RL.e0 (OW.insertL 0 hS rfl underlying274 underlying3 rfl rfl rfl rfl rfl rfl rfl) rfl ?_
  rintro _ w ⟨rfl, hS⟩
  have hS : St B w (_ :: l) hf := hS
  refine RL.e0 (OW.insertL 0 hS rfl underlying274 underlying3 rfl rfl rfl rfl rfl rfl rfl) rfl ?_
  rintro _ w ⟨rfl, hS⟩
  have hS : St B w (_ :: l) hf := hS
  refine RL.e0 (OW.insertL 0 hS rfl underlying274 underlying3 rfl rfl rfl rfl rfl rfl rfl) rfl ?_
  rintro _ w ⟨rfl, hS⟩
  have hS : St B w (_ :: l) hf := hS
  refine RL.e0 (OW.insertL 0 hS rfl underlying274 underlying3 rfl rfl rfl rfl rfl rfl rfl) rfl ?_
  rintro _ w ⟨rfl, hS⟩
  have hS : St B w (_ :: l) hf := hS
  refine RL.e0 (OW.insertL 0 hS rfl underlying274 underlying3 rfl rfl rfl rfl rfl rfl rfl) rfl ?_
  rintro _ w ⟨rfl, hS⟩
  have hS : St B w (_ :: l) hf := hS
  refine RL.e0 (OW.insertL 0 hS rfl underlying274 underlying3 rfl rfl rfl rfl rfl rfl rfl) rfl ?_
  rintro _ w ⟨rfl, hS⟩
  have hS : St B w (_ :: l) hf := hS
  refine RL.e0 (OW.insertL 0 hS rfl underlying274 underlying3 rfl rfl rfl rfl rfl rfl rfl) rfl ?_
  rintro _ w ⟨rfl, hS⟩
  have hS : St B w (_ :: l) hf := hS
  refine RL.e0 (OW.insertL 0 hS rfl underlying274 underlying3 rfl rfl rfl rfl rfl rfl rfl) rfl ?_
  rintro _ w ⟨rfl, hS⟩
  have hS : St B w (_ :: l) hf := hS
  refine RL.e0 (OW.insertL 0 hS rfl underlying274 underlying3 rfl rfl rfl rfl rfl rfl rfl) rfl ?_
  rintro _ w ⟨rfl, hS⟩
  have hS : St B w (_ :: l) hf := hS
  refine RL.e0 (OW.insertL 0 hS rfl underlying274 underlying3 rfl rfl rfl rfl rfl rfl rfl) rfl ?_
  rintro _ w ⟨rfl, hS⟩
  have hS : St B w (_ :: l) hf := hS
  refine RL.e0 (OW.insertL 0 hS rfl underlying274 underlying3 rfl rfl rfl rfl rfl rfl rfl) rfl ?_
  rintro _ w ⟨rfl, hS⟩
  have hS : St B w (_ :: l) hf := hS
  refine RL.e0 (OW.insertL 0 hS rfl underlying274 underlying3 rfl rfl rfl rfl rfl rfl rfl) rfl ?_
  rintro _ w ⟨rfl, hS⟩
  have hS : St B w (_ :: l) hf := hS
  refine pn 2 rfl (lr ?_)
  exact rt results135 rfl ⟨b2, rfl, hS⟩
def vm_cpu_halt.f (a2 : List api_Instr) (a6 : Int) (a7 : List api_Link) (a11 a12 a13 a14 a15 a16 a17 : Int) (a18 : Bool) (a19 : Int) (a22 : List api_Out) (a23 : Int) (fn24 : (Nat → Int)) (a25 : api_Instr) : Option (Int) := some (a2.length : Int)
theorem vm_cpu_halt.ok {a2 : List api_Instr} {a6 : Int} {a7 : List api_Link} {a11 a12 a13 a14 a15 a16 a17 : Int} {a18 : Bool} {a19 : Int} {a22 : List api_Out} {a23 : Int} {fn24 : (Nat → Int)} {a25 : api_Instr} {b1 : Nat} {A3 : Option Addr} {c4 : Nat} {A8 : Option Addr} {c9 : Nat} {A20 : Option Addr} {c21 : Nat} (hr5 : SlR E_api_Instr.rep hf A3 c4 a2) (hr10 : SlR E_api_Link.rep hf A8 c9 a7) {r : Int} (h : vm_cpu_halt.f a2 a6 a7 a11 a12 a13 a14 a15 a16 a17 a18 a19 a22 a23 fn24 a25 = some r) (hS : St B w (Cl b1 [.slice A3 a2.length c4, .int .i64 a6, .slice A8 a7.length c9, .int .u64 a11, .int .i64 a12, .int .i64 a13, .int .i64 a14, .int .i64 a15, .int .i64 a16, .int .i64 a17, .bool a18, .int .i64 (fn24 0), .int .i64 (fn24 1), .int .i64 (fn24 2), .int .i64 (fn24 3), .int .i64 (fn24 4), .int .i64 (fn24 5), .int .i64 (fn24 6), .int .i64 (fn24 7), .int .i64 (fn24 8), .int .i64 (fn24 9), .int .i64 (fn24 10), .int .i64 (fn24 11), .int .i64 (fn24 12), .int .i64 (fn24 13), .int .i64 (fn24 14), .int .i64 (fn24 15), .int .i64 a19, .slice A20 a22.length c21, .int .i64 a23] 260 :: OSf E_api_Out 265 (.slice A20 a22.length c21) a22 :: l) hf) :
    Calls prog 139 #[.pointer (some ⟨b1, 0, none⟩), .agg (C_api_Instr a25).toArray] w (Ret fun v w => v = .tuple #[] ∧ St B w (Cl b1 [.slice A3 a2.length c4, .int .i64 a6, .slice A8 a7.length c9, .int .u64 a11, .int .i64 a12, .int .i64 a13, .int .i64 a14, .int .i64 a15, .int .i64 a16, .int .i64 a17, .bool a18, .int .i64 (fn24 0), .int .i64 (fn24 1), .int .i64 (fn24 2), .int .i64 (fn24 3), .int .i64 (fn24 4), .int .i64 (fn24 5), .int .i64 (fn24 6), .int .i64 (fn24 7), .int .i64 (fn24 8), .int .i64 (fn24 9), .int .i64 (fn24 10), .int .i64 (fn24 11), .int .i64 (fn24 12), .int .i64 (fn24 13), .int .i64 (fn24 14), .int .i64 (fn24 15), .int .i64 a19, .slice A20 a22.length c21, .int .i64 r] 260 :: OSf E_api_Out 265 (.slice A20 a22.length c21) a22 :: l) hf) := by
  have h := Holds.of h
  refine en func139 rfl ntmps139 rfl (sr (bx hS rfl rfl rfl rfl fun b27 w hS => ln (RC.region (pn 3 rfl (RL.s (Vl.fa 0 underlying260 rfl sizeOf91 rfl rfl) rfl (RL.s (Vl.fa 0 underlying91 rfl sizeOf89 rfl rfl) rfl (RL.s (Vl.ld 1 hS isAgg89 rfl rfl rfl) rfl (RL.s (Vl.lenSl underlying89 rfl) rfl (pn 1 rfl (RL.s (Vl.fa 29 underlying260 rfl sizeOf3 rfl rfl) rfl (RL.e0 (OW.store (vs := [.int .i64 (a2.length : Int)]) 1 hS rfl rfl rfl rfl sizeOf3 rfl rfl rfl rfl) rfl ?_)))))))))))
  rintro _ w ⟨rfl, hS⟩
  have hS : St B w (_ :: Cl b1 [.slice A3 a2.length c4, .int .i64 a6, .slice A8 a7.length c9, .int .u64 a11, .int .i64 a12, .int .i64 a13, .int .i64 a14, .int .i64 a15, .int .i64 a16, .int .i64 a17, .bool a18, .int .i64 (fn24 0), .int .i64 (fn24 1), .int .i64 (fn24 2), .int .i64 (fn24 3), .int .i64 (fn24 4), .int .i64 (fn24 5), .int .i64 (fn24 6), .int .i64 (fn24 7), .int .i64 (fn24 8), .int .i64 (fn24 9), .int .i64 (fn24 10), .int .i64 (fn24 11), .int .i64 (fn24 12), .int .i64 (fn24 13), .int .i64 (fn24 14), .int .i64 (fn24 15), .int .i64 a19, .slice A20 a22.length c21, .int .i64 (a2.length : Int)] 260 :: _ :: l) hf := hS
  refine RL.nil ?_
  obtain rfl := h.some
  exact rtE results139 rfl ⟨rfl, hS.d0⟩
def vm_cpu_set.f (a2 : List api_Instr) (a6 : Int) (a7 : List api_Link) (a11 a12 a13 a14 a15 a16 a17 : Int) (a18 : Bool) (a19 : Int) (a22 : List api_Out) (a23 : Int) (fn24 : (Nat → Int)) (a25 : api_Instr) : Option ((Nat → Int)) := (if 0 ≤ a25.A ∧ a25.A < 16 then some (upd fn24 (a25.A.toNat * 1) a25.B) else none)
theorem vm_cpu_set.ok {a2 : List api_Instr} {a6 : Int} {a7 : List api_Link} {a11 a12 a13 a14 a15 a16 a17 : Int} {a18 : Bool} {a19 : Int} {a22 : List api_Out} {a23 : Int} {fn24 : (Nat → Int)} {a25 : api_Instr} {b1 : Nat} {A3 : Option Addr} {c4 : Nat} {A8 : Option Addr} {c9 : Nat} {A20 : Option Addr} {c21 : Nat} (hr5 : SlR E_api_Instr.rep hf A3 c4 a2) (hr10 : SlR E_api_Link.rep hf A8 c9 a7) {r : (Nat → Int)} (h : vm_cpu_set.f a2 a6 a7 a11 a12 a13 a14 a15 a16 a17 a18 a19 a22 a23 fn24 a25 = some r) (hS : St B w (Cl b1 [.slice A3 a2.length c4, .int .i64 a6, .slice A8 a7.length c9, .int .u64 a11, .int .i64 a12, .int .i64 a13, .int .i64 a14, .int .i64 a15, .int .i64 a16, .int .i64 a17, .bool a18, .int .i64 (fn24 0), .int .i64 (fn24 1), .int .i64 (fn24 2), .int .i64 (fn24 3), .int .i64 (fn24 4), .int .i64 (fn24 5), .int .i64 (fn24 6), .int .i64 (fn24 7), .int .i64 (fn24 8), .int .i64 (fn24 9), .int .i64 (fn24 10), .int .i64 (fn24 11), .int .i64 (fn24 12), .int .i64 (fn24 13), .int .i64 (fn24 14), .int .i64 (fn24 15), .int .i64 a19, .slice A20 a22.length c21, .int .i64 a23] 260 :: OSf E_api_Out 265 (.slice A20 a22.length c21) a22 :: l) hf) :
    Calls prog 140 #[.pointer (some ⟨b1, 0, none⟩), .agg (C_api_Instr a25).toArray] w (Ret fun v w => v = .tuple #[] ∧ St B w (Cl b1 [.slice A3 a2.length c4, .int .i64 a6, .slice A8 a7.length c9, .int .u64 a11, .int .i64 a12, .int .i64 a13, .int .i64 a14, .int .i64 a15, .int .i64 a16, .int .i64 a17, .bool a18, .int .i64 (r 0), .int .i64 (r 1), .int .i64 (r 2), .int .i64 (r 3), .int .i64 (r 4), .int .i64 (r 5), .int .i64 (r 6), .int .i64 (r 7), .int .i64 (r 8), .int .i64 (r 9), .int .i64 (r 10), .int .i64 (r 11), .int .i64 (r 12), .int .i64 (r 13), .int .i64 (r 14), .int .i64 (r 15), .int .i64 a19, .slice A20 a22.length c21, .int .i64 a23] 260 :: OSf E_api_Out 265 (.slice A20 a22.length c21) a22 :: l) hf) := by
  have h := Holds.of h
  refine en func140 rfl ntmps140 rfl (sr (bx hS rfl rfl rfl rfl fun b29 w hS => ln (RC.planS (plD [0, 3, 7, 9, 13, 17, 20, 23, 26]) [7, 8] hS (fun w hS => hS) follows rfl (by kernel_rfl) NoTmp.body fun w hS => pp 1 rfl (RP.s0 1 rfl (fun w => Vl.fa 1 underlying269 rfl sizeOf3 rfl rfl) rfl (RP.s 0 2 rfl rfl hS (fun w hS => Vl.ld 0 hS isAgg3 rfl rfl rfl) rfl (RP.s0 3 rfl (fun w => Vl.fa 2 underlying269 rfl sizeOf3 rfl rfl) rfl (RP.s 0 4 rfl rfl hS (fun w hS => Vl.ld 0 hS isAgg3 rfl rfl rfl) rfl (RP.v1 5 rfl (Vl.nilCheck rfl) rfl rfl (RP.v1 6 rfl (Vl.fa 11 underlying260 rfl sizeOf258 rfl rfl) rfl rfl ?_)))))))))
  obtain ⟨⟨hq30, hq31⟩, h⟩ := h.req
  refine RP.v1 7 rfl (Vl.indexAddrA (a'' := ⟨b1, 11 + a25.A.toNat * 1, none⟩) underlying258 sizeOf2 rfl rfl hq30 hq31 (add_mk _ _ _)) rfl rfl (RP.e0 8 rfl (OW.storeSeg (mk := (Value.int .i64)) (f := fn24) (n := 16) (m := 11) (pre := [.slice A3 a2.length c4, .int .i64 a6, .slice A8 a7.length c9, .int .u64 a11, .int .i64 a12, .int .i64 a13, .int .i64 a14, .int .i64 a15, .int .i64 a16, .int .i64 a17, .bool a18]) (post := [.int .i64 a19, .slice A20 a22.length c21, .int .i64 a23]) 1 hS rfl rfl rfl rfl sizeOf2 (by omega) (fun _ => rfl) (fun _ => rfl) rfl) rfl ?_)
  rintro _ w ⟨rfl, hS⟩
  have hS : St B w (_ :: _ :: _ :: l) hf := hS
  refine ⟨kp ⟨(by intro hx; cases hx), trivial⟩, ?_⟩
  refine RP.nil ?_
  obtain rfl := h.some
  exact rtE results140 rfl ⟨rfl, hS.d0⟩
def vm_cpu_move.f (a2 : List api_Instr) (a6 : Int) (a7 : List api_Link) (a11 a12 a13 a14 a15 a16 a17 : Int) (a18 : Bool) (a19 : Int) (a22 : List api_Out) (a23 : Int) (fn24 : (Nat → Int)) (a25 : api_Instr) : Option ((Nat → Int)) := (if 0 ≤ a25.B ∧ a25.B < 16 then (if 0 ≤ a25.A ∧ a25.A < 16 then some (upd fn24 (a25.A.toNat * 1) (fn24 (a25.B.toNat * 1))) else none) else none)
theorem vm_cpu_move.ok {a2 : List api_Instr} {a6 : Int} {a7 : List api_Link} {a11 a12 a13 a14 a15 a16 a17 : Int} {a18 : Bool} {a19 : Int} {a22 : List api_Out} {a23 : Int} {fn24 : (Nat → Int)} {a25 : api_Instr} {b1 : Nat} {A3 : Option Addr} {c4 : Nat} {A8 : Option Addr} {c9 : Nat} {A20 : Option Addr} {c21 : Nat} (hr5 : SlR E_api_Instr.rep hf A3 c4 a2) (hr10 : SlR E_api_Link.rep hf A8 c9 a7) {r : (Nat → Int)} (h : vm_cpu_move.f a2 a6 a7 a11 a12 a13 a14 a15 a16 a17 a18 a19 a22 a23 fn24 a25 = some r) (hS : St B w (Cl b1 [.slice A3 a2.length c4, .int .i64 a6, .slice A8 a7.length c9, .int .u64 a11, .int .i64 a12, .int .i64 a13, .int .i64 a14, .int .i64 a15, .int .i64 a16, .int .i64 a17, .bool a18, .int .i64 (fn24 0), .int .i64 (fn24 1), .int .i64 (fn24 2), .int .i64 (fn24 3), .int .i64 (fn24 4), .int .i64 (fn24 5), .int .i64 (fn24 6), .int .i64 (fn24 7), .int .i64 (fn24 8), .int .i64 (fn24 9), .int .i64 (fn24 10), .int .i64 (fn24 11), .int .i64 (fn24 12), .int .i64 (fn24 13), .int .i64 (fn24 14), .int .i64 (fn24 15), .int .i64 a19, .slice A20 a22.length c21, .int .i64 a23] 260 :: OSf E_api_Out 265 (.slice A20 a22.length c21) a22 :: l) hf) :
    Calls prog 141 #[.pointer (some ⟨b1, 0, none⟩), .agg (C_api_Instr a25).toArray] w (Ret fun v w => v = .tuple #[] ∧ St B w (Cl b1 [.slice A3 a2.length c4, .int .i64 a6, .slice A8 a7.length c9, .int .u64 a11, .int .i64 a12, .int .i64 a13, .int .i64 a14, .int .i64 a15, .int .i64 a16, .int .i64 a17, .bool a18, .int .i64 (r 0), .int .i64 (r 1), .int .i64 (r 2), .int .i64 (r 3), .int .i64 (r 4), .int .i64 (r 5), .int .i64 (r 6), .int .i64 (r 7), .int .i64 (r 8), .int .i64 (r 9), .int .i64 (r 10), .int .i64 (r 11), .int .i64 (r 12), .int .i64 (r 13), .int .i64 (r 14), .int .i64 (r 15), .int .i64 a19, .slice A20 a22.length c21, .int .i64 a23] 260 :: OSf E_api_Out 265 (.slice A20 a22.length c21) a22 :: l) hf) := by
  have h := Holds.of h
  refine en func141 rfl ntmps141 rfl (sr (bx hS rfl rfl rfl rfl fun b31 w hS => ln (RC.planS (plD [0, 3, 7, 9, 12, 16, 18, 21, 24, 28, 32, 35, 38, 41]) [12, 13] hS (fun w hS => hS) follows rfl (by kernel_rfl) NoTmp.body fun w hS => pp 1 rfl (RP.s0 1 rfl (fun w => Vl.fa 1 underlying269 rfl sizeOf3 rfl rfl) rfl (RP.s 0 2 rfl rfl hS (fun w hS => Vl.ld 0 hS isAgg3 rfl rfl rfl) rfl (pp 1 rfl (RP.s0 4 rfl (fun w => Vl.fa 2 underlying269 rfl sizeOf3 rfl rfl) rfl (RP.s 0 5 rfl rfl hS (fun w hS => Vl.ld 0 hS isAgg3 rfl rfl rfl) rfl (pp 1 rfl (RP.s0 7 rfl (fun w => Vl.fa 11 underlying260 rfl sizeOf258 rfl rfl) rfl ?_))))))))))
  obtain ⟨⟨hq32, hq33⟩, h⟩ := h.req
  refine RP.s0 8 rfl (fun w => Vl.indexAddrA (a'' := ⟨b1, 11 + a25.B.toNat * 1, none⟩) underlying258 sizeOf2 rfl rfl hq32 hq33 (add_mk _ _ _)) rfl (RP.s 0 9 rfl rfl hS (fun w hS => Vl.load isAgg2 rfl (hS.cell (off := 11 + a25.B.toNat * 1) (cs := [.slice A3 a2.length c4, .int .i64 a6, .slice A8 a7.length c9, .int .u64 a11, .int .i64 a12, .int .i64 a13, .int .i64 a14, .int .i64 a15, .int .i64 a16, .int .i64 a17, .bool a18] ++ (fc (Value.int .i64) 16 fn24 ++ [.int .i64 a19, .slice A20 a22.length c21, .int .i64 a23])) 1 rfl (seg_get rfl (by omega)))) rfl (RP.v1 10 rfl (Vl.nilCheck rfl) rfl rfl (RP.v1 11 rfl (Vl.fa 11 underlying260 rfl sizeOf258 rfl rfl) rfl rfl ?_)))
  obtain ⟨⟨hq34, hq35⟩, h⟩ := h.req
  refine RP.v1 12 rfl (Vl.indexAddrA (a'' := ⟨b1, 11 + a25.A.toNat * 1, none⟩) underlying258 sizeOf2 rfl rfl hq34 hq35 (add_mk _ _ _)) rfl rfl (RP.e0 13 rfl (OW.storeSeg (mk := (Value.int .i64)) (f := fn24) (n := 16) (m := 11) (pre := [.slice A3 a2.length c4, .int .i64 a6, .slice A8 a7.length c9, .int .u64 a11, .int .i64 a12, .int .i64 a13, .int .i64 a14, .int .i64 a15, .int .i64 a16, .int .i64 a17, .bool a18]) (post := [.int .i64 a19, .slice A20 a22.length c21, .int .i64 a23]) 1 hS rfl rfl rfl rfl sizeOf2 (by omega) (fun _ => rfl) (fun _ => rfl) rfl) rfl ?_)
  rintro _ w ⟨rfl, hS⟩
  have hS : St B w (_ :: _ :: _ :: l) hf := hS
  refine ⟨kp ⟨(by intro hx; cases hx), trivial⟩, ?_⟩
  refine RP.nil ?_
  obtain rfl := h.some
  exact rtE results141 rfl ⟨rfl, hS.d0⟩
def vm_cpu_add.f (a2 : List api_Instr) (a6 : Int) (a7 : List api_Link) (a11 a12 a13 a14 a15 a16 a17 : Int) (a18 : Bool) (a19 : Int) (a22 : List api_Out) (a23 : Int) (fn24 : (Nat → Int)) (a25 : api_Instr) : Option ((Nat → Int)) := (if 0 ≤ a25.B ∧ a25.B < 16 then (if 0 ≤ a25.C ∧ a25.C < 16 then (if 0 ≤ a25.A ∧ a25.A < 16 then some (upd fn24 (a25.A.toNat * 1) (IntKind.i64.wrap ((fn24 (a25.B.toNat * 1)) + (fn24 (a25.C.toNat * 1))))) else none) else none) else none)
theorem vm_cpu_add.ok {a2 : List api_Instr} {a6 : Int} {a7 : List api_Link} {a11 a12 a13 a14 a15 a16 a17 : Int} {a18 : Bool} {a19 : Int} {a22 : List api_Out} {a23 : Int} {fn24 : (Nat → Int)} {a25 : api_Instr} {b1 : Nat} {A3 : Option Addr} {c4 : Nat} {A8 : Option Addr} {c9 : Nat} {A20 : Option Addr} {c21 : Nat} (hr5 : SlR E_api_Instr.rep hf A3 c4 a2) (hr10 : SlR E_api_Link.rep hf A8 c9 a7) {r : (Nat → Int)} (h : vm_cpu_add.f a2 a6 a7 a11 a12 a13 a14 a15 a16 a17 a18 a19 a22 a23 fn24 a25 = some r) (hS : St B w (Cl b1 [.slice A3 a2.length c4, .int .i64 a6, .slice A8 a7.length c9, .int .u64 a11, .int .i64 a12, .int .i64 a13, .int .i64 a14, .int .i64 a15, .int .i64 a16, .int .i64 a17, .bool a18, .int .i64 (fn24 0), .int .i64 (fn24 1), .int .i64 (fn24 2), .int .i64 (fn24 3), .int .i64 (fn24 4), .int .i64 (fn24 5), .int .i64 (fn24 6), .int .i64 (fn24 7), .int .i64 (fn24 8), .int .i64 (fn24 9), .int .i64 (fn24 10), .int .i64 (fn24 11), .int .i64 (fn24 12), .int .i64 (fn24 13), .int .i64 (fn24 14), .int .i64 (fn24 15), .int .i64 a19, .slice A20 a22.length c21, .int .i64 a23] 260 :: OSf E_api_Out 265 (.slice A20 a22.length c21) a22 :: l) hf) :
    Calls prog 142 #[.pointer (some ⟨b1, 0, none⟩), .agg (C_api_Instr a25).toArray] w (Ret fun v w => v = .tuple #[] ∧ St B w (Cl b1 [.slice A3 a2.length c4, .int .i64 a6, .slice A8 a7.length c9, .int .u64 a11, .int .i64 a12, .int .i64 a13, .int .i64 a14, .int .i64 a15, .int .i64 a16, .int .i64 a17, .bool a18, .int .i64 (r 0), .int .i64 (r 1), .int .i64 (r 2), .int .i64 (r 3), .int .i64 (r 4), .int .i64 (r 5), .int .i64 (r 6), .int .i64 (r 7), .int .i64 (r 8), .int .i64 (r 9), .int .i64 (r 10), .int .i64 (r 11), .int .i64 (r 12), .int .i64 (r 13), .int .i64 (r 14), .int .i64 (r 15), .int .i64 a19, .slice A20 a22.length c21, .int .i64 a23] 260 :: OSf E_api_Out 265 (.slice A20 a22.length c21) a22 :: l) hf) := by
  have h := Holds.of h
  refine en func142 rfl ntmps142 rfl (sr (bx hS rfl rfl rfl rfl fun b33 w hS => ln (RC.planS (plD [0, 3, 7, 9, 12, 16, 18, 21, 24, 28, 30, 33, 37, 39, 42, 45, 49, 51, 56, 59, 62, 65]) [20, 21] hS (fun w hS => hS) follows rfl (by kernel_rfl) NoTmp.body fun w hS => pp 1 rfl (RP.s0 1 rfl (fun w => Vl.fa 1 underlying269 rfl sizeOf3 rfl rfl) rfl (RP.s 0 2 rfl rfl hS (fun w hS => Vl.ld 0 hS isAgg3 rfl rfl rfl) rfl (pp 1 rfl (RP.s0 4 rfl (fun w => Vl.fa 2 underlying269 rfl sizeOf3 rfl rfl) rfl (RP.s 0 5 rfl rfl hS (fun w hS => Vl.ld 0 hS isAgg3 rfl rfl rfl) rfl (pp 1 rfl (RP.s0 7 rfl (fun w => Vl.fa 11 underlying260 rfl sizeOf258 rfl rfl) rfl ?_))))))))))
  obtain ⟨⟨hq34, hq35⟩, h⟩ := h.req
  refine RP.s0 8 rfl (fun w => Vl.indexAddrA (a'' := ⟨b1, 11 + a25.B.toNat * 1, none⟩) underlying258 sizeOf2 rfl rfl hq34 hq35 (add_mk _ _ _)) rfl (RP.s 0 9 rfl rfl hS (fun w hS => Vl.load isAgg2 rfl (hS.cell (off := 11 + a25.B.toNat * 1) (cs := [.slice A3 a2.length c4, .int .i64 a6, .slice A8 a7.length c9, .int .u64 a11, .int .i64 a12, .int .i64 a13, .int .i64 a14, .int .i64 a15, .int .i64 a16, .int .i64 a17, .bool a18] ++ (fc (Value.int .i64) 16 fn24 ++ [.int .i64 a19, .slice A20 a22.length c21, .int .i64 a23])) 1 rfl (seg_get rfl (by omega)))) rfl (pp 1 rfl (RP.s0 11 rfl (fun w => Vl.fa 3 underlying269 rfl sizeOf3 rfl rfl) rfl (RP.s 0 12 rfl rfl hS (fun w hS => Vl.ld 0 hS isAgg3 rfl rfl rfl) rfl (pp 1 rfl (RP.s0 14 rfl (fun w => Vl.fa 11 underlying260 rfl sizeOf258 rfl rfl) rfl ?_))))))
  obtain ⟨⟨hq36, hq37⟩, h⟩ := h.req
  refine RP.s0 15 rfl (fun w => Vl.indexAddrA (a'' := ⟨b1, 11 + a25.C.toNat * 1, none⟩) underlying258 sizeOf2 rfl rfl hq36 hq37 (add_mk _ _ _)) rfl (RP.s 0 16 rfl rfl hS (fun w hS => Vl.load isAgg2 rfl (hS.cell (off := 11 + a25.C.toNat * 1) (cs := [.slice A3 a2.length c4, .int .i64 a6, .slice A8 a7.length c9, .int .u64 a11, .int .i64 a12, .int .i64 a13, .int .i64 a14, .int .i64 a15, .int .i64 a16, .int .i64 a17, .bool a18] ++ (fc (Value.int .i64) 16 fn24 ++ [.int .i64 a19, .slice A20 a22.length c21, .int .i64 a23])) 1 rfl (seg_get rfl (by omega)))) rfl (pp 1 rfl (RP.v1 18 rfl (Vl.nilCheck rfl) rfl rfl (RP.v1 19 rfl (Vl.fa 11 underlying260 rfl sizeOf258 rfl rfl) rfl rfl ?_))))
  obtain ⟨⟨hq38, hq39⟩, h⟩ := h.req
  refine RP.v1 20 rfl (Vl.indexAddrA (a'' := ⟨b1, 11 + a25.A.toNat * 1, none⟩) underlying258 sizeOf2 rfl rfl hq38 hq39 (add_mk _ _ _)) rfl rfl (RP.e0 21 rfl (OW.storeSeg (mk := (Value.int .i64)) (f := fn24) (n := 16) (m := 11) (pre := [.slice A3 a2.length c4, .int .i64 a6, .slice A8 a7.length c9, .int .u64 a11, .int .i64 a12, .int .i64 a13, .int .i64 a14, .int .i64 a15, .int .i64 a16, .int .i64 a17, .bool a18]) (post := [.int .i64 a19, .slice A20 a22.length c21, .int .i64 a23]) 1 hS rfl rfl rfl rfl sizeOf2 (by omega) (fun _ => rfl) (fun _ => rfl) rfl) rfl ?_)
  rintro _ w ⟨rfl, hS⟩
  have hS : St B w (_ :: _ :: _ :: l) hf := hS
  refine ⟨kp ⟨(by intro hx; cases hx), trivial⟩, ?_⟩
  refine RP.nil ?_
  obtain rfl := h.some
  exact rtE results142 rfl ⟨rfl, hS.d0⟩
def vm_cpu_sub.f (a2 : List api_Instr) (a6 : Int) (a7 : List api_Link) (a11 a12 a13 a14 a15 a16 a17 : Int) (a18 : Bool) (a19 : Int) (a22 : List api_Out) (a23 : Int) (fn24 : (Nat → Int)) (a25 : api_Instr) : Option ((Nat → Int)) := (if 0 ≤ a25.B ∧ a25.B < 16 then (if 0 ≤ a25.C ∧ a25.C < 16 then (if 0 ≤ a25.A ∧ a25.A < 16 then some (upd fn24 (a25.A.toNat * 1) (IntKind.i64.wrap ((fn24 (a25.B.toNat * 1)) - (fn24 (a25.C.toNat * 1))))) else none) else none) else none)
theorem vm_cpu_sub.ok {a2 : List api_Instr} {a6 : Int} {a7 : List api_Link} {a11 a12 a13 a14 a15 a16 a17 : Int} {a18 : Bool} {a19 : Int} {a22 : List api_Out} {a23 : Int} {fn24 : (Nat → Int)} {a25 : api_Instr} {b1 : Nat} {A3 : Option Addr} {c4 : Nat} {A8 : Option Addr} {c9 : Nat} {A20 : Option Addr} {c21 : Nat} (hr5 : SlR E_api_Instr.rep hf A3 c4 a2) (hr10 : SlR E_api_Link.rep hf A8 c9 a7) {r : (Nat → Int)} (h : vm_cpu_sub.f a2 a6 a7 a11 a12 a13 a14 a15 a16 a17 a18 a19 a22 a23 fn24 a25 = some r) (hS : St B w (Cl b1 [.slice A3 a2.length c4, .int .i64 a6, .slice A8 a7.length c9, .int .u64 a11, .int .i64 a12, .int .i64 a13, .int .i64 a14, .int .i64 a15, .int .i64 a16, .int .i64 a17, .bool a18, .int .i64 (fn24 0), .int .i64 (fn24 1), .int .i64 (fn24 2), .int .i64 (fn24 3), .int .i64 (fn24 4), .int .i64 (fn24 5), .int .i64 (fn24 6), .int .i64 (fn24 7), .int .i64 (fn24 8), .int .i64 (fn24 9), .int .i64 (fn24 10), .int .i64 (fn24 11), .int .i64 (fn24 12), .int .i64 (fn24 13), .int .i64 (fn24 14), .int .i64 (fn24 15), .int .i64 a19, .slice A20 a22.length c21, .int .i64 a23] 260 :: OSf E_api_Out 265 (.slice A20 a22.length c21) a22 :: l) hf) :
    Calls prog 143 #[.pointer (some ⟨b1, 0, none⟩), .agg (C_api_Instr a25).toArray] w (Ret fun v w => v = .tuple #[] ∧ St B w (Cl b1 [.slice A3 a2.length c4, .int .i64 a6, .slice A8 a7.length c9, .int .u64 a11, .int .i64 a12, .int .i64 a13, .int .i64 a14, .int .i64 a15, .int .i64 a16, .int .i64 a17, .bool a18, .int .i64 (r 0), .int .i64 (r 1), .int .i64 (r 2), .int .i64 (r 3), .int .i64 (r 4), .int .i64 (r 5), .int .i64 (r 6), .int .i64 (r 7), .int .i64 (r 8), .int .i64 (r 9), .int .i64 (r 10), .int .i64 (r 11), .int .i64 (r 12), .int .i64 (r 13), .int .i64 (r 14), .int .i64 (r 15), .int .i64 a19, .slice A20 a22.length c21, .int .i64 a23] 260 :: OSf E_api_Out 265 (.slice A20 a22.length c21) a22 :: l) hf) := by
  have h := Holds.of h
  refine en func143 rfl ntmps143 rfl (sr (bx hS rfl rfl rfl rfl fun b33 w hS => ln (RC.planS (plD [0, 3, 7, 9, 12, 16, 18, 21, 24, 28, 30, 33, 37, 39, 42, 45, 49, 51, 56, 59, 62, 65]) [20, 21] hS (fun w hS => hS) follows rfl (by kernel_rfl) NoTmp.body fun w hS => pp 1 rfl (RP.s0 1 rfl (fun w => Vl.fa 1 underlying269 rfl sizeOf3 rfl rfl) rfl (RP.s 0 2 rfl rfl hS (fun w hS => Vl.ld 0 hS isAgg3 rfl rfl rfl) rfl (pp 1 rfl (RP.s0 4 rfl (fun w => Vl.fa 2 underlying269 rfl sizeOf3 rfl rfl) rfl (RP.s 0 5 rfl rfl hS (fun w hS => Vl.ld 0 hS isAgg3 rfl rfl rfl) rfl (pp 1 rfl (RP.s0 7 rfl (fun w => Vl.fa 11 underlying260 rfl sizeOf258 rfl rfl) rfl ?_))))))))))
  obtain ⟨⟨hq34, hq35⟩, h⟩ := h.req
  refine RP.s0 8 rfl (fun w => Vl.indexAddrA (a'' := ⟨b1, 11 + a25.B.toNat * 1, none⟩) underlying258 sizeOf2 rfl rfl hq34 hq35 (add_mk _ _ _)) rfl (RP.s 0 9 rfl rfl hS (fun w hS => Vl.load isAgg2 rfl (hS.cell (off := 11 + a25.B.toNat * 1) (cs := [.slice A3 a2.length c4, .int .i64 a6, .slice A8 a7.length c9, .int .u64 a11, .int .i64 a12, .int .i64 a13, .int .i64 a14, .int .i64 a15, .int .i64 a16, .int .i64 a17, .bool a18] ++ (fc (Value.int .i64) 16 fn24 ++ [.int .i64 a19, .slice A20 a22.length c21, .int .i64 a23])) 1 rfl (seg_get rfl (by omega)))) rfl (pp 1 rfl (RP.s0 11 rfl (fun w => Vl.fa 3 underlying269 rfl sizeOf3 rfl rfl) rfl (RP.s 0 12 rfl rfl hS (fun w hS => Vl.ld 0 hS isAgg3 rfl rfl rfl) rfl (pp 1 rfl (RP.s0 14 rfl (fun w => Vl.fa 11 underlying260 rfl sizeOf258 rfl rfl) rfl ?_))))))
  obtain ⟨⟨hq36, hq37⟩, h⟩ := h.req
  refine RP.s0 15 rfl (fun w => Vl.indexAddrA (a'' := ⟨b1, 11 + a25.C.toNat * 1, none⟩) underlying258 sizeOf2 rfl rfl hq36 hq37 (add_mk _ _ _)) rfl (RP.s 0 16 rfl rfl hS (fun w hS => Vl.load isAgg2 rfl (hS.cell (off := 11 + a25.C.toNat * 1) (cs := [.slice A3 a2.length c4, .int .i64 a6, .slice A8 a7.length c9, .int .u64 a11, .int .i64 a12, .int .i64 a13, .int .i64 a14, .int .i64 a15, .int .i64 a16, .int .i64 a17, .bool a18] ++ (fc (Value.int .i64) 16 fn24 ++ [.int .i64 a19, .slice A20 a22.length c21, .int .i64 a23])) 1 rfl (seg_get rfl (by omega)))) rfl (pp 1 rfl (RP.v1 18 rfl (Vl.nilCheck rfl) rfl rfl (RP.v1 19 rfl (Vl.fa 11 underlying260 rfl sizeOf258 rfl rfl) rfl rfl ?_))))
  obtain ⟨⟨hq38, hq39⟩, h⟩ := h.req
  refine RP.v1 20 rfl (Vl.indexAddrA (a'' := ⟨b1, 11 + a25.A.toNat * 1, none⟩) underlying258 sizeOf2 rfl rfl hq38 hq39 (add_mk _ _ _)) rfl rfl (RP.e0 21 rfl (OW.storeSeg (mk := (Value.int .i64)) (f := fn24) (n := 16) (m := 11) (pre := [.slice A3 a2.length c4, .int .i64 a6, .slice A8 a7.length c9, .int .u64 a11, .int .i64 a12, .int .i64 a13, .int .i64 a14, .int .i64 a15, .int .i64 a16, .int .i64 a17, .bool a18]) (post := [.int .i64 a19, .slice A20 a22.length c21, .int .i64 a23]) 1 hS rfl rfl rfl rfl sizeOf2 (by omega) (fun _ => rfl) (fun _ => rfl) rfl) rfl ?_)
  rintro _ w ⟨rfl, hS⟩
  have hS : St B w (_ :: _ :: _ :: l) hf := hS
  refine ⟨kp ⟨(by intro hx; cases hx), trivial⟩, ?_⟩
  refine RP.nil ?_
  obtain rfl := h.some
  exact rtE results143 rfl ⟨rfl, hS.d0⟩
def vm_cpu_mul.f (a2 : List api_Instr) (a6 : Int) (a7 : List api_Link) (a11 a12 a13 a14 a15 a16 a17 : Int) (a18 : Bool) (a19 : Int) (a22 : List api_Out) (a23 : Int) (fn24 : (Nat → Int)) (a25 : api_Instr) : Option ((Nat → Int)) := (if 0 ≤ a25.B ∧ a25.B < 16 then (if 0 ≤ a25.C ∧ a25.C < 16 then (if 0 ≤ a25.A ∧ a25.A < 16 then some (upd fn24 (a25.A.toNat * 1) (IntKind.i64.wrap ((fn24 (a25.B.toNat * 1)) * (fn24 (a25.C.toNat * 1))))) else none) else none) else none)
theorem vm_cpu_mul.ok {a2 : List api_Instr} {a6 : Int} {a7 : List api_Link} {a11 a12 a13 a14 a15 a16 a17 : Int} {a18 : Bool} {a19 : Int} {a22 : List api_Out} {a23 : Int} {fn24 : (Nat → Int)} {a25 : api_Instr} {b1 : Nat} {A3 : Option Addr} {c4 : Nat} {A8 : Option Addr} {c9 : Nat} {A20 : Option Addr} {c21 : Nat} (hr5 : SlR E_api_Instr.rep hf A3 c4 a2) (hr10 : SlR E_api_Link.rep hf A8 c9 a7) {r : (Nat → Int)} (h : vm_cpu_mul.f a2 a6 a7 a11 a12 a13 a14 a15 a16 a17 a18 a19 a22 a23 fn24 a25 = some r) (hS : St B w (Cl b1 [.slice A3 a2.length c4, .int .i64 a6, .slice A8 a7.length c9, .int .u64 a11, .int .i64 a12, .int .i64 a13, .int .i64 a14, .int .i64 a15, .int .i64 a16, .int .i64 a17, .bool a18, .int .i64 (fn24 0), .int .i64 (fn24 1), .int .i64 (fn24 2), .int .i64 (fn24 3), .int .i64 (fn24 4), .int .i64 (fn24 5), .int .i64 (fn24 6), .int .i64 (fn24 7), .int .i64 (fn24 8), .int .i64 (fn24 9), .int .i64 (fn24 10), .int .i64 (fn24 11), .int .i64 (fn24 12), .int .i64 (fn24 13), .int .i64 (fn24 14), .int .i64 (fn24 15), .int .i64 a19, .slice A20 a22.length c21, .int .i64 a23] 260 :: OSf E_api_Out 265 (.slice A20 a22.length c21) a22 :: l) hf) :
    Calls prog 144 #[.pointer (some ⟨b1, 0, none⟩), .agg (C_api_Instr a25).toArray] w (Ret fun v w => v = .tuple #[] ∧ St B w (Cl b1 [.slice A3 a2.length c4, .int .i64 a6, .slice A8 a7.length c9, .int .u64 a11, .int .i64 a12, .int .i64 a13, .int .i64 a14, .int .i64 a15, .int .i64 a16, .int .i64 a17, .bool a18, .int .i64 (r 0), .int .i64 (r 1), .int .i64 (r 2), .int .i64 (r 3), .int .i64 (r 4), .int .i64 (r 5), .int .i64 (r 6), .int .i64 (r 7), .int .i64 (r 8), .int .i64 (r 9), .int .i64 (r 10), .int .i64 (r 11), .int .i64 (r 12), .int .i64 (r 13), .int .i64 (r 14), .int .i64 (r 15), .int .i64 a19, .slice A20 a22.length c21, .int .i64 a23] 260 :: OSf E_api_Out 265 (.slice A20 a22.length c21) a22 :: l) hf) := by
  have h := Holds.of h
  refine en func144 rfl ntmps144 rfl (sr (bx hS rfl rfl rfl rfl fun b33 w hS => ln (RC.planS (plD [0, 3, 7, 9, 12, 16, 18, 21, 24, 28, 30, 33, 37, 39, 42, 45, 49, 51, 56, 59, 62, 65]) [20, 21] hS (fun w hS => hS) follows rfl (by kernel_rfl) NoTmp.body fun w hS => pp 1 rfl (RP.s0 1 rfl (fun w => Vl.fa 1 underlying269 rfl sizeOf3 rfl rfl) rfl (RP.s 0 2 rfl rfl hS (fun w hS => Vl.ld 0 hS isAgg3 rfl rfl rfl) rfl (pp 1 rfl (RP.s0 4 rfl (fun w => Vl.fa 2 underlying269 rfl sizeOf3 rfl rfl) rfl (RP.s 0 5 rfl rfl hS (fun w hS => Vl.ld 0 hS isAgg3 rfl rfl rfl) rfl (pp 1 rfl (RP.s0 7 rfl (fun w => Vl.fa 11 underlying260 rfl sizeOf258 rfl rfl) rfl ?_))))))))))
  obtain ⟨⟨hq34, hq35⟩, h⟩ := h.req
  refine RP.s0 8 rfl (fun w => Vl.indexAddrA (a'' := ⟨b1, 11 + a25.B.toNat * 1, none⟩) underlying258 sizeOf2 rfl rfl hq34 hq35 (add_mk _ _ _)) rfl (RP.s 0 9 rfl rfl hS (fun w hS => Vl.load isAgg2 rfl (hS.cell (off := 11 + a25.B.toNat * 1) (cs := [.slice A3 a2.length c4, .int .i64 a6, .slice A8 a7.length c9, .int .u64 a11, .int .i64 a12, .int .i64 a13, .int .i64 a14, .int .i64 a15, .int .i64 a16, .int .i64 a17, .bool a18] ++ (fc (Value.int .i64) 16 fn24 ++ [.int .i64 a19, .slice A20 a22.length c21, .int .i64 a23])) 1 rfl (seg_get rfl (by omega)))) rfl (pp 1 rfl (RP.s0 11 rfl (fun w => Vl.fa 3 underlying269 rfl sizeOf3 rfl rfl) rfl (RP.s 0 12 rfl rfl hS (fun w hS => Vl.ld 0 hS isAgg3 rfl rfl rfl) rfl (pp 1 rfl (RP.s0 14 rfl (fun w => Vl.fa 11 underlying260 rfl sizeOf258 rfl rfl) rfl ?_))))))
  obtain ⟨⟨hq36, hq37⟩, h⟩ := h.req
  refine RP.s0 15 rfl (fun w => Vl.indexAddrA (a'' := ⟨b1, 11 + a25.C.toNat * 1, none⟩) underlying258 sizeOf2 rfl rfl hq36 hq37 (add_mk _ _ _)) rfl (RP.s 0 16 rfl rfl hS (fun w hS => Vl.load isAgg2 rfl (hS.cell (off := 11 + a25.C.toNat * 1) (cs := [.slice A3 a2.length c4, .int .i64 a6, .slice A8 a7.length c9, .int .u64 a11, .int .i64 a12, .int .i64 a13, .int .i64 a14, .int .i64 a15, .int .i64 a16, .int .i64 a17, .bool a18] ++ (fc (Value.int .i64) 16 fn24 ++ [.int .i64 a19, .slice A20 a22.length c21, .int .i64 a23])) 1 rfl (seg_get rfl (by omega)))) rfl (pp 1 rfl (RP.v1 18 rfl (Vl.nilCheck rfl) rfl rfl (RP.v1 19 rfl (Vl.fa 11 underlying260 rfl sizeOf258 rfl rfl) rfl rfl ?_))))
  obtain ⟨⟨hq38, hq39⟩, h⟩ := h.req
  refine RP.v1 20 rfl (Vl.indexAddrA (a'' := ⟨b1, 11 + a25.A.toNat * 1, none⟩) underlying258 sizeOf2 rfl rfl hq38 hq39 (add_mk _ _ _)) rfl rfl (RP.e0 21 rfl (OW.storeSeg (mk := (Value.int .i64)) (f := fn24) (n := 16) (m := 11) (pre := [.slice A3 a2.length c4, .int .i64 a6, .slice A8 a7.length c9, .int .u64 a11, .int .i64 a12, .int .i64 a13, .int .i64 a14, .int .i64 a15, .int .i64 a16, .int .i64 a17, .bool a18]) (post := [.int .i64 a19, .slice A20 a22.length c21, .int .i64 a23]) 1 hS rfl rfl rfl rfl sizeOf2 (by omega) (fun _ => rfl) (fun _ => rfl) rfl) rfl ?_)
  rintro _ w ⟨rfl, hS⟩
  have hS : St B w (_ :: _ :: _ :: l) hf := hS
  refine ⟨kp ⟨(by intro hx; cases hx), trivial⟩, ?_⟩
  refine RP.nil ?_
  obtain rfl := h.some
  exact rtE results144 rfl ⟨rfl, hS.d0⟩
def vm_quotient.j2 (a1 a2 : Int) : Option (Int × Int) := (if ¬ a2 = 0 then some (IntKind.i64.wrap (Int.tdiv a1 a2), Int.tmod a1 a2) else none)
def vm_quotient.f (a1 a2 : Int) : Option (Int × Int) := (if a2 = 0 then some (0, 0) else (if a2 = (-1) then (if a1 = (-9223372036854775808) then some (a1, 0) else vm_quotient.j2 a1 a2) else vm_quotient.j2 a1 a2))
theorem vm_quotient.ok {a1 a2 : Int} {r : Int × Int} (h : vm_quotient.f a1 a2 = some r) (hS : St B w (l) hf) :
    Calls prog 157 #[.int .i64 a1, .int .i64 a2] w (Ret fun v w => v = .tuple #[.int .i64 r.1, .int .i64 r.2] ∧ St B w (l) hf) := by
  have h := Holds.of h
  refine en func157 rfl ntmps157 rfl (sr (pn 2 rfl (ln ?_)))
  refine RC.join (fun (s : Unit) a w => s = () ∧ Has 23 [(0, .int .i64 a1), (1, .int .i64 a2)] a ∧ St B w (l) hf ∧ Holds (· = r) (vm_quotient.j2 a1 a2)) ?_ ?_
  · rintro _ a w ⟨rfl, ha, hS, h⟩
    revert a
    show RC _ _ _ _ _ _
    refine RC.seq (RC.planS (plD [0, 3, 6, 9, 12, 15, 20, 23]) [6, 7] hS (fun w hS => hS) follows rfl (by kernel_rfl) (NoTmp.then NoTmp.body) fun w hS => pp 2 rfl ?_)
    obtain ⟨hq13, h⟩ := h.req
    refine RP.s0 2 rfl (fun w => Vl.quo rfl rfl hq13) rfl (pp 2 rfl (RP.s0 5 rfl (fun w => Vl.rem rfl rfl hq13) rfl (RP.v1 6 rfl (Vl.assign rfl) rfl rfl (RP.v1 7 rfl (Vl.assign rfl) rfl rfl (RP.nil (tr ?_))))))
    obtain rfl := h.some
    exact rt results157 rfl ⟨rfl, hS⟩
  refine RC.block (sr (pn 3 rfl (ln ?_)))
  refine RC.iteP 6 rfl h (fun hc14 h => ?_) fun hc14 h => ?_
  next =>
   refine RC.condT rfl (sr (pn 2 rfl (lr (RQ.inB_ret (RQ.ret ?_)))))
   obtain rfl := h.some
   exact rt results157 rfl ⟨rfl, hS⟩
  refine RC.condF rfl (sr (pn 3 rfl ?_))
  refine RL.iteP 12 rfl h (fun hc15 h => ?_) fun hc15 h => ?_
  next =>
   refine pn 4 rfl (ln ?_)
   refine RC.iteP 9 rfl h (fun hc16 h => ?_) fun hc16 h => ?_
   next =>
    refine RC.condT rfl (sr (pn 3 rfl (lr (RQ.inB_ret (RQ.ret ?_)))))
    obtain rfl := h.some
    exact rt results157 rfl ⟨rfl, hS⟩
   refine RC.condF rfl (RC.skip (RQ.inB_n ?_))
   exact fun a ha => ⟨(), rfl, ha.to ⟨rfl, rfl, trivial⟩, hS, h⟩
  refine pn 4 rfl (ln (RC.condF rfl (RC.skip (RQ.inB_n ?_))))
  exact fun a ha => ⟨(), rfl, ha.to ⟨rfl, rfl, trivial⟩, hS, h⟩
def vm_cpu_div.f (a2 : List api_Instr) (a6 : Int) (a7 : List api_Link) (a11 a12 a13 a14 a15 a16 a17 : Int) (a18 : Bool) (a19 : Int) (a22 : List api_Out) (a23 : Int) (fn24 : (Nat → Int)) (a25 : api_Instr) : Option ((Nat → Int)) := (if 0 ≤ a25.B ∧ a25.B < 16 then (if 0 ≤ a25.C ∧ a25.C < 16 then ((vm_quotient.f (fn24 (a25.B.toNat * 1)) (fn24 (a25.C.toNat * 1))).bind fun (y44, y45) => (if 0 ≤ a25.A ∧ a25.A < 16 then some (upd fn24 (a25.A.toNat * 1) y44) else none)) else none) else none)
theorem vm_cpu_div.ok {a2 : List api_Instr} {a6 : Int} {a7 : List api_Link} {a11 a12 a13 a14 a15 a16 a17 : Int} {a18 : Bool} {a19 : Int} {a22 : List api_Out} {a23 : Int} {fn24 : (Nat → Int)} {a25 : api_Instr} {b1 : Nat} {A3 : Option Addr} {c4 : Nat} {A8 : Option Addr} {c9 : Nat} {A20 : Option Addr} {c21 : Nat} (hr5 : SlR E_api_Instr.rep hf A3 c4 a2) (hr10 : SlR E_api_Link.rep hf A8 c9 a7) {r : (Nat → Int)} (h : vm_cpu_div.f a2 a6 a7 a11 a12 a13 a14 a15 a16 a17 a18 a19 a22 a23 fn24 a25 = some r) (hS : St B w (Cl b1 [.slice A3 a2.length c4, .int .i64 a6, .slice A8 a7.length c9, .int .u64 a11, .int .i64 a12, .int .i64 a13, .int .i64 a14, .int .i64 a15, .int .i64 a16, .int .i64 a17, .bool a18, .int .i64 (fn24 0), .int .i64 (fn24 1), .int .i64 (fn24 2), .int .i64 (fn24 3), .int .i64 (fn24 4), .int .i64 (fn24 5), .int .i64 (fn24 6), .int .i64 (fn24 7), .int .i64 (fn24 8), .int .i64 (fn24 9), .int .i64 (fn24 10), .int .i64 (fn24 11), .int .i64 (fn24 12), .int .i64 (fn24 13), .int .i64 (fn24 14), .int .i64 (fn24 15), .int .i64 a19, .slice A20 a22.length c21, .int .i64 a23] 260 :: OSf E_api_Out 265 (.slice A20 a22.length c21) a22 :: l) hf) :
    Calls prog 145 #[.pointer (some ⟨b1, 0, none⟩), .agg (C_api_Instr a25).toArray] w (Ret fun v w => v = .tuple #[] ∧ St B w (Cl b1 [.slice A3 a2.length c4, .int .i64 a6, .slice A8 a7.length c9, .int .u64 a11, .int .i64 a12, .int .i64 a13, .int .i64 a14, .int .i64 a15, .int .i64 a16, .int .i64 a17, .bool a18, .int .i64 (r 0), .int .i64 (r 1), .int .i64 (r 2), .int .i64 (r 3), .int .i64 (r 4), .int .i64 (r 5), .int .i64 (r 6), .int .i64 (r 7), .int .i64 (r 8), .int .i64 (r 9), .int .i64 (r 10), .int .i64 (r 11), .int .i64 (r 12), .int .i64 (r 13), .int .i64 (r 14), .int .i64 (r 15), .int .i64 a19, .slice A20 a22.length c21, .int .i64 a23] 260 :: OSf E_api_Out 265 (.slice A20 a22.length c21) a22 :: l) hf) := by
  have h := Holds.of h
  refine en func145 rfl ntmps145 rfl (sr (bx hS rfl rfl rfl rfl fun b37 w hS => ln (RC.planS (plD [0, 3, 7, 9, 12, 16, 18, 21, 24, 28, 30, 33, 37, 39, 42, 45, 49, 63, 66, 53, 54, 57, 60, 71, 74]) [23, 24] hS (fun w hS => hS) follows rfl (by kernel_rfl) NoTmp.body fun w hS => pp 1 rfl (RP.s0 1 rfl (fun w => Vl.fa 1 underlying269 rfl sizeOf3 rfl rfl) rfl (RP.s 0 2 rfl rfl hS (fun w hS => Vl.ld 0 hS isAgg3 rfl rfl rfl) rfl (pp 1 rfl (RP.s0 4 rfl (fun w => Vl.fa 2 underlying269 rfl sizeOf3 rfl rfl) rfl (RP.s 0 5 rfl rfl hS (fun w hS => Vl.ld 0 hS isAgg3 rfl rfl rfl) rfl (pp 1 rfl (RP.s0 7 rfl (fun w => Vl.fa 11 underlying260 rfl sizeOf258 rfl rfl) rfl ?_))))))))))
  obtain ⟨⟨hq38, hq39⟩, h⟩ := h.req
  refine RP.s0 8 rfl (fun w => Vl.indexAddrA (a'' := ⟨b1, 11 + a25.B.toNat * 1, none⟩) underlying258 sizeOf2 rfl rfl hq38 hq39 (add_mk _ _ _)) rfl (RP.s 0 9 rfl rfl hS (fun w hS => Vl.load isAgg2 rfl (hS.cell (off := 11 + a25.B.toNat * 1) (cs := [.slice A3 a2.length c4, .int .i64 a6, .slice A8 a7.length c9, .int .u64 a11, .int .i64 a12, .int .i64 a13, .int .i64 a14, .int .i64 a15, .int .i64 a16, .int .i64 a17, .bool a18] ++ (fc (Value.int .i64) 16 fn24 ++ [.int .i64 a19, .slice A20 a22.length c21, .int .i64 a23])) 1 rfl (seg_get rfl (by omega)))) rfl (pp 1 rfl (RP.s0 11 rfl (fun w => Vl.fa 3 underlying269 rfl sizeOf3 rfl rfl) rfl (RP.s 0 12 rfl rfl hS (fun w hS => Vl.ld 0 hS isAgg3 rfl rfl rfl) rfl (pp 1 rfl (RP.s0 14 rfl (fun w => Vl.fa 11 underlying260 rfl sizeOf258 rfl rfl) rfl ?_))))))
  obtain ⟨⟨hq40, hq41⟩, h⟩ := h.req
  refine RP.s0 15 rfl (fun w => Vl.indexAddrA (a'' := ⟨b1, 11 + a25.C.toNat * 1, none⟩) underlying258 sizeOf2 rfl rfl hq40 hq41 (add_mk _ _ _)) rfl (RP.s 0 16 rfl rfl hS (fun w hS => Vl.load isAgg2 rfl (hS.cell (off := 11 + a25.C.toNat * 1) (cs := [.slice A3 a2.length c4, .int .i64 a6, .slice A8 a7.length c9, .int .u64 a11, .int .i64 a12, .int .i64 a13, .int .i64 a14, .int .i64 a15, .int .i64 a16, .int .i64 a17, .bool a18] ++ (fc (Value.int .i64) 16 fn24 ++ [.int .i64 a19, .slice A20 a22.length c21, .int .i64 a23])) 1 rfl (seg_get rfl (by omega)))) rfl (pp 1 rfl (RP.s0 22 rfl (fun w => Vl.fa 11 underlying260 rfl sizeOf258 rfl rfl) rfl ?_)))
  obtain ⟨t42, hg43, h⟩ := h.bind
  have hc := vm_quotient.ok hg43 hS
  obtain ⟨y44, y45⟩ := t42
  refine RP.e 17 rfl (OW.callF (ls := [.tmp 14, .tmp 21]) rfl call157 hc) rfl rfl ?_
  rintro _ w ⟨rfl, hS⟩
  refine ⟨kp ⟨fun _ => hS, trivial⟩, ?_⟩
  refine pp 3 rfl ?_
  obtain ⟨⟨hq46, hq47⟩, h⟩ := h.req
  refine RP.v1 23 rfl (Vl.indexAddrA (a'' := ⟨b1, 11 + a25.A.toNat * 1, none⟩) underlying258 sizeOf2 rfl rfl hq46 hq47 (add_mk _ _ _)) rfl rfl (RP.e0 24 rfl (OW.storeSeg (mk := (Value.int .i64)) (f := fn24) (n := 16) (m := 11) (pre := [.slice A3 a2.length c4, .int .i64 a6, .slice A8 a7.length c9, .int .u64 a11, .int .i64 a12, .int .i64 a13, .int .i64 a14, .int .i64 a15, .int .i64 a16, .int .i64 a17, .bool a18]) (post := [.int .i64 a19, .slice A20 a22.length c21, .int .i64 a23]) 1 hS rfl rfl rfl rfl sizeOf2 (by omega) (fun _ => rfl) (fun _ => rfl) rfl) rfl ?_)
  rintro _ w ⟨rfl, hS⟩
  have hS : St B w (_ :: _ :: _ :: l) hf := hS
  refine ⟨kp ⟨(by intro hx; cases hx), trivial⟩, ?_⟩
  refine RP.nil ?_
  obtain rfl := h.some
  exact rtE results145 rfl ⟨rfl, hS.d0⟩
def vm_cpu_mod.f (a2 : List api_Instr) (a6 : Int) (a7 : List api_Link) (a11 a12 a13 a14 a15 a16 a17 : Int) (a18 : Bool) (a19 : Int) (a22 : List api_Out) (a23 : Int) (fn24 : (Nat → Int)) (a25 : api_Instr) : Option ((Nat → Int)) := (if 0 ≤ a25.B ∧ a25.B < 16 then (if 0 ≤ a25.C ∧ a25.C < 16 then ((vm_quotient.f (fn24 (a25.B.toNat * 1)) (fn24 (a25.C.toNat * 1))).bind fun (y44, y45) => (if 0 ≤ a25.A ∧ a25.A < 16 then some (upd fn24 (a25.A.toNat * 1) y45) else none)) else none) else none)
theorem vm_cpu_mod.ok {a2 : List api_Instr} {a6 : Int} {a7 : List api_Link} {a11 a12 a13 a14 a15 a16 a17 : Int} {a18 : Bool} {a19 : Int} {a22 : List api_Out} {a23 : Int} {fn24 : (Nat → Int)} {a25 : api_Instr} {b1 : Nat} {A3 : Option Addr} {c4 : Nat} {A8 : Option Addr} {c9 : Nat} {A20 : Option Addr} {c21 : Nat} (hr5 : SlR E_api_Instr.rep hf A3 c4 a2) (hr10 : SlR E_api_Link.rep hf A8 c9 a7) {r : (Nat → Int)} (h : vm_cpu_mod.f a2 a6 a7 a11 a12 a13 a14 a15 a16 a17 a18 a19 a22 a23 fn24 a25 = some r) (hS : St B w (Cl b1 [.slice A3 a2.length c4, .int .i64 a6, .slice A8 a7.length c9, .int .u64 a11, .int .i64 a12, .int .i64 a13, .int .i64 a14, .int .i64 a15, .int .i64 a16, .int .i64 a17, .bool a18, .int .i64 (fn24 0), .int .i64 (fn24 1), .int .i64 (fn24 2), .int .i64 (fn24 3), .int .i64 (fn24 4), .int .i64 (fn24 5), .int .i64 (fn24 6), .int .i64 (fn24 7), .int .i64 (fn24 8), .int .i64 (fn24 9), .int .i64 (fn24 10), .int .i64 (fn24 11), .int .i64 (fn24 12), .int .i64 (fn24 13), .int .i64 (fn24 14), .int .i64 (fn24 15), .int .i64 a19, .slice A20 a22.length c21, .int .i64 a23] 260 :: OSf E_api_Out 265 (.slice A20 a22.length c21) a22 :: l) hf) :
    Calls prog 146 #[.pointer (some ⟨b1, 0, none⟩), .agg (C_api_Instr a25).toArray] w (Ret fun v w => v = .tuple #[] ∧ St B w (Cl b1 [.slice A3 a2.length c4, .int .i64 a6, .slice A8 a7.length c9, .int .u64 a11, .int .i64 a12, .int .i64 a13, .int .i64 a14, .int .i64 a15, .int .i64 a16, .int .i64 a17, .bool a18, .int .i64 (r 0), .int .i64 (r 1), .int .i64 (r 2), .int .i64 (r 3), .int .i64 (r 4), .int .i64 (r 5), .int .i64 (r 6), .int .i64 (r 7), .int .i64 (r 8), .int .i64 (r 9), .int .i64 (r 10), .int .i64 (r 11), .int .i64 (r 12), .int .i64 (r 13), .int .i64 (r 14), .int .i64 (r 15), .int .i64 a19, .slice A20 a22.length c21, .int .i64 a23] 260 :: OSf E_api_Out 265 (.slice A20 a22.length c21) a22 :: l) hf) := by
  have h := Holds.of h
  refine en func146 rfl ntmps146 rfl (sr (bx hS rfl rfl rfl rfl fun b37 w hS => ln (RC.planS (plD [0, 3, 7, 9, 12, 16, 18, 21, 24, 28, 30, 33, 37, 39, 42, 45, 49, 63, 66, 53, 54, 57, 62, 71, 74]) [23, 24] hS (fun w hS => hS) follows rfl (by kernel_rfl) NoTmp.body fun w hS => pp 1 rfl (RP.s0 1 rfl (fun w => Vl.fa 1 underlying269 rfl sizeOf3 rfl rfl) rfl (RP.s 0 2 rfl rfl hS (fun w hS => Vl.ld 0 hS isAgg3 rfl rfl rfl) rfl (pp 1 rfl (RP.s0 4 rfl (fun w => Vl.fa 2 underlying269 rfl sizeOf3 rfl rfl) rfl (RP.s 0 5 rfl rfl hS (fun w hS => Vl.ld 0 hS isAgg3 rfl rfl rfl) rfl (pp 1 rfl (RP.s0 7 rfl (fun w => Vl.fa 11 underlying260 rfl sizeOf258 rfl rfl) rfl ?_))))))))))
  obtain ⟨⟨hq38, hq39⟩, h⟩ := h.req
  refine RP.s0 8 rfl (fun w => Vl.indexAddrA (a'' := ⟨b1, 11 + a25.B.toNat * 1, none⟩) underlying258 sizeOf2 rfl rfl hq38 hq39 (add_mk _ _ _)) rfl (RP.s 0 9 rfl rfl hS (fun w hS => Vl.load isAgg2 rfl (hS.cell (off := 11 + a25.B.toNat * 1) (cs := [.slice A3 a2.length c4, .int .i64 a6, .slice A8 a7.length c9, .int .u64 a11, .int .i64 a12, .int .i64 a13, .int .i64 a14, .int .i64 a15, .int .i64 a16, .int .i64 a17, .bool a18] ++ (fc (Value.int .i64) 16 fn24 ++ [.int .i64 a19, .slice A20 a22.length c21, .int .i64 a23])) 1 rfl (seg_get rfl (by omega)))) rfl (pp 1 rfl (RP.s0 11 rfl (fun w => Vl.fa 3 underlying269 rfl sizeOf3 rfl rfl) rfl (RP.s 0 12 rfl rfl hS (fun w hS => Vl.ld 0 hS isAgg3 rfl rfl rfl) rfl (pp 1 rfl (RP.s0 14 rfl (fun w => Vl.fa 11 underlying260 rfl sizeOf258 rfl rfl) rfl ?_))))))
  obtain ⟨⟨hq40, hq41⟩, h⟩ := h.req
  refine RP.s0 15 rfl (fun w => Vl.indexAddrA (a'' := ⟨b1, 11 + a25.C.toNat * 1, none⟩) underlying258 sizeOf2 rfl rfl hq40 hq41 (add_mk _ _ _)) rfl (RP.s 0 16 rfl rfl hS (fun w hS => Vl.load isAgg2 rfl (hS.cell (off := 11 + a25.C.toNat * 1) (cs := [.slice A3 a2.length c4, .int .i64 a6, .slice A8 a7.length c9, .int .u64 a11, .int .i64 a12, .int .i64 a13, .int .i64 a14, .int .i64 a15, .int .i64 a16, .int .i64 a17, .bool a18] ++ (fc (Value.int .i64) 16 fn24 ++ [.int .i64 a19, .slice A20 a22.length c21, .int .i64 a23])) 1 rfl (seg_get rfl (by omega)))) rfl (pp 1 rfl (RP.s0 22 rfl (fun w => Vl.fa 11 underlying260 rfl sizeOf258 rfl rfl) rfl ?_)))
  obtain ⟨t42, hg43, h⟩ := h.bind
  have hc := vm_quotient.ok hg43 hS
  obtain ⟨y44, y45⟩ := t42
  refine RP.e 17 rfl (OW.callF (ls := [.tmp 14, .tmp 21]) rfl call157 hc) rfl rfl ?_
  rintro _ w ⟨rfl, hS⟩
  refine ⟨kp ⟨fun _ => hS, trivial⟩, ?_⟩
  refine pp 2 rfl (RP.v1 20 rfl (Vl.extract rfl rfl) rfl rfl ?_)
  obtain ⟨⟨hq46, hq47⟩, h⟩ := h.req
  refine RP.v1 23 rfl (Vl.indexAddrA (a'' := ⟨b1, 11 + a25.A.toNat * 1, none⟩) underlying258 sizeOf2 rfl rfl hq46 hq47 (add_mk _ _ _)) rfl rfl (RP.e0 24 rfl (OW.storeSeg (mk := (Value.int .i64)) (f := fn24) (n := 16) (m := 11) (pre := [.slice A3 a2.length c4, .int .i64 a6, .slice A8 a7.length c9, .int .u64 a11, .int .i64 a12, .int .i64 a13, .int .i64 a14, .int .i64 a15, .int .i64 a16, .int .i64 a17, .bool a18]) (post := [.int .i64 a19, .slice A20 a22.length c21, .int .i64 a23]) 1 hS rfl rfl rfl rfl sizeOf2 (by omega) (fun _ => rfl) (fun _ => rfl) rfl) rfl ?_)
  rintro _ w ⟨rfl, hS⟩
  have hS : St B w (_ :: _ :: _ :: l) hf := hS
  refine ⟨kp ⟨(by intro hx; cases hx), trivial⟩, ?_⟩
  refine RP.nil ?_
  obtain rfl := h.some
  exact rtE results146 rfl ⟨rfl, hS.d0⟩
def vm_truth.f (a1 : Bool) : Option (Int) := (if a1 = true then some 1 else some 0)
theorem vm_truth.ok {a1 : Bool} {r : Int} (h : vm_truth.f a1 = some r) (hS : St B w (l) hf) :
    Calls prog 158 #[.bool a1] w (Ret fun v w => v = .int .i64 r ∧ St B w (l) hf) := by
  have h := Holds.of h
  refine en func158 rfl ntmps158 rfl (sr (pn 1 rfl (ln (RC.seq (sr (pn 1 rfl (ln ?_)))))))
  refine RC.iteB 3 rfl h (fun hc3 h => ?_) fun hc3 h => ?_
  next =>
   refine RC.condT rfl (sr (pn 1 rfl (lr (RQ.ret ?_))))
   obtain rfl := h.some
   exact rt results158 rfl ⟨rfl, hS⟩
  refine RC.condF rfl (sk (sr (pn 1 rfl (lr ?_))))
  obtain rfl := h.some
  exact rt results158 rfl ⟨rfl, hS⟩
def vm_cpu_less.f (a2 : List api_Instr) (a6 : Int) (a7 : List api_Link) (a11 a12 a13 a14 a15 a16 a17 : Int) (a18 : Bool) (a19 : Int) (a22 : List api_Out) (a23 : Int) (fn24 : (Nat → Int)) (a25 : api_Instr) : Option ((Nat → Int)) := (if 0 ≤ a25.B ∧ a25.B < 16 then (if 0 ≤ a25.C ∧ a25.C < 16 then ((vm_truth.f (decide (fn24 (a25.B.toNat * 1) < fn24 (a25.C.toNat * 1)))).bind fun t40 => (if 0 ≤ a25.A ∧ a25.A < 16 then some (upd fn24 (a25.A.toNat * 1) t40) else none)) else none) else none)
theorem vm_cpu_less.ok {a2 : List api_Instr} {a6 : Int} {a7 : List api_Link} {a11 a12 a13 a14 a15 a16 a17 : Int} {a18 : Bool} {a19 : Int} {a22 : List api_Out} {a23 : Int} {fn24 : (Nat → Int)} {a25 : api_Instr} {b1 : Nat} {A3 : Option Addr} {c4 : Nat} {A8 : Option Addr} {c9 : Nat} {A20 : Option Addr} {c21 : Nat} (hr5 : SlR E_api_Instr.rep hf A3 c4 a2) (hr10 : SlR E_api_Link.rep hf A8 c9 a7) {r : (Nat → Int)} (h : vm_cpu_less.f a2 a6 a7 a11 a12 a13 a14 a15 a16 a17 a18 a19 a22 a23 fn24 a25 = some r) (hS : St B w (Cl b1 [.slice A3 a2.length c4, .int .i64 a6, .slice A8 a7.length c9, .int .u64 a11, .int .i64 a12, .int .i64 a13, .int .i64 a14, .int .i64 a15, .int .i64 a16, .int .i64 a17, .bool a18, .int .i64 (fn24 0), .int .i64 (fn24 1), .int .i64 (fn24 2), .int .i64 (fn24 3), .int .i64 (fn24 4), .int .i64 (fn24 5), .int .i64 (fn24 6), .int .i64 (fn24 7), .int .i64 (fn24 8), .int .i64 (fn24 9), .int .i64 (fn24 10), .int .i64 (fn24 11), .int .i64 (fn24 12), .int .i64 (fn24 13), .int .i64 (fn24 14), .int .i64 (fn24 15), .int .i64 a19, .slice A20 a22.length c21, .int .i64 a23] 260 :: OSf E_api_Out 265 (.slice A20 a22.length c21) a22 :: l) hf) :
    Calls prog 147 #[.pointer (some ⟨b1, 0, none⟩), .agg (C_api_Instr a25).toArray] w (Ret fun v w => v = .tuple #[] ∧ St B w (Cl b1 [.slice A3 a2.length c4, .int .i64 a6, .slice A8 a7.length c9, .int .u64 a11, .int .i64 a12, .int .i64 a13, .int .i64 a14, .int .i64 a15, .int .i64 a16, .int .i64 a17, .bool a18, .int .i64 (r 0), .int .i64 (r 1), .int .i64 (r 2), .int .i64 (r 3), .int .i64 (r 4), .int .i64 (r 5), .int .i64 (r 6), .int .i64 (r 7), .int .i64 (r 8), .int .i64 (r 9), .int .i64 (r 10), .int .i64 (r 11), .int .i64 (r 12), .int .i64 (r 13), .int .i64 (r 14), .int .i64 (r 15), .int .i64 a19, .slice A20 a22.length c21, .int .i64 a23] 260 :: OSf E_api_Out 265 (.slice A20 a22.length c21) a22 :: l) hf) := by
  have h := Holds.of h
  refine en func147 rfl ntmps147 rfl (sr (bx hS rfl rfl rfl rfl fun b35 w hS => ln (RC.planS (plD [0, 3, 7, 9, 12, 16, 18, 21, 24, 28, 30, 33, 37, 39, 42, 45, 49, 51, 57, 60, 56, 65, 68]) [21, 22] hS (fun w hS => hS) follows rfl (by kernel_rfl) NoTmp.body fun w hS => pp 1 rfl (RP.s0 1 rfl (fun w => Vl.fa 1 underlying269 rfl sizeOf3 rfl rfl) rfl (RP.s 0 2 rfl rfl hS (fun w hS => Vl.ld 0 hS isAgg3 rfl rfl rfl) rfl (pp 1 rfl (RP.s0 4 rfl (fun w => Vl.fa 2 underlying269 rfl sizeOf3 rfl rfl) rfl (RP.s 0 5 rfl rfl hS (fun w hS => Vl.ld 0 hS isAgg3 rfl rfl rfl) rfl (pp 1 rfl (RP.s0 7 rfl (fun w => Vl.fa 11 underlying260 rfl sizeOf258 rfl rfl) rfl ?_))))))))))
  obtain ⟨⟨hq36, hq37⟩, h⟩ := h.req
  refine RP.s0 8 rfl (fun w => Vl.indexAddrA (a'' := ⟨b1, 11 + a25.B.toNat * 1, none⟩) underlying258 sizeOf2 rfl rfl hq36 hq37 (add_mk _ _ _)) rfl (RP.s 0 9 rfl rfl hS (fun w hS => Vl.load isAgg2 rfl (hS.cell (off := 11 + a25.B.toNat * 1) (cs := [.slice A3 a2.length c4, .int .i64 a6, .slice A8 a7.length c9, .int .u64 a11, .int .i64 a12, .int .i64 a13, .int .i64 a14, .int .i64 a15, .int .i64 a16, .int .i64 a17, .bool a18] ++ (fc (Value.int .i64) 16 fn24 ++ [.int .i64 a19, .slice A20 a22.length c21, .int .i64 a23])) 1 rfl (seg_get rfl (by omega)))) rfl (pp 1 rfl (RP.s0 11 rfl (fun w => Vl.fa 3 underlying269 rfl sizeOf3 rfl rfl) rfl (RP.s 0 12 rfl rfl hS (fun w hS => Vl.ld 0 hS isAgg3 rfl rfl rfl) rfl (pp 1 rfl (RP.s0 14 rfl (fun w => Vl.fa 11 underlying260 rfl sizeOf258 rfl rfl) rfl ?_))))))
  obtain ⟨⟨hq38, hq39⟩, h⟩ := h.req
  refine RP.s0 15 rfl (fun w => Vl.indexAddrA (a'' := ⟨b1, 11 + a25.C.toNat * 1, none⟩) underlying258 sizeOf2 rfl rfl hq38 hq39 (add_mk _ _ _)) rfl (RP.s 0 16 rfl rfl hS (fun w hS => Vl.load isAgg2 rfl (hS.cell (off := 11 + a25.C.toNat * 1) (cs := [.slice A3 a2.length c4, .int .i64 a6, .slice A8 a7.length c9, .int .u64 a11, .int .i64 a12, .int .i64 a13, .int .i64 a14, .int .i64 a15, .int .i64 a16, .int .i64 a17, .bool a18] ++ (fc (Value.int .i64) 16 fn24 ++ [.int .i64 a19, .slice A20 a22.length c21, .int .i64 a23])) 1 rfl (seg_get rfl (by omega)))) rfl (pp 2 rfl (RP.s0 20 rfl (fun w => Vl.fa 11 underlying260 rfl sizeOf258 rfl rfl) rfl ?_)))
  obtain ⟨t40, hg41, h⟩ := h.bind
  have hc := vm_truth.ok hg41 hS
  refine RP.e 18 rfl (OW.callF (ls := [.tmp 21]) rfl call158 hc) rfl rfl ?_
  rintro _ w ⟨rfl, hS⟩
  refine ⟨kp ⟨fun _ => hS, trivial⟩, ?_⟩
  obtain ⟨⟨hq42, hq43⟩, h⟩ := h.req
  refine RP.v1 21 rfl (Vl.indexAddrA (a'' := ⟨b1, 11 + a25.A.toNat * 1, none⟩) underlying258 sizeOf2 rfl rfl hq42 hq43 (add_mk _ _ _)) rfl rfl (RP.e0 22 rfl (OW.storeSeg (mk := (Value.int .i64)) (f := fn24) (n := 16) (m := 11) (pre := [.slice A3 a2.length c4, .int .i64 a6, .slice A8 a7.length c9, .int .u64 a11, .int .i64 a12, .int .i64 a13, .int .i64 a14, .int .i64 a15, .int .i64 a16, .int .i64 a17, .bool a18]) (post := [.int .i64 a19, .slice A20 a22.length c21, .int .i64 a23]) 1 hS rfl rfl rfl rfl sizeOf2 (by omega) (fun _ => rfl) (fun _ => rfl) rfl) rfl ?_)
  rintro _ w ⟨rfl, hS⟩
  have hS : St B w (_ :: _ :: _ :: l) hf := hS
  refine ⟨kp ⟨(by intro hx; cases hx), trivial⟩, ?_⟩
  refine RP.nil ?_
  obtain rfl := h.some
  exact rtE results147 rfl ⟨rfl, hS.d0⟩
def vm_cpu_same.f (a2 : List api_Instr) (a6 : Int) (a7 : List api_Link) (a11 a12 a13 a14 a15 a16 a17 : Int) (a18 : Bool) (a19 : Int) (a22 : List api_Out) (a23 : Int) (fn24 : (Nat → Int)) (a25 : api_Instr) : Option ((Nat → Int)) := (if 0 ≤ a25.B ∧ a25.B < 16 then (if 0 ≤ a25.C ∧ a25.C < 16 then ((vm_truth.f (decide (fn24 (a25.B.toNat * 1) = fn24 (a25.C.toNat * 1)))).bind fun t40 => (if 0 ≤ a25.A ∧ a25.A < 16 then some (upd fn24 (a25.A.toNat * 1) t40) else none)) else none) else none)
theorem vm_cpu_same.ok {a2 : List api_Instr} {a6 : Int} {a7 : List api_Link} {a11 a12 a13 a14 a15 a16 a17 : Int} {a18 : Bool} {a19 : Int} {a22 : List api_Out} {a23 : Int} {fn24 : (Nat → Int)} {a25 : api_Instr} {b1 : Nat} {A3 : Option Addr} {c4 : Nat} {A8 : Option Addr} {c9 : Nat} {A20 : Option Addr} {c21 : Nat} (hr5 : SlR E_api_Instr.rep hf A3 c4 a2) (hr10 : SlR E_api_Link.rep hf A8 c9 a7) {r : (Nat → Int)} (h : vm_cpu_same.f a2 a6 a7 a11 a12 a13 a14 a15 a16 a17 a18 a19 a22 a23 fn24 a25 = some r) (hS : St B w (Cl b1 [.slice A3 a2.length c4, .int .i64 a6, .slice A8 a7.length c9, .int .u64 a11, .int .i64 a12, .int .i64 a13, .int .i64 a14, .int .i64 a15, .int .i64 a16, .int .i64 a17, .bool a18, .int .i64 (fn24 0), .int .i64 (fn24 1), .int .i64 (fn24 2), .int .i64 (fn24 3), .int .i64 (fn24 4), .int .i64 (fn24 5), .int .i64 (fn24 6), .int .i64 (fn24 7), .int .i64 (fn24 8), .int .i64 (fn24 9), .int .i64 (fn24 10), .int .i64 (fn24 11), .int .i64 (fn24 12), .int .i64 (fn24 13), .int .i64 (fn24 14), .int .i64 (fn24 15), .int .i64 a19, .slice A20 a22.length c21, .int .i64 a23] 260 :: OSf E_api_Out 265 (.slice A20 a22.length c21) a22 :: l) hf) :
    Calls prog 148 #[.pointer (some ⟨b1, 0, none⟩), .agg (C_api_Instr a25).toArray] w (Ret fun v w => v = .tuple #[] ∧ St B w (Cl b1 [.slice A3 a2.length c4, .int .i64 a6, .slice A8 a7.length c9, .int .u64 a11, .int .i64 a12, .int .i64 a13, .int .i64 a14, .int .i64 a15, .int .i64 a16, .int .i64 a17, .bool a18, .int .i64 (r 0), .int .i64 (r 1), .int .i64 (r 2), .int .i64 (r 3), .int .i64 (r 4), .int .i64 (r 5), .int .i64 (r 6), .int .i64 (r 7), .int .i64 (r 8), .int .i64 (r 9), .int .i64 (r 10), .int .i64 (r 11), .int .i64 (r 12), .int .i64 (r 13), .int .i64 (r 14), .int .i64 (r 15), .int .i64 a19, .slice A20 a22.length c21, .int .i64 a23] 260 :: OSf E_api_Out 265 (.slice A20 a22.length c21) a22 :: l) hf) := by
  have h := Holds.of h
  refine en func148 rfl ntmps148 rfl (sr (bx hS rfl rfl rfl rfl fun b35 w hS => ln (RC.planS (plD [0, 3, 7, 9, 12, 16, 18, 21, 24, 28, 30, 33, 37, 39, 42, 45, 49, 51, 57, 60, 56, 65, 68]) [21, 22] hS (fun w hS => hS) follows rfl (by kernel_rfl) NoTmp.body fun w hS => pp 1 rfl (RP.s0 1 rfl (fun w => Vl.fa 1 underlying269 rfl sizeOf3 rfl rfl) rfl (RP.s 0 2 rfl rfl hS (fun w hS => Vl.ld 0 hS isAgg3 rfl rfl rfl) rfl (pp 1 rfl (RP.s0 4 rfl (fun w => Vl.fa 2 underlying269 rfl sizeOf3 rfl rfl) rfl (RP.s 0 5 rfl rfl hS (fun w hS => Vl.ld 0 hS isAgg3 rfl rfl rfl) rfl (pp 1 rfl (RP.s0 7 rfl (fun w => Vl.fa 11 underlying260 rfl sizeOf258 rfl rfl) rfl ?_))))))))))
  obtain ⟨⟨hq36, hq37⟩, h⟩ := h.req
  refine RP.s0 8 rfl (fun w => Vl.indexAddrA (a'' := ⟨b1, 11 + a25.B.toNat * 1, none⟩) underlying258 sizeOf2 rfl rfl hq36 hq37 (add_mk _ _ _)) rfl (RP.s 0 9 rfl rfl hS (fun w hS => Vl.load isAgg2 rfl (hS.cell (off := 11 + a25.B.toNat * 1) (cs := [.slice A3 a2.length c4, .int .i64 a6, .slice A8 a7.length c9, .int .u64 a11, .int .i64 a12, .int .i64 a13, .int .i64 a14, .int .i64 a15, .int .i64 a16, .int .i64 a17, .bool a18] ++ (fc (Value.int .i64) 16 fn24 ++ [.int .i64 a19, .slice A20 a22.length c21, .int .i64 a23])) 1 rfl (seg_get rfl (by omega)))) rfl (pp 1 rfl (RP.s0 11 rfl (fun w => Vl.fa 3 underlying269 rfl sizeOf3 rfl rfl) rfl (RP.s 0 12 rfl rfl hS (fun w hS => Vl.ld 0 hS isAgg3 rfl rfl rfl) rfl (pp 1 rfl (RP.s0 14 rfl (fun w => Vl.fa 11 underlying260 rfl sizeOf258 rfl rfl) rfl ?_))))))
  obtain ⟨⟨hq38, hq39⟩, h⟩ := h.req
  refine RP.s0 15 rfl (fun w => Vl.indexAddrA (a'' := ⟨b1, 11 + a25.C.toNat * 1, none⟩) underlying258 sizeOf2 rfl rfl hq38 hq39 (add_mk _ _ _)) rfl (RP.s 0 16 rfl rfl hS (fun w hS => Vl.load isAgg2 rfl (hS.cell (off := 11 + a25.C.toNat * 1) (cs := [.slice A3 a2.length c4, .int .i64 a6, .slice A8 a7.length c9, .int .u64 a11, .int .i64 a12, .int .i64 a13, .int .i64 a14, .int .i64 a15, .int .i64 a16, .int .i64 a17, .bool a18] ++ (fc (Value.int .i64) 16 fn24 ++ [.int .i64 a19, .slice A20 a22.length c21, .int .i64 a23])) 1 rfl (seg_get rfl (by omega)))) rfl (pp 2 rfl (RP.s0 20 rfl (fun w => Vl.fa 11 underlying260 rfl sizeOf258 rfl rfl) rfl ?_)))
  obtain ⟨t40, hg41, h⟩ := h.bind
  have hc := vm_truth.ok hg41 hS
  refine RP.e 18 rfl (OW.callF (ls := [.tmp 21]) rfl call158 hc) rfl rfl ?_
  rintro _ w ⟨rfl, hS⟩
  refine ⟨kp ⟨fun _ => hS, trivial⟩, ?_⟩
  obtain ⟨⟨hq42, hq43⟩, h⟩ := h.req
  refine RP.v1 21 rfl (Vl.indexAddrA (a'' := ⟨b1, 11 + a25.A.toNat * 1, none⟩) underlying258 sizeOf2 rfl rfl hq42 hq43 (add_mk _ _ _)) rfl rfl (RP.e0 22 rfl (OW.storeSeg (mk := (Value.int .i64)) (f := fn24) (n := 16) (m := 11) (pre := [.slice A3 a2.length c4, .int .i64 a6, .slice A8 a7.length c9, .int .u64 a11, .int .i64 a12, .int .i64 a13, .int .i64 a14, .int .i64 a15, .int .i64 a16, .int .i64 a17, .bool a18]) (post := [.int .i64 a19, .slice A20 a22.length c21, .int .i64 a23]) 1 hS rfl rfl rfl rfl sizeOf2 (by omega) (fun _ => rfl) (fun _ => rfl) rfl) rfl ?_)
  rintro _ w ⟨rfl, hS⟩
  have hS : St B w (_ :: _ :: _ :: l) hf := hS
  refine ⟨kp ⟨(by intro hx; cases hx), trivial⟩, ?_⟩
  refine RP.nil ?_
  obtain rfl := h.some
  exact rtE results148 rfl ⟨rfl, hS.d0⟩
def vm_cpu_jump.f (a2 : List api_Instr) (a6 : Int) (a7 : List api_Link) (a11 a12 a13 a14 a15 a16 a17 : Int) (a18 : Bool) (a19 : Int) (a22 : List api_Out) (a23 : Int) (fn24 : (Nat → Int)) (a25 : api_Instr) : Option (Int) := some a25.A
theorem vm_cpu_jump.ok {a2 : List api_Instr} {a6 : Int} {a7 : List api_Link} {a11 a12 a13 a14 a15 a16 a17 : Int} {a18 : Bool} {a19 : Int} {a22 : List api_Out} {a23 : Int} {fn24 : (Nat → Int)} {a25 : api_Instr} {b1 : Nat} {A3 : Option Addr} {c4 : Nat} {A8 : Option Addr} {c9 : Nat} {A20 : Option Addr} {c21 : Nat} (hr5 : SlR E_api_Instr.rep hf A3 c4 a2) (hr10 : SlR E_api_Link.rep hf A8 c9 a7) {r : Int} (h : vm_cpu_jump.f a2 a6 a7 a11 a12 a13 a14 a15 a16 a17 a18 a19 a22 a23 fn24 a25 = some r) (hS : St B w (Cl b1 [.slice A3 a2.length c4, .int .i64 a6, .slice A8 a7.length c9, .int .u64 a11, .int .i64 a12, .int .i64 a13, .int .i64 a14, .int .i64 a15, .int .i64 a16, .int .i64 a17, .bool a18, .int .i64 (fn24 0), .int .i64 (fn24 1), .int .i64 (fn24 2), .int .i64 (fn24 3), .int .i64 (fn24 4), .int .i64 (fn24 5), .int .i64 (fn24 6), .int .i64 (fn24 7), .int .i64 (fn24 8), .int .i64 (fn24 9), .int .i64 (fn24 10), .int .i64 (fn24 11), .int .i64 (fn24 12), .int .i64 (fn24 13), .int .i64 (fn24 14), .int .i64 (fn24 15), .int .i64 a19, .slice A20 a22.length c21, .int .i64 a23] 260 :: OSf E_api_Out 265 (.slice A20 a22.length c21) a22 :: l) hf) :
    Calls prog 149 #[.pointer (some ⟨b1, 0, none⟩), .agg (C_api_Instr a25).toArray] w (Ret fun v w => v = .tuple #[] ∧ St B w (Cl b1 [.slice A3 a2.length c4, .int .i64 a6, .slice A8 a7.length c9, .int .u64 a11, .int .i64 a12, .int .i64 a13, .int .i64 a14, .int .i64 a15, .int .i64 a16, .int .i64 a17, .bool a18, .int .i64 (fn24 0), .int .i64 (fn24 1), .int .i64 (fn24 2), .int .i64 (fn24 3), .int .i64 (fn24 4), .int .i64 (fn24 5), .int .i64 (fn24 6), .int .i64 (fn24 7), .int .i64 (fn24 8), .int .i64 (fn24 9), .int .i64 (fn24 10), .int .i64 (fn24 11), .int .i64 (fn24 12), .int .i64 (fn24 13), .int .i64 (fn24 14), .int .i64 (fn24 15), .int .i64 a19, .slice A20 a22.length c21, .int .i64 r] 260 :: OSf E_api_Out 265 (.slice A20 a22.length c21) a22 :: l) hf) := by
  have h := Holds.of h
  refine en func149 rfl ntmps149 rfl (sr (bx hS rfl rfl rfl rfl fun b27 w hS => ln (RC.region (pn 1 rfl (RL.s (Vl.fa 1 underlying269 rfl sizeOf3 rfl rfl) rfl (RL.s (Vl.ld 0 hS isAgg3 rfl rfl rfl) rfl (pn 1 rfl (RL.s (Vl.fa 29 underlying260 rfl sizeOf3 rfl rfl) rfl (RL.e0 (OW.store (vs := [.int .i64 a25.A]) 1 hS rfl rfl rfl rfl sizeOf3 rfl rfl rfl rfl) rfl ?_)))))))))
  rintro _ w ⟨rfl, hS⟩
  have hS : St B w (_ :: Cl b1 [.slice A3 a2.length c4, .int .i64 a6, .slice A8 a7.length c9, .int .u64 a11, .int .i64 a12, .int .i64 a13, .int .i64 a14, .int .i64 a15, .int .i64 a16, .int .i64 a17, .bool a18, .int .i64 (fn24 0), .int .i64 (fn24 1), .int .i64 (fn24 2), .int .i64 (fn24 3), .int .i64 (fn24 4), .int .i64 (fn24 5), .int .i64 (fn24 6), .int .i64 (fn24 7), .int .i64 (fn24 8), .int .i64 (fn24 9), .int .i64 (fn24 10), .int .i64 (fn24 11), .int .i64 (fn24 12), .int .i64 (fn24 13), .int .i64 (fn24 14), .int .i64 (fn24 15), .int .i64 a19, .slice A20 a22.length c21, .int .i64 a25.A] 260 :: _ :: l) hf := hS
  refine RL.nil ?_
  obtain rfl := h.some
  exact rtE results149 rfl ⟨rfl, hS.d0⟩
def vm_cpu_zero.f (a2 : List api_Instr) (a6 : Int) (a7 : List api_Link) (a11 a12 a13 a14 a15 a16 a17 : Int) (a18 : Bool) (a19 : Int) (a22 : List api_Out) (a23 : Int) (fn24 : (Nat → Int)) (a25 : api_Instr) : Option (Int) := (if 0 ≤ a25.A ∧ a25.A < 16 then (if fn24 (a25.A.toNat * 1) = 0 then some a25.B else some a23) else none)
theorem vm_cpu_zero.ok {a2 : List api_Instr} {a6 : Int} {a7 : List api_Link} {a11 a12 a13 a14 a15 a16 a17 : Int} {a18 : Bool} {a19 : Int} {a22 : List api_Out} {a23 : Int} {fn24 : (Nat → Int)} {a25 : api_Instr} {b1 : Nat} {A3 : Option Addr} {c4 : Nat} {A8 : Option Addr} {c9 : Nat} {A20 : Option Addr} {c21 : Nat} (hr5 : SlR E_api_Instr.rep hf A3 c4 a2) (hr10 : SlR E_api_Link.rep hf A8 c9 a7) {r : Int} (h : vm_cpu_zero.f a2 a6 a7 a11 a12 a13 a14 a15 a16 a17 a18 a19 a22 a23 fn24 a25 = some r) (hS : St B w (Cl b1 [.slice A3 a2.length c4, .int .i64 a6, .slice A8 a7.length c9, .int .u64 a11, .int .i64 a12, .int .i64 a13, .int .i64 a14, .int .i64 a15, .int .i64 a16, .int .i64 a17, .bool a18, .int .i64 (fn24 0), .int .i64 (fn24 1), .int .i64 (fn24 2), .int .i64 (fn24 3), .int .i64 (fn24 4), .int .i64 (fn24 5), .int .i64 (fn24 6), .int .i64 (fn24 7), .int .i64 (fn24 8), .int .i64 (fn24 9), .int .i64 (fn24 10), .int .i64 (fn24 11), .int .i64 (fn24 12), .int .i64 (fn24 13), .int .i64 (fn24 14), .int .i64 (fn24 15), .int .i64 a19, .slice A20 a22.length c21, .int .i64 a23] 260 :: OSf E_api_Out 265 (.slice A20 a22.length c21) a22 :: l) hf) :
    Calls prog 150 #[.pointer (some ⟨b1, 0, none⟩), .agg (C_api_Instr a25).toArray] w (Ret fun v w => v = .tuple #[] ∧ St B w (Cl b1 [.slice A3 a2.length c4, .int .i64 a6, .slice A8 a7.length c9, .int .u64 a11, .int .i64 a12, .int .i64 a13, .int .i64 a14, .int .i64 a15, .int .i64 a16, .int .i64 a17, .bool a18, .int .i64 (fn24 0), .int .i64 (fn24 1), .int .i64 (fn24 2), .int .i64 (fn24 3), .int .i64 (fn24 4), .int .i64 (fn24 5), .int .i64 (fn24 6), .int .i64 (fn24 7), .int .i64 (fn24 8), .int .i64 (fn24 9), .int .i64 (fn24 10), .int .i64 (fn24 11), .int .i64 (fn24 12), .int .i64 (fn24 13), .int .i64 (fn24 14), .int .i64 (fn24 15), .int .i64 a19, .slice A20 a22.length c21, .int .i64 r] 260 :: OSf E_api_Out 265 (.slice A20 a22.length c21) a22 :: l) hf) := by
  have h := Holds.of h
  refine en func150 rfl ntmps150 rfl (sr (bx hS rfl rfl rfl rfl fun b30 w hS => ln (RC.seq (RC.planS (plD [0, 3, 7, 11, 14, 17, 20, 23]) [5, 6, 7] hS (fun w hS => hS) follows rfl (by kernel_rfl) (NoTmp.then NoTmp.body) fun w hS => pp 1 rfl (RP.s0 1 rfl (fun w => Vl.fa 1 underlying269 rfl sizeOf3 rfl rfl) rfl (RP.s 0 2 rfl rfl hS (fun w hS => Vl.ld 0 hS isAgg3 rfl rfl rfl) rfl (RP.v1 3 rfl (Vl.nilCheck rfl) rfl rfl (RP.v1 4 rfl (Vl.fa 11 underlying260 rfl sizeOf258 rfl rfl) rfl rfl ?_))))))))
  obtain ⟨⟨hq31, hq32⟩, h⟩ := h.req
  refine RP.v1 5 rfl (Vl.indexAddrA (a'' := ⟨b1, 11 + a25.A.toNat * 1, none⟩) underlying258 sizeOf2 rfl rfl hq31 hq32 (add_mk _ _ _)) rfl rfl (RP.v1 6 rfl (Vl.load isAgg2 rfl (hS.cell (off := 11 + a25.A.toNat * 1) (cs := [.slice A3 a2.length c4, .int .i64 a6, .slice A8 a7.length c9, .int .u64 a11, .int .i64 a12, .int .i64 a13, .int .i64 a14, .int .i64 a15, .int .i64 a16, .int .i64 a17, .bool a18] ++ (fc (Value.int .i64) 16 fn24 ++ [.int .i64 a19, .slice A20 a22.length c21, .int .i64 a23])) 1 rfl (seg_get rfl (by omega)))) rfl rfl (RP.v1 7 rfl (Vl.int rfl rfl rfl) rfl rfl (RP.nil (RQ.then_n ?_))))
  refine RC.iteP 11 rfl h (fun hc33 h => ?_) fun hc33 h => ?_
  next =>
   refine RC.condT rfl (RC.region (pn 1 rfl (RL.s (Vl.fa 2 underlying269 rfl sizeOf3 rfl rfl) rfl (RL.s (Vl.ld 0 hS isAgg3 rfl rfl rfl) rfl (pn 1 rfl (RL.s (Vl.fa 29 underlying260 rfl sizeOf3 rfl rfl) rfl (RL.e0 (OW.store (vs := [.int .i64 a25.B]) 1 hS rfl rfl rfl rfl sizeOf3 rfl rfl rfl rfl) rfl ?_)))))))
   rintro _ w ⟨rfl, hS⟩
   have hS : St B w (_ :: Cl b1 [.slice A3 a2.length c4, .int .i64 a6, .slice A8 a7.length c9, .int .u64 a11, .int .i64 a12, .int .i64 a13, .int .i64 a14, .int .i64 a15, .int .i64 a16, .int .i64 a17, .bool a18, .int .i64 (fn24 0), .int .i64 (fn24 1), .int .i64 (fn24 2), .int .i64 (fn24 3), .int .i64 (fn24 4), .int .i64 (fn24 5), .int .i64 (fn24 6), .int .i64 (fn24 7), .int .i64 (fn24 8), .int .i64 (fn24 9), .int .i64 (fn24 10), .int .i64 (fn24 11), .int .i64 (fn24 12), .int .i64 (fn24 13), .int .i64 (fn24 14), .int .i64 (fn24 15), .int .i64 a19, .slice A20 a22.length c21, .int .i64 a25.B] 260 :: _ :: l) hf := hS
   refine RL.nil ?_
   obtain rfl := h.some
   exact rtE results150 rfl ⟨rfl, hS.d0⟩
  refine RC.condF rfl (RC.skip ?_)
  obtain rfl := h.some
  exact rtE results150 rfl ⟨rfl, hS.d0⟩
def vtime_Add.f (a1 a2 : Int) : Option (Int × Int) := ((vtime_Valid.f a1).bind fun t33 => (if t33 = true then (if a2 < 0 then some (0, 1) else (if IntKind.i64.wrap (4611686018427387903 - a1) < a2 then some (0, 10) else some (IntKind.i64.wrap (a1 + a2), 0))) else some (0, 1)))
theorem vtime_Add.ok {a1 a2 : Int} {r : Int × Int} (h : vtime_Add.f a1 a2 = some r) (hS : St B w (l) hf) :
    Calls prog 159 #[.int .i64 a1, .int .i64 a2] w (Ret fun v w => v = .tuple #[.int .i64 r.1, .int .i64 r.2] ∧ St B w (l) hf) := by
  have h := Holds.of h
  refine en func159 rfl ntmps159 rfl (sr (pn 2 rfl (ln (RC.seq (RC.block (RC.seq (RC.block (RC.seq (RC.block (RC.block (RC.seq (RC.seq (RC.seq ?_)))))))))))))
  refine RC.region (pn 1 rfl (cF (fun _ hg => vtime_Valid.ok hg hS) call73 h rfl rfl rfl ?_))
  rintro t33 h _ w ⟨rfl, hS⟩
  refine pn 2 rfl (ln ?_)
  refine RC.iteM 6 rfl h (fun hc35 h => ?_) fun hc35 h => ?_
  next =>
   refine RC.condF rfl (sk (RC.seq (sr (pn 3 rfl (ln ?_)))))
   refine RC.iteP 10 rfl h (fun hc37 h => ?_) fun hc37 h => ?_
   next =>
    refine RC.condT rfl (RC.exit (RQ.exitT (RQ.exitT (RQ.inB_miss rfl (RQ.inB_hit (RQ.then_n (RC.seq (sr (pn 2 rfl (lr (RQ.ret (RQ.inB_ret ?_))))))))))))
    refine RQ.ret (RQ.inB_ret (RQ.ret ?_))
    obtain rfl := h.some
    exact rt results159 rfl ⟨rfl, hS⟩
   refine RC.condF rfl (sk (sr (pn 5 rfl (ln ?_))))
   refine RC.iteP 13 rfl h (fun hc38 h => ?_) fun hc38 h => ?_
   next =>
    refine RC.condT rfl (RC.exit (RQ.exitT (RQ.inB_miss rfl (RQ.inB_miss rfl (RQ.exitT (RQ.inB_hit (RQ.then_n (RC.seq (sr (pn 2 rfl (lr (RQ.ret ?_))))))))))))
    refine RQ.inB_ret (RQ.ret ?_)
    obtain rfl := h.some
    exact rt results159 rfl ⟨rfl, hS⟩
   refine RC.condF rfl (sk (RC.exit (RQ.inB_miss rfl (RQ.inB_miss rfl (RQ.exitT (RQ.inB_miss rfl (RQ.exitT (RQ.inB_hit (tsr (pn 5 rfl (ln ?_)))))))))))
   refine RC.ret ?_
   obtain rfl := h.some
   exact rt results159 rfl ⟨rfl, hS⟩
  refine RC.condT rfl (RC.exit (RQ.exitT (RQ.exitT (RQ.inB_hit (RQ.inB_n (RQ.then_n (RC.seq (sr (pn 2 rfl (lr (RQ.ret (RQ.inB_ret ?_))))))))))))
  refine RQ.ret (RQ.inB_ret (RQ.ret ?_))
  obtain rfl := h.some
  exact rt results159 rfl ⟨rfl, hS⟩
def vm_cpu_send.f (a2 : List api_Instr) (a6 : Int) (a7 : List api_Link) (a11 a12 a13 a14 a15 a16 a17 : Int) (a18 : Bool) (a19 : Int) (a22 : List api_Out) (a23 : Int) (fn24 : (Nat → Int)) (a25 : api_Instr) : Option ((List api_Out) ⊕ (vm_fault)) := (if (a7.length : Int) = 0 then some (.inl a22) else (if (a22.length : Int) = 8 then some (.inl a22) else (if 0 ≤ a25.A ∧ a25.A < 16 then (if ¬ (a7.length : Int) = 0 then (if 0 ≤ a25.B ∧ a25.B < 16 then (if 0 ≤ a25.C ∧ a25.C < 16 then (if 0 ≤ Int.tmod (IntKind.i64.wrap ((Int.tmod (fn24 (a25.A.toNat * 1)) (a7.length : Int)) + (a7.length : Int))) (a7.length : Int) ∧ Int.tmod (IntKind.i64.wrap ((Int.tmod (fn24 (a25.A.toNat * 1)) (a7.length : Int)) + (a7.length : Int))) (a7.length : Int) < (a7.length : Int) then (if fn24 (a25.B.toNat * 1) < (nth a7 (Int.tmod (IntKind.i64.wrap ((Int.tmod (fn24 (a25.A.toNat * 1)) (a7.length : Int)) + (a7.length : Int))) (a7.length : Int))).Look then some (.inr ((⟨a23, 50⟩ : vm_fault))) else ((vtime_Add.f a12 (fn24 (a25.B.toNat * 1))).bind fun (y86, y87) => (if y87 = 0 then (if (a22.length + 1) * 24 ≤ 140737488355328 then some (.inl (a22 ++ ([(⟨Int.tmod (IntKind.i64.wrap ((Int.tmod (fn24 (a25.A.toNat * 1)) (a7.length : Int)) + (a7.length : Int))) (a7.length : Int), fn24 (a25.B.toNat * 1), fn24 (a25.C.toNat * 1)⟩ : api_Out)]))) else none) else some (.inr ((⟨a23, y87⟩ : vm_fault)))))) else none) else none) else none) else none) else none)))
theorem vm_cpu_send.ok {a2 : List api_Instr} {a6 : Int} {a7 : List api_Link} {a11 a12 a13 a14 a15 a16 a17 : Int} {a18 : Bool} {a19 : Int} {a22 : List api_Out} {a23 : Int} {fn24 : (Nat → Int)} {a25 : api_Instr} {b1 : Nat} {A3 : Option Addr} {c4 : Nat} {A8 : Option Addr} {c9 : Nat} {A20 : Option Addr} {c21 : Nat} (hr5 : SlR E_api_Instr.rep hf A3 c4 a2) (hr10 : SlR E_api_Link.rep hf A8 c9 a7) {r : (List api_Out) ⊕ (vm_fault)} (h : vm_cpu_send.f a2 a6 a7 a11 a12 a13 a14 a15 a16 a17 a18 a19 a22 a23 fn24 a25 = some r) (hS : St B w (Cl b1 [.slice A3 a2.length c4, .int .i64 a6, .slice A8 a7.length c9, .int .u64 a11, .int .i64 a12, .int .i64 a13, .int .i64 a14, .int .i64 a15, .int .i64 a16, .int .i64 a17, .bool a18, .int .i64 (fn24 0), .int .i64 (fn24 1), .int .i64 (fn24 2), .int .i64 (fn24 3), .int .i64 (fn24 4), .int .i64 (fn24 5), .int .i64 (fn24 6), .int .i64 (fn24 7), .int .i64 (fn24 8), .int .i64 (fn24 9), .int .i64 (fn24 10), .int .i64 (fn24 11), .int .i64 (fn24 12), .int .i64 (fn24 13), .int .i64 (fn24 14), .int .i64 (fn24 15), .int .i64 a19, .slice A20 a22.length c21, .int .i64 a23] 260 :: OSf E_api_Out 265 (.slice A20 a22.length c21) a22 :: l) hf) :
    Calls prog 151 #[.pointer (some ⟨b1, 0, none⟩), .agg (C_api_Instr a25).toArray] w (RetP (fun v w => match (generalizing := false) r with | .inl r_ => ∃ (A_1 : Option Addr) (c_2 : Nat), v = .tuple #[] ∧ St B w (OSf E_api_Out 265 (.slice A_1 r_.length c_2) r_ :: Cl b1 [.slice A3 a2.length c4, .int .i64 a6, .slice A8 a7.length c9, .int .u64 a11, .int .i64 a12, .int .i64 a13, .int .i64 a14, .int .i64 a15, .int .i64 a16, .int .i64 a17, .bool a18, .int .i64 (fn24 0), .int .i64 (fn24 1), .int .i64 (fn24 2), .int .i64 (fn24 3), .int .i64 (fn24 4), .int .i64 (fn24 5), .int .i64 (fn24 6), .int .i64 (fn24 7), .int .i64 (fn24 8), .int .i64 (fn24 9), .int .i64 (fn24 10), .int .i64 (fn24 11), .int .i64 (fn24 12), .int .i64 (fn24 13), .int .i64 (fn24 14), .int .i64 (fn24 15), .int .i64 a19, .slice A_1 r_.length c_2, .int .i64 a23] 260 :: l) hf | .inr (r_) => False) (fun v w => match (generalizing := false) r with | .inl r_ => False | .inr (r_) => v = .iface 262 (.agg #[.int .i64 r_.at_, .int .i64 r_.why]) ∧ St B w (Cl b1 [.slice A3 a2.length c4, .int .i64 a6, .slice A8 a7.length c9, .int .u64 a11, .int .i64 a12, .int .i64 a13, .int .i64 a14, .int .i64 a15, .int .i64 a16, .int .i64 a17, .bool a18, .int .i64 (fn24 0), .int .i64 (fn24 1), .int .i64 (fn24 2), .int .i64 (fn24 3), .int .i64 (fn24 4), .int .i64 (fn24 5), .int .i64 (fn24 6), .int .i64 (fn24 7), .int .i64 (fn24 8), .int .i64 (fn24 9), .int .i64 (fn24 10), .int .i64 (fn24 11), .int .i64 (fn24 12), .int .i64 (fn24 13), .int .i64 (fn24 14), .int .i64 (fn24 15), .int .i64 a19, .slice A20 a22.length c21, .int .i64 a23] 260 :: OSf E_api_Out 265 (.slice A20 a22.length c21) a22 :: l) hf)) := by
  have h := Holds.of h
  refine en func151 rfl ntmps151 rfl (sr (bx hS rfl rfl rfl rfl fun b60 w hS => lnsr (pn 2 rfl (RL.s (Vl.fa 0 underlying260 rfl sizeOf91 rfl rfl) rfl (RL.s (Vl.fa 2 underlying91 rfl sizeOf23 rfl rfl) rfl (RL.s (Vl.ld 1 hS isAgg23 rfl rfl rfl) rfl (RL.s (Vl.lenSl underlying23 rfl) rfl (pn 1 rfl (ln ?_)))))))))
  refine RC.seq (sr (pn 3 rfl ?_))
  refine RL.iteP 16 rfl h (fun hc63 h => ?_) fun hc63 h => ?_
  next =>
   refine pn 7 rfl (ln (RC.condT rfl (RC.ret (RQ.ret ?_))))
   obtain rfl := h.some
   refine RQ.retP (vs := []) results151 trivial ?_
   exact ⟨A20, c21, rfl, hS.d0.p1⟩
  refine pn 2 rfl (RL.sg (Vl.fa 28 underlying260 rfl sizeOf231 rfl rfl) rfl rfl (RL.sg (Vl.ld 1 hS isAgg231 rfl rfl rfl) rfl rfl (RL.sg (Vl.lenSl underlying231 rfl) rfl rfl (pn 2 rfl (ln ?_)))))
  refine RC.iteP 23 rfl h (fun hc64 h => ?_) fun hc64 h => ?_
  next =>
   refine RC.condT rfl (RC.ret (RQ.ret ?_))
   obtain rfl := h.some
   refine RQ.retP (vs := []) results151 trivial ?_
   exact ⟨A20, c21, rfl, hS.d0.p1⟩
  refine RC.condF rfl (sk (RC.seq (RC.planS (plD [0, 3, 7, 9, 12, 15, 19, 21, 24, 27, 30, 33, 36, 39, 42, 46, 48, 51, 54, 58, 60, 63, 67, 69, 72, 75, 79, 81, 86, 89]) [29] hS (fun w hS => hS) follows rfl (by kernel_rfl) (NoTmp.then NoTmp.body) fun w hS => pp 1 rfl (RP.s0 1 rfl (fun w => Vl.fa 1 underlying269 rfl sizeOf3 rfl rfl) rfl (RP.s 0 2 rfl rfl hS (fun w hS => Vl.ld 0 hS isAgg3 rfl rfl rfl) rfl (pp 1 rfl (RP.s0 4 rfl (fun w => Vl.fa 11 underlying260 rfl sizeOf258 rfl rfl) rfl ?_)))))))
  obtain ⟨⟨hq65, hq66⟩, h⟩ := h.req
  refine RP.s0 5 rfl (fun w => Vl.indexAddrA (a'' := ⟨b1, 11 + a25.A.toNat * 1, none⟩) underlying258 sizeOf2 rfl rfl hq65 hq66 (add_mk _ _ _)) rfl (RP.s 0 6 rfl rfl hS (fun w hS => Vl.load isAgg2 rfl (hS.cell (off := 11 + a25.A.toNat * 1) (cs := [.slice A3 a2.length c4, .int .i64 a6, .slice A8 a7.length c9, .int .u64 a11, .int .i64 a12, .int .i64 a13, .int .i64 a14, .int .i64 a15, .int .i64 a16, .int .i64 a17, .bool a18] ++ (fc (Value.int .i64) 16 fn24 ++ [.int .i64 a19, .slice A20 a22.length c21, .int .i64 a23])) 1 rfl (seg_get rfl (by omega)))) rfl (pp 1 rfl ?_))
  obtain ⟨hq67, h⟩ := h.req
  refine RP.s0 8 rfl (fun w => Vl.rem rfl rfl hq67) rfl (pp 3 rfl (RP.s0 12 rfl (fun w => Vl.rem rfl rfl hq67) rfl (pp 1 rfl (RP.s0 14 rfl (fun w => Vl.fa 2 underlying269 rfl sizeOf3 rfl rfl) rfl (RP.s 0 15 rfl rfl hS (fun w hS => Vl.ld 0 hS isAgg3 rfl rfl rfl) rfl (pp 1 rfl (RP.s0 17 rfl (fun w => Vl.fa 11 underlying260 rfl sizeOf258 rfl rfl) rfl ?_)))))))
  obtain ⟨⟨hq68, hq69⟩, h⟩ := h.req
  refine RP.s0 18 rfl (fun w => Vl.indexAddrA (a'' := ⟨b1, 11 + a25.B.toNat * 1, none⟩) underlying258 sizeOf2 rfl rfl hq68 hq69 (add_mk _ _ _)) rfl (RP.s 0 19 rfl rfl hS (fun w hS => Vl.load isAgg2 rfl (hS.cell (off := 11 + a25.B.toNat * 1) (cs := [.slice A3 a2.length c4, .int .i64 a6, .slice A8 a7.length c9, .int .u64 a11, .int .i64 a12, .int .i64 a13, .int .i64 a14, .int .i64 a15, .int .i64 a16, .int .i64 a17, .bool a18] ++ (fc (Value.int .i64) 16 fn24 ++ [.int .i64 a19, .slice A20 a22.length c21, .int .i64 a23])) 1 rfl (seg_get rfl (by omega)))) rfl (pp 1 rfl (RP.s0 21 rfl (fun w => Vl.fa 3 underlying269 rfl sizeOf3 rfl rfl) rfl (RP.s 0 22 rfl rfl hS (fun w hS => Vl.ld 0 hS isAgg3 rfl rfl rfl) rfl (pp 1 rfl (RP.s0 24 rfl (fun w => Vl.fa 11 underlying260 rfl sizeOf258 rfl rfl) rfl ?_))))))
  obtain ⟨⟨hq70, hq71⟩, h⟩ := h.req
  refine RP.s0 25 rfl (fun w => Vl.indexAddrA (a'' := ⟨b1, 11 + a25.C.toNat * 1, none⟩) underlying258 sizeOf2 rfl rfl hq70 hq71 (add_mk _ _ _)) rfl (RP.s 0 26 rfl rfl hS (fun w hS => Vl.load isAgg2 rfl (hS.cell (off := 11 + a25.C.toNat * 1) (cs := [.slice A3 a2.length c4, .int .i64 a6, .slice A8 a7.length c9, .int .u64 a11, .int .i64 a12, .int .i64 a13, .int .i64 a14, .int .i64 a15, .int .i64 a16, .int .i64 a17, .bool a18] ++ (fc (Value.int .i64) 16 fn24 ++ [.int .i64 a19, .slice A20 a22.length c21, .int .i64 a23])) 1 rfl (seg_get rfl (by omega)))) rfl (RP.s0 27 rfl (fun w => Vl.build (v := .agg #[.int .i64 (Int.tmod (IntKind.i64.wrap ((Int.tmod (fn24 (a25.A.toNat * 1)) (a7.length : Int)) + (a7.length : Int))) (a7.length : Int)), .int .i64 (fn24 (a25.B.toNat * 1)), .int .i64 (fn24 (a25.C.toNat * 1))]) (parts := [(0, .tmp 36), (1, .tmp 43), (2, .tmp 50)]) rfl (by kernel_rfl)) rfl (RP.e 28 rfl (OW.alloc (cs := [.int .i64 0, .int .i64 0, .int .i64 0]) hS zeroValue265 rfl) rfl rfl ?_)))
  rintro _ w ⟨b72, rfl, hS⟩
  refine ⟨kp ⟨fun _ => hS.d0, trivial⟩, ?_⟩
  refine RP.e0 29 rfl (OW.store (vs := [.int .i64 (Int.tmod (IntKind.i64.wrap ((Int.tmod (fn24 (a25.A.toNat * 1)) (a7.length : Int)) + (a7.length : Int))) (a7.length : Int)), .int .i64 (fn24 (a25.B.toNat * 1)), .int .i64 (fn24 (a25.C.toNat * 1))]) 0 hS rfl rfl rfl rfl sizeOf265 rfl rfl rfl rfl) rfl ?_
  rintro _ w ⟨rfl, hS⟩
  have hS : St B w (Cl _ [_, _, _] _ :: _ :: _ :: _ :: l) hf := hS
  refine ⟨kp ⟨(by intro hx; cases hx), trivial⟩, ?_⟩
  refine RP.nil (RQ.then_n (RC.seq (RC.seq (RC.planS (plD [0, 4, 6, 9, 12, 15, 19, 23, 26, 29, 32, 35, 38]) [12] hS (fun w hS => hS) follows rfl (by kernel_rfl) (NoTmp.then (NoTmp.then NoTmp.body)) fun w hS => RP.s0 0 rfl (fun w => Vl.fa 1 underlying265 rfl sizeOf2 rfl rfl) rfl (RP.s 0 1 rfl rfl hS (fun w hS => Vl.ld 0 hS isAgg2 rfl rfl rfl) rfl (pp 2 rfl (RP.s0 4 rfl (fun w => Vl.fa 0 underlying260 rfl sizeOf91 rfl rfl) rfl (RP.s0 5 rfl (fun w => Vl.fa 2 underlying91 rfl sizeOf23 rfl rfl) rfl (RP.s 0 6 rfl rfl hS (fun w hS => Vl.ld 2 hS isAgg23 rfl rfl rfl) rfl (RP.v1 7 rfl (Vl.fa 0 underlying265 rfl sizeOf3 rfl rfl) rfl rfl (RP.v1 8 rfl (Vl.ld 0 hS isAgg3 rfl rfl rfl) rfl rfl ?_)))))))))))
  obtain ⟨⟨hq76, hq77⟩, h⟩ := h.req
  refine RP.v1 9 rfl (Vl.indexAddr underlying23 sizeOf144 rfl rfl ((hr10.2.world hS.sub).adr hq76 hq77) hq76 hq77 rfl) rfl rfl (RP.v1 10 rfl (Vl.fieldAddr (a'' := (ad A8).add ((Int.tmod (IntKind.i64.wrap ((Int.tmod (fn24 (a25.A.toNat * 1)) (a7.length : Int)) + (a7.length : Int))) (a7.length : Int)).toNat * 4 + 2)) underlying144 rfl sizeOf2 rfl (add_add _ _ _)) rfl rfl (RP.v1 11 rfl (Vl.load isAgg2 rfl ((hr10.2.world hS.sub).cell (j := 2) hq76 hq77 rfl)) rfl rfl (RP.v1 12 rfl (Vl.int rfl rfl rfl) rfl rfl (RP.nil (RQ.then_n ?_)))))
  refine RC.iteP 64 rfl h (fun hc78 h => ?_) fun hc78 h => ?_
  next =>
   refine RC.condT rfl (RC.region (pn 2 rfl (RL.s (Vl.fa 29 underlying260 rfl sizeOf3 rfl rfl) rfl (RL.s (Vl.ld 2 hS isAgg3 rfl rfl rfl) rfl (RL.s (Vl.build (v := .agg #[.int .i64 a23, .int .i64 50]) (parts := [(0, .tmp 68), (1, .const (.int .i64 50))]) rfl (by kernel_rfl)) rfl (RL.s (Vl.makeIface underlying262 rfl rfl) rfl (RL.panic rfl (RQ.panT ?_))))))))
   obtain rfl := h.some
   refine RQ.pan0 ?_
   exact ⟨rfl, hS.d0.d0⟩
  refine RC.condF rfl (sk (RC.seq (RC.seq (RC.planS (plD [0, 3, 6, 9, 12, 16, 18, 22, 26, 27, 30, 33, 38, 41]) [12, 13] hS (fun w hS => hS) follows rfl (by kernel_rfl) (NoTmp.then (NoTmp.then NoTmp.body)) fun w hS => pp 2 rfl (RP.s0 2 rfl (fun w => Vl.fa 4 underlying260 rfl sizeOf48 rfl rfl) rfl (RP.s0 3 rfl (fun w => Vl.fa 4 underlying48 rfl sizeOf46 rfl rfl) rfl (RP.s0 4 rfl (fun w => Vl.fa 4 underlying46 rfl sizeOf2 rfl rfl) rfl (RP.s 0 5 rfl rfl hS (fun w hS => Vl.ld 2 hS isAgg2 rfl rfl rfl) rfl (RP.s0 6 rfl (fun w => Vl.fa 1 underlying265 rfl sizeOf2 rfl rfl) rfl (RP.s 0 7 rfl rfl hS (fun w hS => Vl.ld 0 hS isAgg2 rfl rfl rfl) rfl ?_))))))))))
  obtain ⟨t84, hg85, h⟩ := h.bind
  have hc := vtime_Add.ok hg85 hS
  obtain ⟨y86, y87⟩ := t84
  refine RP.e 8 rfl (OW.callF (ls := [.tmp 77, .tmp 79]) rfl call159 hc) rfl rfl ?_
  rintro _ w ⟨rfl, hS⟩
  refine ⟨kp ⟨fun _ => hS, trivial⟩, ?_⟩
  refine pp 3 rfl (RP.v1 12 rfl (Vl.assign rfl) rfl rfl (RP.v1 13 rfl (Vl.assign rfl) rfl rfl (RP.nil (tsr (pn 2 rfl (ln ?_))))))
  refine RC.iteN 84 rfl h (fun hc88 h => ?_) fun hc88 h => ?_
  next =>
   refine RC.condF rfl (sk (RC.planS (plD [0, 3, 6, 9, 13, 17, 20, 23, 26, 29, 32]) [7, 8, 9, 10] hS (fun w hS => hS) follows rfl (by kernel_rfl) NoTmp.body fun w hS => pp 3 rfl (RP.s0 3 rfl (fun w => Vl.fa 28 underlying260 rfl sizeOf231 rfl rfl) rfl (RP.s 0 4 rfl rfl hS (fun w hS => Vl.ld 2 hS isAgg231 rfl rfl rfl) rfl (RP.v1 5 rfl (Vl.lw 0 hS isAgg265 sizeOf265 rfl rfl rfl) rfl rfl (RP.e 6 rfl (OW.buildSlice (E := E_api_Out) (xs := [(⟨Int.tmod (IntKind.i64.wrap ((Int.tmod (fn24 (a25.A.toNat * 1)) (a7.length : Int)) + (a7.length : Int))) (a7.length : Int), fn24 (a25.B.toNat * 1), fn24 (a25.C.toNat * 1)⟩ : api_Out)]) (cs := [.int .i64 (Int.tmod (IntKind.i64.wrap ((Int.tmod (fn24 (a25.A.toNat * 1)) (a7.length : Int)) + (a7.length : Int))) (a7.length : Int)), .int .i64 (fn24 (a25.B.toNat * 1)), .int .i64 (fn24 (a25.C.toNat * 1))]) hS underlying231 zeroValue265 sizeOf265 (parts := [(0, .tmp 97)]) rfl rfl (by decide) (by decide) (by kernel_rfl) rfl) rfl rfl ?_))))))
   rintro _ w ⟨b89, rfl, hS⟩
   refine ⟨kp ⟨fun _ => hS.d0, trivial⟩, ?_⟩
   obtain ⟨hq90, h⟩ := h.req
   refine RP.e 7 rfl (OW.append (E := E_api_Out) (xs := a22) (ys := [(⟨Int.tmod (IntKind.i64.wrap ((Int.tmod (fn24 (a25.A.toNat * 1)) (a7.length : Int)) + (a7.length : Int))) (a7.length : Int), fn24 (a25.B.toNat * 1), fn24 (a25.C.toNat * 1)⟩ : api_Out)]) 4 hS rfl underlying231 type265 rfl rfl rfl rfl (by decide) rfl rfl rfl (hS.slW 0 rfl).2.2.flat (by simp only [maxLen, List.length_cons, List.length_nil] at *; omega) hq90 rfl) rfl rfl ?_
   rintro v93 w hS
   obtain ⟨A91, c92, rfl, _⟩ := hS.osShape 0 rfl
   have hS : St B w (_ :: _ :: _ :: _ :: _ :: l) hf := hS
   refine ⟨kp ⟨(by intro hx; cases hx), trivial⟩, ?_⟩
   refine RP.v1 8 rfl (Vl.nilCheck rfl) rfl rfl (RP.v1 9 rfl (Vl.fa 28 underlying260 rfl sizeOf231 rfl rfl) rfl rfl (RP.e0 10 rfl (OW.store (vs := [.slice A91 (a22 ++ ([(⟨Int.tmod (IntKind.i64.wrap ((Int.tmod (fn24 (a25.A.toNat * 1)) (a7.length : Int)) + (a7.length : Int))) (a7.length : Int), fn24 (a25.B.toNat * 1), fn24 (a25.C.toNat * 1)⟩ : api_Out)])).length c92]) 4 hS rfl rfl rfl rfl sizeOf231 rfl rfl rfl rfl) rfl ?_))
   rintro _ w ⟨rfl, hS⟩
   have hS : St B w (_ :: _ :: _ :: _ :: Cl b1 [.slice A3 a2.length c4, .int .i64 a6, .slice A8 a7.length c9, .int .u64 a11, .int .i64 a12, .int .i64 a13, .int .i64 a14, .int .i64 a15, .int .i64 a16, .int .i64 a17, .bool a18, .int .i64 (fn24 0), .int .i64 (fn24 1), .int .i64 (fn24 2), .int .i64 (fn24 3), .int .i64 (fn24 4), .int .i64 (fn24 5), .int .i64 (fn24 6), .int .i64 (fn24 7), .int .i64 (fn24 8), .int .i64 (fn24 9), .int .i64 (fn24 10), .int .i64 (fn24 11), .int .i64 (fn24 12), .int .i64 (fn24 13), .int .i64 (fn24 14), .int .i64 (fn24 15), .int .i64 a19, .slice A91 (a22 ++ ([(⟨Int.tmod (IntKind.i64.wrap ((Int.tmod (fn24 (a25.A.toNat * 1)) (a7.length : Int)) + (a7.length : Int))) (a7.length : Int), fn24 (a25.B.toNat * 1), fn24 (a25.C.toNat * 1)⟩ : api_Out)])).length c92, .int .i64 a23] 260 :: l) hf := hS
   refine ⟨kp ⟨(by intro hx; cases hx), trivial⟩, ?_⟩
   refine RP.nil ?_
   obtain rfl := h.some
   refine RQ.endP (vs := []) results151 trivial ?_
   exact ⟨A91, c92, rfl, hS.d1.d1.d1⟩
  refine RC.condT rfl (RC.region (pn 2 rfl (RL.s (Vl.fa 29 underlying260 rfl sizeOf3 rfl rfl) rfl (RL.s (Vl.ld 2 hS isAgg3 rfl rfl rfl) rfl (pn 1 rfl (RL.s (Vl.build (v := .agg #[.int .i64 a23, .int .i64 y87]) (parts := [(0, .tmp 88), (1, .tmp 89)]) rfl (by kernel_rfl)) rfl (RL.s (Vl.makeIface underlying262 rfl rfl) rfl (RL.panic rfl (RQ.panT ?_)))))))))
  obtain rfl := h.some
  refine RQ.pan0 ?_
  exact ⟨rfl, hS.d0.d0⟩
def draw_word_fold.f (a1 : draw_word) (a2 : Int) : Option (Int) := (if 0 ≤ a2 then some (IntKind.u64.wrap (BitVec.ofInt IntKind.u64.bits a1.x ^^^ BitVec.ofInt IntKind.u64.bits (Int.fdiv a1.x (2 ^ (min (a2 : Int).toNat IntKind.u64.bits)))).toNat) else none)
theorem draw_word_fold.ok {a1 : draw_word} {a2 : Int} {r : Int} (h : draw_word_fold.f a1 a2 = some r) (hS : St B w (l) hf) :
    Calls prog 164 #[.agg #[.int .u64 a1.x], .int .u64 a2] w (Ret fun v w => v = .int .u64 r ∧ St B w (l) hf) := by
  have h := Holds.of h
  refine en func164 rfl ntmps164 rfl (sr (bx hS rfl rfl rfl rfl fun b5 w hS => pn 1 rfl (lnsr (RL.s (Vl.fa 0 underlying295 rfl sizeOf25 rfl rfl) rfl (RL.s (Vl.ld 0 hS isAgg25 rfl rfl rfl) rfl (RL.s (Vl.fa 0 underlying295 rfl sizeOf25 rfl rfl) rfl (RL.s (Vl.ld 0 hS isAgg25 rfl rfl rfl) rfl (pn 1 rfl ?_))))))))
  obtain ⟨hq6, h⟩ := h.req
  refine RL.s (Vl.shr rfl rfl hq6) rfl (pn 2 rfl (lr ?_))
  obtain rfl := h.some
  exact rt results164 rfl ⟨rfl, hS.d0⟩
def draw_mixer_times.f (a1 : draw_mixer) (a2 a3 : Int) : Option (draw_mixer) := ((draw_word_fold.f a1.word a2).bind fun t10 => some (⟨(⟨IntKind.u64.wrap (t10 * a3)⟩ : draw_word)⟩ : draw_mixer))
theorem draw_mixer_times.ok {a1 : draw_mixer} {a2 a3 : Int} {r : draw_mixer} (h : draw_mixer_times.f a1 a2 a3 = some r) (hS : St B w (l) hf) :
    Calls prog 163 #[.agg #[.int .u64 a1.word.x], .int .u64 a2, .int .u64 a3] w (Ret fun v w => v = .agg #[.int .u64 r.word.x] ∧ St B w (l) hf) := by
  have h := Holds.of h
  refine en func163 rfl ntmps163 rfl (sr (bx hS rfl rfl rfl rfl fun b8 w hS => al hS zeroValue297 rfl rfl rfl fun b9 w hS => lnsr (RL.s (Vl.fa 0 underlying297 rfl sizeOf295 rfl rfl) rfl (RL.s (Vl.lw 1 hS isAgg295 sizeOf295 rfl rfl rfl) rfl (pn 1 rfl (cF (fun _ hg => draw_word_fold.ok hg hS) call164 h rfl rfl rfl ?_))))))
  rintro t10 h _ w ⟨rfl, hS⟩
  refine pn 2 rfl (RL.s (Vl.build (v := .agg #[.int .u64 (IntKind.u64.wrap (t10 * a3))]) (parts := [(0, .tmp 12)]) rfl (by kernel_rfl)) rfl (RL.s (Vl.build (v := .agg #[.int .u64 (IntKind.u64.wrap (t10 * a3))]) (parts := [(0, .tmp 13)]) rfl (by kernel_rfl)) rfl (RL.e0 (OW.store (vs := [.int .u64 (IntKind.u64.wrap (t10 * a3))]) 0 hS rfl rfl rfl rfl sizeOf297 rfl rfl rfl rfl) rfl ?_)))
  rintro _ w ⟨rfl, hS⟩
  have hS : St B w (Cl _ [_] _ :: _ :: l) hf := hS
  refine lr ?_
  obtain rfl := h.some
  refine RQ.ret0 (vs := [.agg #[.int .u64 (IntKind.u64.wrap (t10 * a3))]]) results163 ⟨⟨_, rfl, run_loadVarA (vs := [.int .u64 (IntKind.u64.wrap (t10 * a3))]) isAgg297 sizeOf297 rfl (hS.cellsAt 0 rfl rfl)⟩, trivial⟩ ?_
  exact ⟨rfl, hS.d0.d0⟩
def draw_Mix.f (a1 : Int) : Option (Int) := ((draw_mixer_times.f (⟨(⟨IntKind.u64.wrap (a1 + 11400714819323198485)⟩ : draw_word)⟩ : draw_mixer) 30 13787848793156543929).bind fun t9 => ((draw_mixer_times.f t9 27 10723151780598845931).bind fun t12 => ((draw_word_fold.f t12.word 31).bind fun t14 => some t14)))
theorem draw_Mix.ok {a1 : Int} {r : Int} (h : draw_Mix.f a1 = some r) (hS : St B w (l) hf) :
    Calls prog 162 #[.int .u64 a1] w (Ret fun v w => v = .int .u64 r ∧ St B w (l) hf) := by
  have h := Holds.of h
  refine en func162 rfl ntmps162 rfl (sr (pn 1 rfl (lnsr (pn 1 rfl (lnsr (pn 3 rfl (RL.s (Vl.build (v := .agg #[.int .u64 (IntKind.u64.wrap (a1 + 11400714819323198485))]) (parts := [(0, .tmp 7)]) rfl (by kernel_rfl)) rfl (RL.s (Vl.build (v := .agg #[.int .u64 (IntKind.u64.wrap (a1 + 11400714819323198485))]) (parts := [(0, .tmp 8)]) rfl (by kernel_rfl)) rfl ?_))))))))
  obtain ⟨t9, hg10, h⟩ := h.bind
  have hc := draw_mixer_times.ok hg10 hS
  refine RL.e (OW.call (ls := [.tmp 9, .const (.int .u64 30), .const (.int .u64 13787848793156543929)]) rfl rfl call163 rfl hc) rfl rfl ?_
  rintro _ w ⟨rfl, hS⟩
  refine al hS zeroValue297 rfl rfl rfl fun b11 w hS => RL.e0 (OW.store (vs := [.int .u64 t9.word.x]) 0 hS rfl rfl rfl rfl sizeOf297 rfl rfl rfl rfl) rfl ?_
  rintro _ w ⟨rfl, hS⟩
  have hS : St B w (Cl _ [_] _ :: l) hf := hS
  refine lnsr (pn 1 rfl (RL.s (Vl.lw 0 hS isAgg297 sizeOf297 rfl rfl rfl) rfl ?_))
  obtain ⟨t12, hg13, h⟩ := h.bind
  have hc := draw_mixer_times.ok hg13 hS
  refine RL.e (OW.call (ls := [.tmp 12, .const (.int .u64 27), .const (.int .u64 10723151780598845931)]) rfl rfl call163 rfl hc) rfl rfl ?_
  rintro _ w ⟨rfl, hS⟩
  refine RL.s (Vl.field (v := .agg #[.int .u64 t12.word.x]) underlying297 rfl rfl (run_partA isAgg295 sizeOf295)) rfl (cF (fun _ hg => draw_word_fold.ok hg hS) call164 h rfl rfl rfl ?_)
  rintro t14 h _ w ⟨rfl, hS⟩
  refine pn 1 rfl (lr ?_)
  obtain rfl := h.some
  exact rt results162 rfl ⟨rfl, hS.d0⟩
def draw_At.l2b (a2 a3 : Int) : Int × Int → Option ((Int × Int) ⊕ (Int))
  | (x41, x42) => (if x42 < 2 then (if 0 ≤ x42 then ((draw_Mix.f (IntKind.u64.wrap (x41 + (IntKind.u64.wrap (nth ([a2, a3] : List Int) x42))))).bind fun t60 => some (.inl (t60, IntKind.i64.wrap (x42 + 1)))) else none) else some (.inr x41))
def draw_At.l2 (a2 a3 : Int) (s : Int × Int) : Option (Int) := loopR (draw_At.l2b a2 a3) s
def draw_At.f (a1 a2 a3 : Int) : Option (Int) := ((draw_Mix.f a1).bind fun t33 => draw_At.l2 a2 a3 (t33, 0))
theorem draw_At.ok {a1 a2 a3 : Int} {r : Int} (h : draw_At.f a1 a2 a3 = some r) (hS : St B w (l) hf) :
    Calls prog 161 #[.int .u64 a1, .int .i64 a2, .int .i64 a3] w (Ret fun v w => v = .int .u64 r ∧ St B w (l) hf) := by
  have h := Holds.of h
  refine en func161 rfl ntmps161 rfl (sr (pn 1 rfl (lnsr (pn 1 rfl (cF (fun _ hg => draw_Mix.ok hg hS) call162 h rfl rfl rfl ?_)))))
  rintro t33 h _ w ⟨rfl, hS⟩
  refine pn 1 rfl (ln (RC.seq (sr (pn 2 rfl (RL.s (Vl.build (v := .agg #[.int .i64 a2, .int .i64 a3]) (parts := [(0, .tmp 12), (1, .tmp 13)]) rfl (by kernel_rfl)) rfl (pn 1 rfl (ln (RC.block ?_))))))))
  refine fun a ha => RC.loop (N := 25) (body := (draw_At.l2b a2 a3)) (φ := (· = r)) (fun (s : Int × Int) a w => ∃ (x41 : Int) (x42 : Int), s = (x41, x42) ∧ Has 25 [(7, .int .u64 x41), (14, .agg #[.int .i64 a2, .int .i64 a3]), (15, .int .i64 x42)] a ∧ St B w (l) hf) ?_ (s0 := (t33, 0)) h ⟨t33, 0, rfl, ha.to ⟨rfl, rfl, rfl, trivial⟩, hS⟩
  rintro G53 _ a w ⟨x41, x42, rfl, ha, hS⟩ h
  revert a
  show RC _ _ _ _ _ _
  refine sr (pn 1 rfl (ln (RC.seq ?_)))
  refine RC.iteP 16 rfl h (fun hc55 h => ?_) fun hc55 h => ?_
  next =>
   refine RC.condT rfl (sk (RC.seq (RC.block (sr ?_))))
   obtain ⟨hq59, h⟩ := h.req
   refine RL.s (Vl.indexMap (f := (Value.int .i64)) (l := ([a2, a3] : List Int)) underlying291 sizeOf3 isAgg3 rfl rfl rfl hq59 hc55) rfl (pn 1 rfl (ln (RC.region (pn 2 rfl (RL.s (Vl.conv underlying3 underlying25 rfl) rfl (pn 1 rfl (cF (fun _ hg => draw_Mix.ok hg hS) call162 h rfl rfl rfl ?_)))))))
   rintro t60 h _ w ⟨rfl, hS⟩
   refine pn 1 rfl (RL.nil (RQ.inB_n (RQ.then_n (RC.region (pn 2 rfl (RL.nil ?_))))))
   exact fun a ha => ⟨(t60, IntKind.i64.wrap (x42 + 1)), ⟨t60, (IntKind.i64.wrap (x42 + 1)), rfl, ha.to ⟨rfl, rfl, rfl, trivial⟩, hS⟩, h.some⟩
  refine RC.condF rfl (RC.exit (RQ.exitT ?_))
  have h := h.inrS
  refine RQ.exitT (RQ.inB_hit (tsr (pn 2 rfl (lr ?_))))
  obtain rfl := h.some
  exact rt results161 rfl ⟨rfl, hS⟩
def draw_Below.f (a1 a2 a3 a4 : Int) : Option (Int) := (if a4 ≤ 0 then some 0 else ((draw_At.f a1 a2 a3).bind fun t12 => (if ¬ (IntKind.u64.wrap a4) = 0 then some (IntKind.i64.wrap (Int.tmod t12 (IntKind.u64.wrap a4))) else none)))
theorem draw_Below.ok {a1 a2 a3 a4 : Int} {r : Int} (h : draw_Below.f a1 a2 a3 a4 = some r) (hS : St B w (l) hf) :
    Calls prog 160 #[.int .u64 a1, .int .i64 a2, .int .i64 a3, .int .i64 a4] w (Ret fun v w => v = .int .i64 r ∧ St B w (l) hf) := by
  have h := Holds.of h
  refine en func160 rfl ntmps160 rfl (sr (pn 1 rfl (ln (RC.seq (sr (pn 2 rfl (ln ?_)))))))
  refine RC.iteP 10 rfl h (fun hc11 h => ?_) fun hc11 h => ?_
  next =>
   refine RC.condT rfl (sr (pn 1 rfl (lr (RQ.ret ?_))))
   obtain rfl := h.some
   exact rt results160 rfl ⟨rfl, hS⟩
  refine RC.condF rfl (sk (sr (pn 3 rfl (cF (fun _ hg => draw_At.ok hg hS) call161 h rfl rfl rfl ?_))))
  rintro t12 h _ w ⟨rfl, hS⟩
  refine pn 1 rfl (RL.s (Vl.conv underlying2 underlying25 rfl) rfl ?_)
  obtain ⟨hq14, h⟩ := h.req
  refine RL.s (Vl.rem rfl rfl hq14) rfl (RL.s (Vl.conv underlying25 underlying2 rfl) rfl (pn 1 rfl (lr ?_)))
  obtain rfl := h.some
  exact rt results160 rfl ⟨rfl, hS⟩
def vm_cpu_draw.f (a2 : List api_Instr) (a6 : Int) (a7 : List api_Link) (a11 a12 a13 a14 a15 a16 a17 : Int) (a18 : Bool) (a19 : Int) (a22 : List api_Out) (a23 : Int) (fn24 : (Nat → Int)) (a25 : api_Instr) : Option ((Nat → Int) × Int) := (if 0 ≤ a25.B ∧ a25.B < 16 then ((draw_Below.f a11 a6 a19 (fn24 (a25.B.toNat * 1))).bind fun t36 => (if 0 ≤ a25.A ∧ a25.A < 16 then some (upd fn24 (a25.A.toNat * 1) t36, IntKind.i64.wrap (a19 + 1)) else none)) else none)
theorem vm_cpu_draw.ok {a2 : List api_Instr} {a6 : Int} {a7 : List api_Link} {a11 a12 a13 a14 a15 a16 a17 : Int} {a18 : Bool} {a19 : Int} {a22 : List api_Out} {a23 : Int} {fn24 : (Nat → Int)} {a25 : api_Instr} {b1 : Nat} {A3 : Option Addr} {c4 : Nat} {A8 : Option Addr} {c9 : Nat} {A20 : Option Addr} {c21 : Nat} (hr5 : SlR E_api_Instr.rep hf A3 c4 a2) (hr10 : SlR E_api_Link.rep hf A8 c9 a7) {r : (Nat → Int) × Int} (h : vm_cpu_draw.f a2 a6 a7 a11 a12 a13 a14 a15 a16 a17 a18 a19 a22 a23 fn24 a25 = some r) (hS : St B w (Cl b1 [.slice A3 a2.length c4, .int .i64 a6, .slice A8 a7.length c9, .int .u64 a11, .int .i64 a12, .int .i64 a13, .int .i64 a14, .int .i64 a15, .int .i64 a16, .int .i64 a17, .bool a18, .int .i64 (fn24 0), .int .i64 (fn24 1), .int .i64 (fn24 2), .int .i64 (fn24 3), .int .i64 (fn24 4), .int .i64 (fn24 5), .int .i64 (fn24 6), .int .i64 (fn24 7), .int .i64 (fn24 8), .int .i64 (fn24 9), .int .i64 (fn24 10), .int .i64 (fn24 11), .int .i64 (fn24 12), .int .i64 (fn24 13), .int .i64 (fn24 14), .int .i64 (fn24 15), .int .i64 a19, .slice A20 a22.length c21, .int .i64 a23] 260 :: OSf E_api_Out 265 (.slice A20 a22.length c21) a22 :: l) hf) :
    Calls prog 152 #[.pointer (some ⟨b1, 0, none⟩), .agg (C_api_Instr a25).toArray] w (Ret fun v w => v = .tuple #[] ∧ St B w (Cl b1 [.slice A3 a2.length c4, .int .i64 a6, .slice A8 a7.length c9, .int .u64 a11, .int .i64 a12, .int .i64 a13, .int .i64 a14, .int .i64 a15, .int .i64 a16, .int .i64 a17, .bool a18, .int .i64 (r.1 0), .int .i64 (r.1 1), .int .i64 (r.1 2), .int .i64 (r.1 3), .int .i64 (r.1 4), .int .i64 (r.1 5), .int .i64 (r.1 6), .int .i64 (r.1 7), .int .i64 (r.1 8), .int .i64 (r.1 9), .int .i64 (r.1 10), .int .i64 (r.1 11), .int .i64 (r.1 12), .int .i64 (r.1 13), .int .i64 (r.1 14), .int .i64 (r.1 15), .int .i64 r.2, .slice A20 a22.length c21, .int .i64 a23] 260 :: OSf E_api_Out 265 (.slice A20 a22.length c21) a22 :: l) hf) := by
  have h := Holds.of h
  refine en func152 rfl ntmps152 rfl (sr (bx hS rfl rfl rfl rfl fun b33 w hS => ln (RC.seq (RC.planS (plD [0, 3, 7, 9, 12, 15, 18, 22, 24, 27, 30, 33, 37, 39, 42, 45, 49, 51, 54, 58, 60, 63, 66, 70, 75, 78, 74, 83, 86]) [27, 28] hS (fun w hS => hS) follows rfl (by kernel_rfl) (NoTmp.then NoTmp.body) fun w hS => pp 1 rfl (RP.s0 1 rfl (fun w => Vl.fa 1 underlying269 rfl sizeOf3 rfl rfl) rfl (RP.s 0 2 rfl rfl hS (fun w hS => Vl.ld 0 hS isAgg3 rfl rfl rfl) rfl (pp 2 rfl (RP.s0 5 rfl (fun w => Vl.fa 0 underlying260 rfl sizeOf91 rfl rfl) rfl (RP.s0 6 rfl (fun w => Vl.fa 3 underlying91 rfl sizeOf25 rfl rfl) rfl (RP.s 0 7 rfl rfl hS (fun w hS => Vl.ld 1 hS isAgg25 rfl rfl rfl) rfl (pp 2 rfl ?_)))))))))))
  refine RP.s0 10 rfl (fun w => Vl.fa 0 underlying260 rfl sizeOf91 rfl rfl) rfl (RP.s0 11 rfl (fun w => Vl.fa 1 underlying91 rfl sizeOf3 rfl rfl) rfl (RP.s 0 12 rfl rfl hS (fun w hS => Vl.ld 1 hS isAgg3 rfl rfl rfl) rfl (pp 2 rfl (RP.s0 15 rfl (fun w => Vl.fa 27 underlying260 rfl sizeOf3 rfl rfl) rfl (RP.s 0 16 rfl rfl hS (fun w hS => Vl.ld 1 hS isAgg3 rfl rfl rfl) rfl (pp 1 rfl (RP.s0 18 rfl (fun w => Vl.fa 2 underlying269 rfl sizeOf3 rfl rfl) rfl (RP.s 0 19 rfl rfl hS (fun w hS => Vl.ld 0 hS isAgg3 rfl rfl rfl) rfl (pp 1 rfl (RP.s0 21 rfl (fun w => Vl.fa 11 underlying260 rfl sizeOf258 rfl rfl) rfl ?_))))))))))
  obtain ⟨⟨hq34, hq35⟩, h⟩ := h.req
  refine RP.s0 22 rfl (fun w => Vl.indexAddrA (a'' := ⟨b1, 11 + a25.B.toNat * 1, none⟩) underlying258 sizeOf2 rfl rfl hq34 hq35 (add_mk _ _ _)) rfl (RP.s 0 23 rfl rfl hS (fun w hS => Vl.load isAgg2 rfl (hS.cell (off := 11 + a25.B.toNat * 1) (cs := [.slice A3 a2.length c4, .int .i64 a6, .slice A8 a7.length c9, .int .u64 a11, .int .i64 a12, .int .i64 a13, .int .i64 a14, .int .i64 a15, .int .i64 a16, .int .i64 a17, .bool a18] ++ (fc (Value.int .i64) 16 fn24 ++ [.int .i64 a19, .slice A20 a22.length c21, .int .i64 a23])) 1 rfl (seg_get rfl (by omega)))) rfl (pp 1 rfl (RP.s0 26 rfl (fun w => Vl.fa 11 underlying260 rfl sizeOf258 rfl rfl) rfl ?_)))
  obtain ⟨t36, hg37, h⟩ := h.bind
  have hc := draw_Below.ok hg37 hS
  refine RP.e 24 rfl (OW.callF (ls := [.tmp 11, .tmp 16, .tmp 20, .tmp 27]) rfl call160 hc) rfl rfl ?_
  rintro _ w ⟨rfl, hS⟩
  refine ⟨kp ⟨fun _ => hS, trivial⟩, ?_⟩
  obtain ⟨⟨hq38, hq39⟩, h⟩ := h.req
  refine RP.v1 27 rfl (Vl.indexAddrA (a'' := ⟨b1, 11 + a25.A.toNat * 1, none⟩) underlying258 sizeOf2 rfl rfl hq38 hq39 (add_mk _ _ _)) rfl rfl (RP.e0 28 rfl (OW.storeSeg (mk := (Value.int .i64)) (f := fn24) (n := 16) (m := 11) (pre := [.slice A3 a2.length c4, .int .i64 a6, .slice A8 a7.length c9, .int .u64 a11, .int .i64 a12, .int .i64 a13, .int .i64 a14, .int .i64 a15, .int .i64 a16, .int .i64 a17, .bool a18]) (post := [.int .i64 a19, .slice A20 a22.length c21, .int .i64 a23]) 1 hS rfl rfl rfl rfl sizeOf2 (by omega) (fun _ => rfl) (fun _ => rfl) rfl) rfl ?_)
  rintro _ w ⟨rfl, hS⟩
  have hS : St B w (_ :: _ :: _ :: l) hf := hS
  refine ⟨kp ⟨(by intro hx; cases hx), trivial⟩, ?_⟩
  refine RP.nil (RQ.then_n (RC.region (pn 2 rfl (RL.s (Vl.fa 27 underlying260 rfl sizeOf3 rfl rfl) rfl (RL.s (Vl.ld 1 hS isAgg3 rfl rfl rfl) rfl (pn 2 rfl (RL.s (Vl.fa 27 underlying260 rfl sizeOf3 rfl rfl) rfl (RL.e0 (OW.store (vs := [.int .i64 (IntKind.i64.wrap (a19 + 1))]) 1 hS rfl rfl rfl rfl sizeOf3 rfl rfl rfl rfl) rfl ?_))))))))
  rintro _ w ⟨rfl, hS⟩
  have hS : St B w (_ :: Cl b1 [.slice A3 a2.length c4, .int .i64 a6, .slice A8 a7.length c9, .int .u64 a11, .int .i64 a12, .int .i64 a13, .int .i64 a14, .int .i64 a15, .int .i64 a16, .int .i64 a17, .bool a18, .int .i64 ((upd fn24 (a25.A.toNat * 1) t36) 0), .int .i64 ((upd fn24 (a25.A.toNat * 1) t36) 1), .int .i64 ((upd fn24 (a25.A.toNat * 1) t36) 2), .int .i64 ((upd fn24 (a25.A.toNat * 1) t36) 3), .int .i64 ((upd fn24 (a25.A.toNat * 1) t36) 4), .int .i64 ((upd fn24 (a25.A.toNat * 1) t36) 5), .int .i64 ((upd fn24 (a25.A.toNat * 1) t36) 6), .int .i64 ((upd fn24 (a25.A.toNat * 1) t36) 7), .int .i64 ((upd fn24 (a25.A.toNat * 1) t36) 8), .int .i64 ((upd fn24 (a25.A.toNat * 1) t36) 9), .int .i64 ((upd fn24 (a25.A.toNat * 1) t36) 10), .int .i64 ((upd fn24 (a25.A.toNat * 1) t36) 11), .int .i64 ((upd fn24 (a25.A.toNat * 1) t36) 12), .int .i64 ((upd fn24 (a25.A.toNat * 1) t36) 13), .int .i64 ((upd fn24 (a25.A.toNat * 1) t36) 14), .int .i64 ((upd fn24 (a25.A.toNat * 1) t36) 15), .int .i64 (IntKind.i64.wrap (a19 + 1)), .slice A20 a22.length c21, .int .i64 a23] 260 :: _ :: l) hf := hS
  refine RL.nil ?_
  obtain rfl := h.some
  exact rtE results152 rfl ⟨rfl, hS.d0⟩
def vm_cpu_value.f (a2 : List api_Instr) (a6 : Int) (a7 : List api_Link) (a11 a12 a13 a14 a15 a16 a17 : Int) (a18 : Bool) (a19 : Int) (a22 : List api_Out) (a23 : Int) (fn24 : (Nat → Int)) (a25 : api_Instr) : Option ((Nat → Int)) := (if 0 ≤ a25.A ∧ a25.A < 16 then some (upd fn24 (a25.A.toNat * 1) a16) else none)
theorem vm_cpu_value.ok {a2 : List api_Instr} {a6 : Int} {a7 : List api_Link} {a11 a12 a13 a14 a15 a16 a17 : Int} {a18 : Bool} {a19 : Int} {a22 : List api_Out} {a23 : Int} {fn24 : (Nat → Int)} {a25 : api_Instr} {b1 : Nat} {A3 : Option Addr} {c4 : Nat} {A8 : Option Addr} {c9 : Nat} {A20 : Option Addr} {c21 : Nat} (hr5 : SlR E_api_Instr.rep hf A3 c4 a2) (hr10 : SlR E_api_Link.rep hf A8 c9 a7) {r : (Nat → Int)} (h : vm_cpu_value.f a2 a6 a7 a11 a12 a13 a14 a15 a16 a17 a18 a19 a22 a23 fn24 a25 = some r) (hS : St B w (Cl b1 [.slice A3 a2.length c4, .int .i64 a6, .slice A8 a7.length c9, .int .u64 a11, .int .i64 a12, .int .i64 a13, .int .i64 a14, .int .i64 a15, .int .i64 a16, .int .i64 a17, .bool a18, .int .i64 (fn24 0), .int .i64 (fn24 1), .int .i64 (fn24 2), .int .i64 (fn24 3), .int .i64 (fn24 4), .int .i64 (fn24 5), .int .i64 (fn24 6), .int .i64 (fn24 7), .int .i64 (fn24 8), .int .i64 (fn24 9), .int .i64 (fn24 10), .int .i64 (fn24 11), .int .i64 (fn24 12), .int .i64 (fn24 13), .int .i64 (fn24 14), .int .i64 (fn24 15), .int .i64 a19, .slice A20 a22.length c21, .int .i64 a23] 260 :: OSf E_api_Out 265 (.slice A20 a22.length c21) a22 :: l) hf) :
    Calls prog 153 #[.pointer (some ⟨b1, 0, none⟩), .agg (C_api_Instr a25).toArray] w (Ret fun v w => v = .tuple #[] ∧ St B w (Cl b1 [.slice A3 a2.length c4, .int .i64 a6, .slice A8 a7.length c9, .int .u64 a11, .int .i64 a12, .int .i64 a13, .int .i64 a14, .int .i64 a15, .int .i64 a16, .int .i64 a17, .bool a18, .int .i64 (r 0), .int .i64 (r 1), .int .i64 (r 2), .int .i64 (r 3), .int .i64 (r 4), .int .i64 (r 5), .int .i64 (r 6), .int .i64 (r 7), .int .i64 (r 8), .int .i64 (r 9), .int .i64 (r 10), .int .i64 (r 11), .int .i64 (r 12), .int .i64 (r 13), .int .i64 (r 14), .int .i64 (r 15), .int .i64 a19, .slice A20 a22.length c21, .int .i64 a23] 260 :: OSf E_api_Out 265 (.slice A20 a22.length c21) a22 :: l) hf) := by
  have h := Holds.of h
  refine en func153 rfl ntmps153 rfl (sr (bx hS rfl rfl rfl rfl fun b29 w hS => ln (RC.planS (plD [0, 3, 7, 9, 12, 15, 18, 22, 26, 29, 32, 35]) [10, 11] hS (fun w hS => hS) follows rfl (by kernel_rfl) NoTmp.body fun w hS => pp 1 rfl (RP.s0 1 rfl (fun w => Vl.fa 1 underlying269 rfl sizeOf3 rfl rfl) rfl (RP.s 0 2 rfl rfl hS (fun w hS => Vl.ld 0 hS isAgg3 rfl rfl rfl) rfl (pp 2 rfl (RP.s0 5 rfl (fun w => Vl.fa 4 underlying260 rfl sizeOf48 rfl rfl) rfl (RP.s0 6 rfl (fun w => Vl.fa 8 underlying48 rfl sizeOf2 rfl rfl) rfl (RP.s 0 7 rfl rfl hS (fun w hS => Vl.ld 1 hS isAgg2 rfl rfl rfl) rfl (RP.v1 8 rfl (Vl.nilCheck rfl) rfl rfl (RP.v1 9 rfl (Vl.fa 11 underlying260 rfl sizeOf258 rfl rfl) rfl rfl ?_)))))))))))
  obtain ⟨⟨hq30, hq31⟩, h⟩ := h.req
  refine RP.v1 10 rfl (Vl.indexAddrA (a'' := ⟨b1, 11 + a25.A.toNat * 1, none⟩) underlying258 sizeOf2 rfl rfl hq30 hq31 (add_mk _ _ _)) rfl rfl (RP.e0 11 rfl (OW.storeSeg (mk := (Value.int .i64)) (f := fn24) (n := 16) (m := 11) (pre := [.slice A3 a2.length c4, .int .i64 a6, .slice A8 a7.length c9, .int .u64 a11, .int .i64 a12, .int .i64 a13, .int .i64 a14, .int .i64 a15, .int .i64 a16, .int .i64 a17, .bool a18]) (post := [.int .i64 a19, .slice A20 a22.length c21, .int .i64 a23]) 1 hS rfl rfl rfl rfl sizeOf2 (by omega) (fun _ => rfl) (fun _ => rfl) rfl) rfl ?_)
  rintro _ w ⟨rfl, hS⟩
  have hS : St B w (_ :: _ :: _ :: l) hf := hS
  refine ⟨kp ⟨(by intro hx; cases hx), trivial⟩, ?_⟩
  refine RP.nil ?_
  obtain rfl := h.some
  exact rtE results153 rfl ⟨rfl, hS.d0⟩
def vm_cpu_time.f (a2 : List api_Instr) (a6 : Int) (a7 : List api_Link) (a11 a12 a13 a14 a15 a16 a17 : Int) (a18 : Bool) (a19 : Int) (a22 : List api_Out) (a23 : Int) (fn24 : (Nat → Int)) (a25 : api_Instr) : Option ((Nat → Int)) := (if 0 ≤ a25.A ∧ a25.A < 16 then some (upd fn24 (a25.A.toNat * 1) a12) else none)
theorem vm_cpu_time.ok {a2 : List api_Instr} {a6 : Int} {a7 : List api_Link} {a11 a12 a13 a14 a15 a16 a17 : Int} {a18 : Bool} {a19 : Int} {a22 : List api_Out} {a23 : Int} {fn24 : (Nat → Int)} {a25 : api_Instr} {b1 : Nat} {A3 : Option Addr} {c4 : Nat} {A8 : Option Addr} {c9 : Nat} {A20 : Option Addr} {c21 : Nat} (hr5 : SlR E_api_Instr.rep hf A3 c4 a2) (hr10 : SlR E_api_Link.rep hf A8 c9 a7) {r : (Nat → Int)} (h : vm_cpu_time.f a2 a6 a7 a11 a12 a13 a14 a15 a16 a17 a18 a19 a22 a23 fn24 a25 = some r) (hS : St B w (Cl b1 [.slice A3 a2.length c4, .int .i64 a6, .slice A8 a7.length c9, .int .u64 a11, .int .i64 a12, .int .i64 a13, .int .i64 a14, .int .i64 a15, .int .i64 a16, .int .i64 a17, .bool a18, .int .i64 (fn24 0), .int .i64 (fn24 1), .int .i64 (fn24 2), .int .i64 (fn24 3), .int .i64 (fn24 4), .int .i64 (fn24 5), .int .i64 (fn24 6), .int .i64 (fn24 7), .int .i64 (fn24 8), .int .i64 (fn24 9), .int .i64 (fn24 10), .int .i64 (fn24 11), .int .i64 (fn24 12), .int .i64 (fn24 13), .int .i64 (fn24 14), .int .i64 (fn24 15), .int .i64 a19, .slice A20 a22.length c21, .int .i64 a23] 260 :: OSf E_api_Out 265 (.slice A20 a22.length c21) a22 :: l) hf) :
    Calls prog 154 #[.pointer (some ⟨b1, 0, none⟩), .agg (C_api_Instr a25).toArray] w (Ret fun v w => v = .tuple #[] ∧ St B w (Cl b1 [.slice A3 a2.length c4, .int .i64 a6, .slice A8 a7.length c9, .int .u64 a11, .int .i64 a12, .int .i64 a13, .int .i64 a14, .int .i64 a15, .int .i64 a16, .int .i64 a17, .bool a18, .int .i64 (r 0), .int .i64 (r 1), .int .i64 (r 2), .int .i64 (r 3), .int .i64 (r 4), .int .i64 (r 5), .int .i64 (r 6), .int .i64 (r 7), .int .i64 (r 8), .int .i64 (r 9), .int .i64 (r 10), .int .i64 (r 11), .int .i64 (r 12), .int .i64 (r 13), .int .i64 (r 14), .int .i64 (r 15), .int .i64 a19, .slice A20 a22.length c21, .int .i64 a23] 260 :: OSf E_api_Out 265 (.slice A20 a22.length c21) a22 :: l) hf) := by
  have h := Holds.of h
  refine en func154 rfl ntmps154 rfl (sr (bx hS rfl rfl rfl rfl fun b29 w hS => ln (RC.planS (plD [0, 3, 7, 9, 12, 15, 18, 21, 25, 29, 32, 35, 38]) [11, 12] hS (fun w hS => hS) follows rfl (by kernel_rfl) NoTmp.body fun w hS => pp 1 rfl (RP.s0 1 rfl (fun w => Vl.fa 1 underlying269 rfl sizeOf3 rfl rfl) rfl (RP.s 0 2 rfl rfl hS (fun w hS => Vl.ld 0 hS isAgg3 rfl rfl rfl) rfl (pp 2 rfl (RP.s0 5 rfl (fun w => Vl.fa 4 underlying260 rfl sizeOf48 rfl rfl) rfl (RP.s0 6 rfl (fun w => Vl.fa 4 underlying48 rfl sizeOf46 rfl rfl) rfl (RP.s0 7 rfl (fun w => Vl.fa 4 underlying46 rfl sizeOf2 rfl rfl) rfl (RP.s 0 8 rfl rfl hS (fun w hS => Vl.ld 1 hS isAgg2 rfl rfl rfl) rfl (RP.v1 9 rfl (Vl.nilCheck rfl) rfl rfl ?_)))))))))))
  refine RP.v1 10 rfl (Vl.fa 11 underlying260 rfl sizeOf258 rfl rfl) rfl rfl ?_
  obtain ⟨⟨hq30, hq31⟩, h⟩ := h.req
  refine RP.v1 11 rfl (Vl.indexAddrA (a'' := ⟨b1, 11 + a25.A.toNat * 1, none⟩) underlying258 sizeOf2 rfl rfl hq30 hq31 (add_mk _ _ _)) rfl rfl (RP.e0 12 rfl (OW.storeSeg (mk := (Value.int .i64)) (f := fn24) (n := 16) (m := 11) (pre := [.slice A3 a2.length c4, .int .i64 a6, .slice A8 a7.length c9, .int .u64 a11, .int .i64 a12, .int .i64 a13, .int .i64 a14, .int .i64 a15, .int .i64 a16, .int .i64 a17, .bool a18]) (post := [.int .i64 a19, .slice A20 a22.length c21, .int .i64 a23]) 1 hS rfl rfl rfl rfl sizeOf2 (by omega) (fun _ => rfl) (fun _ => rfl) rfl) rfl ?_)
  rintro _ w ⟨rfl, hS⟩
  have hS : St B w (_ :: _ :: _ :: l) hf := hS
  refine ⟨kp ⟨(by intro hx; cases hx), trivial⟩, ?_⟩
  refine RP.nil ?_
  obtain rfl := h.some
  exact rtE results154 rfl ⟨rfl, hS.d0⟩
def vm_cpu_self.f (a2 : List api_Instr) (a6 : Int) (a7 : List api_Link) (a11 a12 a13 a14 a15 a16 a17 : Int) (a18 : Bool) (a19 : Int) (a22 : List api_Out) (a23 : Int) (fn24 : (Nat → Int)) (a25 : api_Instr) : Option ((Nat → Int)) := (if 0 ≤ a25.A ∧ a25.A < 16 then some (upd fn24 (a25.A.toNat * 1) a6) else none)
theorem vm_cpu_self.ok {a2 : List api_Instr} {a6 : Int} {a7 : List api_Link} {a11 a12 a13 a14 a15 a16 a17 : Int} {a18 : Bool} {a19 : Int} {a22 : List api_Out} {a23 : Int} {fn24 : (Nat → Int)} {a25 : api_Instr} {b1 : Nat} {A3 : Option Addr} {c4 : Nat} {A8 : Option Addr} {c9 : Nat} {A20 : Option Addr} {c21 : Nat} (hr5 : SlR E_api_Instr.rep hf A3 c4 a2) (hr10 : SlR E_api_Link.rep hf A8 c9 a7) {r : (Nat → Int)} (h : vm_cpu_self.f a2 a6 a7 a11 a12 a13 a14 a15 a16 a17 a18 a19 a22 a23 fn24 a25 = some r) (hS : St B w (Cl b1 [.slice A3 a2.length c4, .int .i64 a6, .slice A8 a7.length c9, .int .u64 a11, .int .i64 a12, .int .i64 a13, .int .i64 a14, .int .i64 a15, .int .i64 a16, .int .i64 a17, .bool a18, .int .i64 (fn24 0), .int .i64 (fn24 1), .int .i64 (fn24 2), .int .i64 (fn24 3), .int .i64 (fn24 4), .int .i64 (fn24 5), .int .i64 (fn24 6), .int .i64 (fn24 7), .int .i64 (fn24 8), .int .i64 (fn24 9), .int .i64 (fn24 10), .int .i64 (fn24 11), .int .i64 (fn24 12), .int .i64 (fn24 13), .int .i64 (fn24 14), .int .i64 (fn24 15), .int .i64 a19, .slice A20 a22.length c21, .int .i64 a23] 260 :: OSf E_api_Out 265 (.slice A20 a22.length c21) a22 :: l) hf) :
    Calls prog 155 #[.pointer (some ⟨b1, 0, none⟩), .agg (C_api_Instr a25).toArray] w (Ret fun v w => v = .tuple #[] ∧ St B w (Cl b1 [.slice A3 a2.length c4, .int .i64 a6, .slice A8 a7.length c9, .int .u64 a11, .int .i64 a12, .int .i64 a13, .int .i64 a14, .int .i64 a15, .int .i64 a16, .int .i64 a17, .bool a18, .int .i64 (r 0), .int .i64 (r 1), .int .i64 (r 2), .int .i64 (r 3), .int .i64 (r 4), .int .i64 (r 5), .int .i64 (r 6), .int .i64 (r 7), .int .i64 (r 8), .int .i64 (r 9), .int .i64 (r 10), .int .i64 (r 11), .int .i64 (r 12), .int .i64 (r 13), .int .i64 (r 14), .int .i64 (r 15), .int .i64 a19, .slice A20 a22.length c21, .int .i64 a23] 260 :: OSf E_api_Out 265 (.slice A20 a22.length c21) a22 :: l) hf) := by
  have h := Holds.of h
  refine en func155 rfl ntmps155 rfl (sr (bx hS rfl rfl rfl rfl fun b29 w hS => ln (RC.planS (plD [0, 3, 7, 9, 12, 15, 18, 22, 26, 29, 32, 35]) [10, 11] hS (fun w hS => hS) follows rfl (by kernel_rfl) NoTmp.body fun w hS => pp 1 rfl (RP.s0 1 rfl (fun w => Vl.fa 1 underlying269 rfl sizeOf3 rfl rfl) rfl (RP.s 0 2 rfl rfl hS (fun w hS => Vl.ld 0 hS isAgg3 rfl rfl rfl) rfl (pp 2 rfl (RP.s0 5 rfl (fun w => Vl.fa 0 underlying260 rfl sizeOf91 rfl rfl) rfl (RP.s0 6 rfl (fun w => Vl.fa 1 underlying91 rfl sizeOf3 rfl rfl) rfl (RP.s 0 7 rfl rfl hS (fun w hS => Vl.ld 1 hS isAgg3 rfl rfl rfl) rfl (RP.v1 8 rfl (Vl.nilCheck rfl) rfl rfl (RP.v1 9 rfl (Vl.fa 11 underlying260 rfl sizeOf258 rfl rfl) rfl rfl ?_)))))))))))
  obtain ⟨⟨hq30, hq31⟩, h⟩ := h.req
  refine RP.v1 10 rfl (Vl.indexAddrA (a'' := ⟨b1, 11 + a25.A.toNat * 1, none⟩) underlying258 sizeOf2 rfl rfl hq30 hq31 (add_mk _ _ _)) rfl rfl (RP.e0 11 rfl (OW.storeSeg (mk := (Value.int .i64)) (f := fn24) (n := 16) (m := 11) (pre := [.slice A3 a2.length c4, .int .i64 a6, .slice A8 a7.length c9, .int .u64 a11, .int .i64 a12, .int .i64 a13, .int .i64 a14, .int .i64 a15, .int .i64 a16, .int .i64 a17, .bool a18]) (post := [.int .i64 a19, .slice A20 a22.length c21, .int .i64 a23]) 1 hS rfl rfl rfl rfl sizeOf2 (by omega) (fun _ => rfl) (fun _ => rfl) rfl) rfl ?_)
  rintro _ w ⟨rfl, hS⟩
  have hS : St B w (_ :: _ :: _ :: l) hf := hS
  refine ⟨kp ⟨(by intro hx; cases hx), trivial⟩, ?_⟩
  refine RP.nil ?_
  obtain rfl := h.some
  exact rtE results155 rfl ⟨rfl, hS.d0⟩
def vm_cpu_run_1.f  : Option (Unit) := some ()
theorem vm_cpu_run_1.ok {b1 : Nat} {r : Unit} (h : vm_cpu_run_1.f = some r) (hS : St B w (Cl b1 [.nilIface] 108 :: l) hf) :
    CallsD prog 134 #[.pointer (some ⟨b1, 0, none⟩)] (.returning) w (fun e u' w' => u' = .returning ∧ (Ret fun v w => v = .tuple #[] ∧ St B w (Cl b1 [.nilIface] 108 :: l) hf) e w') := by
  have h := Holds.of h
  refine deferIdle (args := [.pointer (some ⟨b1, 0, none⟩)]) func134 rfl ntmps134 (Nat.le_of_ble_eq_true rfl) rfl (RC.block (sr (RL.s (Vl.bin (v := .bool true) rfl rfl (by kernel_rfl)) rfl (ln (RC.condT rfl (RC.region (pn 1 rfl (RL.nil (RQ.inB_n ?_)))))))))
  exact rtE results134 rfl ⟨rfl, hS⟩
def errors_Join_2.f (a3 : vm_fault) : Option (vm_fault) := some a3
theorem errors_Join_2.ok {a3 : vm_fault} {A1 : Option Addr} {c2 : Nat} {r : vm_fault} (h : errors_Join_2.f a3 = some r) (hS : St B w (OSl 108 1 (.slice A1 1 c2) 1 [.iface 262 (.agg #[.int .i64 a3.at_, .int .i64 a3.why])] :: l) hf) :
    Calls prog 118 #[.slice A1 1 c2] w (Ret fun v w => ∃ (b_1 : Nat) (A_2 : Option Addr) (c_3 : Nat), v = .iface 254 (.pointer (some ⟨b_1, 0, none⟩)) ∧ St B w (Cl b_1 [.slice A_2 1 c_3] 256 :: OSl 108 1 (.slice A_2 1 c_3) 1 [.iface 262 (.agg #[.int .i64 r.at_, .int .i64 r.why])] :: OSl 108 1 (.slice A1 1 c2) 1 [.iface 262 (.agg #[.int .i64 a3.at_, .int .i64 a3.why])] :: l) hf) := by
  have h := Holds.of h
  refine en func118 rfl ntmps118 rfl (sr (pn 1 rfl (lnsr (pn 1 rfl (ln (RC.seq (sr (pn 1 rfl (RL.s (Vl.lenSl underlying225 rfl) rfl ?_)))))))))
  refine pn 1 rfl (ln (RC.block (RC.unroll (RQ.round (sr (pn 1 rfl (ln (RC.seq (RC.condT rfl (sk (RC.seq ?_)))))))))))
  refine RC.block (sr (RL.s (Vl.indexAddr (a'' := (ad A1).add 0) underlying225 sizeOf108 rfl rfl (hS.litAdr 0 rfl (by decide)) (by decide) (by decide) rfl) rfl (RL.s (Vl.load isAgg108 rfl (hS.litCell 0 rfl rfl)) rfl (pn 1 rfl (lnsr (pn 1 rfl (RL.s (Vl.bin (v := .bool true) rfl rfl (by kernel_rfl)) rfl (ln (RC.condT rfl (RC.region ?_))))))))))
  refine pn 3 rfl (RL.nil (RQ.inB_n (RQ.then_n (RC.region (pn 2 rfl (ln (RQ.round (sr (pn 1 rfl (ln (RC.seq (RC.condF rfl ?_))))))))))))
  refine RC.exit (RQ.exitT (RQ.exitT (RQ.inB_hit (RQ.then_n (RC.seq (sr (pn 2 rfl (ln (RC.condF rfl (sk (sr ?_)))))))))))
  refine pn 1 rfl (RL.e (OW.make0L (c := 1) (sz := 1) hS underlying225 type108 rfl rfl rfl rfl (by decide) (by decide)) rfl rfl ?_)
  rintro _ w ⟨b18, rfl, hS⟩
  refine RL.s (Vl.build (v := .agg #[.slice (some ⟨b18, 0, none⟩) 0 1]) (parts := [(0, .tmp 23)]) rfl (by kernel_rfl)) rfl (bx hS rfl rfl rfl rfl fun b19 w hS => pn 1 rfl (ln (RC.seq (sr (pn 1 rfl (RL.s (Vl.lenSl underlying225 rfl) rfl (pn 1 rfl (ln (RC.block (RC.unroll (RQ.round ?_)))))))))))
  refine sr (pn 1 rfl (ln (RC.seq (RC.condT rfl (sk (RC.seq (RC.block (sr (RL.s (Vl.indexAddr (a'' := (ad A1).add 0) underlying225 sizeOf108 rfl rfl (hS.litAdr 2 rfl (by decide)) (by decide) (by decide) rfl) rfl (RL.s (Vl.load isAgg108 rfl (hS.litCell 2 rfl rfl)) rfl (pn 1 rfl ?_)))))))))))
  refine lnsr (pn 1 rfl (RL.s (Vl.bin (v := .bool true) rfl rfl (by kernel_rfl)) rfl (ln (RC.condT rfl (RC.region (pn 3 rfl (RL.s (Vl.fa 0 underlying256 rfl sizeOf225 rfl rfl) rfl (RL.s (Vl.ld 0 hS isAgg225 rfl rfl rfl) rfl (pn 1 rfl (RL.e (OW.buildSliceR (sz := 1) (cs := [.iface 262 (.agg #[.int .i64 a3.at_, .int .i64 a3.why])]) hS underlying225 zeroValue108 sizeOf108 (parts := [(0, .tmp 39)]) rfl rfl (by decide) (by decide) (by kernel_rfl)) rfl rfl ?_))))))))))
  rintro _ w ⟨b29, rfl, hS⟩
  refine RL.e (OW.appendL (k := 1) (es := [.iface 262 (.agg #[.int .i64 a3.at_, .int .i64 a3.why])]) 2 0 hS rfl rfl underlying225 type108 rfl rfl rfl rfl (by decide) (by decide) rfl rfl rfl (by decide) rfl rfl rfl) rfl rfl ?_
  rintro _ w ⟨A30, c31, rfl, hS⟩
  have hS : St B w (_ :: _ :: _ :: _ :: l) hf := hS
  refine pn 1 rfl (RL.s (Vl.fa 0 underlying256 rfl sizeOf225 rfl rfl) rfl (RL.e0 (OW.store (vs := [.slice A30 1 c31]) 2 hS rfl rfl rfl rfl sizeOf225 rfl rfl rfl rfl) rfl ?_))
  rintro _ w ⟨rfl, hS⟩
  have hS : St B w (_ :: _ :: Cl _ [_] _ :: _ :: l) hf := hS
  refine RL.nil (RQ.inB_n (RQ.then_n (RC.region (pn 2 rfl (ln (RQ.round (sr (pn 1 rfl (ln (RC.seq (RC.condF rfl (RC.exit ?_))))))))))))
  refine RQ.exitT (RQ.exitT (RQ.inB_hit (tsr (pn 1 rfl (RL.s (Vl.makeIface underlying254 rfl rfl) rfl (pn 1 rfl (lr ?_)))))))
  obtain rfl := h.some
  exact rt results118 rfl ⟨b19, A30, c31, rfl, hS.d1.p1⟩
def vm_cpu_run_1v2.f (a2 : vm_fault) : Option (vm_fault) := ((errors_Join_2.f a2).bind fun t12 => some t12)
theorem vm_cpu_run_1v2.ok {a2 : vm_fault} {b1 : Nat} {r : vm_fault} (h : vm_cpu_run_1v2.f a2 = some r) (hS : St B w (Cl b1 [.nilIface] 108 :: l) hf) :
    CallsD prog 134 #[.pointer (some ⟨b1, 0, none⟩)] (.panicking (pan (.iface 262 (.agg #[.int .i64 a2.at_, .int .i64 a2.why])))) w (fun e u' w' => u' = .panicking (panR (.iface 262 (.agg #[.int .i64 a2.at_, .int .i64 a2.why]))) ∧ (Ret fun v w => ∃ (b_1 : Nat) (A_2 : Option Addr) (c_3 : Nat), v = .tuple #[] ∧ St B w (Cl b_1 [.slice A_2 1 c_3] 256 :: OSl 108 1 (.slice A_2 1 c_3) 1 [.iface 262 (.agg #[.int .i64 r.at_, .int .i64 r.why])] :: Cl b1 [.iface 254 (.pointer (some ⟨b_1, 0, none⟩))] 108 :: l) hf) e w') := by
  have h := Holds.of h
  refine deferCatch (args := [.pointer (some ⟨b1, 0, none⟩)]) func134 rfl ntmps134 (Nat.le_of_ble_eq_true rfl) rfl (RC.block (sr (RL.s (Vl.bin (v := .bool false) rfl rfl (by kernel_rfl)) rfl (ln (RC.condF rfl (sr (RL.s (Vl.tassert (r := .tuple #[.agg #[.int .i64 a2.at_, .int .i64 a2.why], .bool true]) rfl (fun w => run_tassert_same underlying262 rfl _ _ w)) rfl (pn 2 rfl (ln (RC.condT rfl (RC.seq ?_)))))))))))
  refine RC.region (al hS zeroValue262 rfl rfl rfl fun b10 w hS => RL.e0 (OW.store (vs := [.int .i64 a2.at_, .int .i64 a2.why]) 0 hS rfl rfl rfl rfl sizeOf262 rfl rfl rfl rfl) rfl ?_)
  rintro _ w ⟨rfl, hS⟩
  have hS : St B w (Cl _ [_, _] _ :: _ :: l) hf := hS
  refine ln (RC.region (RL.s (Vl.lw 0 hS isAgg262 sizeOf262 rfl rfl rfl) rfl (RL.s (Vl.makeIface underlying262 rfl rfl) rfl (RL.e (OW.buildSliceR (sz := 1) (cs := [.iface 262 (.agg #[.int .i64 a2.at_, .int .i64 a2.why])]) hS underlying225 zeroValue108 sizeOf108 (parts := [(0, .tmp 11)]) rfl rfl (by decide) (by decide) (by kernel_rfl)) rfl rfl ?_))))
  rintro _ w ⟨b11, rfl, hS⟩
  refine cF (fun _ hg => errors_Join_2.ok hg hS) call118 h rfl rfl rfl ?_
  rintro t12 h _ w ⟨b14, A15, c16, rfl, hS⟩
  refine RL.e0 (OW.store (vs := [.iface 254 (.pointer (some ⟨b14, 0, none⟩))]) 4 hS rfl rfl rfl rfl sizeOf108 rfl rfl rfl rfl) rfl ?_
  rintro _ w ⟨rfl, hS⟩
  have hS : St B w (_ :: _ :: _ :: _ :: Cl _ [_] _ :: l) hf := hS
  refine RL.nil (RQ.inB_n ?_)
  obtain rfl := h.some
  exact rtE results134 rfl ⟨b14, A15, c16, rfl, hS.d2.d2⟩
def vm_cpu_run.j14 (fn1258 : (Nat → Int)) (x1259 : Int) (l1260 : List api_Out) (x1263 : Int) : Option (((Nat → Int) × Int × List api_Out × Int) ⊕ (vm_fault × (Nat → Int) × Int × List api_Out × Int)) := ((vm_cpu_run_1.f).bind fun _ => some (.inl (fn1258, x1259, l1260, x1263)))
def vm_cpu_run.j18 (x1405 : Int) (fn1605 : (Nat → Int)) (x1606 : Int) (l1607 : List api_Out) (x1610 : Int) : Option (((Nat → Int) × Int × List api_Out × Int × Int) ⊕ (((Nat → Int) × Int × List api_Out × Int) ⊕ (vm_fault × (Nat → Int) × Int × List api_Out × Int))) := some (.inl (fn1605, x1606, l1607, x1610, IntKind.i64.wrap (x1405 - 1)))
def vm_cpu_run.l17b (a2 : List api_Instr) (a6 : Int) (a7 : List api_Link) (a11 a12 a13 a14 a15 a16 a17 : Int) (a18 : Bool) : (Nat → Int) × Int × List api_Out × Int × Int → Option (((Nat → Int) × Int × List api_Out × Int × Int) ⊕ (((Nat → Int) × Int × List api_Out × Int) ⊕ (vm_fault × (Nat → Int) × Int × List api_Out × Int)))
  | (fn1399, x1400, l1401, x1404, x1405) => (if 0 < x1405 then (if x1404 < (a2.length : Int) then (if 0 ≤ x1404 then (if (nth a2 x1404).Op = 0 then ((vm_cpu_halt.f a2 a6 a7 a11 a12 a13 a14 a15 a16 a17 a18 x1400 l1401 (IntKind.i64.wrap (x1404 + 1)) fn1399 (nth a2 x1404)).bind fun t1614 => vm_cpu_run.j18 x1405 fn1399 x1400 l1401 t1614) else (if (nth a2 x1404).Op = 1 then ((vm_cpu_set.f a2 a6 a7 a11 a12 a13 a14 a15 a16 a17 a18 x1400 l1401 (IntKind.i64.wrap (x1404 + 1)) fn1399 (nth a2 x1404)).bind fun t1617 => vm_cpu_run.j18 x1405 t1617 x1400 l1401 (IntKind.i64.wrap (x1404 + 1))) else (if (nth a2 x1404).Op = 2 then ((vm_cpu_move.f a2 a6 a7 a11 a12 a13 a14 a15 a16 a17 a18 x1400 l1401 (IntKind.i64.wrap (x1404 + 1)) fn1399 (nth a2 x1404)).bind fun t1620 => vm_cpu_run.j18 x1405 t1620 x1400 l1401 (IntKind.i64.wrap (x1404 + 1))) else (if (nth a2 x1404).Op = 3 then ((vm_cpu_add.f a2 a6 a7 a11 a12 a13 a14 a15 a16 a17 a18 x1400 l1401 (IntKind.i64.wrap (x1404 + 1)) fn1399 (nth a2 x1404)).bind fun t1623 => vm_cpu_run.j18 x1405 t1623 x1400 l1401 (IntKind.i64.wrap (x1404 + 1))) else (if (nth a2 x1404).Op = 4 then ((vm_cpu_sub.f a2 a6 a7 a11 a12 a13 a14 a15 a16 a17 a18 x1400 l1401 (IntKind.i64.wrap (x1404 + 1)) fn1399 (nth a2 x1404)).bind fun t1626 => vm_cpu_run.j18 x1405 t1626 x1400 l1401 (IntKind.i64.wrap (x1404 + 1))) else (if (nth a2 x1404).Op = 5 then ((vm_cpu_mul.f a2 a6 a7 a11 a12 a13 a14 a15 a16 a17 a18 x1400 l1401 (IntKind.i64.wrap (x1404 + 1)) fn1399 (nth a2 x1404)).bind fun t1629 => vm_cpu_run.j18 x1405 t1629 x1400 l1401 (IntKind.i64.wrap (x1404 + 1))) else (if (nth a2 x1404).Op = 6 then ((vm_cpu_div.f a2 a6 a7 a11 a12 a13 a14 a15 a16 a17 a18 x1400 l1401 (IntKind.i64.wrap (x1404 + 1)) fn1399 (nth a2 x1404)).bind fun t1632 => vm_cpu_run.j18 x1405 t1632 x1400 l1401 (IntKind.i64.wrap (x1404 + 1))) else (if (nth a2 x1404).Op = 7 then ((vm_cpu_mod.f a2 a6 a7 a11 a12 a13 a14 a15 a16 a17 a18 x1400 l1401 (IntKind.i64.wrap (x1404 + 1)) fn1399 (nth a2 x1404)).bind fun t1635 => vm_cpu_run.j18 x1405 t1635 x1400 l1401 (IntKind.i64.wrap (x1404 + 1))) else (if (nth a2 x1404).Op = 8 then ((vm_cpu_less.f a2 a6 a7 a11 a12 a13 a14 a15 a16 a17 a18 x1400 l1401 (IntKind.i64.wrap (x1404 + 1)) fn1399 (nth a2 x1404)).bind fun t1638 => vm_cpu_run.j18 x1405 t1638 x1400 l1401 (IntKind.i64.wrap (x1404 + 1))) else (if (nth a2 x1404).Op = 9 then ((vm_cpu_same.f a2 a6 a7 a11 a12 a13 a14 a15 a16 a17 a18 x1400 l1401 (IntKind.i64.wrap (x1404 + 1)) fn1399 (nth a2 x1404)).bind fun t1641 => vm_cpu_run.j18 x1405 t1641 x1400 l1401 (IntKind.i64.wrap (x1404 + 1))) else (if (nth a2 x1404).Op = 10 then ((vm_cpu_jump.f a2 a6 a7 a11 a12 a13 a14 a15 a16 a17 a18 x1400 l1401 (IntKind.i64.wrap (x1404 + 1)) fn1399 (nth a2 x1404)).bind fun t1644 => vm_cpu_run.j18 x1405 fn1399 x1400 l1401 t1644) else (if (nth a2 x1404).Op = 11 then ((vm_cpu_zero.f a2 a6 a7 a11 a12 a13 a14 a15 a16 a17 a18 x1400 l1401 (IntKind.i64.wrap (x1404 + 1)) fn1399 (nth a2 x1404)).bind fun t1647 => vm_cpu_run.j18 x1405 fn1399 x1400 l1401 t1647) else (if (nth a2 x1404).Op = 12 then ((vm_cpu_send.f a2 a6 a7 a11 a12 a13 a14 a15 a16 a17 a18 x1400 l1401 (IntKind.i64.wrap (x1404 + 1)) fn1399 (nth a2 x1404)).bind fun t1650 => match t1650 with | .inl y1652 => vm_cpu_run.j18 x1405 fn1399 x1400 y1652 (IntKind.i64.wrap (x1404 + 1)) | .inr (y1655) => (Option.map Sum.inr ((vm_cpu_run_1v2.f y1655).bind fun t1656 => some (.inr ((t1656, fn1399, x1400, l1401, IntKind.i64.wrap (x1404 + 1))))))) else (if (nth a2 x1404).Op = 13 then ((vm_cpu_draw.f a2 a6 a7 a11 a12 a13 a14 a15 a16 a17 a18 x1400 l1401 (IntKind.i64.wrap (x1404 + 1)) fn1399 (nth a2 x1404)).bind fun (y1664, y1665) => vm_cpu_run.j18 x1405 y1664 y1665 l1401 (IntKind.i64.wrap (x1404 + 1))) else (if (nth a2 x1404).Op = 14 then ((vm_cpu_value.f a2 a6 a7 a11 a12 a13 a14 a15 a16 a17 a18 x1400 l1401 (IntKind.i64.wrap (x1404 + 1)) fn1399 (nth a2 x1404)).bind fun t1667 => vm_cpu_run.j18 x1405 t1667 x1400 l1401 (IntKind.i64.wrap (x1404 + 1))) else (if (nth a2 x1404).Op = 15 then ((vm_cpu_time.f a2 a6 a7 a11 a12 a13 a14 a15 a16 a17 a18 x1400 l1401 (IntKind.i64.wrap (x1404 + 1)) fn1399 (nth a2 x1404)).bind fun t1670 => vm_cpu_run.j18 x1405 t1670 x1400 l1401 (IntKind.i64.wrap (x1404 + 1))) else (if (nth a2 x1404).Op = 16 then ((vm_cpu_self.f a2 a6 a7 a11 a12 a13 a14 a15 a16 a17 a18 x1400 l1401 (IntKind.i64.wrap (x1404 + 1)) fn1399 (nth a2 x1404)).bind fun t1673 => vm_cpu_run.j18 x1405 t1673 x1400 l1401 (IntKind.i64.wrap (x1404 + 1))) else none))))))))))))))))) else none) else (Option.map Sum.inr (vm_cpu_run.j14 fn1399 x1400 l1401 x1404))) else (Option.map Sum.inr (vm_cpu_run.j14 fn1399 x1400 l1401 x1404)))
def vm_cpu_run.l17 (a2 : List api_Instr) (a6 : Int) (a7 : List api_Link) (a11 a12 a13 a14 a15 a16 a17 : Int) (a18 : Bool) (s : (Nat → Int) × Int × List api_Out × Int × Int) : Option (((Nat → Int) × Int × List api_Out × Int) ⊕ (vm_fault × (Nat → Int) × Int × List api_Out × Int)) := loopR (vm_cpu_run.l17b a2 a6 a7 a11 a12 a13 a14 a15 a16 a17 a18) s
def vm_cpu_run.f (a2 : List api_Instr) (a6 : Int) (a7 : List api_Link) (a11 a12 a13 a14 a15 a16 a17 : Int) (a18 : Bool) (a19 : Int) (a22 : List api_Out) (a23 : Int) (fn24 : (Nat → Int)) : Option (((Nat → Int) × Int × List api_Out × Int) ⊕ (vm_fault × (Nat → Int) × Int × List api_Out × Int)) := ((vm_operators.f).bind fun _ => vm_cpu_run.l17 a2 a6 a7 a11 a12 a13 a14 a15 a16 a17 a18 (fn24, a19, a22, a23, 4096))
theorem vm_cpu_run.ok {a2 : List api_Instr} {a6 : Int} {a7 : List api_Link} {a11 a12 a13 a14 a15 a16 a17 : Int} {a18 : Bool} {a19 : Int} {a22 : List api_Out} {a23 : Int} {fn24 : (Nat → Int)} {b1 : Nat} {A3 : Option Addr} {c4 : Nat} {A8 : Option Addr} {c9 : Nat} {A20 : Option Addr} {c21 : Nat} (hr5 : SlR E_api_Instr.rep hf A3 c4 a2) (hr10 : SlR E_api_Link.rep hf A8 c9 a7) {r : ((Nat → Int) × Int × List api_Out × Int) ⊕ (vm_fault × (Nat → Int) × Int × List api_Out × Int)} (h : vm_cpu_run.f a2 a6 a7 a11 a12 a13 a14 a15 a16 a17 a18 a19 a22 a23 fn24 = some r) (hS : St B w (Cl b1 [.slice A3 a2.length c4, .int .i64 a6, .slice A8 a7.length c9, .int .u64 a11, .int .i64 a12, .int .i64 a13, .int .i64 a14, .int .i64 a15, .int .i64 a16, .int .i64 a17, .bool a18, .int .i64 (fn24 0), .int .i64 (fn24 1), .int .i64 (fn24 2), .int .i64 (fn24 3), .int .i64 (fn24 4), .int .i64 (fn24 5), .int .i64 (fn24 6), .int .i64 (fn24 7), .int .i64 (fn24 8), .int .i64 (fn24 9), .int .i64 (fn24 10), .int .i64 (fn24 11), .int .i64 (fn24 12), .int .i64 (fn24 13), .int .i64 (fn24 14), .int .i64 (fn24 15), .int .i64 a19, .slice A20 a22.length c21, .int .i64 a23] 260 :: OSf E_api_Out 265 (.slice A20 a22.length c21) a22 :: l) hf) :
    Calls prog 129 #[.pointer (some ⟨b1, 0, none⟩)] w (Ret fun v w => match (generalizing := false) r with | .inl r_ => ∃ (A_1 : Option Addr) (c_2 : Nat), v = .nilIface ∧ St B w (OSf E_api_Out 265 (.slice A_1 r_.2.2.1.length c_2) r_.2.2.1 :: Cl b1 [.slice A3 a2.length c4, .int .i64 a6, .slice A8 a7.length c9, .int .u64 a11, .int .i64 a12, .int .i64 a13, .int .i64 a14, .int .i64 a15, .int .i64 a16, .int .i64 a17, .bool a18, .int .i64 (r_.1 0), .int .i64 (r_.1 1), .int .i64 (r_.1 2), .int .i64 (r_.1 3), .int .i64 (r_.1 4), .int .i64 (r_.1 5), .int .i64 (r_.1 6), .int .i64 (r_.1 7), .int .i64 (r_.1 8), .int .i64 (r_.1 9), .int .i64 (r_.1 10), .int .i64 (r_.1 11), .int .i64 (r_.1 12), .int .i64 (r_.1 13), .int .i64 (r_.1 14), .int .i64 (r_.1 15), .int .i64 r_.2.1, .slice A_1 r_.2.2.1.length c_2, .int .i64 r_.2.2.2] 260 :: l) hf | .inr (r_) => ∃ (b_3 : Nat) (A_4 : Option Addr) (c_5 : Nat) (A_6 : Option Addr) (c_7 : Nat), v = .iface 254 (.pointer (some ⟨b_3, 0, none⟩)) ∧ St B w (Cl b_3 [.slice A_4 1 c_5] 256 :: OSl 108 1 (.slice A_4 1 c_5) 1 [.iface 262 (.agg #[.int .i64 r_.1.at_, .int .i64 r_.1.why])] :: OSf E_api_Out 265 (.slice A_6 r_.2.2.2.1.length c_7) r_.2.2.2.1 :: Cl b1 [.slice A3 a2.length c4, .int .i64 a6, .slice A8 a7.length c9, .int .u64 a11, .int .i64 a12, .int .i64 a13, .int .i64 a14, .int .i64 a15, .int .i64 a16, .int .i64 a17, .bool a18, .int .i64 (r_.2.1 0), .int .i64 (r_.2.1 1), .int .i64 (r_.2.1 2), .int .i64 (r_.2.1 3), .int .i64 (r_.2.1 4), .int .i64 (r_.2.1 5), .int .i64 (r_.2.1 6), .int .i64 (r_.2.1 7), .int .i64 (r_.2.1 8), .int .i64 (r_.2.1 9), .int .i64 (r_.2.1 10), .int .i64 (r_.2.1 11), .int .i64 (r_.2.1 12), .int .i64 (r_.2.1 13), .int .i64 (r_.2.1 14), .int .i64 (r_.2.1 15), .int .i64 r_.2.2.1, .slice A_6 r_.2.2.2.1.length c_7, .int .i64 r_.2.2.2.2] 260 :: l) hf) := by
  have h := Holds.of h
  refine enterD (args := [.pointer (some ⟨b1, 0, none⟩)]) func129 rfl ntmps129 (Nat.le_of_ble_eq_true rfl) (sr (al hS zeroValue108 rfl rfl rfl fun b850 w hS => lnsr (RL.s (Vl.makeFunc (fi := []) (ca := [.tmp 2]) rfl rfl) rfl (RL.defer rfl (lnsr (cF (fun _ hg => vm_operators.ok hg hS) call135 h rfl rfl rfl ?_))))))
  rintro _ h _ w ⟨b853, rfl, hS⟩
  refine pn 1 rfl (ln ?_)
  refine RC.join (fun (s : (Nat → Int) × Int × List api_Out × Int) a w => ∃ (fn1258 : (Nat → Int)) (x1259 : Int) (l1260 : List api_Out) (x1263 : Int), s = (fn1258, x1259, l1260, x1263) ∧ ∃ (A1261 : Option Addr) (c1262 : Nat), Has ⟨50, [⟨.fn (.func 134) #[.pointer (some ⟨b850, 0, none⟩)], #[]⟩], true⟩ [(2, .pointer (some ⟨b850, 0, none⟩))] a ∧ St B w (OSf E_api_Out 265 (.slice A1261 l1260.length c1262) l1260 :: Cl b850 [.nilIface] 108 :: Cl b1 [.slice A3 a2.length c4, .int .i64 a6, .slice A8 a7.length c9, .int .u64 a11, .int .i64 a12, .int .i64 a13, .int .i64 a14, .int .i64 a15, .int .i64 a16, .int .i64 a17, .bool a18, .int .i64 (fn1258 0), .int .i64 (fn1258 1), .int .i64 (fn1258 2), .int .i64 (fn1258 3), .int .i64 (fn1258 4), .int .i64 (fn1258 5), .int .i64 (fn1258 6), .int .i64 (fn1258 7), .int .i64 (fn1258 8), .int .i64 (fn1258 9), .int .i64 (fn1258 10), .int .i64 (fn1258 11), .int .i64 (fn1258 12), .int .i64 (fn1258 13), .int .i64 (fn1258 14), .int .i64 (fn1258 15), .int .i64 x1259, .slice A1261 l1260.length c1262, .int .i64 x1263] 260 :: l) hf ∧ Holds (· = r) (vm_cpu_run.j14 fn1258 x1259 l1260 x1263)) ?_ ?_
  · rintro _ a w ⟨fn1258, x1259, l1260, x1263, rfl, A1261, c1262, ha, hS, h⟩
    revert a
    show RC _ _ _ _ _ _
    refine sr (RL.e0 (OW.store (vs := [.nilIface]) 1 hS rfl rfl rfl rfl sizeOf108 rfl rfl rfl rfl) rfl ?_)
    rintro _ w ⟨rfl, hS⟩
    have hS : St B w (_ :: Cl _ [_] _ :: _ :: l) hf := hS
    refine lr ?_
    obtain ⟨t1264, hg1265, h⟩ := h.bind
    obtain rfl := h.some
    refine RQ.deferRet results129 (fun w => by kernel_rfl) (vm_cpu_run_1.ok hg1265 hS.p1) ?_
    rintro _ w ⟨rfl, hS⟩
    have hS : St B w (_ :: _ :: _ :: l) hf := hS
    exact ⟨[.nilIface], ⟨⟨_, rfl, run_loadVar1 isAgg108 (hS.cell 0 rfl rfl)⟩, trivial⟩, ⟨A1261, c1262, rfl, hS.d0⟩⟩
  refine sr (pn 1 rfl (ln (RC.block ?_)))
  refine fun a ha => RC.loop (N := ⟨50, [⟨.fn (.func 134) #[.pointer (some ⟨b850, 0, none⟩)], #[]⟩], true⟩) (body := (vm_cpu_run.l17b a2 a6 a7 a11 a12 a13 a14 a15 a16 a17 a18)) (φ := (· = r)) (fun (s : (Nat → Int) × Int × List api_Out × Int × Int) a w => ∃ (fn1399 : (Nat → Int)) (x1400 : Int) (l1401 : List api_Out) (x1404 : Int) (x1405 : Int), s = (fn1399, x1400, l1401, x1404, x1405) ∧ ∃ (A1402 : Option Addr) (c1403 : Nat), Has ⟨50, [⟨.fn (.func 134) #[.pointer (some ⟨b850, 0, none⟩)], #[]⟩], true⟩ [(0, .pointer (some ⟨b1, 0, none⟩)), (2, .pointer (some ⟨b850, 0, none⟩)), (3, .map (some b853)), (4, .int .i64 x1405)] a ∧ St B w (OSf E_api_Out 265 (.slice A1402 l1401.length c1403) l1401 :: MapL b853 [({ key := .int .i64 0, val := .func (.func 139) #[] #[], born := 0 } : MapEntry), ({ key := .int .i64 1, val := .func (.func 140) #[] #[], born := 1 } : MapEntry), ({ key := .int .i64 2, val := .func (.func 141) #[] #[], born := 2 } : MapEntry), ({ key := .int .i64 3, val := .func (.func 142) #[] #[], born := 3 } : MapEntry), ({ key := .int .i64 4, val := .func (.func 143) #[] #[], born := 4 } : MapEntry), ({ key := .int .i64 5, val := .func (.func 144) #[] #[], born := 5 } : MapEntry), ({ key := .int .i64 6, val := .func (.func 145) #[] #[], born := 6 } : MapEntry), ({ key := .int .i64 7, val := .func (.func 146) #[] #[], born := 7 } : MapEntry), ({ key := .int .i64 8, val := .func (.func 147) #[] #[], born := 8 } : MapEntry), ({ key := .int .i64 9, val := .func (.func 148) #[] #[], born := 9 } : MapEntry), ({ key := .int .i64 10, val := .func (.func 149) #[] #[], born := 10 } : MapEntry), ({ key := .int .i64 11, val := .func (.func 150) #[] #[], born := 11 } : MapEntry), ({ key := .int .i64 12, val := .func (.func 151) #[] #[], born := 12 } : MapEntry), ({ key := .int .i64 13, val := .func (.func 152) #[] #[], born := 13 } : MapEntry), ({ key := .int .i64 14, val := .func (.func 153) #[] #[], born := 14 } : MapEntry), ({ key := .int .i64 15, val := .func (.func 154) #[] #[], born := 15 } : MapEntry), ({ key := .int .i64 16, val := .func (.func 155) #[] #[], born := 16 } : MapEntry)] 17 :: Cl b850 [.nilIface] 108 :: Cl b1 [.slice A3 a2.length c4, .int .i64 a6, .slice A8 a7.length c9, .int .u64 a11, .int .i64 a12, .int .i64 a13, .int .i64 a14, .int .i64 a15, .int .i64 a16, .int .i64 a17, .bool a18, .int .i64 (fn1399 0), .int .i64 (fn1399 1), .int .i64 (fn1399 2), .int .i64 (fn1399 3), .int .i64 (fn1399 4), .int .i64 (fn1399 5), .int .i64 (fn1399 6), .int .i64 (fn1399 7), .int .i64 (fn1399 8), .int .i64 (fn1399 9), .int .i64 (fn1399 10), .int .i64 (fn1399 11), .int .i64 (fn1399 12), .int .i64 (fn1399 13), .int .i64 (fn1399 14), .int .i64 (fn1399 15), .int .i64 x1400, .slice A1402 l1401.length c1403, .int .i64 x1404] 260 :: l) hf) ?_ (s0 := (fn24, a19, a22, a23, 4096)) h ⟨fn24, a19, a22, a23, 4096, rfl, A20, c21, ha.to ⟨rfl, rfl, rfl, rfl, trivial⟩, hS.p3⟩
  rintro G1541 _ a w ⟨fn1399, x1400, l1401, x1404, x1405, rfl, A1402, c1403, ha, hS⟩ h
  revert a
  show RC _ _ _ _ _ _
  refine RC.seq (RC.seq (RC.noPan (RC.planS (plD [0, 3, 6, 9, 12, 15, 19, 23, 26, 29, 32, 35, 38, 41, 44]) [13, 14] hS (fun w hS => hS) follows rfl (by kernel_rfl) NoTmp.noPan fun w hS => pp 3 rfl ?_)))
  refine RP.iteP 10 rfl h (fun hc1544 h => ?_) fun hc1544 h => ?_
  next =>
   refine pp 2 rfl (RP.sg0 5 rfl (fun w => Vl.fa 29 underlying260 rfl sizeOf3 rfl rfl) rfl rfl (RP.sg 0 6 rfl rfl hS (fun w hS => Vl.ld 3 hS isAgg3 rfl rfl rfl) rfl rfl (RP.v1 7 rfl (Vl.move rfl) rfl rfl (RP.v1 8 rfl (Vl.nilCheck rfl) rfl rfl (RP.v1 9 rfl (Vl.fa 0 underlying260 rfl sizeOf91 rfl rfl) rfl rfl (RP.v1 10 rfl (Vl.fa 0 underlying91 rfl sizeOf89 rfl rfl) rfl rfl (RP.v1 11 rfl (Vl.ld 3 hS isAgg89 rfl rfl rfl) rfl rfl (RP.v1 12 rfl (Vl.lenSl underlying89 rfl) rfl rfl (RP.v1 13 rfl (Vl.int rfl rfl rfl) rfl rfl (RP.v1 14 rfl (Vl.pickT rfl rfl) rfl rfl (RP.nil (RQ.noPan_n (RQ.then_n ?_)))))))))))))
   refine RC.iteP 22 rfl h (fun hc1545 h => ?_) fun hc1545 h => ?_
   next =>
    refine RC.condT rfl (sk ?_)
    refine RC.join (fun (s : (Nat → Int) × Int × List api_Out × Int) a w => ∃ (fn1605 : (Nat → Int)) (x1606 : Int) (l1607 : List api_Out) (x1610 : Int), s = (fn1605, x1606, l1607, x1610) ∧ ∃ (A1608 : Option Addr) (c1609 : Nat), Has ⟨50, [⟨.fn (.func 134) #[.pointer (some ⟨b850, 0, none⟩)], #[]⟩], true⟩ [(0, .pointer (some ⟨b1, 0, none⟩)), (2, .pointer (some ⟨b850, 0, none⟩)), (3, .map (some b853)), (4, .int .i64 x1405), (11, .pointer (some ⟨b1, 0, none⟩)), (12, .pointer (some ⟨b1, 0, none⟩)), (13, .pointer (some ⟨b1, 29, none⟩)), (14, .int .i64 x1404), (15, .pointer (some ⟨b1, 0, none⟩)), (16, .pointer (some ⟨b1, 0, none⟩)), (17, .pointer (some ⟨b1, 0, none⟩)), (18, .pointer (some ⟨b1, 0, none⟩)), (19, .slice A3 a2.length c4), (20, .int .i64 (a2.length : Int)), (21, .bool (decide (x1404 < (a2.length : Int))))] a ∧ St B w (OSf E_api_Out 265 (.slice A1608 l1607.length c1609) l1607 :: Cl b1 [.slice A3 a2.length c4, .int .i64 a6, .slice A8 a7.length c9, .int .u64 a11, .int .i64 a12, .int .i64 a13, .int .i64 a14, .int .i64 a15, .int .i64 a16, .int .i64 a17, .bool a18, .int .i64 (fn1605 0), .int .i64 (fn1605 1), .int .i64 (fn1605 2), .int .i64 (fn1605 3), .int .i64 (fn1605 4), .int .i64 (fn1605 5), .int .i64 (fn1605 6), .int .i64 (fn1605 7), .int .i64 (fn1605 8), .int .i64 (fn1605 9), .int .i64 (fn1605 10), .int .i64 (fn1605 11), .int .i64 (fn1605 12), .int .i64 (fn1605 13), .int .i64 (fn1605 14), .int .i64 (fn1605 15), .int .i64 x1606, .slice A1608 l1607.length c1609, .int .i64 x1610] 260 :: MapL b853 [({ key := .int .i64 0, val := .func (.func 139) #[] #[], born := 0 } : MapEntry), ({ key := .int .i64 1, val := .func (.func 140) #[] #[], born := 1 } : MapEntry), ({ key := .int .i64 2, val := .func (.func 141) #[] #[], born := 2 } : MapEntry), ({ key := .int .i64 3, val := .func (.func 142) #[] #[], born := 3 } : MapEntry), ({ key := .int .i64 4, val := .func (.func 143) #[] #[], born := 4 } : MapEntry), ({ key := .int .i64 5, val := .func (.func 144) #[] #[], born := 5 } : MapEntry), ({ key := .int .i64 6, val := .func (.func 145) #[] #[], born := 6 } : MapEntry), ({ key := .int .i64 7, val := .func (.func 146) #[] #[], born := 7 } : MapEntry), ({ key := .int .i64 8, val := .func (.func 147) #[] #[], born := 8 } : MapEntry), ({ key := .int .i64 9, val := .func (.func 148) #[] #[], born := 9 } : MapEntry), ({ key := .int .i64 10, val := .func (.func 149) #[] #[], born := 10 } : MapEntry), ({ key := .int .i64 11, val := .func (.func 150) #[] #[], born := 11 } : MapEntry), ({ key := .int .i64 12, val := .func (.func 151) #[] #[], born := 12 } : MapEntry), ({ key := .int .i64 13, val := .func (.func 152) #[] #[], born := 13 } : MapEntry), ({ key := .int .i64 14, val := .func (.func 153) #[] #[], born := 14 } : MapEntry), ({ key := .int .i64 15, val := .func (.func 154) #[] #[], born := 15 } : MapEntry), ({ key := .int .i64 16, val := .func (.func 155) #[] #[], born := 16 } : MapEntry)] 17 :: Cl b850 [.nilIface] 108 :: l) hf ∧ Holds (Sum.elim G1541 (· = r)) (vm_cpu_run.j18 x1405 fn1605 x1606 l1607 x1610)) ?_ ?_
    · rintro _ a w ⟨fn1605, x1606, l1607, x1610, rfl, A1608, c1609, ha, hS, h⟩
      revert a
      show RC _ _ _ _ _ _
      refine RC.region (pn 3 rfl (RL.nil ?_))
      exact fun a ha => ⟨(fn1605, x1606, l1607, x1610, IntKind.i64.wrap (x1405 - 1)), ⟨fn1605, x1606, l1607, x1610, (IntKind.i64.wrap (x1405 - 1)), rfl, A1608, c1609, ha.to ⟨rfl, rfl, rfl, rfl, trivial⟩, hS.p3.p3.p2⟩, h.some⟩
    refine RC.block (RC.seq (RC.noPan (RC.planS (plD [0, 3, 6, 9, 13, 15, 18, 21, 25, 28, 31, 35, 38]) [12] hS (fun w hS => hS) follows rfl (by kernel_rfl) NoTmp.noPan fun w hS => pp 2 rfl (RP.s0 2 rfl (fun w => Vl.fa 0 underlying260 rfl sizeOf91 rfl rfl) rfl (RP.s0 3 rfl (fun w => Vl.fa 0 underlying91 rfl sizeOf89 rfl rfl) rfl (RP.s 0 4 rfl rfl hS (fun w hS => Vl.ld 3 hS isAgg89 rfl rfl rfl) rfl (pp 2 rfl (RP.s0 7 rfl (fun w => Vl.fa 29 underlying260 rfl sizeOf3 rfl rfl) rfl (RP.s 0 8 rfl rfl hS (fun w hS => Vl.ld 3 hS isAgg3 rfl rfl rfl) rfl ?_)))))))))
    obtain ⟨hq1611, h⟩ := h.req
    refine RP.s 0 9 rfl rfl hS (fun w hS => Vl.indexAddr underlying89 sizeOf269 rfl rfl ((hr5.2.world hS.sub).adr hq1611 hc1545) hq1611 hc1545 rfl) rfl (RP.s 0 10 rfl rfl hS (fun w hS => Vl.loadA isAgg269 sizeOf269 rfl rfl ((hr5.2.world hS.sub).cells hq1611 hc1545)) rfl (RP.e 11 rfl (OW.alloc (cs := [.int .i64 0, .int .i64 0, .int .i64 0, .int .i64 0]) hS zeroValue269 rfl) rfl rfl ?_))
    rintro _ w ⟨b1612, rfl, hS⟩
    refine ⟨kp ⟨fun _ => hS.d0, trivial⟩, ?_⟩
    refine RP.e0 12 rfl (OW.store (vs := (C_api_Instr (nth a2 x1404))) 0 hS rfl rfl rfl rfl sizeOf269 rfl rfl rfl rfl) rfl ?_
    rintro _ w ⟨rfl, hS⟩
    have hS : St B w (Cl _ [_, _, _, _] _ :: _ :: _ :: _ :: _ :: l) hf := hS
    refine ⟨kp ⟨(by intro hx; cases hx), trivial⟩, ?_⟩
    refine RP.nil (RQ.noPan_n (tsr (pn 2 rfl (RL.s (Vl.fa 29 underlying260 rfl sizeOf3 rfl rfl) rfl (RL.s (Vl.ld 4 hS isAgg3 rfl rfl rfl) rfl (pn 2 rfl (RL.s (Vl.fa 29 underlying260 rfl sizeOf3 rfl rfl) rfl (RL.e0 (OW.store (vs := [.int .i64 (IntKind.i64.wrap (x1404 + 1))]) 4 hS rfl rfl rfl rfl sizeOf3 rfl rfl rfl rfl) rfl ?_))))))))
    rintro _ w ⟨rfl, hS⟩
    have hS : St B w (_ :: _ :: _ :: _ :: Cl b1 [.slice A3 a2.length c4, .int .i64 a6, .slice A8 a7.length c9, .int .u64 a11, .int .i64 a12, .int .i64 a13, .int .i64 a14, .int .i64 a15, .int .i64 a16, .int .i64 a17, .bool a18, .int .i64 (fn1399 0), .int .i64 (fn1399 1), .int .i64 (fn1399 2), .int .i64 (fn1399 3), .int .i64 (fn1399 4), .int .i64 (fn1399 5), .int .i64 (fn1399 6), .int .i64 (fn1399 7), .int .i64 (fn1399 8), .int .i64 (fn1399 9), .int .i64 (fn1399 10), .int .i64 (fn1399 11), .int .i64 (fn1399 12), .int .i64 (fn1399 13), .int .i64 (fn1399 14), .int .i64 (fn1399 15), .int .i64 x1400, .slice A1402 l1401.length c1403, .int .i64 (IntKind.i64.wrap (x1404 + 1))] 260 :: l) hf := hS
    refine ln (RC.region (pn 1 rfl (RL.s (Vl.fa 0 underlying269 rfl sizeOf3 rfl rfl) rfl (RL.s (Vl.ld 0 hS isAgg3 rfl rfl rfl) rfl ?_))))
    by_cases hc1613 : (nth a2 x1404).Op = 0
    case pos =>
     have h := h.pos hc1613
     refine RL.s (Vl.lookupL (n' := 0) (j := 0) (v := .func (.func 139) #[] #[]) 2 hS rfl underlying274 underlying3 rfl rfl hc1613 rfl) rfl (pn 1 rfl (RL.s (Vl.lw 0 hS isAgg269 sizeOf269 rfl rfl rfl) rfl ?_))
     obtain ⟨t1614, hg1615, h⟩ := h.bind
     have hc := vm_cpu_halt.ok hr5 hr10 hg1615 hS.p1.p4
     refine RL.e (OW.call (ls := [.tmp 47, .tmp 48]) rfl rfl call139 rfl hc) rfl rfl ?_
     rintro _ w ⟨rfl, hS⟩
     refine RL.nil (RQ.inB_n ?_)
     exact fun a ha => ⟨(fn1399, x1400, l1401, t1614), fn1399, x1400, l1401, t1614, rfl, A1402, c1403, ha.to ⟨rfl, rfl, rfl, rfl, rfl, rfl, rfl, rfl, rfl, rfl, rfl, rfl, rfl, rfl, rfl, trivial⟩, hS.d2.p1, h⟩
    case neg =>
     have h := h.neg hc1613
     by_cases hc1616 : (nth a2 x1404).Op = 1
     case pos =>
      have h := h.pos hc1616
      refine RL.s (Vl.lookupL (n' := 1) (j := 1) (v := .func (.func 140) #[] #[]) 2 hS rfl underlying274 underlying3 rfl rfl hc1616 rfl) rfl (pn 1 rfl (RL.s (Vl.lw 0 hS isAgg269 sizeOf269 rfl rfl rfl) rfl ?_))
      obtain ⟨t1617, hg1618, h⟩ := h.bind
      have hc := vm_cpu_set.ok hr5 hr10 hg1618 hS.p1.p4
      refine RL.e (OW.call (ls := [.tmp 47, .tmp 48]) rfl rfl call140 rfl hc) rfl rfl ?_
      rintro _ w ⟨rfl, hS⟩
      refine RL.nil (RQ.inB_n ?_)
      exact fun a ha => ⟨(t1617, x1400, l1401, IntKind.i64.wrap (x1404 + 1)), t1617, x1400, l1401, (IntKind.i64.wrap (x1404 + 1)), rfl, A1402, c1403, ha.to ⟨rfl, rfl, rfl, rfl, rfl, rfl, rfl, rfl, rfl, rfl, rfl, rfl, rfl, rfl, rfl, trivial⟩, hS.d2.p1, h⟩
     case neg =>
      have h := h.neg hc1616
      by_cases hc1619 : (nth a2 x1404).Op = 2
      case pos =>
       have h := h.pos hc1619
       refine RL.s (Vl.lookupL (n' := 2) (j := 2) (v := .func (.func 141) #[] #[]) 2 hS rfl underlying274 underlying3 rfl rfl hc1619 rfl) rfl (pn 1 rfl (RL.s (Vl.lw 0 hS isAgg269 sizeOf269 rfl rfl rfl) rfl ?_))
       obtain ⟨t1620, hg1621, h⟩ := h.bind
       have hc := vm_cpu_move.ok hr5 hr10 hg1621 hS.p1.p4
       refine RL.e (OW.call (ls := [.tmp 47, .tmp 48]) rfl rfl call141 rfl hc) rfl rfl ?_
       rintro _ w ⟨rfl, hS⟩
       refine RL.nil (RQ.inB_n ?_)
       exact fun a ha => ⟨(t1620, x1400, l1401, IntKind.i64.wrap (x1404 + 1)), t1620, x1400, l1401, (IntKind.i64.wrap (x1404 + 1)), rfl, A1402, c1403, ha.to ⟨rfl, rfl, rfl, rfl, rfl, rfl, rfl, rfl, rfl, rfl, rfl, rfl, rfl, rfl, rfl, trivial⟩, hS.d2.p1, h⟩
      case neg =>
       have h := h.neg hc1619
       by_cases hc1622 : (nth a2 x1404).Op = 3
       case pos =>
        have h := h.pos hc1622
        refine RL.s (Vl.lookupL (n' := 3) (j := 3) (v := .func (.func 142) #[] #[]) 2 hS rfl underlying274 underlying3 rfl rfl hc1622 rfl) rfl (pn 1 rfl (RL.s (Vl.lw 0 hS isAgg269 sizeOf269 rfl rfl rfl) rfl ?_))
        obtain ⟨t1623, hg1624, h⟩ := h.bind
        have hc := vm_cpu_add.ok hr5 hr10 hg1624 hS.p1.p4
        refine RL.e (OW.call (ls := [.tmp 47, .tmp 48]) rfl rfl call142 rfl hc) rfl rfl ?_
        rintro _ w ⟨rfl, hS⟩
        refine RL.nil (RQ.inB_n ?_)
        exact fun a ha => ⟨(t1623, x1400, l1401, IntKind.i64.wrap (x1404 + 1)), t1623, x1400, l1401, (IntKind.i64.wrap (x1404 + 1)), rfl, A1402, c1403, ha.to ⟨rfl, rfl, rfl, rfl, rfl, rfl, rfl, rfl, rfl, rfl, rfl, rfl, rfl, rfl, rfl, trivial⟩, hS.d2.p1, h⟩
       case neg =>
        have h := h.neg hc1622
        by_cases hc1625 : (nth a2 x1404).Op = 4
        case pos =>
         have h := h.pos hc1625
         refine RL.s (Vl.lookupL (n' := 4) (j := 4) (v := .func (.func 143) #[] #[]) 2 hS rfl underlying274 underlying3 rfl rfl hc1625 rfl) rfl (pn 1 rfl (RL.s (Vl.lw 0 hS isAgg269 sizeOf269 rfl rfl rfl) rfl ?_))
         obtain ⟨t1626, hg1627, h⟩ := h.bind
         have hc := vm_cpu_sub.ok hr5 hr10 hg1627 hS.p1.p4
         refine RL.e (OW.call (ls := [.tmp 47, .tmp 48]) rfl rfl call143 rfl hc) rfl rfl ?_
         rintro _ w ⟨rfl, hS⟩
         refine RL.nil (RQ.inB_n ?_)
         exact fun a ha => ⟨(t1626, x1400, l1401, IntKind.i64.wrap (x1404 + 1)), t1626, x1400, l1401, (IntKind.i64.wrap (x1404 + 1)), rfl, A1402, c1403, ha.to ⟨rfl, rfl, rfl, rfl, rfl, rfl, rfl, rfl, rfl, rfl, rfl, rfl, rfl, rfl, rfl, trivial⟩, hS.d2.p1, h⟩
        case neg =>
         have h := h.neg hc1625
         by_cases hc1628 : (nth a2 x1404).Op = 5
         case pos =>
          have h := h.pos hc1628
          refine RL.s (Vl.lookupL (n' := 5) (j := 5) (v := .func (.func 144) #[] #[]) 2 hS rfl underlying274 underlying3 rfl rfl hc1628 rfl) rfl (pn 1 rfl (RL.s (Vl.lw 0 hS isAgg269 sizeOf269 rfl rfl rfl) rfl ?_))
          obtain ⟨t1629, hg1630, h⟩ := h.bind
          have hc := vm_cpu_mul.ok hr5 hr10 hg1630 hS.p1.p4
          refine RL.e (OW.call (ls := [.tmp 47, .tmp 48]) rfl rfl call144 rfl hc) rfl rfl ?_
          rintro _ w ⟨rfl, hS⟩
          refine RL.nil (RQ.inB_n ?_)
          exact fun a ha => ⟨(t1629, x1400, l1401, IntKind.i64.wrap (x1404 + 1)), t1629, x1400, l1401, (IntKind.i64.wrap (x1404 + 1)), rfl, A1402, c1403, ha.to ⟨rfl, rfl, rfl, rfl, rfl, rfl, rfl, rfl, rfl, rfl, rfl, rfl, rfl, rfl, rfl, trivial⟩, hS.d2.p1, h⟩
         case neg =>
          have h := h.neg hc1628
          by_cases hc1631 : (nth a2 x1404).Op = 6
          case pos =>
           have h := h.pos hc1631
           refine RL.s (Vl.lookupL (n' := 6) (j := 6) (v := .func (.func 145) #[] #[]) 2 hS rfl underlying274 underlying3 rfl rfl hc1631 rfl) rfl (pn 1 rfl (RL.s (Vl.lw 0 hS isAgg269 sizeOf269 rfl rfl rfl) rfl ?_))
           obtain ⟨t1632, hg1633, h⟩ := h.bind
           have hc := vm_cpu_div.ok hr5 hr10 hg1633 hS.p1.p4
           refine RL.e (OW.call (ls := [.tmp 47, .tmp 48]) rfl rfl call145 rfl hc) rfl rfl ?_
           rintro _ w ⟨rfl, hS⟩
           refine RL.nil (RQ.inB_n ?_)
           exact fun a ha => ⟨(t1632, x1400, l1401, IntKind.i64.wrap (x1404 + 1)), t1632, x1400, l1401, (IntKind.i64.wrap (x1404 + 1)), rfl, A1402, c1403, ha.to ⟨rfl, rfl, rfl, rfl, rfl, rfl, rfl, rfl, rfl, rfl, rfl, rfl, rfl, rfl, rfl, trivial⟩, hS.d2.p1, h⟩
          case neg =>
           have h := h.neg hc1631
           by_cases hc1634 : (nth a2 x1404).Op = 7
           case pos =>
            have h := h.pos hc1634
            refine RL.s (Vl.lookupL (n' := 7) (j := 7) (v := .func (.func 146) #[] #[]) 2 hS rfl underlying274 underlying3 rfl rfl hc1634 rfl) rfl (pn 1 rfl (RL.s (Vl.lw 0 hS isAgg269 sizeOf269 rfl rfl rfl) rfl ?_))
            obtain ⟨t1635, hg1636, h⟩ := h.bind
            have hc := vm_cpu_mod.ok hr5 hr10 hg1636 hS.p1.p4
            refine RL.e (OW.call (ls := [.tmp 47, .tmp 48]) rfl rfl call146 rfl hc) rfl rfl ?_
            rintro _ w ⟨rfl, hS⟩
            refine RL.nil (RQ.inB_n ?_)
            exact fun a ha => ⟨(t1635, x1400, l1401, IntKind.i64.wrap (x1404 + 1)), t1635, x1400, l1401, (IntKind.i64.wrap (x1404 + 1)), rfl, A1402, c1403, ha.to ⟨rfl, rfl, rfl, rfl, rfl, rfl, rfl, rfl, rfl, rfl, rfl, rfl, rfl, rfl, rfl, trivial⟩, hS.d2.p1, h⟩
           case neg =>
            have h := h.neg hc1634
            by_cases hc1637 : (nth a2 x1404).Op = 8
            case pos =>
             have h := h.pos hc1637
             refine RL.s (Vl.lookupL (n' := 8) (j := 8) (v := .func (.func 147) #[] #[]) 2 hS rfl underlying274 underlying3 rfl rfl hc1637 rfl) rfl (pn 1 rfl (RL.s (Vl.lw 0 hS isAgg269 sizeOf269 rfl rfl rfl) rfl ?_))
             obtain ⟨t1638, hg1639, h⟩ := h.bind
             have hc := vm_cpu_less.ok hr5 hr10 hg1639 hS.p1.p4
             refine RL.e (OW.call (ls := [.tmp 47, .tmp 48]) rfl rfl call147 rfl hc) rfl rfl ?_
             rintro _ w ⟨rfl, hS⟩
             refine RL.nil (RQ.inB_n ?_)
             exact fun a ha => ⟨(t1638, x1400, l1401, IntKind.i64.wrap (x1404 + 1)), t1638, x1400, l1401, (IntKind.i64.wrap (x1404 + 1)), rfl, A1402, c1403, ha.to ⟨rfl, rfl, rfl, rfl, rfl, rfl, rfl, rfl, rfl, rfl, rfl, rfl, rfl, rfl, rfl, trivial⟩, hS.d2.p1, h⟩
            case neg =>
             have h := h.neg hc1637
             by_cases hc1640 : (nth a2 x1404).Op = 9
             case pos =>
              have h := h.pos hc1640
              refine RL.s (Vl.lookupL (n' := 9) (j := 9) (v := .func (.func 148) #[] #[]) 2 hS rfl underlying274 underlying3 rfl rfl hc1640 rfl) rfl (pn 1 rfl (RL.s (Vl.lw 0 hS isAgg269 sizeOf269 rfl rfl rfl) rfl ?_))
              obtain ⟨t1641, hg1642, h⟩ := h.bind
              have hc := vm_cpu_same.ok hr5 hr10 hg1642 hS.p1.p4
              refine RL.e (OW.call (ls := [.tmp 47, .tmp 48]) rfl rfl call148 rfl hc) rfl rfl ?_
              rintro _ w ⟨rfl, hS⟩
              refine RL.nil (RQ.inB_n ?_)
              exact fun a ha => ⟨(t1641, x1400, l1401, IntKind.i64.wrap (x1404 + 1)), t1641, x1400, l1401, (IntKind.i64.wrap (x1404 + 1)), rfl, A1402, c1403, ha.to ⟨rfl, rfl, rfl, rfl, rfl, rfl, rfl, rfl, rfl, rfl, rfl, rfl, rfl, rfl, rfl, trivial⟩, hS.d2.p1, h⟩
             case neg =>
              have h := h.neg hc1640
              by_cases hc1643 : (nth a2 x1404).Op = 10
              case pos =>
               have h := h.pos hc1643
               refine RL.s (Vl.lookupL (n' := 10) (j := 10) (v := .func (.func 149) #[] #[]) 2 hS rfl underlying274 underlying3 rfl rfl hc1643 rfl) rfl (pn 1 rfl (RL.s (Vl.lw 0 hS isAgg269 sizeOf269 rfl rfl rfl) rfl ?_))
               obtain ⟨t1644, hg1645, h⟩ := h.bind
               have hc := vm_cpu_jump.ok hr5 hr10 hg1645 hS.p1.p4
               refine RL.e (OW.call (ls := [.tmp 47, .tmp 48]) rfl rfl call149 rfl hc) rfl rfl ?_
               rintro _ w ⟨rfl, hS⟩
               refine RL.nil (RQ.inB_n ?_)
               exact fun a ha => ⟨(fn1399, x1400, l1401, t1644), fn1399, x1400, l1401, t1644, rfl, A1402, c1403, ha.to ⟨rfl, rfl, rfl, rfl, rfl, rfl, rfl, rfl, rfl, rfl, rfl, rfl, rfl, rfl, rfl, trivial⟩, hS.d2.p1, h⟩
              case neg =>
               have h := h.neg hc1643
               by_cases hc1646 : (nth a2 x1404).Op = 11
               case pos =>
                have h := h.pos hc1646
                refine RL.s (Vl.lookupL (n' := 11) (j := 11) (v := .func (.func 150) #[] #[]) 2 hS rfl underlying274 underlying3 rfl rfl hc1646 rfl) rfl (pn 1 rfl (RL.s (Vl.lw 0 hS isAgg269 sizeOf269 rfl rfl rfl) rfl ?_))
                obtain ⟨t1647, hg1648, h⟩ := h.bind
                have hc := vm_cpu_zero.ok hr5 hr10 hg1648 hS.p1.p4
                refine RL.e (OW.call (ls := [.tmp 47, .tmp 48]) rfl rfl call150 rfl hc) rfl rfl ?_
                rintro _ w ⟨rfl, hS⟩
                refine RL.nil (RQ.inB_n ?_)
                exact fun a ha => ⟨(fn1399, x1400, l1401, t1647), fn1399, x1400, l1401, t1647, rfl, A1402, c1403, ha.to ⟨rfl, rfl, rfl, rfl, rfl, rfl, rfl, rfl, rfl, rfl, rfl, rfl, rfl, rfl, rfl, trivial⟩, hS.d2.p1, h⟩
               case neg =>
                have h := h.neg hc1646
                by_cases hc1649 : (nth a2 x1404).Op = 12
                case pos =>
                 have h := h.pos hc1649
                 refine RL.s (Vl.lookupL (n' := 12) (j := 12) (v := .func (.func 151) #[] #[]) 2 hS rfl underlying274 underlying3 rfl rfl hc1649 rfl) rfl (pn 1 rfl (RL.s (Vl.lw 0 hS isAgg269 sizeOf269 rfl rfl rfl) rfl ?_))
                 obtain ⟨t1650, hg1651, h⟩ := h.bind
                 have hc := vm_cpu_send.ok hr5 hr10 hg1651 hS.p1.p4
                 rcases t1650 with y1652 | y1655
                 · refine RL.eP (OWP.call (ls := [.tmp 47, .tmp 48]) rfl rfl call151 rfl hc) rfl rfl ?_ ?_
                   rotate_left
                   · exact fun _ _ (hk : False) => hk.elim
                   rintro _ w ⟨A1653, c1654, rfl, hS⟩
                   have hS : St B w (_ :: _ :: _ :: _ :: _ :: l) hf := hS
                   refine RL.nil (RQ.inB_n ?_)
                   exact fun a ha => ⟨(fn1399, x1400, y1652, IntKind.i64.wrap (x1404 + 1)), fn1399, x1400, y1652, (IntKind.i64.wrap (x1404 + 1)), rfl, A1653, c1654, ha.to ⟨rfl, rfl, rfl, rfl, rfl, rfl, rfl, rfl, rfl, rfl, rfl, rfl, rfl, rfl, rfl, trivial⟩, hS.d2, h⟩
                 refine RL.eP (OWP.call (ls := [.tmp 47, .tmp 48]) rfl rfl call151 rfl hc) rfl rfl ?_ ?_
                 · exact fun _ _ (hk : False) => hk.elim
                 · rintro _ w ⟨rfl, hS⟩
                   have hS : St B w (_ :: _ :: _ :: _ :: _ :: l) hf := hS
                   refine RQ.panB (RQ.panT ?_)
                   have h := h.inr
                   refine RQ.panT (RQ.panB (RQ.panT ?_))
                   obtain ⟨t1656, hg1657, h⟩ := h.bind
                   obtain rfl := h.some
                   refine RQ.deferPan results129 (fun w => by kernel_rfl) (vm_cpu_run_1v2.ok hg1657 hS.p4) ?_
                   rintro _ w ⟨b1658, A1659, c1660, rfl, hS⟩
                   have hS : St B w (_ :: _ :: _ :: _ :: _ :: _ :: _ :: l) hf := hS
                   exact ⟨[.iface 254 (.pointer (some ⟨b1658, 0, none⟩))], ⟨⟨_, rfl, run_loadVar1 isAgg108 (hS.cell 2 rfl rfl)⟩, trivial⟩, ⟨b1658, A1659, c1660, A1402, c1403, rfl, hS.d2.d4.d4.p3.p2.p2⟩⟩
                case neg =>
                 have h := h.neg hc1649
                 by_cases hc1661 : (nth a2 x1404).Op = 13
                 case pos =>
                  have h := h.pos hc1661
                  refine RL.s (Vl.lookupL (n' := 13) (j := 13) (v := .func (.func 152) #[] #[]) 2 hS rfl underlying274 underlying3 rfl rfl hc1661 rfl) rfl (pn 1 rfl (RL.s (Vl.lw 0 hS isAgg269 sizeOf269 rfl rfl rfl) rfl ?_))
                  obtain ⟨t1662, hg1663, h⟩ := h.bind
                  have hc := vm_cpu_draw.ok hr5 hr10 hg1663 hS.p1.p4
                  obtain ⟨y1664, y1665⟩ := t1662
                  refine RL.e (OW.call (ls := [.tmp 47, .tmp 48]) rfl rfl call152 rfl hc) rfl rfl ?_
                  rintro _ w ⟨rfl, hS⟩
                  refine RL.nil (RQ.inB_n ?_)
                  exact fun a ha => ⟨(y1664, y1665, l1401, IntKind.i64.wrap (x1404 + 1)), y1664, y1665, l1401, (IntKind.i64.wrap (x1404 + 1)), rfl, A1402, c1403, ha.to ⟨rfl, rfl, rfl, rfl, rfl, rfl, rfl, rfl, rfl, rfl, rfl, rfl, rfl, rfl, rfl, trivial⟩, hS.d2.p1, h⟩
                 case neg =>
                  have h := h.neg hc1661
                  by_cases hc1666 : (nth a2 x1404).Op = 14
                  case pos =>
                   have h := h.pos hc1666
                   refine RL.s (Vl.lookupL (n' := 14) (j := 14) (v := .func (.func 153) #[] #[]) 2 hS rfl underlying274 underlying3 rfl rfl hc1666 rfl) rfl (pn 1 rfl (RL.s (Vl.lw 0 hS isAgg269 sizeOf269 rfl rfl rfl) rfl ?_))
                   obtain ⟨t1667, hg1668, h⟩ := h.bind
                   have hc := vm_cpu_value.ok hr5 hr10 hg1668 hS.p1.p4
                   refine RL.e (OW.call (ls := [.tmp 47, .tmp 48]) rfl rfl call153 rfl hc) rfl rfl ?_
                   rintro _ w ⟨rfl, hS⟩
                   refine RL.nil (RQ.inB_n ?_)
                   exact fun a ha => ⟨(t1667, x1400, l1401, IntKind.i64.wrap (x1404 + 1)), t1667, x1400, l1401, (IntKind.i64.wrap (x1404 + 1)), rfl, A1402, c1403, ha.to ⟨rfl, rfl, rfl, rfl, rfl, rfl, rfl, rfl, rfl, rfl, rfl, rfl, rfl, rfl, rfl, trivial⟩, hS.d2.p1, h⟩
                  case neg =>
                   have h := h.neg hc1666
                   by_cases hc1669 : (nth a2 x1404).Op = 15
                   case pos =>
                    have h := h.pos hc1669
                    refine RL.s (Vl.lookupL (n' := 15) (j := 15) (v := .func (.func 154) #[] #[]) 2 hS rfl underlying274 underlying3 rfl rfl hc1669 rfl) rfl (pn 1 rfl (RL.s (Vl.lw 0 hS isAgg269 sizeOf269 rfl rfl rfl) rfl ?_))
                    obtain ⟨t1670, hg1671, h⟩ := h.bind
                    have hc := vm_cpu_time.ok hr5 hr10 hg1671 hS.p1.p4
                    refine RL.e (OW.call (ls := [.tmp 47, .tmp 48]) rfl rfl call154 rfl hc) rfl rfl ?_
                    rintro _ w ⟨rfl, hS⟩
                    refine RL.nil (RQ.inB_n ?_)
                    exact fun a ha => ⟨(t1670, x1400, l1401, IntKind.i64.wrap (x1404 + 1)), t1670, x1400, l1401, (IntKind.i64.wrap (x1404 + 1)), rfl, A1402, c1403, ha.to ⟨rfl, rfl, rfl, rfl, rfl, rfl, rfl, rfl, rfl, rfl, rfl, rfl, rfl, rfl, rfl, trivial⟩, hS.d2.p1, h⟩
                   case neg =>
                    have h := h.neg hc1669
                    by_cases hc1672 : (nth a2 x1404).Op = 16
                    case pos =>
                     have h := h.pos hc1672
                     refine RL.s (Vl.lookupL (n' := 16) (j := 16) (v := .func (.func 155) #[] #[]) 2 hS rfl underlying274 underlying3 rfl rfl hc1672 rfl) rfl (pn 1 rfl (RL.s (Vl.lw 0 hS isAgg269 sizeOf269 rfl rfl rfl) rfl ?_))
                     obtain ⟨t1673, hg1674, h⟩ := h.bind
                     have hc := vm_cpu_self.ok hr5 hr10 hg1674 hS.p1.p4
                     refine RL.e (OW.call (ls := [.tmp 47, .tmp 48]) rfl rfl call155 rfl hc) rfl rfl ?_
                     rintro _ w ⟨rfl, hS⟩
                     refine RL.nil (RQ.inB_n ?_)
                     exact fun a ha => ⟨(t1673, x1400, l1401, IntKind.i64.wrap (x1404 + 1)), t1673, x1400, l1401, (IntKind.i64.wrap (x1404 + 1)), rfl, A1402, c1403, ha.to ⟨rfl, rfl, rfl, rfl, rfl, rfl, rfl, rfl, rfl, rfl, rfl, rfl, rfl, rfl, rfl, trivial⟩, hS.d2.p1, h⟩
                    case neg =>
                     have h := h.neg hc1672
                     exact h.none
   refine RC.condF rfl (RC.exit (RQ.exitT ?_))
   have h := h.inr
   refine RQ.exitT (RQ.inB_hit ?_)
   exact fun a ha => ⟨(fn1399, x1400, l1401, x1404), fn1399, x1400, l1401, x1404, rfl, A1402, c1403, ha.to ⟨rfl, trivial⟩, hS.d1, h⟩
  refine pp 3 rfl (RP.nn 0 6 rfl rfl rfl (RP.n1 7 rfl rfl rfl (RP.n1 8 rfl rfl rfl (RP.n1 9 rfl rfl rfl (RP.n1 10 rfl rfl rfl (RP.n1 11 rfl rfl rfl (RP.n1 12 rfl rfl rfl (RP.n1 13 rfl rfl rfl (RP.v1 14 rfl (Vl.pickF rfl rfl) rfl rfl (RP.nil (RQ.noPan_n (RQ.then_n (RC.condF rfl (RC.exit (RQ.exitT ?_)))))))))))))))
  have h := h.inr
  refine RQ.exitT (RQ.inB_hit ?_)
  exact fun a ha => ⟨(fn1399, x1400, l1401, x1404), fn1399, x1400, l1401, x1404, rfl, A1402, c1403, ha.to ⟨rfl, trivial⟩, hS.d1, h⟩
def errors_As_4.f (a2 : vm_fault) : Option (Bool) := some false
theorem errors_As_4.ok {a2 : vm_fault} {b1 : Nat} {r : Bool} (h : errors_As_4.f a2 = some r) (hS : St B w (Cl b1 [.int .i64 a2.at_, .int .i64 a2.why] 262 :: l) hf) :
    Calls prog 43 #[.nilIface, .iface 263 (.pointer (some ⟨b1, 0, none⟩))] w (Ret fun v w => v = .bool r ∧ St B w (Cl b1 [.int .i64 a2.at_, .int .i64 a2.why] 262 :: l) hf) := by
  have h := Holds.of h
  refine en func43 rfl ntmps43 rfl (sr (pn 1 rfl (ln (RC.seq (sr (pn 1 rfl (RL.s (Vl.bin (v := .bool true) rfl rfl (by kernel_rfl)) rfl (ln (RC.condT rfl (sr ?_))))))))))
  refine pn 1 rfl (lr (RQ.ret ?_))
  obtain rfl := h.some
  exact rt results43 rfl ⟨rfl, hS⟩
def errors_joinError_Unwrap_2.f (a4 : vm_fault) : Option (Unit) := some ()
theorem errors_joinError_Unwrap_2.ok {a4 : vm_fault} {b1 : Nat} {A2 : Option Addr} {c3 : Nat} {r : Unit} (h : errors_joinError_Unwrap_2.f a4 = some r) (hS : St B w (OSl 108 1 (.slice A2 1 c3) 1 [.iface 262 (.agg #[.int .i64 a4.at_, .int .i64 a4.why])] :: Cl b1 [.slice A2 1 c3] 256 :: l) hf) :
    Calls prog 250 #[.pointer (some ⟨b1, 0, none⟩)] w (Ret fun v w => v = .slice A2 1 c3 ∧ St B w (OSl 108 1 (.slice A2 1 c3) 1 [.iface 262 (.agg #[.int .i64 a4.at_, .int .i64 a4.why])] :: Cl b1 [.slice A2 1 c3] 256 :: l) hf) := by
  have h := Holds.of h
  refine en func250 rfl ntmps250 rfl (sr (pn 1 rfl (lnsr (pn 2 rfl (RL.s (Vl.fa 0 underlying256 rfl sizeOf225 rfl rfl) rfl (RL.s (Vl.ld 1 hS isAgg225 rfl rfl rfl) rfl (pn 1 rfl (lr ?_))))))))
  exact rt results250 rfl ⟨rfl, hS⟩
def errors_as_5.f (a1 a3 : vm_fault) : Option (Bool × vm_fault) := some (true, a1)
theorem errors_as_5.ok {a1 a3 : vm_fault} {b2 b4 : Nat} {r : Bool × vm_fault} (h : errors_as_5.f a1 a3 = some r) (hS : St B w (Cl b2 [.int .i64 a3.at_, .int .i64 a3.why] 262 :: Cl b4 [.pointer (some ⟨b2, 0, none⟩)] 263 :: l) hf) :
    Calls prog 90 #[.iface 262 (.agg #[.int .i64 a1.at_, .int .i64 a1.why]), .iface 263 (.pointer (some ⟨b2, 0, none⟩)), .agg #[.pointer (some ⟨1, 263, none⟩), .pointer (some ⟨b4, 0, none⟩), .int .u64 150], .iface 215 (.agg #[.pointer (some ⟨1, 262, none⟩)])] w (Ret fun v w => v = .bool r.1 ∧ St B w (Cl b2 [.int .i64 r.2.at_, .int .i64 r.2.why] 262 :: Cl b4 [.pointer (some ⟨b2, 0, none⟩)] 263 :: l) hf) := by
  have h := Holds.of h
  refine en func90 rfl ntmps90 rfl (sr (bx hS rfl rfl rfl rfl fun b8 w hS => pn 1 rfl (ln (RC.block (RC.unroll (RQ.round (RC.block (RC.seq (sr (pn 1 rfl (RL.s (Vl.extern (ls := [.tmp 16]) (v := .iface 215 (.agg #[.pointer (some ⟨1, 262, none⟩)])) rfl func91 (by kernel_rfl) (by kernel_rfl) (by kernel_rfl) (e := Extern.ReflectliteType.typeOf) (by kernel_rfl) (fun w => by kernel_rfl)) rfl ?_)))))))))))
  refine pn 1 rfl (RL.s (Vl.invokeX (F := 236) (ls := [.tmp 18]) (v := .bool true) (u' := .agg #[.pointer (some ⟨1, 262, none⟩)]) rfl rfl (fun w => by kernel_rfl) func236 (by kernel_rfl) (by kernel_rfl) (by kernel_rfl) (e := (Extern.ReflectliteType.relation "AssignableTo" Extern.ReflectliteType.assignableTo)) (by kernel_rfl) (fun w => by kernel_rfl)) rfl (ln (RC.condT rfl (sr (RL.s (Vl.lw 0 hS isAgg161 sizeOf161 rfl rfl rfl) rfl (RL.s (Vl.externAt (ls := [.tmp 20]) (v := .agg #[.pointer (some ⟨1, 262, none⟩), .pointer (some ⟨b2, 0, none⟩), .int .u64 409]) rfl func119 (by kernel_rfl) (by kernel_rfl) (by kernel_rfl) (e := Extern.ReflectliteValue.method (Extern.ReflectliteValue.valueError "reflectlite.Value.Elem" 0) Extern.ReflectliteValue.elem) (by kernel_rfl) (run_elemV (n := 150) (a := ⟨b4, 0, none⟩) (fun w => by kernel_rfl) underlying263 rfl (hS.cell 2 rfl rfl) (fun w => by kernel_rfl) (fun w => by kernel_rfl))) rfl (pn 1 rfl (RL.e (OW.externNew (ls := [.tmp 22]) (cs := [.int .i64 a1.at_, .int .i64 a1.why]) (T := 262) (v := fun b => .agg #[.pointer (some ⟨1, 262, none⟩), .pointer (some ⟨b, 0, none⟩), .int .u64 153]) hS rfl func87 (by kernel_rfl) (by kernel_rfl) (by kernel_rfl) (e := fun args => Extern.ReflectliteValue.unpack (args.getD 0 (.tuple #[]))) (by kernel_rfl) (fun w => by kernel_rfl)) rfl rfl ?_))))))))
  rintro _ w ⟨b10, rfl, hS⟩
  refine RL.e (OW.setV (ls := [.tmp 21, .tmp 23]) (val := .agg #[.int .i64 a1.at_, .int .i64 a1.why]) (vs := [.int .i64 a1.at_, .int .i64 a1.why]) (n := 409) (m := 153) (a2 := ⟨b10, 0, none⟩) 2 hS rfl rfl func120 (by kernel_rfl) (by kernel_rfl) (by kernel_rfl) (by kernel_rfl) (fun w => by kernel_rfl) (fun w => by kernel_rfl) rfl (fun w => by kernel_rfl) (run_loadVarA (vs := [.int .i64 a1.at_, .int .i64 a1.why]) isAgg262 sizeOf262 rfl (hS.cellsAt 0 rfl rfl)) rfl sizeOf262 rfl rfl rfl rfl) rfl rfl ?_
  rintro _ w ⟨rfl, hS⟩
  have hS : St B w (_ :: _ :: _ :: _ :: l) hf := hS
  refine lnsr (pn 1 rfl (lr (RQ.ret (RQ.inB_ret (RQ.ret (RQ.inB_ret ?_))))))
  obtain rfl := h.some
  exact rt results90 rfl ⟨rfl, hS.d0.d0⟩
def errors_as_4.f (a4 a6 : vm_fault) : Option (Bool × vm_fault) := ((errors_joinError_Unwrap_2.f a4).bind fun _ => ((errors_as_5.f a4 a6).bind fun (y31, y32) => (if y31 = true then some (true, y32) else some (false, y32))))
theorem errors_as_4.ok {a4 a6 : vm_fault} {b1 : Nat} {A2 : Option Addr} {c3 b5 b7 : Nat} {r : Bool × vm_fault} (h : errors_as_4.f a4 a6 = some r) (hS : St B w (OSl 108 1 (.slice A2 1 c3) 1 [.iface 262 (.agg #[.int .i64 a4.at_, .int .i64 a4.why])] :: Cl b1 [.slice A2 1 c3] 256 :: Cl b5 [.int .i64 a6.at_, .int .i64 a6.why] 262 :: Cl b7 [.pointer (some ⟨b5, 0, none⟩)] 263 :: l) hf) :
    Calls prog 90 #[.iface 254 (.pointer (some ⟨b1, 0, none⟩)), .iface 263 (.pointer (some ⟨b5, 0, none⟩)), .agg #[.pointer (some ⟨1, 263, none⟩), .pointer (some ⟨b7, 0, none⟩), .int .u64 150], .iface 215 (.agg #[.pointer (some ⟨1, 262, none⟩)])] w (Ret fun v w => v = .bool r.1 ∧ St B w (OSl 108 1 (.slice A2 1 c3) 1 [.iface 262 (.agg #[.int .i64 a4.at_, .int .i64 a4.why])] :: Cl b1 [.slice A2 1 c3] 256 :: Cl b5 [.int .i64 r.2.at_, .int .i64 r.2.why] 262 :: Cl b7 [.pointer (some ⟨b5, 0, none⟩)] 263 :: l) hf) := by
  have h := Holds.of h
  refine en func90 rfl ntmps90 rfl (sr (bx hS rfl rfl rfl rfl fun b21 w hS => pn 1 rfl (ln (RC.block (RC.unroll (RQ.round (RC.block (RC.seq (sr (pn 1 rfl (RL.s (Vl.extern (ls := [.tmp 16]) (v := .iface 215 (.agg #[.pointer (some ⟨1, 254, none⟩)])) rfl func91 (by kernel_rfl) (by kernel_rfl) (by kernel_rfl) (e := Extern.ReflectliteType.typeOf) (by kernel_rfl) (fun w => by kernel_rfl)) rfl ?_)))))))))))
  refine pn 1 rfl (RL.s (Vl.invokeX (F := 236) (ls := [.tmp 18]) (v := .bool false) (u' := .agg #[.pointer (some ⟨1, 254, none⟩)]) rfl rfl (fun w => by kernel_rfl) func236 (by kernel_rfl) (by kernel_rfl) (by kernel_rfl) (e := (Extern.ReflectliteType.relation "AssignableTo" Extern.ReflectliteType.assignableTo)) (by kernel_rfl) (fun w => by kernel_rfl)) rfl (ln (RC.condF rfl (sk (RC.seq (sr (pn 1 rfl (RL.s (Vl.tassert (r := .tuple #[.nilIface, .bool false]) rfl (fun w => run_typeAssert_lacksB underlying219 (by kernel_rfl) (by kernel_rfl) _ _ w)) rfl (pn 5 rfl (ln (RC.seq ?_)))))))))))
  refine RC.region (pn 6 rfl (ln (RC.condF rfl (sk (sr (pn 1 rfl (ln (RC.block (sr (RL.s (Vl.tassert (r := .tuple #[.nilIface, .bool false]) rfl (fun w => run_typeAssert_lacksB underlying222 (by kernel_rfl) (by kernel_rfl) _ _ w)) rfl ?_))))))))))
  refine pn 2 rfl (ln (RC.condF rfl (sr (RL.s (Vl.tassert (r := .tuple #[.iface 254 (.pointer (some ⟨b1, 0, none⟩)), .bool true]) rfl (fun w => run_typeAssert_hasB underlying224 (by kernel_rfl) _ _ w)) rfl (pn 2 rfl (ln (RC.condT rfl (sr (pn 1 rfl (ln ?_))))))))))
  refine RC.seq (sr (pn 1 rfl ?_))
  obtain ⟨t22, hg23, h⟩ := h.bind
  have hc := errors_joinError_Unwrap_2.ok hg23 hS.p2.p2
  refine RL.e (OW.invoke (F := 250) (u' := .pointer (some ⟨b1, 0, none⟩)) (ls := []) rfl rfl (fun w => by kernel_rfl) call250 rfl hc) rfl rfl ?_
  rintro _ w ⟨rfl, hS⟩
  refine RL.s (Vl.lenSl underlying225 rfl) rfl (pn 1 rfl (ln (RC.block (RC.unroll (RQ.round (sr (pn 1 rfl (ln (RC.seq (RC.condT rfl (sk ?_)))))))))))
  refine RC.seq (RC.block (sr (RL.s (Vl.indexAddr (a'' := (ad A2).add 0) underlying225 sizeOf108 rfl rfl (hS.litAdr 0 rfl (by decide)) (by decide) (by decide) rfl) rfl (RL.s (Vl.load isAgg108 rfl (hS.litCell 0 rfl rfl)) rfl (pn 1 rfl (ln (RC.seq (sr (pn 1 rfl (RL.s (Vl.bin (v := .bool false) rfl rfl (by kernel_rfl)) rfl (ln ?_)))))))))))
  refine RC.condF rfl (sk (sr (pn 2 rfl (RL.s (Vl.lw 2 hS isAgg161 sizeOf161 rfl rfl rfl) rfl (pn 1 rfl (cF (fun _ hg => errors_as_5.ok hg hS.p4.p4) call90 h rfl rfl rfl ?_))))))
  rintro ⟨y31, y32⟩ h _ w ⟨rfl, hS⟩
  refine ln ?_
  refine RC.iteB 60 rfl h (fun hc33 h => ?_) fun hc33 h => ?_
  next =>
   refine RC.condT rfl (sr (pn 1 rfl (lr (RQ.inB_ret (RQ.ret (RQ.ret (RQ.inB_ret (RQ.ret (RQ.inB_ret (RQ.inB_ret (RQ.ret (RQ.inB_ret ?_))))))))))))
   obtain rfl := h.some
   exact rt results90 rfl ⟨rfl, hS.d4.p3.p3⟩
  refine RC.condF rfl (RC.skip (RQ.inB_n (RQ.then_n (RC.region (pn 2 rfl (ln (RQ.round (sr (pn 1 rfl (ln (RC.seq (RC.condF rfl ?_))))))))))))
  refine RC.exit (RQ.exitT (RQ.exitT (RQ.inB_hit (tsr (pn 1 rfl (lr (RQ.inB_ret (RQ.inB_ret (RQ.ret (RQ.inB_ret ?_))))))))))
  obtain rfl := h.some
  exact rt results90 rfl ⟨rfl, hS.d4.p3.p3⟩
def errors_As_5.f (a4 a6 : vm_fault) : Option (Bool × vm_fault) := ((errors_as_4.f a4 a6).bind fun (y17, y18) => some (y17, y18))
theorem errors_As_5.ok {a4 a6 : vm_fault} {b1 : Nat} {A2 : Option Addr} {c3 b5 : Nat} (hG0 : GlobAt hf 0 (.iface 215 (.agg #[.pointer (some ⟨1, 108, none⟩)]))) {r : Bool × vm_fault} (h : errors_As_5.f a4 a6 = some r) (hS : St B w (OSl 108 1 (.slice A2 1 c3) 1 [.iface 262 (.agg #[.int .i64 a4.at_, .int .i64 a4.why])] :: Cl b1 [.slice A2 1 c3] 256 :: Cl b5 [.int .i64 a6.at_, .int .i64 a6.why] 262 :: l) hf) :
    Calls prog 43 #[.iface 254 (.pointer (some ⟨b1, 0, none⟩)), .iface 263 (.pointer (some ⟨b5, 0, none⟩))] w (Ret fun v w => v = .bool r.1 ∧ St B w (OSl 108 1 (.slice A2 1 c3) 1 [.iface 262 (.agg #[.int .i64 a4.at_, .int .i64 a4.why])] :: Cl b1 [.slice A2 1 c3] 256 :: Cl b5 [.int .i64 r.2.at_, .int .i64 r.2.why] 262 :: l) hf) := by
  have h := Holds.of h
  refine en func43 rfl ntmps43 rfl (sr (pn 1 rfl (ln (RC.seq (sr (pn 1 rfl (RL.s (Vl.bin (v := .bool false) rfl rfl (by kernel_rfl)) rfl (ln (RC.condF rfl (sk ?_))))))))))
  refine RC.seq (sr (pn 1 rfl (RL.s (Vl.bin (v := .bool false) rfl rfl (by kernel_rfl)) rfl (ln (RC.condF rfl (sk (sr (pn 1 rfl (RL.e (OW.externNew (ls := [.tmp 13]) (cs := [.pointer (some ⟨b5, 0, none⟩)]) (T := 263) (v := fun b => .agg #[.pointer (some ⟨1, 263, none⟩), .pointer (some ⟨b, 0, none⟩), .int .u64 150]) hS rfl func87 (by kernel_rfl) (by kernel_rfl) (by kernel_rfl) (e := fun args => Extern.ReflectliteValue.unpack (args.getD 0 (.tuple #[]))) (by kernel_rfl) (fun w => by kernel_rfl)) rfl rfl ?_)))))))))
  rintro _ w ⟨b13, rfl, hS⟩
  refine al hS zeroValue161 rfl rfl rfl fun b14 w hS => RL.e0 (OW.store (vs := [.pointer (some ⟨1, 263, none⟩), .pointer (some ⟨b13, 0, none⟩), .int .u64 150]) 0 hS rfl rfl rfl rfl sizeOf161 rfl rfl rfl rfl) rfl ?_
  rintro _ w ⟨rfl, hS⟩
  have hS : St B w (Cl _ [_, _, _] _ :: _ :: _ :: _ :: _ :: l) hf := hS
  refine lnsr (RL.s (Vl.lw 0 hS isAgg161 sizeOf161 rfl rfl rfl) rfl (RL.s (Vl.extern (ls := [.tmp 15]) (v := .iface 215 (.agg #[.pointer (some ⟨1, 263, none⟩)])) rfl func88 (by kernel_rfl) (by kernel_rfl) (by kernel_rfl) (e := Extern.ReflectliteValue.methodAny (Extern.ReflectliteValue.valueError "reflectlite.Value.Type" 0) fun t _ _ _ => Extern.ReflectliteType.toType t) (by kernel_rfl) (fun w => by kernel_rfl)) rfl (pn 1 rfl (ln (RC.seq (sr (pn 1 rfl (RL.s (Vl.invokeX (F := 179) (ls := []) (v := .int .u8 22) (u' := .pointer (some ⟨1, 263, none⟩)) rfl rfl (fun w => by kernel_rfl) func179 (by kernel_rfl) (by kernel_rfl) (by kernel_rfl) (e := (Extern.ReflectliteType.abiMethod fun t => do pure (.int .u8 (← Extern.Rtype.kind t)))) (by kernel_rfl) (fun w => by kernel_rfl)) rfl (pn 2 rfl (RL.sg (Vl.lw 0 hS isAgg161 sizeOf161 rfl rfl rfl) rfl rfl ?_))))))))))
  refine RL.sg (Vl.externAt (ls := [.tmp 21]) (v := .bool false) rfl func89 (by kernel_rfl) (by kernel_rfl) (by kernel_rfl) (e := Extern.ReflectliteValue.method (Extern.ReflectliteValue.valueError "reflectlite.Value.IsNil" 0) Extern.ReflectliteValue.isNil) (by kernel_rfl) (run_isNil (n := 150) (a := ⟨b13, 0, none⟩) (fun w => by kernel_rfl) underlying263 rfl (hS.cell 1 rfl rfl))) rfl rfl (pn 1 rfl (ln (RC.condF rfl (sk (sr (pn 1 rfl (RL.s (Vl.invokeX (F := 238) (ls := []) (v := .iface 215 (.agg #[.pointer (some ⟨1, 262, none⟩)])) (u' := .agg #[.pointer (some ⟨1, 263, none⟩)]) rfl rfl (fun w => by kernel_rfl) func238 (by kernel_rfl) (by kernel_rfl) (by kernel_rfl) (e := (Extern.ReflectliteType.method Extern.ReflectliteType.elem)) (by kernel_rfl) (fun w => by kernel_rfl)) rfl (pn 1 rfl (ln (RC.seq (RC.seq ?_)))))))))))
  refine RC.region (pn 1 rfl (RL.s (Vl.invokeX (F := 179) (ls := []) (v := .int .u8 25) (u' := .pointer (some ⟨1, 262, none⟩)) rfl rfl (fun w => by kernel_rfl) func179 (by kernel_rfl) (by kernel_rfl) (by kernel_rfl) (e := (Extern.ReflectliteType.abiMethod fun t => do pure (.int .u8 (← Extern.Rtype.kind t)))) (by kernel_rfl) (fun w => by kernel_rfl)) rfl (pn 3 rfl (RL.sg (Vl.load isAgg164 rfl (cellH_world hS.sub hG0)) rfl rfl (RL.sg (Vl.invokeX (F := 239) (ls := [.tmp 32]) (v := .bool true) (u' := .agg #[.pointer (some ⟨1, 262, none⟩)]) rfl rfl (fun w => by kernel_rfl) func239 (by kernel_rfl) (by kernel_rfl) (by kernel_rfl) (e := (Extern.ReflectliteType.relation "Implements" Extern.ReflectliteType.implements_)) (by kernel_rfl) (fun w => by kernel_rfl)) rfl rfl (pn 2 rfl (ln (RC.condF rfl (sk (sr (pn 2 rfl (RL.s (Vl.lw 0 hS isAgg161 sizeOf161 rfl rfl rfl) rfl ?_))))))))))))
  refine pn 1 rfl (cF (fun _ hg => errors_as_4.ok hg hS.p1.p4.p4.p4) call90 h rfl rfl rfl ?_)
  rintro ⟨y17, y18⟩ h _ w ⟨rfl, hS⟩
  refine pn 1 rfl (lr ?_)
  obtain rfl := h.some
  exact rt results43 rfl ⟨rfl, hS.d3.d3⟩
end
end Go.Proofs.Gx
