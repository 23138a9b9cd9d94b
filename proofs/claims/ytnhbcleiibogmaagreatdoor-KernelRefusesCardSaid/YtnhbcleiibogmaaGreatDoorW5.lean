/-
  The walks of functions, each with what it computes: printed by wip/gx.py.
-/
import Derived.Test.YtnhbcleiibogmaaGreatDoorW0
import Derived.Test.YtnhbcleiibogmaaGreatDoorW4
set_option linter.unusedVariables false
set_option linter.unusedSimpArgs false
set_option maxRecDepth 100000
set_option maxHeartbeats 4000000
namespace Go.Proofs.Gx
open Go.Sl Tryz
variable {B : Base} {w : World} {l : List HProp} {hf : Hp}
noncomputable section
def colour_Token_Visit.j4 (a4 : colour_Tally) (t54 : colour_Token) (q59 : Bool) (x61 : Int) : Option (Int × Bool × Int × colour_Token × colour_Tally) := some (x61, q59, 0, (⟨t54.n, 0, (!q59), 0, 4611686018427387904⟩ : colour_Token), a4)
def colour_Token_Visit.j3 (a4 : colour_Tally) (t54 : colour_Token) (q59 : Bool) : Option (Int × Bool × Int × colour_Token × colour_Tally) := (if q59 = true then colour_Token_Visit.j4 a4 t54 q59 t54.least else colour_Token_Visit.j4 a4 t54 q59 0)
def colour_Token_Visit.f (a2 : colour_Token) (a4 : colour_Tally) (a5 : Int) : Option (Int × Bool × Int × colour_Token × colour_Tally) := ((colour_Token_none.f a2).bind fun t44 => (if t44 = true then some (0, false, 7, a2, a4) else ((colour_Tally_none.f a4).bind fun t47 => (if t47 = true then some (0, false, 7, a2, a4) else (if a2.counting = true then ((colour_Token_count.f a2 a4 a5).bind fun t54 => (if IntKind.i64.wrap (t54.at_ + 1) < t54.n then some (0, false, 0, ({ t54 with at_ := IntKind.i64.wrap (t54.at_ + 1) } : colour_Token), a4) else (if t54.counting = true then colour_Token_Visit.j3 a4 t54 (decide (t54.sum = 0)) else colour_Token_Visit.j3 a4 t54 false))) else ((colour_Token_turn.f a2 a4 a5).bind fun t66 => (if IntKind.i64.wrap (a2.at_ + 1) < a2.n then some (0, false, 0, ({ a2 with at_ := IntKind.i64.wrap (a2.at_ + 1) } : colour_Token), t66) else some (0, false, 0, (⟨a2.n, 0, true, 0, 4611686018427387904⟩ : colour_Token), t66))))))))
theorem colour_Token_Visit.ok {a2 : colour_Token} {a4 : colour_Tally} {a5 : Int} {b1 b3 : Nat} {r : Int × Bool × Int × colour_Token × colour_Tally} (h : colour_Token_Visit.f a2 a4 a5 = some r) (hS : St B w (O_colour_Token hf a2 b1 :: O_colour_Tally hf a4 b3 :: l) hf) :
    Calls prog 116 #[pV b1, pV b3, iV a5] w (Ret fun v w => v = .tuple #[iV r.1, .bool r.2.1, iV r.2.2.1] ∧ St B w (O_colour_Token hf r.2.2.2.1 b1 :: O_colour_Tally hf r.2.2.2.2 b3 :: l) hf) := by
  have h := Holds.of h
  refine en func116 rfl ntmps116 rfl (sr (pn 3 rfl (ln (RC.seq (sr (pn 1 rfl (cF (fun _ hg => colour_Token_none.ok hg hS) call166 h rfl rfl rfl ?_)))))))
  rintro t44 h _ w ⟨rfl, hS⟩
  refine pn 1 rfl ?_
  refine RL.iteB 14 rfl h (fun hc46 h => ?_) fun hc46 h => ?_
  next =>
   refine pn 3 rfl (ln (jtr (pn 3 rfl (lr (RQ.ret ?_)))))
   cases h.some
   exact rt results116 rfl ⟨rfl, hS⟩
  refine pn 1 rfl (cF (fun _ hg => colour_Tally_none.ok hg hS.p1) call165 h rfl rfl rfl ?_)
  rintro t47 h _ w ⟨rfl, hS⟩
  refine pn 1 rfl (ln ?_)
  refine RC.iteB 17 rfl h (fun hc49 h => ?_) fun hc49 h => ?_
  next =>
   refine jtr (pn 3 rfl (lr (RQ.ret ?_)))
   cases h.some
   exact rt results116 rfl ⟨rfl, hS.p1⟩
  refine jfs (sr (pn 1 rfl (RL.s (Vl.makeFunc (fi := [.tmp 18]) (ca := []) rfl rfl) rfl (pn 1 rfl (ln (RC.seq (sr (r0 3 rfl ?_))))))))
  have hS := O_colour_Token.o hS.p1
  refine rr [1] hS ?_
  refine it fun w hS => ln ?_
  refine RC.iteB 23 rfl h (fun hc51 h => ?_) fun hc51 h => ?_
  next =>
   refine jt (RC.region (pn 1 rfl (RL.s (Vl.makeFunc (fi := [.tmp 24]) (ca := []) rfl rfl) rfl (pn 1 rfl (lnsr (pn 3 rfl ?_))))))
   have hS := O_colour_Token.c (x := a2) hS
   obtain ⟨t54, hg55, h⟩ := h.bind
   have hc := colour_Token_count.ok hg55 hS
   refine RL.e (OW.call (ls := [.tmp 27, .tmp 28]) rfl rfl call168 rfl hc) rfl rfl ?_
   rintro _ w ⟨rfl, hS⟩
   refine ln (RC.seq (sr (r0 3 rfl ?_)))
   have hS := O_colour_Token.o hS
   refine rr [1, 0, 0, 0, 1] hS ?_
   refine it fun w hS => ln (RC.seq (dr [0, 3, 6, 10, 14, 17, 20, 23, 26] [8] hS fun w hS => rq [0, 0, 0, 1, 0, 0, 0, 1, 0] hS ?_))
   refine it (RP.nil (RQ.then_n ?_))
   refine RC.iteP 45 rfl h (fun hc57 h => ?_) fun hc57 h => ?_
   next =>
    refine jtr (pn 3 rfl (lr (RQ.ret ?_)))
    have hS := O_colour_Token.c (x := ({ t54 with at_ := IntKind.i64.wrap (t54.at_ + 1) } : colour_Token)) hS
    cases h.some
    exact rt results116 rfl ⟨rfl, hS⟩
   refine jfs ?_
   refine RC.join (fun (s : Bool) a w => ∃ q59, s = (q59) ∧ Holds (· = r) (colour_Token_Visit.j3 a4 t54 q59) ∧ Has 79 [(0, pV b1), (10, .bool q59), (11, iV t54.least)] a ∧ St B w (O_colour_Token hf ({ t54 with at_ := IntKind.i64.wrap (t54.at_ + 1) } : colour_Token) b1 :: O_colour_Tally hf a4 b3 :: l) hf) ?_ ?_
   · rintro q59 a w ⟨_, rfl, h, ha, hS⟩
     refine ro ha (sr (r0 8 rfl ?_))
     have hS := O_colour_Token.o hS
     refine rr [1, 0, 0, 1, 0, 0, 1, 0, 0, 1] hS ?_
     refine it fun w hS => ln ?_
     refine RC.join (fun (s : Int) a w => ∃ x61, s = (x61) ∧ Holds (· = r) (colour_Token_Visit.j4 a4 t54 q59 x61) ∧ Has 79 [(10, .bool q59), (11, iV x61)] a ∧ St B w (O_colour_Token hf (⟨t54.n, 0, (!q59), 0, 4611686018427387904⟩ : colour_Token) b1 :: O_colour_Tally hf a4 b3 :: l) hf) ?_ ?_
     · rintro x61 a w ⟨_, rfl, h, ha, hS⟩
       refine ro ha (sr (pn 5 rfl (lr ?_)))
       cases h.some
       exact rt results116 rfl ⟨rfl, hS⟩
     refine sr (pn 2 rfl (ln ?_))
     refine RC.iteM 76 rfl h (fun hc62 h => ?_) fun hc62 h => ?_
     next =>
      refine jf (RC.skip ?_)
      have hS := O_colour_Token.c (x := (⟨t54.n, 0, (!q59), 0, 4611686018427387904⟩ : colour_Token)) hS
      exact fun a ha => ⟨_, _, rfl, h, ha.tE rfl, hS⟩
     refine jt (RC.region (pn 1 rfl (RL.nil ?_)))
     have hS := O_colour_Token.c (x := (⟨t54.n, 0, (!q59), 0, 4611686018427387904⟩ : colour_Token)) hS
     exact fun a ha => ⟨_, _, rfl, h, ha.tE rfl, hS⟩
   refine dr [0, 3, 6, 10, 12, 15, 18, 21, 25, 27, 30, 33, 36, 39, 43, 47, 50] [16] hS fun w hS => rq [0, 0, 0, 1, 0] hS ?_
   refine it ?_
   refine RP.iteB 50 rfl h (fun hc63 h => ?_) fun hc63 h => ?_
   next =>
    refine rq [0, 0, 0, 1, 0, 0, 0, 0, 0, 1, 0, 0] hS ?_
    refine it (RP.nil ?_)
    have hS := O_colour_Token.c (x := ({ t54 with at_ := IntKind.i64.wrap (t54.at_ + 1) } : colour_Token)) hS
    exact fun a ha => ⟨_, _, rfl, h, ha.tE rfl, hS⟩
   refine rq [0, 0, 0, 0, 0, 0, 0, 0, 0, 1, 0, 0] hS ?_
   refine it (RP.nil ?_)
   have hS := O_colour_Token.c (x := ({ t54 with at_ := IntKind.i64.wrap (t54.at_ + 1) } : colour_Token)) hS
   exact fun a ha => ⟨_, _, rfl, h, ha.tE rfl, hS⟩
  refine jfs (sr (pn 3 rfl ?_))
  have hS := O_colour_Token.c (x := a2) hS
  obtain ⟨t66, hg67, h⟩ := h.bind
  have hc := colour_Token_turn.ok hg67 hS
  refine RL.e (OW.call (ls := [.tmp 27, .tmp 28]) rfl rfl call167 rfl hc) rfl rfl ?_
  rintro _ w ⟨rfl, hS⟩
  refine ln (RC.seq (sr (r0 3 rfl ?_)))
  have hS := O_colour_Token.o hS
  refine rr [1, 0, 0, 0, 1] hS ?_
  refine it fun w hS => ln (RC.seq (dr [0, 3, 6, 10, 14, 17, 20, 23, 26] [8] hS fun w hS => rq [0, 0, 0, 1, 0, 0, 0, 1, 0] hS ?_))
  refine it (RP.nil (RQ.then_n ?_))
  refine RC.iteP 45 rfl h (fun hc69 h => ?_) fun hc69 h => ?_
  next =>
   refine jtr (pn 3 rfl (lr (RQ.ret ?_)))
   have hS := O_colour_Token.c (x := ({ a2 with at_ := IntKind.i64.wrap (a2.at_ + 1) } : colour_Token)) hS
   cases h.some
   exact rt results116 rfl ⟨rfl, hS⟩
  refine jfs (RC.seq (dr [0, 3, 6, 10, 12, 15, 18, 21, 25, 27, 30, 33, 36, 39, 43, 47, 50] [16] hS fun w hS => rq [0, 0, 0, 1, 0] hS ?_))
  refine it (RP.re 50 rfl (congrArg Value.bool (eq_false_of hc51)) (rq [0, 0, 0, 0, 0, 0, 0, 0, 0, 1, 0, 0] hS ?_))
  refine it (RP.nil (tsr (rr [0, 0, 0, 0, 0, 0, 0, 0, 1, 0, 0, 1, 0, 0, 1, 0, 0, 1] hS ?_)))
  refine it fun w hS => ln (RC.seq ?_)
  refine sr (pn 2 rfl (ln (jt (RC.region (pn 1 rfl (lnsr (pn 5 rfl (lr ?_))))))))
  have hS := O_colour_Token.c (x := (⟨a2.n, 0, true, 0, 4611686018427387904⟩ : colour_Token)) hS
  cases h.some
  exact rt results116 rfl ⟨rfl, hS⟩
def log_Log_states.f (a2 : log_Log) (a3 : Int) : Option (Int) := some a3
theorem log_Log_states.ok {a2 : log_Log} {a3 r : Int} {b1 : Nat} (h : log_Log_states.f a2 a3 = some r) (hS : St B w (O_log_Log hf a2 b1 :: l) hf) :
    Calls prog 125 #[pV b1, iV a3] w (Ret fun v w => ∃ (b_1 : Nat) (b_2 : Nat), v = .func (.func 177) #[] #[pV b_1, pV b_2] ∧ St B w (Cl b_1 [iV r] 3 :: Cl b_2 [pV b1] 144 :: O_log_Log hf a2 b1 :: l) hf) := by
  have h := Holds.of h
  refine en func125 rfl ntmps125 rfl (sr (rr [0, 0, 0] hS ?_))
  refine fun b6 b7 => it fun w hS => lnsr (RL.s (Vl.makeFunc (fi := []) (ca := [.tmp 3, .tmp 2]) rfl rfl) rfl (pn 1 rfl (lr ?_)))
  obtain rfl := h.some
  exact rt results125 rfl ⟨b7, b6, rfl, hS⟩
def log_done_entry.f (a1 : log_done) (a7 : api_State) : Option (api_Entry) := (if (([] : List api_Message).length + a1.sent.length) * 56 ≤ 140737488355328 then some (⟨a1.event, a7, a1.fault, (([] : List api_Message) ++ a1.sent)⟩ : api_Entry) else none)
theorem log_done_entry.ok {a1 : log_done} {a7 : api_State} {A2 : Option Addr} {c3 b5 : Nat} (hr4 : SlR E_api_Message.rep hf A2 c3 a1.sent) (hr6 : PtR E_api_State hf b5 44 a1.ahead) {r : api_Entry} (h : log_done_entry.f a1 a7 = some r) (hS : St B w (l) hf) :
    Calls prog 126 #[.agg (C_log_done a1 A2 c3 b5).toArray, .agg (C_api_State a7).toArray] w (Ret fun v w => ∃ (A_1 : Option Addr) (c_2 : Nat), v = .agg (C_api_Entry r A_1 c_2).toArray ∧ St B w (OSf E_api_Message 84 (sV A_1 r.Sent c_2) r.Sent :: l) hf) := by
  have h := Holds.of h
  refine en func126 rfl ntmps126 rfl (sr (rr [0, 0, 0] hS ?_))
  refine fun b15 b16 b17 => it fun w hS => ln (RC.seq (dr [0, 4, 7, 9, 13, 17, 20, 23, 26, 29] [8, 9] hS fun w hS => rq [0, 3, 2, 0, 3, 0, 3] hS ?_))
  refine it ?_
  obtain ⟨hq18, h⟩ := h.req
  have hS := hS.nilSl E_api_Message 84
  refine RP.e 7 rfl (OW.appendV (E := E_api_Message) (xs := ([] : List api_Message)) (ys := a1.sent) 0 hS rfl underlying52 type84 rfl rfl rfl rfl (by decide) (by decide) rfl rfl (hr4.2.world hS.sub) hq18 rfl) rfl rfl ?_
  rintro v21 w hS
  obtain ⟨A19, c20, rfl, _⟩ := hS.osShape 0 rfl
  have hS : St B w (_ :: _ :: _ :: _ :: l) hf := hS
  refine ⟨kp ⟨fun _ => hS.d0, trivial⟩, ?_⟩
  refine rq [0] hS.d0 ?_
  refine it (RP.e0 9 rfl (OW.store (vs := [iV a1.event.Key.Time, iV a1.event.Key.From, iV a1.event.Key.Seq, iV a1.event.To, iV a1.event.Value, iV a1.event.Uid, .bool a1.event.Anti, iV a7.Regs.c0, iV a7.Regs.c1, iV a7.Regs.c2, iV a7.Regs.c3, iV a7.Regs.c4, iV a7.Regs.c5, iV a7.Regs.c6, iV a7.Regs.c7, iV a7.Draws, iV a7.Sent, iV a1.fault, .slice A19 (([] : List api_Message) ++ a1.sent).length c20]) 1 hS rfl rfl rfl rfl sizeOf86 rfl rfl rfl rfl) rfl ?_)
  rintro _ w ⟨rfl, hS⟩
  have hS : St B w (_ :: Cl _ [_, _, _, _, _, _, _, _, _, _, _, _, _, _, _, _, _, _, _] _ :: _ :: _ :: l) hf := hS
  refine ⟨kp ⟨(by intro hx; cases hx), trivial⟩, ?_⟩
  refine RP.nil (tr ?_)
  cases h.some
  refine rz [1] results126 hS ?_
  exact it ⟨A19, c20, rfl, hS.d1.d1.d1⟩
def log_Log_Drop_round0.f (a6 : log_Log) (a8 : Int) (a10 : (List api_Entry)) (a15 : Int) (a16 : api_State) : Option ((log_Log) ⊕ (List api_Entry)) := (if a15 = a8 then (if 0 ≤ a15 ∧ a15 < (a6.l.length : Int) then some (.inl ({ a6 with l := (setL a6.l a15 (⟨(nth a6.l a15).event, (nth a6.l a15).fault, (nth a6.l a15).sent, (⟨true, a16⟩ : Pt api_State)⟩ : log_done)) } : log_Log)) else none) else (if 0 ≤ a15 ∧ a15 < (a6.l.length : Int) then ((log_done_entry.f (nth a6.l a15) a16).bind fun t166 => (if (a10.length + ([t166]).length) * 168 ≤ 140737488355328 then some (.inr ((a10 ++ ([t166])))) else none)) else none))
theorem log_Log_Drop_round0.ok {a6 : log_Log} {a8 a15 : Int} {a10 : (List api_Entry)} {a16 : api_State} {b1 b4 b5 b7 b9 c12 : Nat} {rc2 : Loop} {A11 : Option Addr} {cs13 : List Value} (hx14 : RepL R_api_Entry hf cs13 a10) (hr3 : RecF f203 0 71 [(2, pV b4), (5, pV b7), (6, pV b9)] rc2) {r : (log_Log) ⊕ (List api_Entry)} (h : log_Log_Drop_round0.f a6 a8 a10 a15 a16 = some r) (hS : St B w (pts b1 (.loop rc2) :: O_log_Log hf a6 b5 :: Cl b4 [pV b5] 144 :: Cl b7 [iV a8] 3 :: Cl b9 [sV A11 a10 c12] 54 :: OSl 86 19 (sV A11 a10 c12) a10.length cs13 :: l) hf) :
    Yld prog b1 [iV a15, .agg (C_api_State a16).toArray] w (Ret fun v w => match (generalizing := false) r with | .inl r_ => ∃ hf_ : Hp, Sub hf hf_ ∧ v = .bool false ∧ St B w (pts b1 (.loop (pd rc2 (.exit 2))) :: O_log_Log hf_ r_ b5 :: Cl b4 [pV b5] 144 :: Cl b7 [iV a8] 3 :: Cl b9 [sV A11 a10 c12] 54 :: OSl 86 19 (sV A11 a10 c12) a10.length cs13 :: l) hf_ | .inr (r_) => ∃ hf_ : Hp, Sub hf hf_ ∧ ∃ (A_1 : Option Addr) (c_2 : Nat) (cs_3 : List Value), v = .bool true ∧ St B w (OSl 86 19 (sV A_1 r_ c_2) r_.length cs_3 :: pts b1 (.loop rc2) :: O_log_Log hf_ a6 b5 :: Cl b4 [pV b5] 144 :: Cl b7 [iV a8] 3 :: Cl b9 [sV A_1 r_ c_2] 54 :: l) hf_ ∧ RepL R_api_Entry hf_ cs_3 r_) := by
  have h := Holds.of h
  refine Yld.of (psl := [36, 37]) hS hr3 rfl rfl rfl ?_
  show RC _ ⟨71, [], false⟩ _ _ [(37, .agg (C_api_State a16).toArray), (36, iV a15), (2, pV b4), (5, pV b7), (6, pV b9)] w
  refine sr (pn 1 rfl (ln (RC.region (rr [0, 1] hS ?_))))
  refine fun b99 => it fun w hS => ln (RQ.bg hS.p1 hr3.state rfl fun w hS => RC.block (RC.seq (sr (rr [0, 5, 0] hS ?_))))
  refine it fun w hS => RL.nil ?_
  refine RQ.then_n ?_
  refine RC.iteP 40 rfl h (fun hc124 h => ?_) fun hc124 h => ?_
  next =>
   refine jtr (rr [4, 0, 0] hS ?_)
   refine it fun w hS => ?_
   obtain ⟨A125, c126, A128, c129, A131, c132, cs133, hr127, hr130, hx134, hS⟩ := O_log_Log.o hS.p2
   refine rr [1, 0] hS ?_
   refine it fun w hS => ?_
   obtain ⟨⟨hq135, hq136⟩, h⟩ := h.req
   refine RL.s (Vl.indexOwn 1 hS rfl underlying223 sizeOf230 rfl rfl hq135 hq136) rfl (RL.s (Vl.fieldAddr (a'' := (ad A131).add (a15.toNat * 10 + 9)) underlying230 rfl sizeOf228 rfl (add_add _ _ _)) rfl ?_)
   obtain ⟨hf, hs137, hS, hr138⟩ := St.freeze (E := E_api_State) (x := a16) hS.p3 rfl
   obtain ⟨_, ⟨A140, c141, b143, rfl, hr142, hr144⟩, hl139⟩ := RepL.elem R_log_done_ok (hx134.mono hs137) hq135 hq136
   refine RL.e0 (OW.storeR (off := 9) (j := a15) (k := (C_log_done (nth a6.l a15) A140 c141 b143)) (vs := [pV b99]) (x' := (⟨(nth a6.l a15).event, (nth a6.l a15).fault, (nth a6.l a15).sent, (⟨true, a16⟩ : Pt api_State)⟩ : log_done)) R_log_done_ok 1 hS rfl (hx134.mono hs137) rfl rfl rfl sizeOf228 rfl (Nat.succ_pos _) hq135 hq136 (Nat.le_of_ble_eq_true rfl) rfl hl139 ⟨_, _, _, rfl, hr142, hr138.pt⟩ rfl) rfl ?_
   rintro _ w ⟨rfl, cs145, hx146, hS⟩
   have he147 := (hS.osN 0 rfl).1
   have hS : St B w (_ :: _ :: _ :: _ :: _ :: _ :: _ :: l) hf := (congrArg (fun k_ : Nat => St B w (OSl 230 10 (.slice A131 k_ c132) (setL a6.l a15 (⟨(nth a6.l a15).event, (nth a6.l a15).fault, (nth a6.l a15).sent, (⟨true, a16⟩ : Pt api_State)⟩ : log_done)).length cs145 :: Cl b5 [sV A125 a6.w.Prog c126, iV a6.w.Self, sV A128 a6.w.Links c129, .int .u64 a6.w.Seed, .bool a6.made, iV a6.state.Regs.c0, iV a6.state.Regs.c1, iV a6.state.Regs.c2, iV a6.state.Regs.c3, iV a6.state.Regs.c4, iV a6.state.Regs.c5, iV a6.state.Regs.c6, iV a6.state.Regs.c7, iV a6.state.Draws, iV a6.state.Sent, iV a6.every, .slice A131 k_ c132, .bool a6.stuck] 225 :: pts b1 (.loop (busy rc2)) :: Cl b4 [pV b5] 144 :: Cl b7 [iV a8] 3 :: Cl b9 [sV A11 a10 c12] 54 :: OSl 86 19 (sV A11 a10 c12) a10.length cs13 :: l) hf) he147).mp hS
   refine RL.re 44 rfl (congrArg (fun k_ : Nat => (.slice A131 k_ c132 : Value)) he147) (ln (RC.exit (RQ.exitT (RQ.inB_miss rfl ?_))))
   have hS := O_log_Log.c (x := ({ a6 with l := (setL a6.l a15 (⟨(nth a6.l a15).event, (nth a6.l a15).fault, (nth a6.l a15).sent, (⟨true, a16⟩ : Pt api_State)⟩ : log_done)) } : log_Log)) (hr127.mono hs137) (hr130.mono hs137) hx146 hS.p1
   cases h.some
   exact RQ.rx hS.p1 fun w hS => ⟨_, hs137, rfl, hS⟩
  refine jfs ?_
  obtain ⟨A148, c149, A151, c152, A154, c155, cs156, hr150, hr153, hx157, hS⟩ := O_log_Log.o hS.p2
  refine dr [1, 4, 6, 9, 13, 15, 19, 22, 26, 29, 32, 35, 38] [11, 12] hS fun w hS => rq [7, 5, 0, 0, 1, 0] hS ?_
  refine it ?_
  obtain ⟨⟨hq158, hq159⟩, h⟩ := h.req
  refine RP.s 0 6 rfl rfl hS (fun w hS => Vl.indexOwn 1 hS rfl underlying223 sizeOf230 rfl rfl hq158 hq159) rfl ?_
  obtain ⟨_, ⟨A161, c162, b164, rfl, hr163, hr165⟩, hl160⟩ := RepL.elem R_log_done_ok hx157 hq158 hq159
  refine RP.s 0 7 rfl rfl hS (fun w hS => Vl.loadA (vs := (C_log_done (nth a6.l a15) A161 c162 b164)) isAgg230 sizeOf230 rfl rfl (hS.elemCells 1 rfl hl160 (off := 0) rfl)) rfl (rq [4] hS ?_)
  refine it ?_
  obtain ⟨t166, hg167, h⟩ := h.bind
  have hc := log_done_entry.ok hr163 hr165 hg167 hS
  refine RP.e 9 rfl (OW.callF (ls := [.tmp 55, .tmp 56]) rfl call126 hc) rfl rfl ?_
  rintro _ w ⟨A168, c169, rfl, hS⟩
  refine ⟨kp ⟨fun _ => hS.d0, trivial⟩, ?_⟩
  obtain ⟨hf, hs170, hS, hr171⟩ := St.promote hS
  have hx173 : RepL R_api_Entry hf (C_api_Entry t166 A168 c169) [t166] := (RepL.cons (c := (C_api_Entry t166 A168 c169)) (r := []) ⟨_, _, rfl, hr171⟩ RepL.nil)
  refine RP.e 10 rfl (OW.buildSliceR (sz := 19) (cs := (C_api_Entry t166 A168 c169)) hS underlying54 zeroValue86 sizeOf86 (parts := [(0, .tmp 57)]) rfl rfl (by decide) (by decide) (by kernel_rfl)) rfl rfl ?_
  rintro _ w ⟨b172, rfl, hS⟩
  refine ⟨kp ⟨fun _ => (St.down hS.d0 hs170), trivial⟩, ?_⟩
  obtain ⟨hq176, h⟩ := h.req
  obtain ⟨hf, hs174, hS, hr175⟩ := St.promoteR R_api_Entry_ok hS rfl hx173
  refine RP.e 11 rfl (OW.appendR (R := R_api_Entry) R_api_Entry_ok (xs := a10) (ys := [t166]) 7 hS rfl underlying54 type86 rfl rfl rfl rfl (by decide) (by decide) ((hx14.mono hs170).mono hs174) rfl rfl hr175 hq176 rfl) rfl rfl ?_
  rintro _ w ⟨cs179, hx180, hS⟩
  obtain ⟨A177, c178, rfl, _⟩ := hS.osShape 0 rfl
  have hS : St B w (_ :: _ :: _ :: _ :: _ :: _ :: _ :: _ :: l) hf := hS
  refine ⟨kp ⟨(by intro hx; cases hx), trivial⟩, ?_⟩
  refine RP.e0 12 rfl (OW.store (vs := [.slice A177 (a10 ++ ([t166])).length c178]) 7 hS rfl rfl rfl rfl sizeOf54 rfl rfl rfl rfl) rfl ?_
  rintro _ w ⟨rfl, hS⟩
  have hS : St B w (_ :: _ :: _ :: _ :: _ :: _ :: _ :: Cl _ [_] _ :: l) hf := hS
  refine ⟨kp ⟨(by intro hx; cases hx), trivial⟩, ?_⟩
  refine RP.nil (RQ.inB_n ?_)
  have hS := O_log_Log.c (x := a6) ((hr150.mono hs170).mono hs174) ((hr153.mono hs170).mono hs174) ((hx157.mono hs170).mono hs174) hS.p2.p2
  cases h.some
  exact RQ.rn hS.p2 hr3.state hr3.pending fun w hS => ⟨_, (hs170.trans hs174), A177, c178, cs179, rfl, hS.d3.p2, hx180⟩
def log_Log_states_1.j15 (a6 : log_Log) (a8 : Int) (a10 : (List api_Entry)) (x675 : Int) (y895 : api_State) : Option ((Unit) ⊕ ((log_Log × Int) ⊕ (Int))) := ((log_Log_Drop_round0.f a6 a8 a10 x675 y895).bind fun t907 => match t907 with | .inl y909 => some (.inr (.inl (y909, x675))) | .inr (y911) => (if 0 ≤ x675 then none else none))
def log_Log_states_1.l13b (a6 : log_Log) (a8 : Int) (a10 : (List api_Entry)) (x675 : Int) : Unit → Option ((Unit) ⊕ ((log_Log × Int) ⊕ (Int)))
  | () => (if x675 < (a6.l.length : Int) then (if 0 ≤ x675 then (if ((nth a6.l x675).ahead).has = true then log_Log_states_1.j15 a6 a8 a10 x675 (((nth a6.l x675).ahead).val) else log_Log_states_1.j15 a6 a8 a10 x675 (⟨(⟨0, 0, 0, 0, 0, 0, 0, 0⟩ : Arr8xInti64), 0, 0⟩ : api_State)) else none) else some (.inr (.inr (x675))))
def log_Log_states_1.l13 (a6 : log_Log) (a8 : Int) (a10 : (List api_Entry)) (x675 : Int) (s : Unit) : Option ((log_Log × Int) ⊕ (Int)) := loopR (log_Log_states_1.l13b a6 a8 a10 x675) s
def log_Log_states_1.j10 (a6 : log_Log) (a8 : Int) (a10 : (List api_Entry)) (x675 : Int) : Option ((log_Log × Int) ⊕ (Int)) := log_Log_states_1.l13 a6 a8 a10 x675 ()
def log_Log_states_1.l16b (a6 : log_Log) (a8 : Int) (a10 : (List api_Entry)) : Int → Option ((Int) ⊕ ((log_Log × Int) ⊕ (Int)))
  | (x985) => (if 0 < x985 then (if 0 ≤ x985 ∧ x985 < (a6.l.length : Int) then (if ((nth a6.l x985).ahead).has = true then (Option.map Sum.inr (log_Log_states_1.j10 a6 a8 a10 x985)) else some (.inl (IntKind.i64.wrap (x985 - 1)))) else none) else (Option.map Sum.inr (log_Log_states_1.j10 a6 a8 a10 x985)))
def log_Log_states_1.l16 (a6 : log_Log) (a8 : Int) (a10 : (List api_Entry)) (s : Int) : Option ((log_Log × Int) ⊕ (Int)) := loopR (log_Log_states_1.l16b a6 a8 a10) s
def log_Log_states_1.f (a6 : log_Log) (a8 : Int) (a10 : (List api_Entry)) (a16 : Int) : Option ((log_Log × Int) ⊕ (Int)) := log_Log_states_1.l16 a6 a8 a10 (a16)
theorem log_Log_states_1.ok {a6 : log_Log} {a8 a16 : Int} {a10 : (List api_Entry)} {b1 b4 b5 b7 b9 c12 b15 b17 : Nat} {rc2 : Loop} {A11 : Option Addr} {cs13 : List Value} (hx14 : RepL R_api_Entry hf cs13 a10) (hr3 : RecF f203 0 71 [(2, pV b4), (5, pV b7), (6, pV b9)] rc2) {r : (log_Log × Int) ⊕ (Int)} (h : log_Log_states_1.f a6 a8 a10 a16 = some r) (hS : St B w (pts b1 (.loop rc2) :: O_log_Log hf a6 b5 :: Cl b4 [pV b5] 144 :: Cl b7 [iV a8] 3 :: Cl b9 [sV A11 a10 c12] 54 :: OSl 86 19 (sV A11 a10 c12) a10.length cs13 :: Cl b15 [iV a16] 3 :: Cl b17 [pV b5] 144 :: l) hf) :
    Calls prog 177 #[.func (.yield b1) #[] #[], pV b15, pV b17] w (Ret fun v w => match (generalizing := false) r with | .inl r_ => ∃ hf_ : Hp, Sub hf hf_ ∧ v = .tuple #[] ∧ St B w (pts b1 (.loop (pd rc2 (.exit 2))) :: O_log_Log hf_ r_.1 b5 :: Cl b4 [pV b5] 144 :: Cl b7 [iV a8] 3 :: Cl b9 [sV A11 a10 c12] 54 :: OSl 86 19 (sV A11 a10 c12) a10.length cs13 :: Cl b15 [iV r_.2] 3 :: Cl b17 [pV b5] 144 :: l) hf_ | .inr (r_) => v = .tuple #[] ∧ St B w (pts b1 (.loop rc2) :: O_log_Log hf a6 b5 :: Cl b4 [pV b5] 144 :: Cl b7 [iV a8] 3 :: Cl b9 [sV A11 a10 c12] 54 :: OSl 86 19 (sV A11 a10 c12) a10.length cs13 :: Cl b15 [iV r_] 3 :: Cl b17 [pV b5] 144 :: l) hf) := by
  have h := Holds.of h
  refine en func177 rfl ntmps177 rfl ?_
  refine RC.join (fun (s : Int) a w => ∃ x675, s = (x675) ∧ Holds (· = r) (log_Log_states_1.j10 a6 a8 a10 x675) ∧ Has 68 [(0, .func (.yield b1) #[] #[]), (1, pV b15), (2, pV b17)] a ∧ St B w (OSl 86 19 (sV A11 a10 c12) a10.length cs13 :: O_log_Log hf a6 b5 :: pts b1 (.loop rc2) :: Cl b4 [pV b5] 144 :: Cl b7 [iV a8] 3 :: Cl b9 [sV A11 a10 c12] 54 :: Cl b15 [iV x675] 3 :: Cl b17 [pV b5] 144 :: l) hf) ?_ ?_
  · rintro x675 a w ⟨_, rfl, h, ha, hS⟩
    refine ro ha (sr (rr [0] hS ?_))
    refine fun b676 => it fun w hS => lnsr (rr [8, 0] hS ?_)
    refine it fun w hS => ln (RC.block (fun a ha => lp h (fun (s : Unit) a w => s = () ∧ Has 68 [(0, .func (.yield b1) #[] #[]), (2, pV b17), (4, pV b676), (5, iV x675)] a ∧ St B w (OSl 86 19 (sV A11 a10 c12) a10.length cs13 :: Cl b676 [iV 0, iV 0, iV 0, iV 0, iV 0, iV 0, iV 0, iV 0, iV 0, iV 0] 44 :: O_log_Log hf a6 b5 :: pts b1 (.loop rc2) :: Cl b4 [pV b5] 144 :: Cl b7 [iV a8] 3 :: Cl b9 [sV A11 a10 c12] 54 :: Cl b15 [iV x675] 3 :: Cl b17 [pV b5] 144 :: l) hf) ⟨rfl, ha.tE rfl, hS.p1⟩ ?_))
    rintro G809 _ a w ⟨rfl, ha, hS⟩ h
    refine ro ha (RC.seq (sr (rr [0, 9, 0, 0] hS ?_)))
    refine it fun w hS => ?_
    obtain ⟨A821, c822, A824, c825, A827, c828, cs829, hr823, hr826, hx830, hS⟩ := O_log_Log.o hS.p2
    refine rr [1, 0, 0] hS ?_
    refine it fun w hS => ln ?_
    refine RC.iteP 29 rfl h (fun hc831 h => ?_) fun hc831 h => ?_
    next =>
     refine jt (sk (RC.seq (RC.block ?_)))
     refine RC.join (fun (s : api_State) a w => ∃ y895, s = (y895) ∧ Holds (Sum.elim G809 (· = r)) (log_Log_states_1.j15 a6 a8 a10 x675 y895) ∧ Has 68 [(0, .func (.yield b1) #[] #[]), (2, pV b17), (4, pV b676), (5, iV x675)] a ∧ St B w (OSl 86 19 (sV A11 a10 c12) a10.length cs13 :: O_log_Log hf a6 b5 :: Cl b676 (C_api_State y895) 44 :: pts b1 (.loop rc2) :: Cl b4 [pV b5] 144 :: Cl b7 [iV a8] 3 :: Cl b9 [sV A11 a10 c12] 54 :: Cl b15 [iV x675] 3 :: Cl b17 [pV b5] 144 :: l) hf) ?_ ?_
     · rintro y895 a w ⟨_, rfl, h, ha, hS⟩
       refine ro ha (RC.seq (sr (rr [0, 0, 3] hS ?_)))
       refine it fun w hS => yc (fun _ hg908 => log_Log_Drop_round0.ok hx14 hr3 hg908 hS.p6.p6.p6.p4.p6) rfl h rfl rfl rfl rfl ?_
       intro t907 h
       rcases t907 with y909 | y911
       · rintro _ w ⟨hf, hs910, rfl, hS⟩
         have hS : St B w (_ :: _ :: _ :: _ :: _ :: _ :: _ :: _ :: _ :: l) hf := hS
         refine pn 1 rfl (ln (jt (RC.ret (RQ.ret (ir ?_)))))
         have h := h.inrS
         refine RQ.ret (RQ.inB_ret ?_)
         cases h.some
         exact rt results177 rfl ⟨_, hs910, rfl, hS.d6⟩
       · rintro _ w ⟨hf, hs916, A912, c913, cs914, rfl, hS, hx915⟩
         have hS : St B w (_ :: _ :: _ :: _ :: _ :: _ :: _ :: _ :: _ :: l) hf := hS
         refine pn 1 rfl (ln (jfs ?_))
         obtain ⟨A917, c918, A920, c921, A923, c924, cs925, hr919, hr922, hx926, hS⟩ := O_log_Log.o hS.p2
         refine dr [1, 3, 6, 10, 13, 16, 18, 21, 25, 27, 31, 33, 37, 41, 42, 45, 48, 51, 56] [18] hS fun w hS => rq [10, 0, 0, 1, 8, 10, 0, 0, 1, 0] hS ?_
         refine it ?_
         obtain ⟨hq927, h⟩ := h.req
         refine RP.s 0 10 rfl rfl hS (fun w hS => Vl.indexOwn 1 hS rfl underlying223 sizeOf230 rfl rfl hq927 hc831) rfl (RP.s0 11 rfl (fun w => Vl.fieldAddr (a'' := (ad A923).add (x675.toNat * 10 + 0)) underlying230 rfl sizeOf84 rfl (add_add _ _ _)) rfl ?_)
         obtain ⟨_, ⟨A929, c930, b932, rfl, hr931, hr933⟩, hl928⟩ := RepL.elem R_log_done_ok hx926 hq927 hc831
         refine RP.s 0 12 rfl rfl hS (fun w hS => Vl.loadA (vs := (C_api_Message ((nth a6.l x675).event))) isAgg84 sizeOf84 rfl rfl (hS.elemCells 1 rfl hl928 (off := 0) rfl)) rfl ?_
         exact h.none
     refine sr (rr [10, 0, 0, 1, 0] hS ?_)
     refine it fun w hS => ?_
     obtain ⟨hq934, h⟩ := h.req
     refine RL.s (Vl.indexOwn 1 hS rfl underlying223 sizeOf230 rfl rfl hq934 hc831) rfl (RL.s (Vl.fieldAddr (a'' := (ad A827).add (x675.toNat * 10 + 9)) underlying230 rfl sizeOf228 rfl (add_add _ _ _)) rfl ?_)
     obtain ⟨_, ⟨A936, c937, b939, rfl, hr938, hr940⟩, hl935⟩ := RepL.elem R_log_done_ok hx830 hq934 hc831
     refine RL.s (Vl.load isAgg228 rfl (hS.litCell 1 rfl (hl935 9 _ rfl))) rfl (pn 1 rfl (lnsr (pn 1 rfl (RL.s (Vl.ptNeq (fun b w => by kernel_rfl) (fun w => by kernel_rfl) rfl rfl) rfl (ln ?_)))))
     refine RC.iteB 41 rfl h (fun hc941 h => ?_) fun hc941 h => ?_
     next =>
      refine jt (RC.region (pn 1 rfl (RL.s (Vl.nilCheckO hc941 rfl) rfl (RL.s (Vl.loadA (vs := (C_api_State (((nth a6.l x675).ahead).val))) isAgg44 sizeOf44 rfl rfl ((hr940.on hc941).cells hS.sub)) rfl (rr [4] hS ?_)))))
      refine it fun w hS => RL.nil ?_
      have hS := O_log_Log.c (x := a6) hr823 hr826 hx830 hS
      exact fun a ha => ⟨_, _, rfl, h, ha.tE rfl, hS.p1⟩
     refine jf (RC.skip ?_)
     have hS := O_log_Log.c (x := a6) hr823 hr826 hx830 hS
     exact fun a ha => ⟨_, _, rfl, h, ha.tE rfl, hS.p1⟩
    refine jf (RC.exit (RQ.exitT ?_))
    have h := h.inrS
    refine RQ.exitT (RQ.inB_hit ?_)
    have hS := O_log_Log.c (x := a6) hr823 hr826 hx830 hS
    cases h.some
    exact rtE results177 rfl ⟨rfl, hS.d2.p5.p5.p5.p3.p5⟩
  refine RC.block (fun a ha => lp h (fun (s : Int) a w => ∃ x985, s = (x985) ∧ Has 68 [(0, .func (.yield b1) #[] #[]), (1, pV b15), (2, pV b17)] a ∧ St B w (OSl 86 19 (sV A11 a10 c12) a10.length cs13 :: pts b1 (.loop rc2) :: O_log_Log hf a6 b5 :: Cl b4 [pV b5] 144 :: Cl b7 [iV a8] 3 :: Cl b9 [sV A11 a10 c12] 54 :: Cl b15 [iV x985] 3 :: Cl b17 [pV b5] 144 :: l) hf) ⟨_, rfl, ha.tE rfl, hS.p5⟩ ?_)
  rintro G1029 x985 a w ⟨_, rfl, ha, hS⟩ h
  refine ro ha (RC.seq (RC.seq ?_))
  obtain ⟨A1052, c1053, A1055, c1056, A1058, c1059, cs1060, hr1054, hr1057, hx1061, hS⟩ := O_log_Log.o hS.p2
  refine dr [1, 3, 6, 10, 12, 15, 19, 23, 26, 29, 32, 35, 38] [8, 9, 10, 11, 12] hS fun w hS => rq [8, 0, 0] hS ?_
  refine it ?_
  refine RP.iteP 9 rfl h (fun hc1062 h => ?_) fun hc1062 h => ?_
  next =>
   refine rq [9, 0, 0, 1, 8] hS ?_
   refine it ?_
   obtain ⟨⟨hq1063, hq1064⟩, h⟩ := h.req
   refine RP.v1 8 rfl (Vl.indexOwn 1 hS rfl underlying223 sizeOf230 rfl rfl hq1063 hq1064) rfl rfl (RP.v1 9 rfl (Vl.fieldAddr (a'' := (ad A1058).add (x985.toNat * 10 + 9)) underlying230 rfl sizeOf228 rfl (add_add _ _ _)) rfl rfl ?_)
   obtain ⟨_, ⟨A1066, c1067, b1069, rfl, hr1068, hr1070⟩, hl1065⟩ := RepL.elem R_log_done_ok hx1061 hq1063 hq1064
   refine RP.v1 10 rfl (Vl.load isAgg228 rfl (hS.litCell 1 rfl (hl1065 9 _ rfl))) rfl rfl (RP.v1 11 rfl (Vl.ptEql (fun b w => by kernel_rfl) (fun w => by kernel_rfl) rfl rfl) rfl rfl (rq [0] hS ?_))
   refine it (RP.nil (RQ.then_n ?_))
   refine RC.iteM 19 rfl h (fun hc1071 h => ?_) fun hc1071 h => ?_
   next =>
    refine jf (RC.exit (RQ.exitT ?_))
    have h := h.inr
    refine RQ.exitT (RQ.inB_hit ?_)
    have hS := O_log_Log.c (x := a6) hr1054 hr1057 hx1061 hS
    exact fun a ha => ⟨_, _, rfl, h, ha.tE rfl, hS.p1⟩
   refine jt (sk (RC.block (RC.region (rr [8, 0, 8] hS ?_))))
   refine it fun w hS => RL.nil (RQ.inB_n ?_)
   have hS := O_log_Log.c (x := a6) hr1054 hr1057 hx1061 hS
   exact fun a ha => ⟨_, h.some, _, rfl, ha.tE rfl, hS.p2.p2⟩
  refine rq [0, 0, 0, 0, 0, 0, 0, 0, 0, 0] hS ?_
  refine it (RP.nil (RQ.then_n (jf (RC.exit (RQ.exitT ?_)))))
  have h := h.inr
  refine RQ.exitT (RQ.inB_hit ?_)
  have hS := O_log_Log.c (x := a6) hr1054 hr1057 hx1061 hS
  exact fun a ha => ⟨_, _, rfl, h, ha.tE rfl, hS.p1⟩
def log_Log_Drop.j5 (a2 : log_Log) (x455 : Int) : Option (List api_Entry × log_Log) := ((log_Log_states.f a2 0).bind fun t472 => ((log_Log_states_1.f a2 x455 ([] : List api_Entry) t472).bind fun t480 => match t480 with | .inl (y482, y483) => (if 0 ≤ x455 ∧ x455 ≤ (y482.l.length : Int) then (if (([] : List log_done).length + (subL y482.l x455 (y482.l.length : Int)).length) * 96 ≤ 140737488355328 then some (([] : List api_Entry), ({ y482 with l := (([] : List log_done) ++ (subL y482.l x455 (y482.l.length : Int))) } : log_Log)) else none) else none) | .inr (y513) => (if 0 ≤ x455 ∧ x455 ≤ (a2.l.length : Int) then (if (([] : List log_done).length + (subL a2.l x455 (a2.l.length : Int)).length) * 96 ≤ 140737488355328 then some (([] : List api_Entry), ({ a2 with l := (([] : List log_done) ++ (subL a2.l x455 (a2.l.length : Int))) } : log_Log)) else none) else none)))
def log_Log_Drop.l6b (a2 : log_Log) (a3 : Int) : Int → Option ((Int) ⊕ (List api_Entry × log_Log))
  | (x579) => (if x579 < (a2.l.length : Int) then (if 0 ≤ x579 then (if (((nth a2.l x579).event).Key).Time < a3 then some (.inl (IntKind.i64.wrap (x579 + 1))) else (Option.map Sum.inr (log_Log_Drop.j5 a2 x579))) else none) else (Option.map Sum.inr (log_Log_Drop.j5 a2 x579)))
def log_Log_Drop.l6 (a2 : log_Log) (a3 : Int) (s : Int) : Option (List api_Entry × log_Log) := loopR (log_Log_Drop.l6b a2 a3) s
def log_Log_Drop.f (a2 : log_Log) (a3 : Int) : Option (List api_Entry × log_Log) := ((log_Log_none.f a2).bind fun t335 => (if t335 = true then some (([] : List api_Entry), a2) else log_Log_Drop.l6 a2 a3 (0)))
theorem log_Log_Drop.ok {a2 : log_Log} {a3 : Int} {b1 : Nat} {r : List api_Entry × log_Log} (h : log_Log_Drop.f a2 a3 = some r) (hS : St B w (O_log_Log hf a2 b1 :: l) hf) :
    Calls prog 203 #[pV b1, iV a3] w (Ret fun v w => ∃ hf_ : Hp, Sub hf hf_ ∧ ∃ (A_1 : Option Addr) (c_2 : Nat) (cs_3 : List Value), v = sV A_1 r.1 c_2 ∧ St B w (OSl 86 19 (sV A_1 r.1 c_2) r.1.length cs_3 :: O_log_Log hf_ r.2 b1 :: l) hf_ ∧ RepL R_api_Entry hf_ cs_3 r.1) := by
  have h := Holds.of h
  refine enM func203 rfl ntmps203 rfl (sr (rr [0, 0] hS ?_))
  refine fun b331 => it fun w hS => ln (RC.seq (sr (rr [1] hS ?_)))
  refine it fun w hS => cF (fun _ hg => log_Log_none.ok hg hS.p1) call124 h rfl rfl rfl ?_
  rintro t335 h _ w ⟨rfl, hS⟩
  refine ln ?_
  refine RC.iteB 10 rfl h (fun hc337 h => ?_) fun hc337 h => ?_
  next =>
   refine jtr (pn 1 rfl (lr (RQ.ret ?_)))
   have hS := hS.nilSlR 86 19
   cases h.some
   exact rtM0 (vs := [.slice none 0 0]) results203 ⟨rfl, trivial⟩ ⟨_, (Sub.refl _), none, 0, ([]), rfl, hS.d2, RepL.nil⟩
  refine jfs (sr (rr [0, 1] hS ?_))
  refine fun b338 => it fun w hS => ln ?_
  refine RC.join (fun (s : Int) a w => ∃ x455, s = (x455) ∧ Holds (· = r) (log_Log_Drop.j5 a2 x455) ∧ Has 71 [(2, pV b331), (5, pV b338)] a ∧ St B w (O_log_Log hf a2 b1 :: Cl b338 [iV x455] 3 :: Cl b331 [pV b1] 144 :: l) hf) ?_ ?_
  · rintro x455 a w ⟨_, rfl, h, ha, hS⟩
    refine ro ha (sr (rr [0] hS ?_))
    refine fun b456 => it fun w hS => ln (RC.seq (sr (rr [4] hS ?_)))
    refine it fun w hS => cF (fun _ hg => log_Log_states.ok hg hS.p1) call125 h rfl rfl rfl ?_
    rintro t472 h _ w ⟨b474, b475, rfl, hS⟩
    refine ln (RC.block ?_)
    have hS := hS.nilSlR 86 19
    have hS : St B w (_ :: _ :: _ :: _ :: _ :: _ :: _ :: l) hf := hS
    obtain ⟨t480, hg481, h⟩ := h.bind
    refine RC.rf (args := fun b476 => #[.func (.yield b476) #[] #[], pV b474, pV b475]) rfl call177 rfl hS (fun _ => by simp) (fun b476 d477 rc478 w hr479 hS => log_Log_states_1.ok RepL.nil (RecOK.to (M := 71) hr479 rfl rfl ⟨rfl, rfl, rfl, trivial⟩) hg481 hS.p4.p4.p4.p6.p7.p8.p8.p7) ?_
    rcases t480 with ⟨y482, y483⟩ | y513
    · rintro b476 d477 rc478 _ w hr479 ⟨hf, hs484, rfl, hS⟩
      refine RE.x hS fun w hS => RQ.inB_hit (RQ.then_n (RC.seq ?_))
      obtain ⟨A485, c486, A488, c489, A491, c492, cs493, hr487, hr490, hx494, hS⟩ := O_log_Log.o hS
      refine RC.noPan (dk [1, 4, 6, 9, 13, 17, 20, 23, 26, 29, 32] [8, 9, 10] hS (fun w hS => hS.d1) fun w hS => rq [2, 2, 0, 0, 1] hS.d1 ?_)
      refine it (RP.v1 5 rfl (Vl.ld 3 hS isAgg3 rfl rfl rfl) rfl rfl ?_)
      obtain ⟨⟨hq504, hq505⟩, h⟩ := h.req
      refine RP.v1 6 rfl (Vl.sliceLO (xs := y482.l) 1 hS rfl underlying223 sizeOf230 rfl rfl  hq504 hq505) rfl rfl ?_
      obtain ⟨hq508, h⟩ := h.req
      obtain ⟨hf, hs506, hS, hr507⟩ := St.promoteR R_log_done_ok hS.p1 rfl hx494
      have hS := hS.nilSlR 230 10
      refine RP.e 7 rfl (OW.appendR (R := R_log_done) R_log_done_ok (xs := ([] : List log_done)) (ys := (subL y482.l x455 (y482.l.length : Int))) 0 hS rfl underlying223 type230 rfl rfl rfl rfl (by decide) (by decide) RepL.nil rfl rfl (hr507.sub (lo := x455) (hi := (y482.l.length : Int)) (m := c492) hq504 hq505 (Int.le_refl _) (by have : y482.l.length ≤ c492 := hr507.1; omega)) hq508 rfl) rfl rfl ?_
      rintro _ w ⟨cs511, hx512, hS⟩
      obtain ⟨A509, c510, rfl, _⟩ := hS.osShape 0 rfl
      have hS : St B w (_ :: _ :: _ :: _ :: _ :: _ :: _ :: _ :: _ :: l) hf := hS
      refine ⟨kp ⟨fun _ => (St.down hS.d0 hs506), trivial⟩, ?_⟩
      refine rq [0, 0] (St.down hS.d0 hs506) ?_
      refine it (RP.e0 10 rfl (OW.store (vs := [.slice A509 (([] : List log_done) ++ (subL y482.l x455 (y482.l.length : Int))).length c510]) 1 hS rfl rfl rfl rfl sizeOf223 rfl rfl rfl rfl) rfl ?_)
      rintro _ w ⟨rfl, hS⟩
      have hS : St B w (_ :: Cl _ [_, _, _, _, _, _, _, _, _, _, _, _, _, _, _, _, _, _] _ :: _ :: _ :: _ :: _ :: _ :: _ :: _ :: l) hf := hS
      refine ⟨kp ⟨(by intro hx; cases hx), trivial⟩, ?_⟩
      refine RP.nil (RQ.noPan_n (tsr (rr [5, 0] hS ?_)))
      refine it fun w hS => lr ?_
      have hS := O_log_Log.c (x := ({ y482 with l := (([] : List log_done) ++ (subL y482.l x455 (y482.l.length : Int))) } : log_Log)) (hr487.mono hs506) (hr490.mono hs506) hx512 hS.p1
      cases h.some
      exact rtM1 (vs := [.slice none ([] : List api_Entry).length 0]) results203 hS.p7 fun w hS => ⟨⟨rfl, trivial⟩, ⟨_, (hs484.trans hs506), none, 0, ([]), rfl, hS.d1.d1.d1.d2.d2.p1, RepL.nil⟩⟩
    · rintro b476 d477 rc478 _ w hr479 ⟨rfl, hS⟩
      refine RE.n hS hr479.state hr479.pending fun w hS => RQ.inB_n (RQ.then_n (RC.seq ?_))
      obtain ⟨A514, c515, A517, c518, A520, c521, cs522, hr516, hr519, hx523, hS⟩ := O_log_Log.o hS
      refine RC.noPan (dk [1, 4, 6, 9, 13, 17, 20, 23, 26, 29, 32] [8, 9, 10] hS (fun w hS => hS.d1) fun w hS => rq [2, 2, 0, 0, 1] hS.d1 ?_)
      refine it (RP.v1 5 rfl (Vl.ld 3 hS isAgg3 rfl rfl rfl) rfl rfl ?_)
      obtain ⟨⟨hq533, hq534⟩, h⟩ := h.req
      refine RP.v1 6 rfl (Vl.sliceLO (xs := a2.l) 1 hS rfl underlying223 sizeOf230 rfl rfl  hq533 hq534) rfl rfl ?_
      obtain ⟨hq537, h⟩ := h.req
      obtain ⟨hf, hs535, hS, hr536⟩ := St.promoteR R_log_done_ok hS.p1 rfl hx523
      have hS := hS.nilSlR 230 10
      refine RP.e 7 rfl (OW.appendR (R := R_log_done) R_log_done_ok (xs := ([] : List log_done)) (ys := (subL a2.l x455 (a2.l.length : Int))) 0 hS rfl underlying223 type230 rfl rfl rfl rfl (by decide) (by decide) RepL.nil rfl rfl (hr536.sub (lo := x455) (hi := (a2.l.length : Int)) (m := c521) hq533 hq534 (Int.le_refl _) (by have : a2.l.length ≤ c521 := hr536.1; omega)) hq537 rfl) rfl rfl ?_
      rintro _ w ⟨cs540, hx541, hS⟩
      obtain ⟨A538, c539, rfl, _⟩ := hS.osShape 0 rfl
      have hS : St B w (_ :: _ :: _ :: _ :: _ :: _ :: _ :: _ :: _ :: l) hf := hS
      refine ⟨kp ⟨fun _ => (St.down hS.d0 hs535), trivial⟩, ?_⟩
      refine rq [0, 0] (St.down hS.d0 hs535) ?_
      refine it (RP.e0 10 rfl (OW.store (vs := [.slice A538 (([] : List log_done) ++ (subL a2.l x455 (a2.l.length : Int))).length c539]) 1 hS rfl rfl rfl rfl sizeOf223 rfl rfl rfl rfl) rfl ?_)
      rintro _ w ⟨rfl, hS⟩
      have hS : St B w (_ :: Cl _ [_, _, _, _, _, _, _, _, _, _, _, _, _, _, _, _, _, _] _ :: _ :: _ :: _ :: _ :: _ :: _ :: _ :: l) hf := hS
      refine ⟨kp ⟨(by intro hx; cases hx), trivial⟩, ?_⟩
      refine RP.nil (RQ.noPan_n (tsr (rr [5, 0] hS ?_)))
      refine it fun w hS => lr ?_
      have hS := O_log_Log.c (x := ({ a2 with l := (([] : List log_done) ++ (subL a2.l x455 (a2.l.length : Int))) } : log_Log)) (hr516.mono hs535) (hr519.mono hs535) hx541 hS.p1
      cases h.some
      exact rtM1 (vs := [.slice none ([] : List api_Entry).length 0]) results203 hS.p7 fun w hS => ⟨⟨rfl, trivial⟩, ⟨_, hs535, none, 0, ([]), rfl, hS.d1.d1.d1.d2.d2.p1, RepL.nil⟩⟩
  refine RC.block (fun a ha => lp h (fun (s : Int) a w => ∃ x579, s = (x579) ∧ Has 71 [(1, iV a3), (2, pV b331), (5, pV b338)] a ∧ St B w (Cl b338 [iV x579] 3 :: O_log_Log hf a2 b1 :: Cl b331 [pV b1] 144 :: l) hf) ⟨_, rfl, ha.tE rfl, hS⟩ ?_)
  rintro G619 x579 a w ⟨_, rfl, ha, hS⟩ h
  refine ro ha (RC.seq (RC.seq ?_))
  obtain ⟨A639, c640, A642, c643, A645, c646, cs647, hr641, hr644, hx648, hS⟩ := O_log_Log.o hS.p1
  refine RC.noPan (dr [1, 4, 6, 9, 13, 15, 18, 21, 25, 27, 30, 34, 37, 40, 42, 45, 48, 52, 56, 59, 62] [] hS fun w hS => rq [3, 4, 0, 0, 1, 0, 0, 0] hS ?_)
  refine it ?_
  refine RP.iteP 18 rfl h (fun hc649 h => ?_) fun hc649 h => ?_
  next =>
   refine rq [4, 0, 0, 1, 3] hS ?_
   refine it ?_
   obtain ⟨hq650, h⟩ := h.req
   refine RP.sg 0 13 rfl rfl hS (fun w hS => Vl.indexOwn 1 hS rfl underlying223 sizeOf230 rfl rfl hq650 hc649) rfl rfl (RP.sg0 14 rfl (fun w => Vl.fieldAddr (a'' := (ad A645).add (x579.toNat * 10 + 0)) underlying230 rfl sizeOf84 rfl (add_add _ _ _)) rfl rfl (RP.sg0 15 rfl (fun w => Vl.fieldAddr (a'' := (ad A645).add (x579.toNat * 10 + 0)) underlying84 rfl sizeOf80 rfl (add_add _ _ _)) rfl rfl (RP.sg0 16 rfl (fun w => Vl.fieldAddr (a'' := (ad A645).add (x579.toNat * 10 + 0)) underlying80 rfl sizeOf2 rfl (add_add _ _ _)) rfl rfl ?_)))
   obtain ⟨_, ⟨A652, c653, b655, rfl, hr654, hr656⟩, hl651⟩ := RepL.elem R_log_done_ok hx648 hq650 hc649
   refine RP.sg 0 17 rfl rfl hS (fun w hS => Vl.load isAgg2 rfl (hS.litCell 1 rfl (hl651 0 _ rfl))) rfl rfl (rq [0, 0, 0] hS ?_)
   refine it (RP.nil (RQ.noPan_n (RQ.then_n ?_)))
   refine RC.iteP 31 rfl h (fun hc657 h => ?_) fun hc657 h => ?_
   next =>
    refine jt (sk (RC.block (RC.region (rr [3, 0, 3] hS ?_))))
    refine it fun w hS => RL.nil (RQ.inB_n ?_)
    have hS := O_log_Log.c (x := a2) hr641 hr644 hx648 hS
    exact fun a ha => ⟨_, h.some, _, rfl, ha.tE rfl, hS.p1⟩
   refine jf (RC.exit (RQ.exitT ?_))
   have h := h.inr
   refine RQ.exitT (RQ.inB_hit ?_)
   have hS := O_log_Log.c (x := a2) hr641 hr644 hx648 hS
   exact fun a ha => ⟨_, _, rfl, h, ha.tE rfl, hS⟩
  refine rq [0, 0, 0, 0, 0, 0, 0, 0, 0, 0, 0, 0, 0] hS ?_
  refine it (RP.nil (RQ.noPan_n (RQ.then_n (jf (RC.exit (RQ.exitT ?_))))))
  have h := h.inr
  refine RQ.exitT (RQ.inB_hit ?_)
  have hS := O_log_Log.c (x := a2) hr641 hr644 hx648 hS
  exact fun a ha => ⟨_, _, rfl, h, ha.tE rfl, hS⟩
def lane_Lane_Drop.f (a2 : lane_Lane) (a3 : Int) : Option (List api_Entry × lane_Lane) := ((lane_Lane_none.f a2).bind fun _ => ((log_Log_Drop.f a2.log a3).bind fun (y63, y64) => some (y63, ({ a2 with log := y64 } : lane_Lane))))
theorem lane_Lane_Drop.ok {a2 : lane_Lane} {a3 : Int} {b1 : Nat} {r : List api_Entry × lane_Lane} (h : lane_Lane_Drop.f a2 a3 = some r) (hS : St B w (O_lane_Lane hf a2 b1 :: l) hf) :
    Calls prog 169 #[pV b1, iV a3] w (Ret fun v w => ∃ hf_ : Hp, Sub hf hf_ ∧ ∃ (A_1 : Option Addr) (c_2 : Nat) (cs_3 : List Value), v = sV A_1 r.1 c_2 ∧ St B w (OSl 86 19 (sV A_1 r.1 c_2) r.1.length cs_3 :: O_lane_Lane hf_ r.2 b1 :: l) hf_ ∧ RepL R_api_Entry hf_ cs_3 r.1) := by
  have h := Holds.of h
  refine en func169 rfl ntmps169 rfl (sr (pn 1 rfl (ln (RC.seq (sr (pn 1 rfl (cF (fun _ hg => lane_Lane_none.ok hg hS) call68 h rfl rfl rfl ?_)))))))
  rintro _ h _ w ⟨rfl, hS⟩
  refine ln (jfs (sr (r0 3 rfl ?_)))
  obtain ⟨A41, c42, A44, c45, A47, c48, A50, c51, b53, b54, A55, c56, A57, c58, b59, b60, hr43, hr46, hr49, hr52, hS⟩ := O_lane_Lane.o hS
  refine rr [1, 0] hS ?_
  refine it fun w hS => cF (fun _ hg => log_Log_Drop.ok hg hS.p1) call203 h rfl rfl rfl ?_
  rintro ⟨y63, y64⟩ h _ w ⟨hf, hs69, A65, c66, cs67, rfl, hS, hx68⟩
  have hS := O_pend_Pend.l hs69 hS.p3
  refine pn 1 rfl (lr ?_)
  have hS := O_lane_Lane.c (x := ({ a2 with log := y64 } : lane_Lane)) (hr43.mono hs69) (hr46.mono hs69) (hr49.mono hs69) (hr52.mono hs69) hS.p7.p7.p7.p7.p4.p6.p7
  cases h.some
  exact rt results169 rfl ⟨_, hs69, A65, c66, cs67, rfl, hS.p1, hx68⟩
def slices_insertionSortCmpFunc_api_Entry.l14b (a1 : List api_Entry) (a5 x444 : Int) : Unit → Option ((Unit) ⊕ ((Int) ⊕ (Unit)))
  | () => (if a5 < x444 then (if 0 ≤ x444 ∧ x444 < (a1.length : Int) then (if 0 ≤ IntKind.i64.wrap (x444 - 1) ∧ IntKind.i64.wrap (x444 - 1) < (a1.length : Int) then none else none) else none) else some (.inr (.inl (IntKind.i64.wrap (x444 + 1)))))
def slices_insertionSortCmpFunc_api_Entry.l14 (a1 : List api_Entry) (a5 x444 : Int) (s : Unit) : Option ((Int) ⊕ (Unit)) := loopR (slices_insertionSortCmpFunc_api_Entry.l14b a1 a5 x444) s
def slices_insertionSortCmpFunc_api_Entry.l12b (a1 : List api_Entry) (a5 a6 : Int) : Int → Option ((Int) ⊕ (Unit))
  | (x444) => (if x444 < a6 then slices_insertionSortCmpFunc_api_Entry.l14 a1 a5 x444 () else some (.inr ()))
def slices_insertionSortCmpFunc_api_Entry.l12 (a1 : List api_Entry) (a5 a6 : Int) (s : Int) : Option (Unit) := loopR (slices_insertionSortCmpFunc_api_Entry.l12b a1 a5 a6) s
def slices_insertionSortCmpFunc_api_Entry.f (a1 : List api_Entry) (a5 a6 : Int) : Option (Unit) := slices_insertionSortCmpFunc_api_Entry.l12 a1 a5 a6 (IntKind.i64.wrap (a5 + 1))
theorem slices_insertionSortCmpFunc_api_Entry.ok {a1 : List api_Entry} {a5 a6 : Int} {A2 : Option Addr} {c3 : Nat} (hr4 : SlR R_api_Entry hf A2 c3 a1) {r : Unit} (h : slices_insertionSortCmpFunc_api_Entry.f a1 a5 a6 = some r) (hS : St B w (l) hf) :
    Calls prog 225 #[sV A2 a1 c3, iV a5, iV a6, .func (.func 171) #[] #[]] w (Ret fun v w => v = .tuple #[] ∧ St B w (l) hf) := by
  have h := Holds.of h
  refine en func225 rfl ntmps225 rfl (sr (pn 3 rfl (ln (RC.block (fun a ha => lp h (fun (s : Int) a w => ∃ x444, s = (x444) ∧ Has 53 [(0, sV A2 a1 c3), (1, iV a5), (2, iV a6), (3, .func (.func 171) #[] #[]), (8, iV x444)] a ∧ St B w (l) hf) ⟨_, rfl, ha.tE rfl, hS⟩ ?_)))))
  rintro G554 x444 a w ⟨_, rfl, ha, hS⟩ h
  refine ro ha (RC.seq (sr (pn 3 rfl (ln ?_))))
  refine RC.iteP 14 rfl h (fun hc556 h => ?_) fun hc556 h => ?_
  next =>
   refine jt (sk (RC.seq (RC.block (sr (pn 2 rfl (ln (RC.block (fun a ha => lp h (fun (s : Unit) a w => s = () ∧ Has 53 [(0, sV A2 a1 c3), (1, iV a5), (2, iV a6), (3, .func (.func 171) #[] #[]), (8, iV x444), (9, iV x444)] a ∧ St B w (l) hf) ⟨rfl, ha.tE rfl, hS⟩ ?_))))))))
   rintro G636 _ a w ⟨rfl, ha, hS⟩ h
   refine ro ha (RC.seq (RC.seq (dr [0, 3, 6, 9, 12, 15, 18, 22, 25, 27, 32, 35, 38, 41, 44, 47, 50] [14, 15, 16] hS fun w hS => pp 4 rfl ?_)))
   refine RP.iteP 21 rfl h (fun hc650 h => ?_) fun hc650 h => ?_
   next =>
    refine pp 3 rfl ?_
    obtain ⟨⟨hq651, hq652⟩, h⟩ := h.req
    refine RP.sg 0 7 rfl rfl hS (fun w hS => Vl.indexAddr underlying54 sizeOf86 rfl rfl (hr4.2.adr hq651 hq652) hq651 hq652 rfl) rfl rfl ?_
    obtain ⟨_, _, ⟨A653, c654, rfl, hr655⟩, hl656⟩ := hr4.2.elem hq651 hq652
    refine RP.sg 0 8 rfl rfl hS (fun w hS => Vl.loadA (vs := (C_api_Entry (nth a1 x444) A653 c654)) isAgg86 sizeOf86 rfl rfl (elemCells hS.sub hl656 (off := 0) rfl)) rfl rfl (rq [0, 0, 0] hS ?_)
    refine it ?_
    obtain ⟨⟨hq657, hq658⟩, h⟩ := h.req
    refine RP.v1 12 rfl (Vl.indexAddr underlying54 sizeOf86 rfl rfl (hr4.2.adr hq657 hq658) hq657 hq658 rfl) rfl rfl ?_
    obtain ⟨_, _, ⟨A659, c660, rfl, hr661⟩, hl662⟩ := hr4.2.elem hq657 hq658
    refine RP.v1 13 rfl (Vl.loadA (vs := (C_api_Entry (nth a1 (IntKind.i64.wrap (x444 - 1))) A659 c660)) isAgg86 sizeOf86 rfl rfl (elemCells hS.sub hl662 (off := 0) rfl)) rfl rfl ?_
    exact h.none
   refine rq [0, 0, 0, 0, 0, 0, 0, 0, 0, 0, 0, 0, 0] hS ?_
   refine it (RP.nil (RQ.then_n (jf (RC.exit (RQ.exitT ?_)))))
   have h := h.inrS
   refine RQ.exitT (RQ.inB_hit (RQ.inB_n (RQ.then_n (RC.region (pn 3 rfl (RL.nil ?_))))))
   exact fun a ha => ⟨_, h.some, _, rfl, ha.tE rfl, hS⟩
  refine jf (RC.exit (RQ.exitT ?_))
  have h := h.inrS
  refine RQ.exitT (RQ.inB_hit ?_)
  exact rtE results225 rfl ⟨rfl, hS⟩
def slices_stableCmpFunc_api_Entry.l14b (a5 : Int) : Unit → Option ((Unit) ⊕ ((Unit) ⊕ (Unit)))
  | () => (if 40 ≤ a5 then none else (Option.map Sum.inr none))
def slices_stableCmpFunc_api_Entry.l14 (a5 : Int) (s : Unit) : Option ((Unit) ⊕ (Unit)) := loopR (slices_stableCmpFunc_api_Entry.l14b a5) s
def slices_stableCmpFunc_api_Entry.l12b (a5 : Int) : Unit → Option ((Unit) ⊕ (Unit))
  | () => (if 20 < a5 then slices_stableCmpFunc_api_Entry.l14 a5 () else some (.inr ()))
def slices_stableCmpFunc_api_Entry.l12 (a5 : Int) (s : Unit) : Option (Unit) := loopR (slices_stableCmpFunc_api_Entry.l12b a5) s
def slices_stableCmpFunc_api_Entry.l9b (a1 : List api_Entry) (a5 : Int) : Int × Int → Option ((Int × Int) ⊕ (Unit))
  | (x96, x97) => (if x97 ≤ a5 then ((slices_insertionSortCmpFunc_api_Entry.f a1 x96 x97).bind fun _ => some (.inl (x97, IntKind.i64.wrap (x97 + 20)))) else (Option.map Sum.inr ((slices_insertionSortCmpFunc_api_Entry.f a1 x96 a5).bind fun _ => slices_stableCmpFunc_api_Entry.l12 a5 ())))
def slices_stableCmpFunc_api_Entry.l9 (a1 : List api_Entry) (a5 : Int) (s : Int × Int) : Option (Unit) := loopR (slices_stableCmpFunc_api_Entry.l9b a1 a5) s
def slices_stableCmpFunc_api_Entry.f (a1 : List api_Entry) (a5 : Int) : Option (Unit) := slices_stableCmpFunc_api_Entry.l9 a1 a5 (0, 20)
theorem slices_stableCmpFunc_api_Entry.ok {a1 : List api_Entry} {a5 : Int} {A2 : Option Addr} {c3 : Nat} (hr4 : SlR R_api_Entry hf A2 c3 a1) {r : Unit} (h : slices_stableCmpFunc_api_Entry.f a1 a5 = some r) (hS : St B w (l) hf) :
    Calls prog 204 #[sV A2 a1 c3, iV a5, .func (.func 171) #[] #[]] w (Ret fun v w => v = .tuple #[] ∧ St B w (l) hf) := by
  have h := Holds.of h
  refine en func204 rfl ntmps204 rfl (sr (pn 1 rfl (lnsr (pn 3 rfl (ln (RC.seq (RC.block (fun a ha => lp h (fun (s : Int × Int) a w => ∃ x96 x97, s = (x96, x97) ∧ Has 63 [(0, sV A2 a1 c3), (1, iV a5), (2, .func (.func 171) #[] #[]), (6, iV 20), (7, iV x96), (8, iV x97)] a ∧ St B w (l) hf) ⟨_, _, rfl, ha.tE rfl, hS⟩ ?_))))))))
  rintro G104 _ a w ⟨x96, x97, rfl, ha, hS⟩ h
  refine ro ha (RC.seq (sr (pn 3 rfl (ln ?_))))
  refine RC.iteP 13 rfl h (fun hc106 h => ?_) fun hc106 h => ?_
  next =>
   refine jt (sk (RC.block (sr (pn 4 rfl (cF (fun _ hg => slices_insertionSortCmpFunc_api_Entry.ok hr4 hg hS) call225 h rfl rfl rfl ?_)))))
   rintro _ h _ w ⟨rfl, hS⟩
   refine lnsr (pn 2 rfl (ln (RC.region (pn 4 rfl (RL.nil (RQ.inB_n ?_))))))
   exact fun a ha => ⟨_, h.some, _, _, rfl, ha.tE rfl, hS⟩
  refine jf (RC.exit (RQ.exitT ?_))
  have h := h.inr
  refine RQ.exitT (RQ.inB_hit (tsr (pn 4 rfl (cF (fun _ hg => slices_insertionSortCmpFunc_api_Entry.ok hr4 hg hS) call225 h rfl rfl rfl ?_))))
  rintro _ h _ w ⟨rfl, hS⟩
  refine ln (RC.block (fun a ha => lp h (fun (s : Unit) a w => s = () ∧ Has 63 [(0, sV A2 a1 c3), (1, iV a5), (2, .func (.func 171) #[] #[]), (6, iV 20)] a ∧ St B w (l) hf) ⟨rfl, ha.tE rfl, hS⟩ ?_))
  rintro G123 _ a w ⟨rfl, ha, hS⟩ h
  refine ro ha (RC.seq (sr (pn 3 rfl (ln ?_))))
  refine RC.iteP 30 rfl h (fun hc125 h => ?_) fun hc125 h => ?_
  next =>
   refine jt (sk (RC.block (sr (pn 4 rfl (ln (RC.seq (RC.block (fun a ha => lp h (fun (s : Unit) a w => s = () ∧ Has 63 [(0, sV A2 a1 c3), (1, iV a5), (2, .func (.func 171) #[] #[]), (6, iV 20), (7, iV 0), (8, iV 40)] a ∧ St B w (l) hf) ⟨rfl, ha.tE rfl, hS⟩ ?_))))))))
   rintro G133 _ a w ⟨rfl, ha, hS⟩ h
   refine ro ha (RC.seq (sr (pn 3 rfl (ln ?_))))
   refine RC.iteP 35 rfl h (fun hc135 h => ?_) fun hc135 h => ?_
   next =>
    refine jt (sk (RC.block (sr (pn 7 rfl ?_))))
    exact h.none
   refine jf (RC.exit (RQ.exitT ?_))
   have h := h.inr
   refine RQ.exitT (RQ.inB_hit (RQ.then_n (RC.seq (sr (pn 4 rfl (lnsr (pn 3 rfl (ln (RC.re 54 rfl (congrArg Value.bool (decide_eq_true hc125)) (jt ?_))))))))))
   refine RC.region (pn 5 rfl ?_)
   exact h.none
  refine jf (RC.exit (RQ.exitT ?_))
  have h := h.inrS
  refine RQ.exitT (RQ.inB_hit ?_)
  exact rtE results204 rfl ⟨rfl, hS⟩
def slices_SortStableFunc_api_Entry_api_Entry.f (a1 : List api_Entry) : Option (Unit) := ((slices_stableCmpFunc_api_Entry.f a1 (a1.length : Int)).bind fun _ => some ())
theorem slices_SortStableFunc_api_Entry_api_Entry.ok {a1 : List api_Entry} {A2 : Option Addr} {c3 : Nat} (hr4 : SlR R_api_Entry hf A2 c3 a1) {r : Unit} (h : slices_SortStableFunc_api_Entry_api_Entry.f a1 = some r) (hS : St B w (l) hf) :
    Calls prog 170 #[sV A2 a1 c3, .func (.func 171) #[] #[]] w (Ret fun v w => v = .tuple #[] ∧ St B w (l) hf) := by
  have h := Holds.of h
  refine en func170 rfl ntmps170 rfl (RC.region (r0 4 rfl (cF (fun _ hg => slices_stableCmpFunc_api_Entry.ok hr4 hg hS) call204 h rfl rfl rfl ?_)))
  rintro _ h _ w ⟨rfl, hS⟩
  refine RL.nil ?_
  exact rtE results170 rfl ⟨rfl, hS⟩
def kernel_Kernel_commit.l8b (l1748 : List api_Entry) : kernel_Kernel × Int → Option ((kernel_Kernel × Int) ⊕ ((kernel_halt × kernel_Kernel) ⊕ (kernel_Kernel)))
  | (y2381, x2382) => (if x2382 < (l1748.length : Int) then (if 0 ≤ x2382 then (if y2381.m.Budget ≤ (y2381.history.length : Int) then some (.inr (.inl ((⟨4, 9⟩ : kernel_halt), y2381))) else (if (nth l1748 x2382).Fault = 0 then (if (y2381.history.length + 1) * 40 ≤ 140737488355328 then some (.inl (({ y2381 with history := (y2381.history ++ ([(⟨((nth l1748 x2382).Event).Key, ((nth l1748 x2382).Event).To, ((nth l1748 x2382).Event).Value⟩ : api_Done)])) } : kernel_Kernel), IntKind.i64.wrap (x2382 + 1))) else none) else (if (nth l1748 x2382).Fault = 10 then some (.inr (.inl ((⟨2, (nth l1748 x2382).Fault⟩ : kernel_halt), y2381))) else some (.inr (.inl ((⟨3, (nth l1748 x2382).Fault⟩ : kernel_halt), y2381)))))) else none) else (Option.map Sum.inr (if y2381.m.End < y2381.global then some (.inl ((⟨1, 6⟩ : kernel_halt), y2381)) else some (.inr (y2381)))))
def kernel_Kernel_commit.l8 (l1748 : List api_Entry) (s : kernel_Kernel × Int) : Option ((kernel_halt × kernel_Kernel) ⊕ (kernel_Kernel)) := loopR (kernel_Kernel_commit.l8b l1748) s
def kernel_Kernel_commit.l6b (a2 : kernel_Kernel) : List kernel_place × List api_Entry × Int → Option ((List kernel_place × List api_Entry × Int) ⊕ ((kernel_halt × kernel_Kernel) ⊕ (kernel_Kernel)))
  | (l1747, l1748, x1753) => (if x1753 < (a2.at_.length : Int) then (if 0 ≤ x1753 then ((lane_Lane_Drop.f ((nth l1747 x1753).Lane) a2.global).bind fun (y1858, y1859) => (if (l1748.length + y1858.length) * 168 ≤ 140737488355328 then some (.inl ((setL l1747 x1753 (⟨y1859, (nth l1747 x1753).tally, (nth l1747 x1753).clocks, (nth l1747 x1753).ways, (nth l1747 x1753).into⟩ : kernel_place)), (l1748 ++ y1858), IntKind.i64.wrap (x1753 + 1))) else none)) else none) else (Option.map Sum.inr ((slices_SortStableFunc_api_Entry_api_Entry.f l1748).bind fun _ => kernel_Kernel_commit.l8 l1748 (({ a2 with at_ := l1747 } : kernel_Kernel), 0))))
def kernel_Kernel_commit.l6 (a2 : kernel_Kernel) (s : List kernel_place × List api_Entry × Int) : Option ((kernel_halt × kernel_Kernel) ⊕ (kernel_Kernel)) := loopR (kernel_Kernel_commit.l6b a2) s
def kernel_Kernel_commit.f (a2 : kernel_Kernel) : Option ((kernel_halt × kernel_Kernel) ⊕ (kernel_Kernel)) := kernel_Kernel_commit.l6 a2 (a2.at_, [], 0)
theorem kernel_Kernel_commit.ok {a2 : kernel_Kernel} {b1 : Nat} {r : (kernel_halt × kernel_Kernel) ⊕ (kernel_Kernel)} (h : kernel_Kernel_commit.f a2 = some r) (hS : St B w (O_kernel_Kernel hf a2 b1 :: l) hf) :
    Calls prog 117 #[pV b1] w (Ret fun v w => match (generalizing := false) r with | .inl r_ => ∃ hf_ : Hp, Sub hf hf_ ∧ v = .iface 212 (.agg #[iV r_.1.stop, iV r_.1.why]) ∧ St B w (O_kernel_Kernel hf_ r_.2 b1 :: l) hf_ | .inr (r_) => ∃ hf_ : Hp, Sub hf hf_ ∧ v = .nilIface ∧ St B w (O_kernel_Kernel hf_ r_ b1 :: l) hf_) := by
  have h := Holds.of h
  refine en func117 rfl ntmps117 rfl (sr (pn 1 rfl (lnsr (pn 1 rfl (ln (RC.seq (sr (r0 3 rfl ?_))))))))
  obtain ⟨A1621, c1622, A1624, c1625, A1627, c1628, A1630, c1631, bs1632, A1634, c1635, bs1636, b1638, A1639, c1640, hr1623, hr1626, hr1629, hS⟩ := O_kernel_Kernel.o hS
  have hl1633 := hS.p2.sepLen
  have hl1637 := hS.p4.sepLen
  refine rr [1] hS ?_
  refine it fun w hS => RL.s (Vl.lenO hl1633 underlying31 rfl) rfl (pn 1 rfl (ln (RC.block ?_)))
  have hS := hS.nilSlR 86 19
  refine fun a ha => lp h (fun (s : List kernel_place × List api_Entry × Int) a w => ∃ l1747 l1748 x1753, s = (l1747, l1748, x1753) ∧ ∃ hf_, Sub hf hf_ ∧ ∃ A1749 c1750 cs1751, Has 96 [(0, pV b1), (3, sV A1749 l1748 c1750), (11, sV A1630 bs1632 c1631), (12, iV (a2.at_.length : Int)), (13, iV x1753)] a ∧ St B w (OSf FP 95 (sV A1630 bs1632 c1631) bs1632 :: OSf FP 103 (sV A1634 bs1636 c1635) bs1636 :: OSf E_api_Done 82 (sV A1639 a2.history c1640) a2.history :: OSl 86 19 (sV A1749 l1748 c1750) l1748.length cs1751 :: Cl b1 [sV A1621 a2.m.Progs c1622, sV A1624 a2.m.Links c1625, sV A1627 a2.m.Starts c1628, .int .u64 a2.m.Seed, iV a2.m.End, iV a2.m.Budget, sV A1630 bs1632 c1631, sV A1634 bs1636 c1635, pV b1638, iV a2.global, iV a2.window, iV a2.width, sV A1639 a2.history c1640, iV a2.stop] 36 :: SepL (O_kernel_place hf_) l1747 bs1632 :: SepL (O_link_Way hf_) a2.ways bs1636 :: O_colour_Token hf_ a2.token b1638 :: l) hf_ ∧ RepL R_api_Entry hf_ cs1751 l1748) ⟨_, _, _, rfl, _, (Sub.refl _), _, _, _, ha.tE rfl, hS.p7.p5.p4, RepL.nil⟩ ?_
  rintro G1816 _ a w ⟨l1747, l1748, x1753, rfl, hf, hs1690, A1749, c1750, cs1751, ha, hS, hx1752⟩ h
  refine ro ha (sr (pn 1 rfl (ln (RC.seq ?_))))
  refine RC.iteP 14 rfl h (fun hc1818 h => ?_) fun hc1818 h => ?_
  next =>
   refine jt (sk (RC.seq (RC.block (sr ?_))))
   obtain ⟨hq1847, h⟩ := h.req
   refine RL.s (Vl.indexOwn 0 hS rfl underlying31 sizeOf95 rfl rfl hq1847 (lt_len hl1633 hc1818)) rfl (RL.s (Vl.load isAgg95 rfl ((hS.slW 0 rfl).2.2.cell (j := 0) hq1847 (lt_len hl1633 hc1818) rfl)) rfl (pn 1 rfl (ln ?_)))
   have hl1848 := hS.p5.sepLen
   have hS := hS.p5.sepTake hq1847 (lt_len (hl1633.trans hl1848.symm) hc1818)
   obtain ⟨b1849, b1850, b1851, A1852, c1853, b1855, hr1854, hS⟩ := O_kernel_place.o hS
   refine dr [0, 3, 6, 9, 13, 17, 20, 23, 26, 29, 32, 35] [9, 10, 11] hS fun w hS => rq [0, 0, 0, 0, 1, 0, 0, 0, 11] hS ?_
   refine it ?_
   obtain ⟨t1856, hg1857, h⟩ := h.bind
   have hc := lane_Lane_Drop.ok hg1857 hS.p1
   obtain ⟨y1858, y1859⟩ := t1856
   refine RP.e 9 rfl (OW.callF (ls := [.tmp 21, .tmp 25]) rfl call169 hc) rfl rfl ?_
   rintro _ w ⟨hf, hs1864, A1860, c1861, cs1862, rfl, hS, hx1863⟩
   have hS := O_colour_Tally.l hs1864 hS.p3
   have hS := O_clock_Clocks.l hs1864 hS.p4
   have hS := hS.p6.imp fun _ h => SepH.m (fun _ _ => O_kernel_place.m hs1864) h
   have hS := hS.p12.imp fun _ h => SepL.m (fun _ _ => O_link_Way.m hs1864) h
   have hS := O_colour_Token.l hs1864 hS.p13
   have hS : St B w (_ :: _ :: _ :: _ :: _ :: _ :: _ :: _ :: _ :: _ :: _ :: _ :: _ :: _ :: l) hf := hS
   refine ⟨kp ⟨(by intro hx; cases hx), trivial⟩, ?_⟩
   obtain ⟨hq1867, h⟩ := h.req
   obtain ⟨hf, hs1865, hS, hr1866⟩ := St.promoteR R_api_Entry_ok hS.p5 rfl hx1863
   have hS := O_colour_Token.l hs1865 hS
   have hS := hS.p1.imp fun _ h => SepL.m (fun _ _ => O_link_Way.m hs1865) h
   have hS := hS.p2.imp fun _ h => SepH.m (fun _ _ => O_kernel_place.m hs1865) h
   have hS := O_clock_Clocks.l hs1865 hS.p3
   have hS := O_colour_Tally.l hs1865 hS.p4
   have hS := O_lane_Lane.l hs1865 hS.p5
   refine RP.e 10 rfl (OW.appendR (R := R_api_Entry) R_api_Entry_ok (xs := l1748) (ys := y1858) 11 hS rfl underlying54 type86 rfl rfl rfl rfl (by decide) (by decide) ((hx1752.mono hs1864).mono hs1865) rfl rfl hr1866 hq1867 rfl) rfl rfl ?_
   rintro _ w ⟨cs1870, hx1871, hS⟩
   obtain ⟨A1868, c1869, rfl, _⟩ := hS.osShape 0 rfl
   have hS : St B w (_ :: _ :: _ :: _ :: _ :: _ :: _ :: _ :: _ :: _ :: _ :: _ :: _ :: l) hf := hS
   refine ⟨kp ⟨(by intro hx; cases hx), trivial⟩, ?_⟩
   refine RP.v1 11 rfl (Vl.assign rfl) rfl rfl (RP.nil (RQ.inB_n (RQ.then_n (RC.region (pn 2 rfl (RL.nil ?_))))))
   have hS := O_kernel_place.c (x := (⟨y1859, (nth l1747 x1753).tally, (nth l1747 x1753).clocks, (nth l1747 x1753).ways, (nth l1747 x1753).into⟩ : kernel_place)) ((hr1854.mono hs1864).mono hs1865) hS.p8.p4.p4.p4.p8
   have hS := hS.p2.p1.sepPut hq1847 (lt_len (hl1633.trans hl1848.symm) hc1818)
   exact fun a ha => ⟨_, h.some, _, _, _, rfl, _, ((hs1690.trans hs1864).trans hs1865), _, _, _, ha.tE rfl, hS.p7.p2.p7.p7.p7, hx1871⟩
  refine jf (RC.exit (RQ.exitT ?_))
  have h := h.inr
  refine RQ.exitT (RQ.inB_hit (tsr (pn 1 rfl ?_)))
  obtain ⟨hf1881, hs1879, hS, hr1878, hb1880⟩ := St.lendSlR R_api_Entry_ok hS.p3 rfl hx1752
  obtain ⟨t1882, hg1883, h⟩ := h.bind
  have hc := slices_SortStableFunc_api_Entry_api_Entry.ok hr1878 hg1883 hS
  refine RL.e (OW.callF (ls := [.tmp 29, .func 171]) rfl call170 hc) rfl rfl ?_
  rintro _ w ⟨rfl, hS⟩
  have hS := hb1880 _ _ hS
  have hS : St B w (_ :: _ :: _ :: _ :: _ :: _ :: _ :: _ :: l) hf := hS
  refine ln (RC.seq (sr (r0 3 rfl (ln (RC.block ?_)))))
  have hS := O_kernel_Kernel.c (x := ({ a2 with at_ := l1747 } : kernel_Kernel)) (hr1623.mono hs1690) (hr1626.mono hs1690) (hr1629.mono hs1690) hS.p3.p7.p7.p5.p7.p6.p7
  refine fun a ha => lp h (fun (s : kernel_Kernel × Int) a w => ∃ y2381 x2382, s = (y2381, x2382) ∧ Has 96 [(0, pV b1), (31, sV A1749 l1748 c1750), (32, iV (l1748.length : Int)), (33, iV x2382)] a ∧ St B w (OSl 86 19 (sV A1749 l1748 c1750) l1748.length cs1751 :: O_kernel_Kernel hf y2381 b1 :: l) hf) ⟨_, _, rfl, ha.tE rfl, hS.p1⟩ ?_
  rintro G2509 _ a w ⟨y2381, x2382, rfl, ha, hS⟩ h
  refine ro ha (sr (pn 1 rfl (ln (RC.seq ?_))))
  refine RC.iteP 34 rfl h (fun hc2511 h => ?_) fun hc2511 h => ?_
  next =>
   refine jt (sk (RC.seq (RC.block (sr ?_))))
   obtain ⟨hq2579, h⟩ := h.req
   refine RL.s (Vl.indexOwn 0 hS rfl underlying54 sizeOf86 rfl rfl hq2579 hc2511) rfl ?_
   obtain ⟨_, ⟨A2581, c2582, rfl, hr2583⟩, hl2580⟩ := RepL.elem R_api_Entry_ok hx1752 hq2579 hc2511
   refine RL.s (Vl.loadA (vs := (C_api_Entry (nth l1748 x2382) A2581 c2582)) isAgg86 sizeOf86 rfl rfl (hS.elemCells 0 rfl hl2580 (off := 0) rfl)) rfl (rr [0, 1] hS ?_)
   refine fun b2584 => it fun w hS => ln (RC.seq (RC.seq ?_))
   obtain ⟨A2606, c2607, A2609, c2610, A2612, c2613, A2615, c2616, bs2617, A2619, c2620, bs2621, b2623, A2624, c2625, hr2608, hr2611, hr2614, hS⟩ := O_kernel_Kernel.o hS.p2
   have hl2618 := hS.p2.sepLen
   have hl2622 := hS.p4.sepLen
   refine dr [0, 3, 6, 10, 12, 17, 20, 23, 26, 29, 32] [10] hS fun w hS => rq [0, 0, 0, 1, 0, 0, 0, 0, 0, 1, 0] hS ?_
   refine it (RP.nil (RQ.then_n ?_))
   refine RC.iteP 47 rfl h (fun hc2626 h => ?_) fun hc2626 h => ?_
   next =>
    refine jtr (r0 3 rfl (lr (RQ.ret (ir ?_))))
    have h := h.inrS
    refine RQ.ret (ir ?_)
    have hS := O_kernel_Kernel.c (x := y2381) hr2608 hr2611 hr2614 hS
    cases h.some
    exact rt results117 rfl ⟨_, hs1690, rfl, hS.d1.d1⟩
   refine jfs (sr (rr [0, 8] hS ?_))
   refine it fun w hS => ln (RC.block (sr (pn 2 rfl (ln ?_))))
   refine RC.iteP 56 rfl h (fun hc2627 h => ?_) fun hc2627 h => ?_
   next =>
    refine jt (dr [0, 3, 6, 9, 13, 15, 18, 22, 24, 27, 31, 35, 38, 41, 44, 47, 50, 53, 56, 59] [16, 17, 18, 19] hS fun w hS => rq [0, 0, 0, 0, 1, 0, 0, 8, 0, 0, 8, 0, 0, 8, 0] hS ?_)
    refine it (RP.e 15 rfl (OW.buildSlice (E := E_api_Done) (xs := [(⟨((nth l1748 x2382).Event).Key, ((nth l1748 x2382).Event).To, ((nth l1748 x2382).Event).Value⟩ : api_Done)]) (cs := [iV ((((nth l1748 x2382).Event).Key).Time), iV ((((nth l1748 x2382).Event).Key).From), iV ((((nth l1748 x2382).Event).Key).Seq), iV (((nth l1748 x2382).Event).To), iV (((nth l1748 x2382).Event).Value)]) hS underlying34 zeroValue82 sizeOf82 (parts := [(0, .tmp 72)]) rfl rfl (by decide) (by decide) (by kernel_rfl) rfl) rfl rfl ?_)
    rintro _ w ⟨b2628, rfl, hS⟩
    refine ⟨kp ⟨fun _ => hS.d0, trivial⟩, ?_⟩
    obtain ⟨hq2629, h⟩ := h.req
    refine RP.e 16 rfl (OW.append (E := E_api_Done) (xs := y2381.history) (ys := [(⟨((nth l1748 x2382).Event).Key, ((nth l1748 x2382).Event).To, ((nth l1748 x2382).Event).Value⟩ : api_Done)]) 7 hS rfl underlying34 type82 rfl rfl rfl rfl (by decide) rfl rfl rfl (hS.slW 0 rfl).2.2.flat (by simp only [maxLen, List.length_cons, List.length_nil] at *; omega) hq2629 rfl) rfl rfl ?_
    rintro v2632 w hS
    obtain ⟨A2630, c2631, rfl, _⟩ := hS.osShape 0 rfl
    have hS : St B w (_ :: _ :: _ :: _ :: _ :: _ :: _ :: _ :: _ :: _ :: l) hf := hS
    refine ⟨kp ⟨(by intro hx; cases hx), trivial⟩, ?_⟩
    refine RP.v1 17 rfl (Vl.nilCheck rfl) rfl rfl (RP.v1 18 rfl (Vl.fa 12 underlying36 rfl sizeOf34 rfl rfl) rfl rfl (RP.e0 19 rfl (OW.store (vs := [.slice A2630 (y2381.history ++ ([(⟨((nth l1748 x2382).Event).Key, ((nth l1748 x2382).Event).To, ((nth l1748 x2382).Event).Value⟩ : api_Done)])).length c2631]) 2 hS rfl rfl rfl rfl sizeOf34 rfl rfl rfl rfl) rfl ?_))
    rintro _ w ⟨rfl, hS⟩
    have hS : St B w (_ :: _ :: Cl _ [_, _, _, _, _, _, _, _, _, _, _, _, _, _] _ :: _ :: _ :: _ :: _ :: _ :: _ :: _ :: l) hf := hS
    refine ⟨kp ⟨(by intro hx; cases hx), trivial⟩, ?_⟩
    refine RP.nil (RQ.inB_n (RQ.inB_n (RQ.then_n (RC.region (pn 2 rfl (RL.nil ?_))))))
    have hS := O_kernel_Kernel.c (x := ({ y2381 with history := (y2381.history ++ ([(⟨((nth l1748 x2382).Event).Key, ((nth l1748 x2382).Event).To, ((nth l1748 x2382).Event).Value⟩ : api_Done)])) } : kernel_Kernel)) hr2608 hr2611 hr2614 hS.p7.p7.p7.p7.p7.p7
    exact fun a ha => ⟨_, h.some, _, _, rfl, ha.tE rfl, hS.d1.d1.p1⟩
   refine jf (sr (pn 2 rfl (ln ?_)))
   refine RC.iteP 77 rfl h (fun hc2633 h => ?_) fun hc2633 h => ?_
   next =>
    refine jtr (rr [0, 8, 0, 0, 0] hS ?_)
    refine it fun w hS => lr (RQ.inB_ret (ir ?_))
    have h := h.inrS
    refine RQ.ret (ir ?_)
    have hS := O_kernel_Kernel.c (x := y2381) hr2608 hr2611 hr2614 hS
    cases h.some
    exact rt results117 rfl ⟨_, hs1690, rfl, hS.d1.d1⟩
   refine jf (sr (rr [0, 8, 0, 0, 0] hS ?_))
   refine it fun w hS => lr (RQ.inB_ret (ir ?_))
   have h := h.inrS
   refine RQ.ret (ir ?_)
   have hS := O_kernel_Kernel.c (x := y2381) hr2608 hr2611 hr2614 hS
   cases h.some
   exact rt results117 rfl ⟨_, hs1690, rfl, hS.d1.d1⟩
  refine jf (RC.exit (RQ.exitT ?_))
  have h := h.inr
  refine RQ.exitT (RQ.inB_hit (RQ.then_n (RC.seq (RC.seq ?_))))
  obtain ⟨A2634, c2635, A2637, c2638, A2640, c2641, A2643, c2644, bs2645, A2647, c2648, bs2649, b2651, A2652, c2653, hr2636, hr2639, hr2642, hS⟩ := O_kernel_Kernel.o hS.p1
  have hl2646 := hS.p2.sepLen
  have hl2650 := hS.p4.sepLen
  refine dr [0, 3, 6, 10, 14, 17, 20, 23, 26, 29] [9] hS fun w hS => rq [0, 0, 0, 1, 0, 0, 0, 0, 1, 0] hS ?_
  refine it (RP.nil (RQ.then_n ?_))
  refine RC.iteP 93 rfl h (fun hc2654 h => ?_) fun hc2654 h => ?_
  next =>
   refine jtr (r0 3 rfl (lr (RQ.ret ?_)))
   have hS := O_kernel_Kernel.c (x := y2381) hr2636 hr2639 hr2642 hS
   cases h.some
   exact rt results117 rfl ⟨_, hs1690, rfl, hS.d1⟩
  refine jfs (sr (pn 1 rfl (lr ?_)))
  have hS := O_kernel_Kernel.c (x := y2381) hr2636 hr2639 hr2642 hS
  cases h.some
  exact rt results117 rfl ⟨_, hs1690, rfl, hS.d1⟩
def errors_as_4.f (a1 a3 : kernel_halt) : Option (Bool × kernel_halt) := some (true, a1)
theorem errors_as_4.ok {a1 a3 : kernel_halt} {b2 b4 : Nat} {r : Bool × kernel_halt} (h : errors_as_4.f a1 a3 = some r) (hS : St B w (Cl b2 [iV a3.stop, iV a3.why] 212 :: Cl b4 [pV b2] 214 :: l) hf) :
    Calls prog 102 #[.iface 212 (.agg #[iV a1.stop, iV a1.why]), .iface 214 (pV b2), .agg #[.pointer (some ⟨1, 214, none⟩), pV b4, .int .u64 150], .iface 255 (.agg #[.pointer (some ⟨1, 212, none⟩)])] w (Ret fun v w => v = .bool r.1 ∧ St B w (Cl b2 [iV r.2.stop, iV r.2.why] 212 :: Cl b4 [pV b2] 214 :: l) hf) := by
  have h := Holds.of h
  refine en func102 rfl ntmps102 rfl (sr (rr [0, 0] hS ?_))
  refine fun b8 => it fun w hS => ln (RC.block (RC.unroll (RQ.round (RC.block (RC.seq (sr (pn 1 rfl (RL.s (Vl.eX [.tmp 16] (.iface 255 (.agg #[.pointer (some ⟨1, 212, none⟩)])) Ex1 func103 rfl) rfl (pn 1 rfl ?_)))))))))
  refine RL.s (Vl.iX [.tmp 18] (.bool true) (.agg #[.pointer (some ⟨1, 212, none⟩)]) Ex2 func294 rfl rfl) rfl (ln (jtr (rr [1] hS ?_)))
  refine it fun w hS => RL.s (Vl.externAt (ls := [.tmp 20]) (v := .agg #[.pointer (some ⟨1, 212, none⟩), pV b2, .int .u64 409]) rfl func142 (by kernel_rfl) (by kernel_rfl) (by kernel_rfl) (e := Extern.ReflectliteValue.method (Extern.ReflectliteValue.valueError "reflectlite.Value.Elem" 0) Extern.ReflectliteValue.elem) (by kernel_rfl) (run_elemV (n := 150) (a := ⟨b4, 0, none⟩) (fun w => by kernel_rfl) underlying214 rfl (hS.cell 2 rfl rfl) (fun w => by kernel_rfl) (fun w => by kernel_rfl))) rfl (pn 1 rfl (RL.e (OW.externNew (ls := [.tmp 22]) (cs := [iV a1.stop, iV a1.why]) (T := 212) (v := fun b => .agg #[.pointer (some ⟨1, 212, none⟩), pV b, .int .u64 153]) hS rfl func99 (by kernel_rfl) (by kernel_rfl) (by kernel_rfl) (e := fun args => Extern.ReflectliteValue.unpack (args.getD 0 (.tuple #[]))) (by kernel_rfl) (fun w => by kernel_rfl)) rfl rfl ?_))
  rintro _ w ⟨b10, rfl, hS⟩
  refine RL.e (OW.setV (ls := [.tmp 21, .tmp 23]) (val := .agg #[iV a1.stop, iV a1.why]) (vs := [iV a1.stop, iV a1.why]) (n := 409) (m := 153) (a2 := ⟨b10, 0, none⟩) 2 hS rfl rfl func143 (by kernel_rfl) (by kernel_rfl) (by kernel_rfl) (by kernel_rfl) (fun w => by kernel_rfl) (fun w => by kernel_rfl) rfl (fun w => by kernel_rfl) (run_loadVarA (vs := [iV a1.stop, iV a1.why]) isAgg212 sizeOf212 rfl (hS.cellsAt 0 rfl rfl)) rfl sizeOf212 rfl rfl rfl rfl) rfl rfl ?_
  rintro _ w ⟨rfl, hS⟩
  have hS : St B w (_ :: _ :: _ :: _ :: l) hf := hS
  refine lnsr (pn 1 rfl (lr (RQ.ret (ir (RQ.inB_ret ?_)))))
  cases h.some
  exact rt results102 rfl ⟨rfl, hS.d0.d0⟩
end
end Go.Proofs.Gx
