/-
  The walks of functions, each with what it computes: printed by wip/gx.py.
-/
import Derived.Test.YtpheghebfodiiaaGreatDoorW0
import Derived.Test.YtpheghebfodiiaaGreatDoorW5
import Derived.Test.YtpheghebfodiiaaGreatDoorW6
set_option linter.unusedVariables false
set_option linter.unusedSimpArgs false
set_option maxRecDepth 100000
set_option maxHeartbeats 4000000
namespace Go.Proofs.Gx
open Go.Sl Tryz
variable {B : Base} {w : World} {l : List HProp} {hf : Hp}
noncomputable section
def log_Log_Drop.j5 (a2 : log_Log) (x455 : Int) : Option (List api_Entry × log_Log) := ((log_Log_states.f a2 0).bind fun t472 => ((log_Log_states_1.f a2 x455 ([] : List api_Entry) t472).bind fun t480 => match t480 with | .inl (y482, y483) => (if 0 ≤ x455 ∧ x455 ≤ (y482.l.length : Int) then (if (([] : List log_done).length + (subL y482.l x455 (y482.l.length : Int)).length) * 96 ≤ 140737488355328 then some (([] : List api_Entry), ({ y482 with l := (([] : List log_done) ++ (subL y482.l x455 (y482.l.length : Int))) } : log_Log)) else none) else none) | .inr (y513) => (if 0 ≤ x455 ∧ x455 ≤ (a2.l.length : Int) then (if (([] : List log_done).length + (subL a2.l x455 (a2.l.length : Int)).length) * 96 ≤ 140737488355328 then some (([] : List api_Entry), ({ a2 with l := (([] : List log_done) ++ (subL a2.l x455 (a2.l.length : Int))) } : log_Log)) else none) else none)))
def log_Log_Drop.l6b (a2 : log_Log) (a3 : Int) : Int → Option ((Int) ⊕ (List api_Entry × log_Log))
  | (x579) => (if x579 < (a2.l.length : Int) then (if 0 ≤ x579 then (if (((nth a2.l x579).event).Key).Time < a3 then some (.inl (IntKind.i64.wrap (x579 + 1))) else (Option.map Sum.inr (log_Log_Drop.j5 a2 x579))) else none) else (Option.map Sum.inr (log_Log_Drop.j5 a2 x579)))
def log_Log_Drop.l6 (a2 : log_Log) (a3 : Int) (s : Int) : Option (List api_Entry × log_Log) := loopR (log_Log_Drop.l6b a2 a3) s
def log_Log_Drop.f (a2 : log_Log) (a3 : Int) : Option (List api_Entry × log_Log) := ((log_Log_none.f a2).bind fun t335 => (if t335 = true then some (([] : List api_Entry), a2) else log_Log_Drop.l6 a2 a3 (0)))
theorem log_Log_Drop.ok {a2 : log_Log} {a3 : Int} {b1 : Nat} {r : List api_Entry × log_Log} (h : log_Log_Drop.f a2 a3 = some r) (hS : St B w (O_log_Log hf a2 b1 :: l) hf) :
    Calls prog 148 #[pV b1, iV a3] w (Ret fun v w => ∃ hf_ : Hp, Sub hf hf_ ∧ ∃ (A_1 : Option Addr) (c_2 : Nat) (cs_3 : List Value), v = sV A_1 r.1 c_2 ∧ St B w (OSl 229 19 (sV A_1 r.1 c_2) r.1.length cs_3 :: O_log_Log hf_ r.2 b1 :: l) hf_ ∧ RepL R_api_Entry hf_ cs_3 r.1) := by
  have h := Holds.of h
  refine enM func148 rfl ntmps148 rfl (sr (rr [0, 0] hS ?_))
  refine fun b331 => it fun w hS => ln (RC.seq (sr (rr [1] hS ?_)))
  refine it fun w hS => cF (fun _ hg => log_Log_none.ok hg hS.p1) call136 h rfl rfl rfl ?_
  rintro t335 h _ w ⟨rfl, hS⟩
  refine ln ?_
  refine RC.iteB 10 rfl h (fun hc337 h => ?_) fun hc337 h => ?_
  next =>
   refine jtr (pn 1 rfl (lr (RQ.ret ?_)))
   have hS := hS.nilSlR 229 19
   cases h.some
   exact rtM0 (vs := [.slice none 0 0]) results148 ⟨rfl, trivial⟩ ⟨_, (Sub.refl _), none, 0, ([]), rfl, hS.d2, RepL.nil⟩
  refine jfs (sr (rr [0, 1] hS ?_))
  refine fun b338 => it fun w hS => ln ?_
  refine RC.join (fun (s : Int) a w => ∃ x455, s = (x455) ∧ Holds (· = r) (log_Log_Drop.j5 a2 x455) ∧ Has 71 [(2, pV b331), (5, pV b338)] a ∧ St B w (O_log_Log hf a2 b1 :: Cl b338 [iV x455] 3 :: Cl b331 [pV b1] 96 :: l) hf) ?_ ?_
  · rintro x455 a w ⟨_, rfl, h, ha, hS⟩
    refine ro ha (sr (rr [0] hS ?_))
    refine fun b456 => it fun w hS => ln (RC.seq (sr (rr [4] hS ?_)))
    refine it fun w hS => cF (fun _ hg => log_Log_states.ok hg hS.p1) call166 h rfl rfl rfl ?_
    rintro t472 h _ w ⟨b474, b475, rfl, hS⟩
    refine ln (RC.block ?_)
    have hS := hS.nilSlR 229 19
    have hS : St B w (_ :: _ :: _ :: _ :: _ :: _ :: _ :: l) hf := hS
    obtain ⟨t480, hg481, h⟩ := h.bind
    refine RC.rf (args := fun b476 => #[.func (.yield b476) #[] #[], pV b474, pV b475]) rfl call174 rfl hS (fun _ => by simp) (fun b476 d477 rc478 w hr479 hS => log_Log_states_1.ok RepL.nil (RecOK.to (M := 71) hr479 rfl rfl ⟨rfl, rfl, rfl, trivial⟩) hg481 hS.p4.p4.p4.p6.p7.p8.p8.p7) ?_
    rcases t480 with ⟨y482, y483⟩ | y513
    · rintro b476 d477 rc478 _ w hr479 ⟨hf, hs484, rfl, hS⟩
      refine RE.x hS fun w hS => RQ.inB_hit (RQ.then_n (RC.seq ?_))
      obtain ⟨A485, c486, A488, c489, A491, c492, cs493, hr487, hr490, hx494, hS⟩ := O_log_Log.o hS
      refine RC.noPan (dk [1, 4, 6, 9, 13, 17, 20, 23, 26, 29, 32] [8, 9, 10] hS (fun w hS => hS.d1) fun w hS => rq [2, 2, 0, 0, 1] hS.d1 ?_)
      refine it (RP.v1 5 rfl (Vl.ld 3 hS isAgg3 rfl rfl rfl) rfl rfl ?_)
      obtain ⟨⟨hq504, hq505⟩, h⟩ := h.req
      refine RP.v1 6 rfl (Vl.sliceLO (xs := y482.l) 1 hS rfl underlying147 sizeOf286 rfl rfl  hq504 hq505) rfl rfl ?_
      obtain ⟨hq508, h⟩ := h.req
      obtain ⟨hf, hs506, hS, hr507⟩ := St.promoteR R_log_done_ok hS.p1 rfl hx494
      have hS := hS.nilSlR 286 10
      refine RP.e 7 rfl (OW.appendR (R := R_log_done) R_log_done_ok (xs := ([] : List log_done)) (ys := (subL y482.l x455 (y482.l.length : Int))) 0 hS rfl underlying147 type286 rfl rfl rfl rfl (by decide) (by decide) RepL.nil rfl rfl (hr507.sub (lo := x455) (hi := (y482.l.length : Int)) (m := c492) hq504 hq505 (Int.le_refl _) (by have : y482.l.length ≤ c492 := hr507.1; omega)) hq508 rfl) rfl rfl ?_
      rintro _ w ⟨cs511, hx512, hS⟩
      obtain ⟨A509, c510, rfl, _⟩ := hS.osShape 0 rfl
      have hS : St B w (_ :: _ :: _ :: _ :: _ :: _ :: _ :: _ :: _ :: l) hf := hS
      refine ⟨kp ⟨fun _ => (St.down hS.d0 hs506), trivial⟩, ?_⟩
      refine rq [0, 0] (St.down hS.d0 hs506) ?_
      refine it (RP.e0 10 rfl (OW.store (vs := [.slice A509 (([] : List log_done) ++ (subL y482.l x455 (y482.l.length : Int))).length c510]) 1 hS rfl rfl rfl rfl sizeOf147 rfl rfl rfl rfl) rfl ?_)
      rintro _ w ⟨rfl, hS⟩
      have hS : St B w (_ :: Cl _ [_, _, _, _, _, _, _, _, _, _, _, _, _, _, _, _, _, _] _ :: _ :: _ :: _ :: _ :: _ :: _ :: _ :: l) hf := hS
      refine ⟨kp ⟨(by intro hx; cases hx), trivial⟩, ?_⟩
      refine RP.nil (RQ.noPan_n (tsr (rr [5, 0] hS ?_)))
      refine it fun w hS => lr ?_
      have hS := O_log_Log.c (x := ({ y482 with l := (([] : List log_done) ++ (subL y482.l x455 (y482.l.length : Int))) } : log_Log)) (hr487.mono hs506) (hr490.mono hs506) hx512 hS.p1
      cases h.some
      exact rtM1 (vs := [.slice none ([] : List api_Entry).length 0]) results148 hS.p7 fun w hS => ⟨⟨rfl, trivial⟩, ⟨_, (hs484.trans hs506), none, 0, ([]), rfl, hS.d1.d1.d1.d2.d2.p1, RepL.nil⟩⟩
    · rintro b476 d477 rc478 _ w hr479 ⟨rfl, hS⟩
      refine RE.n hS hr479.state hr479.pending fun w hS => RQ.inB_n (RQ.then_n (RC.seq ?_))
      obtain ⟨A514, c515, A517, c518, A520, c521, cs522, hr516, hr519, hx523, hS⟩ := O_log_Log.o hS
      refine RC.noPan (dk [1, 4, 6, 9, 13, 17, 20, 23, 26, 29, 32] [8, 9, 10] hS (fun w hS => hS.d1) fun w hS => rq [2, 2, 0, 0, 1] hS.d1 ?_)
      refine it (RP.v1 5 rfl (Vl.ld 3 hS isAgg3 rfl rfl rfl) rfl rfl ?_)
      obtain ⟨⟨hq533, hq534⟩, h⟩ := h.req
      refine RP.v1 6 rfl (Vl.sliceLO (xs := a2.l) 1 hS rfl underlying147 sizeOf286 rfl rfl  hq533 hq534) rfl rfl ?_
      obtain ⟨hq537, h⟩ := h.req
      obtain ⟨hf, hs535, hS, hr536⟩ := St.promoteR R_log_done_ok hS.p1 rfl hx523
      have hS := hS.nilSlR 286 10
      refine RP.e 7 rfl (OW.appendR (R := R_log_done) R_log_done_ok (xs := ([] : List log_done)) (ys := (subL a2.l x455 (a2.l.length : Int))) 0 hS rfl underlying147 type286 rfl rfl rfl rfl (by decide) (by decide) RepL.nil rfl rfl (hr536.sub (lo := x455) (hi := (a2.l.length : Int)) (m := c521) hq533 hq534 (Int.le_refl _) (by have : a2.l.length ≤ c521 := hr536.1; omega)) hq537 rfl) rfl rfl ?_
      rintro _ w ⟨cs540, hx541, hS⟩
      obtain ⟨A538, c539, rfl, _⟩ := hS.osShape 0 rfl
      have hS : St B w (_ :: _ :: _ :: _ :: _ :: _ :: _ :: _ :: _ :: l) hf := hS
      refine ⟨kp ⟨fun _ => (St.down hS.d0 hs535), trivial⟩, ?_⟩
      refine rq [0, 0] (St.down hS.d0 hs535) ?_
      refine it (RP.e0 10 rfl (OW.store (vs := [.slice A538 (([] : List log_done) ++ (subL a2.l x455 (a2.l.length : Int))).length c539]) 1 hS rfl rfl rfl rfl sizeOf147 rfl rfl rfl rfl) rfl ?_)
      rintro _ w ⟨rfl, hS⟩
      have hS : St B w (_ :: Cl _ [_, _, _, _, _, _, _, _, _, _, _, _, _, _, _, _, _, _] _ :: _ :: _ :: _ :: _ :: _ :: _ :: _ :: l) hf := hS
      refine ⟨kp ⟨(by intro hx; cases hx), trivial⟩, ?_⟩
      refine RP.nil (RQ.noPan_n (tsr (rr [5, 0] hS ?_)))
      refine it fun w hS => lr ?_
      have hS := O_log_Log.c (x := ({ a2 with l := (([] : List log_done) ++ (subL a2.l x455 (a2.l.length : Int))) } : log_Log)) (hr516.mono hs535) (hr519.mono hs535) hx541 hS.p1
      cases h.some
      exact rtM1 (vs := [.slice none ([] : List api_Entry).length 0]) results148 hS.p7 fun w hS => ⟨⟨rfl, trivial⟩, ⟨_, hs535, none, 0, ([]), rfl, hS.d1.d1.d1.d2.d2.p1, RepL.nil⟩⟩
  refine RC.block (fun a ha => lp h (fun (s : Int) a w => ∃ x579, s = (x579) ∧ Has 71 [(1, iV a3), (2, pV b331), (5, pV b338)] a ∧ St B w (Cl b338 [iV x579] 3 :: O_log_Log hf a2 b1 :: Cl b331 [pV b1] 96 :: l) hf) ⟨_, rfl, ha.tE rfl, hS⟩ ?_)
  rintro G619 x579 a w ⟨_, rfl, ha, hS⟩ h
  refine ro ha (RC.seq (RC.seq ?_))
  obtain ⟨A639, c640, A642, c643, A645, c646, cs647, hr641, hr644, hx648, hS⟩ := O_log_Log.o hS.p1
  refine RC.noPan (dr [1, 4, 6, 9, 13, 15, 18, 21, 25, 27, 30, 34, 37, 40, 42, 45, 48, 52, 56, 59, 62] [] hS fun w hS => rq [3, 4, 0, 0, 1, 0, 0, 0] hS ?_)
  refine it ?_
  refine RP.iteP 18 rfl h (fun hc649 h => ?_) fun hc649 h => ?_
  next =>
   refine rq [4, 0, 0, 1, 3] hS ?_
   refine it ?_
   obtain ⟨hq650, h⟩ := h.req
   refine RP.sg 0 13 rfl rfl hS (fun w hS => Vl.indexOwn 1 hS rfl underlying147 sizeOf286 rfl rfl hq650 hc649) rfl rfl (RP.sg0 14 rfl (fun w => Vl.fieldAddr (a'' := (ad A645).add (x579.toNat * 10 + 0)) underlying286 rfl sizeOf115 rfl (add_add _ _ _)) rfl rfl (RP.sg0 15 rfl (fun w => Vl.fieldAddr (a'' := (ad A645).add (x579.toNat * 10 + 0)) underlying115 rfl sizeOf113 rfl (add_add _ _ _)) rfl rfl (RP.sg0 16 rfl (fun w => Vl.fieldAddr (a'' := (ad A645).add (x579.toNat * 10 + 0)) underlying113 rfl sizeOf2 rfl (add_add _ _ _)) rfl rfl ?_)))
   obtain ⟨_, ⟨A652, c653, b655, rfl, hr654, hr656⟩, hl651⟩ := RepL.elem R_log_done_ok hx648 hq650 hc649
   refine RP.sg 0 17 rfl rfl hS (fun w hS => Vl.load isAgg2 rfl (hS.litCell 1 rfl (hl651 0 _ rfl))) rfl rfl (rq [0, 0, 0] hS ?_)
   refine it (RP.nil (RQ.noPan_n (RQ.then_n ?_)))
   refine RC.iteP 31 rfl h (fun hc657 h => ?_) fun hc657 h => ?_
   next =>
    refine jt (sk (RC.block (RC.region (rr [3, 0, 3] hS ?_))))
    refine it fun w hS => RL.nil (RQ.inB_n ?_)
    have hS := O_log_Log.c (x := a2) hr641 hr644 hx648 hS
    exact fun a ha => ⟨_, h.some, _, rfl, ha.tE rfl, hS.p1⟩
   refine jf (RC.exit (RQ.exitT ?_))
   have h := h.inr
   refine RQ.exitT (RQ.inB_hit ?_)
   have hS := O_log_Log.c (x := a2) hr641 hr644 hx648 hS
   exact fun a ha => ⟨_, _, rfl, h, ha.tE rfl, hS⟩
  refine rq [0, 0, 0, 0, 0, 0, 0, 0, 0, 0, 0, 0, 0] hS ?_
  refine it (RP.nil (RQ.noPan_n (RQ.then_n (jf (RC.exit (RQ.exitT ?_))))))
  have h := h.inr
  refine RQ.exitT (RQ.inB_hit ?_)
  have hS := O_log_Log.c (x := a2) hr641 hr644 hx648 hS
  exact fun a ha => ⟨_, _, rfl, h, ha.tE rfl, hS⟩
def lane_Lane_Drop.f (a2 : lane_Lane) (a3 : Int) : Option (List api_Entry × lane_Lane) := ((lane_Lane_none.f a2).bind fun _ => ((log_Log_Drop.f a2.log a3).bind fun (y63, y64) => some (y63, ({ a2 with log := y64 } : lane_Lane))))
theorem lane_Lane_Drop.ok {a2 : lane_Lane} {a3 : Int} {b1 : Nat} {r : List api_Entry × lane_Lane} (h : lane_Lane_Drop.f a2 a3 = some r) (hS : St B w (O_lane_Lane hf a2 b1 :: l) hf) :
    Calls prog 121 #[pV b1, iV a3] w (Ret fun v w => ∃ hf_ : Hp, Sub hf hf_ ∧ ∃ (A_1 : Option Addr) (c_2 : Nat) (cs_3 : List Value), v = sV A_1 r.1 c_2 ∧ St B w (OSl 229 19 (sV A_1 r.1 c_2) r.1.length cs_3 :: O_lane_Lane hf_ r.2 b1 :: l) hf_ ∧ RepL R_api_Entry hf_ cs_3 r.1) := by
  have h := Holds.of h
  refine en func121 rfl ntmps121 rfl (sr (pn 1 rfl (ln (RC.seq (sr (pn 1 rfl (cF (fun _ hg => lane_Lane_none.ok hg hS) call36 h rfl rfl rfl ?_)))))))
  rintro _ h _ w ⟨rfl, hS⟩
  refine ln (jfs (sr (r0 3 rfl ?_)))
  obtain ⟨A41, c42, A44, c45, A47, c48, A50, c51, b53, b54, A55, c56, A57, c58, b59, b60, hr43, hr46, hr49, hr52, hS⟩ := O_lane_Lane.o hS
  refine rr [1, 0] hS ?_
  refine it fun w hS => cF (fun _ hg => log_Log_Drop.ok hg hS.p1) call148 h rfl rfl rfl ?_
  rintro ⟨y63, y64⟩ h _ w ⟨hf, hs69, A65, c66, cs67, rfl, hS, hx68⟩
  have hS := O_pend_Pend.l hs69 hS.p3
  refine pn 1 rfl (lr ?_)
  have hS := O_lane_Lane.c (x := ({ a2 with log := y64 } : lane_Lane)) (hr43.mono hs69) (hr46.mono hs69) (hr49.mono hs69) (hr52.mono hs69) hS.p7.p7.p7.p7.p4.p6.p7
  cases h.some
  exact rt results121 rfl ⟨_, hs69, A65, c66, cs67, rfl, hS.p1, hx68⟩
def slices_insertionSortCmpFunc_api_Entry.l14b (a1 : List api_Entry) (a5 x444 : Int) : Unit → Option ((Unit) ⊕ ((Int) ⊕ (Unit)))
  | () => (if a5 < x444 then (if 0 ≤ x444 ∧ x444 < (a1.length : Int) then (if 0 ≤ IntKind.i64.wrap (x444 - 1) ∧ IntKind.i64.wrap (x444 - 1) < (a1.length : Int) then none else none) else none) else some (.inr (.inl (IntKind.i64.wrap (x444 + 1)))))
def slices_insertionSortCmpFunc_api_Entry.l14 (a1 : List api_Entry) (a5 x444 : Int) (s : Unit) : Option ((Int) ⊕ (Unit)) := loopR (slices_insertionSortCmpFunc_api_Entry.l14b a1 a5 x444) s
def slices_insertionSortCmpFunc_api_Entry.l12b (a1 : List api_Entry) (a5 a6 : Int) : Int → Option ((Int) ⊕ (Unit))
  | (x444) => (if x444 < a6 then slices_insertionSortCmpFunc_api_Entry.l14 a1 a5 x444 () else some (.inr ()))
def slices_insertionSortCmpFunc_api_Entry.l12 (a1 : List api_Entry) (a5 a6 : Int) (s : Int) : Option (Unit) := loopR (slices_insertionSortCmpFunc_api_Entry.l12b a1 a5 a6) s
def slices_insertionSortCmpFunc_api_Entry.f (a1 : List api_Entry) (a5 a6 : Int) : Option (Unit) := slices_insertionSortCmpFunc_api_Entry.l12 a1 a5 a6 (IntKind.i64.wrap (a5 + 1))
theorem slices_insertionSortCmpFunc_api_Entry.ok {a1 : List api_Entry} {a5 a6 : Int} {A2 : Option Addr} {c3 : Nat} (hr4 : SlR R_api_Entry hf A2 c3 a1) {r : Unit} (h : slices_insertionSortCmpFunc_api_Entry.f a1 a5 a6 = some r) (hS : St B w (l) hf) :
    Calls prog 167 #[sV A2 a1 c3, iV a5, iV a6, .func (.func 123) #[] #[]] w (Ret fun v w => v = .tuple #[] ∧ St B w (l) hf) := by
  have h := Holds.of h
  refine en func167 rfl ntmps167 rfl (sr (pn 3 rfl (ln (RC.block (fun a ha => lp h (fun (s : Int) a w => ∃ x444, s = (x444) ∧ Has 53 [(0, sV A2 a1 c3), (1, iV a5), (2, iV a6), (3, .func (.func 123) #[] #[]), (8, iV x444)] a ∧ St B w (l) hf) ⟨_, rfl, ha.tE rfl, hS⟩ ?_)))))
  rintro G554 x444 a w ⟨_, rfl, ha, hS⟩ h
  refine ro ha (RC.seq (sr (pn 3 rfl (ln ?_))))
  refine RC.iteP 14 rfl h (fun hc556 h => ?_) fun hc556 h => ?_
  next =>
   refine jt (sk (RC.seq (RC.block (sr (pn 2 rfl (ln (RC.block (fun a ha => lp h (fun (s : Unit) a w => s = () ∧ Has 53 [(0, sV A2 a1 c3), (1, iV a5), (2, iV a6), (3, .func (.func 123) #[] #[]), (8, iV x444), (9, iV x444)] a ∧ St B w (l) hf) ⟨rfl, ha.tE rfl, hS⟩ ?_))))))))
   rintro G636 _ a w ⟨rfl, ha, hS⟩ h
   refine ro ha (RC.seq (RC.seq (dr [0, 3, 6, 9, 12, 15, 18, 22, 25, 27, 32, 35, 38, 41, 44, 47, 50] [14, 15, 16] hS fun w hS => pp 4 rfl ?_)))
   refine RP.iteP 21 rfl h (fun hc650 h => ?_) fun hc650 h => ?_
   next =>
    refine pp 3 rfl ?_
    obtain ⟨⟨hq651, hq652⟩, h⟩ := h.req
    refine RP.sg 0 7 rfl rfl hS (fun w hS => Vl.indexAddr underlying245 sizeOf229 rfl rfl (hr4.2.adr hq651 hq652) hq651 hq652 rfl) rfl rfl ?_
    obtain ⟨_, _, ⟨A653, c654, rfl, hr655⟩, hl656⟩ := hr4.2.elem hq651 hq652
    refine RP.sg 0 8 rfl rfl hS (fun w hS => Vl.loadA (vs := (C_api_Entry (nth a1 x444) A653 c654)) isAgg229 sizeOf229 rfl rfl (elemCells hS.sub hl656 (off := 0) rfl)) rfl rfl (rq [0, 0, 0] hS ?_)
    refine it ?_
    obtain ⟨⟨hq657, hq658⟩, h⟩ := h.req
    refine RP.v1 12 rfl (Vl.indexAddr underlying245 sizeOf229 rfl rfl (hr4.2.adr hq657 hq658) hq657 hq658 rfl) rfl rfl ?_
    obtain ⟨_, _, ⟨A659, c660, rfl, hr661⟩, hl662⟩ := hr4.2.elem hq657 hq658
    refine RP.v1 13 rfl (Vl.loadA (vs := (C_api_Entry (nth a1 (IntKind.i64.wrap (x444 - 1))) A659 c660)) isAgg229 sizeOf229 rfl rfl (elemCells hS.sub hl662 (off := 0) rfl)) rfl rfl ?_
    exact h.none
   refine rq [0, 0, 0, 0, 0, 0, 0, 0, 0, 0, 0, 0, 0] hS ?_
   refine it (RP.nil (RQ.then_n (jf (RC.exit (RQ.exitT ?_)))))
   have h := h.inrS
   refine RQ.exitT (RQ.inB_hit (RQ.inB_n (RQ.then_n (RC.region (pn 3 rfl (RL.nil ?_))))))
   exact fun a ha => ⟨_, h.some, _, rfl, ha.tE rfl, hS⟩
  refine jf (RC.exit (RQ.exitT ?_))
  have h := h.inrS
  refine RQ.exitT (RQ.inB_hit ?_)
  exact rtE results167 rfl ⟨rfl, hS⟩
def slices_stableCmpFunc_api_Entry.l14b (a5 : Int) : Unit → Option ((Unit) ⊕ ((Unit) ⊕ (Unit)))
  | () => (if 40 ≤ a5 then none else (Option.map Sum.inr none))
def slices_stableCmpFunc_api_Entry.l14 (a5 : Int) (s : Unit) : Option ((Unit) ⊕ (Unit)) := loopR (slices_stableCmpFunc_api_Entry.l14b a5) s
def slices_stableCmpFunc_api_Entry.l12b (a5 : Int) : Unit → Option ((Unit) ⊕ (Unit))
  | () => (if 20 < a5 then slices_stableCmpFunc_api_Entry.l14 a5 () else some (.inr ()))
def slices_stableCmpFunc_api_Entry.l12 (a5 : Int) (s : Unit) : Option (Unit) := loopR (slices_stableCmpFunc_api_Entry.l12b a5) s
def slices_stableCmpFunc_api_Entry.l9b (a1 : List api_Entry) (a5 : Int) : Int × Int → Option ((Int × Int) ⊕ (Unit))
  | (x96, x97) => (if x97 ≤ a5 then ((slices_insertionSortCmpFunc_api_Entry.f a1 x96 x97).bind fun _ => some (.inl (x97, IntKind.i64.wrap (x97 + 20)))) else (Option.map Sum.inr ((slices_insertionSortCmpFunc_api_Entry.f a1 x96 a5).bind fun _ => slices_stableCmpFunc_api_Entry.l12 a5 ())))
def slices_stableCmpFunc_api_Entry.l9 (a1 : List api_Entry) (a5 : Int) (s : Int × Int) : Option (Unit) := loopR (slices_stableCmpFunc_api_Entry.l9b a1 a5) s
def slices_stableCmpFunc_api_Entry.f (a1 : List api_Entry) (a5 : Int) : Option (Unit) := slices_stableCmpFunc_api_Entry.l9 a1 a5 (0, 20)
theorem slices_stableCmpFunc_api_Entry.ok {a1 : List api_Entry} {a5 : Int} {A2 : Option Addr} {c3 : Nat} (hr4 : SlR R_api_Entry hf A2 c3 a1) {r : Unit} (h : slices_stableCmpFunc_api_Entry.f a1 a5 = some r) (hS : St B w (l) hf) :
    Calls prog 149 #[sV A2 a1 c3, iV a5, .func (.func 123) #[] #[]] w (Ret fun v w => v = .tuple #[] ∧ St B w (l) hf) := by
  have h := Holds.of h
  refine en func149 rfl ntmps149 rfl (sr (pn 1 rfl (lnsr (pn 3 rfl (ln (RC.seq (RC.block (fun a ha => lp h (fun (s : Int × Int) a w => ∃ x96 x97, s = (x96, x97) ∧ Has 63 [(0, sV A2 a1 c3), (1, iV a5), (2, .func (.func 123) #[] #[]), (6, iV 20), (7, iV x96), (8, iV x97)] a ∧ St B w (l) hf) ⟨_, _, rfl, ha.tE rfl, hS⟩ ?_))))))))
  rintro G104 _ a w ⟨x96, x97, rfl, ha, hS⟩ h
  refine ro ha (RC.seq (sr (pn 3 rfl (ln ?_))))
  refine RC.iteP 13 rfl h (fun hc106 h => ?_) fun hc106 h => ?_
  next =>
   refine jt (sk (RC.block (sr (pn 4 rfl (cF (fun _ hg => slices_insertionSortCmpFunc_api_Entry.ok hr4 hg hS) call167 h rfl rfl rfl ?_)))))
   rintro _ h _ w ⟨rfl, hS⟩
   refine lnsr (pn 2 rfl (ln (RC.region (pn 4 rfl (RL.nil (RQ.inB_n ?_))))))
   exact fun a ha => ⟨_, h.some, _, _, rfl, ha.tE rfl, hS⟩
  refine jf (RC.exit (RQ.exitT ?_))
  have h := h.inr
  refine RQ.exitT (RQ.inB_hit (tsr (pn 4 rfl (cF (fun _ hg => slices_insertionSortCmpFunc_api_Entry.ok hr4 hg hS) call167 h rfl rfl rfl ?_))))
  rintro _ h _ w ⟨rfl, hS⟩
  refine ln (RC.block (fun a ha => lp h (fun (s : Unit) a w => s = () ∧ Has 63 [(0, sV A2 a1 c3), (1, iV a5), (2, .func (.func 123) #[] #[]), (6, iV 20)] a ∧ St B w (l) hf) ⟨rfl, ha.tE rfl, hS⟩ ?_))
  rintro G123 _ a w ⟨rfl, ha, hS⟩ h
  refine ro ha (RC.seq (sr (pn 3 rfl (ln ?_))))
  refine RC.iteP 30 rfl h (fun hc125 h => ?_) fun hc125 h => ?_
  next =>
   refine jt (sk (RC.block (sr (pn 4 rfl (ln (RC.seq (RC.block (fun a ha => lp h (fun (s : Unit) a w => s = () ∧ Has 63 [(0, sV A2 a1 c3), (1, iV a5), (2, .func (.func 123) #[] #[]), (6, iV 20), (7, iV 0), (8, iV 40)] a ∧ St B w (l) hf) ⟨rfl, ha.tE rfl, hS⟩ ?_))))))))
   rintro G133 _ a w ⟨rfl, ha, hS⟩ h
   refine ro ha (RC.seq (sr (pn 3 rfl (ln ?_))))
   refine RC.iteP 35 rfl h (fun hc135 h => ?_) fun hc135 h => ?_
   next =>
    refine jt (sk (RC.block (sr (pn 7 rfl ?_))))
    exact h.none
   refine jf (RC.exit (RQ.exitT ?_))
   have h := h.inr
   refine RQ.exitT (RQ.inB_hit (RQ.then_n (RC.seq (sr (pn 4 rfl (lnsr (pn 3 rfl (ln (RC.re 54 rfl (congrArg Value.bool (decide_eq_true hc125)) (jt ?_))))))))))
   refine RC.region (pn 5 rfl ?_)
   exact h.none
  refine jf (RC.exit (RQ.exitT ?_))
  have h := h.inrS
  refine RQ.exitT (RQ.inB_hit ?_)
  exact rtE results149 rfl ⟨rfl, hS⟩
def slices_SortStableFunc_api_Entry_api_Entry.f (a1 : List api_Entry) : Option (Unit) := ((slices_stableCmpFunc_api_Entry.f a1 (a1.length : Int)).bind fun _ => some ())
theorem slices_SortStableFunc_api_Entry_api_Entry.ok {a1 : List api_Entry} {A2 : Option Addr} {c3 : Nat} (hr4 : SlR R_api_Entry hf A2 c3 a1) {r : Unit} (h : slices_SortStableFunc_api_Entry_api_Entry.f a1 = some r) (hS : St B w (l) hf) :
    Calls prog 122 #[sV A2 a1 c3, .func (.func 123) #[] #[]] w (Ret fun v w => v = .tuple #[] ∧ St B w (l) hf) := by
  have h := Holds.of h
  refine en func122 rfl ntmps122 rfl (RC.region (r0 4 rfl (cF (fun _ hg => slices_stableCmpFunc_api_Entry.ok hr4 hg hS) call149 h rfl rfl rfl ?_)))
  rintro _ h _ w ⟨rfl, hS⟩
  refine RL.nil ?_
  exact rtE results122 rfl ⟨rfl, hS⟩
def kernel_Kernel_commit.l8b (l1748 : List api_Entry) : kernel_Kernel × Int → Option ((kernel_Kernel × Int) ⊕ ((kernel_halt × kernel_Kernel) ⊕ (kernel_Kernel)))
  | (y2381, x2382) => (if x2382 < (l1748.length : Int) then (if 0 ≤ x2382 then (if y2381.m.Budget ≤ (y2381.history.length : Int) then some (.inr (.inl ((⟨4, 9⟩ : kernel_halt), y2381))) else (if (nth l1748 x2382).Fault = 0 then (if (y2381.history.length + 1) * 40 ≤ 140737488355328 then some (.inl (({ y2381 with history := (y2381.history ++ ([(⟨((nth l1748 x2382).Event).Key, ((nth l1748 x2382).Event).To, ((nth l1748 x2382).Event).Value⟩ : api_Done)])) } : kernel_Kernel), IntKind.i64.wrap (x2382 + 1))) else none) else (if (nth l1748 x2382).Fault = 10 then some (.inr (.inl ((⟨2, (nth l1748 x2382).Fault⟩ : kernel_halt), y2381))) else some (.inr (.inl ((⟨3, (nth l1748 x2382).Fault⟩ : kernel_halt), y2381)))))) else none) else (Option.map Sum.inr (if y2381.m.End < y2381.global then some (.inl ((⟨1, 6⟩ : kernel_halt), y2381)) else some (.inr (y2381)))))
def kernel_Kernel_commit.l8 (l1748 : List api_Entry) (s : kernel_Kernel × Int) : Option ((kernel_halt × kernel_Kernel) ⊕ (kernel_Kernel)) := loopR (kernel_Kernel_commit.l8b l1748) s
def kernel_Kernel_commit.l6b (a2 : kernel_Kernel) : List kernel_place × List api_Entry × Int → Option ((List kernel_place × List api_Entry × Int) ⊕ ((kernel_halt × kernel_Kernel) ⊕ (kernel_Kernel)))
  | (l1747, l1748, x1753) => (if x1753 < (a2.at_.length : Int) then (if 0 ≤ x1753 then ((lane_Lane_Drop.f ((nth l1747 x1753).Lane) a2.global).bind fun (y1858, y1859) => (if (l1748.length + y1858.length) * 168 ≤ 140737488355328 then some (.inl ((setL l1747 x1753 (⟨y1859, (nth l1747 x1753).tally, (nth l1747 x1753).clocks, (nth l1747 x1753).ways, (nth l1747 x1753).into⟩ : kernel_place)), (l1748 ++ y1858), IntKind.i64.wrap (x1753 + 1))) else none)) else none) else (Option.map Sum.inr ((slices_SortStableFunc_api_Entry_api_Entry.f l1748).bind fun _ => kernel_Kernel_commit.l8 l1748 (({ a2 with at_ := l1747 } : kernel_Kernel), 0))))
def kernel_Kernel_commit.l6 (a2 : kernel_Kernel) (s : List kernel_place × List api_Entry × Int) : Option ((kernel_halt × kernel_Kernel) ⊕ (kernel_Kernel)) := loopR (kernel_Kernel_commit.l6b a2) s
def kernel_Kernel_commit.f (a2 : kernel_Kernel) : Option ((kernel_halt × kernel_Kernel) ⊕ (kernel_Kernel)) := kernel_Kernel_commit.l6 a2 (a2.at_, [], 0)
theorem kernel_Kernel_commit.ok {a2 : kernel_Kernel} {b1 : Nat} {r : (kernel_halt × kernel_Kernel) ⊕ (kernel_Kernel)} (h : kernel_Kernel_commit.f a2 = some r) (hS : St B w (O_kernel_Kernel hf a2 b1 :: l) hf) :
    Calls prog 72 #[pV b1] w (Ret fun v w => match (generalizing := false) r with | .inl r_ => ∃ hf_ : Hp, Sub hf hf_ ∧ v = .iface 177 (.agg #[iV r_.1.stop, iV r_.1.why]) ∧ St B w (O_kernel_Kernel hf_ r_.2 b1 :: l) hf_ | .inr (r_) => ∃ hf_ : Hp, Sub hf hf_ ∧ v = .nilIface ∧ St B w (O_kernel_Kernel hf_ r_ b1 :: l) hf_) := by
  have h := Holds.of h
  refine en func72 rfl ntmps72 rfl (sr (pn 1 rfl (lnsr (pn 1 rfl (ln (RC.seq (sr (r0 3 rfl ?_))))))))
  obtain ⟨A1621, c1622, A1624, c1625, A1627, c1628, A1630, c1631, bs1632, A1634, c1635, bs1636, b1638, A1639, c1640, hr1623, hr1626, hr1629, hS⟩ := O_kernel_Kernel.o hS
  have hl1633 := hS.p2.sepLen
  have hl1637 := hS.p4.sepLen
  refine rr [1] hS ?_
  refine it fun w hS => RL.s (Vl.lenO hl1633 underlying43 rfl) rfl (pn 1 rfl (ln (RC.block ?_)))
  have hS := hS.nilSlR 229 19
  refine fun a ha => lp h (fun (s : List kernel_place × List api_Entry × Int) a w => ∃ l1747 l1748 x1753, s = (l1747, l1748, x1753) ∧ ∃ hf_, Sub hf hf_ ∧ ∃ A1749 c1750 cs1751, Has 96 [(0, pV b1), (3, sV A1749 l1748 c1750), (11, sV A1630 bs1632 c1631), (12, iV (a2.at_.length : Int)), (13, iV x1753)] a ∧ St B w (OSf FP 53 (sV A1630 bs1632 c1631) bs1632 :: OSf FP 66 (sV A1634 bs1636 c1635) bs1636 :: OSf E_api_Done 251 (sV A1639 a2.history c1640) a2.history :: OSl 229 19 (sV A1749 l1748 c1750) l1748.length cs1751 :: Cl b1 [sV A1621 a2.m.Progs c1622, sV A1624 a2.m.Links c1625, sV A1627 a2.m.Starts c1628, .int .u64 a2.m.Seed, iV a2.m.End, iV a2.m.Budget, sV A1630 bs1632 c1631, sV A1634 bs1636 c1635, pV b1638, iV a2.global, iV a2.window, iV a2.width, sV A1639 a2.history c1640, iV a2.stop] 48 :: SepL (O_kernel_place hf_) l1747 bs1632 :: SepL (O_link_Way hf_) a2.ways bs1636 :: O_colour_Token hf_ a2.token b1638 :: l) hf_ ∧ RepL R_api_Entry hf_ cs1751 l1748) ⟨_, _, _, rfl, _, (Sub.refl _), _, _, _, ha.tE rfl, hS.p7.p5.p4, RepL.nil⟩ ?_
  rintro G1816 _ a w ⟨l1747, l1748, x1753, rfl, hf, hs1690, A1749, c1750, cs1751, ha, hS, hx1752⟩ h
  refine ro ha (sr (pn 1 rfl (ln (RC.seq ?_))))
  refine RC.iteP 14 rfl h (fun hc1818 h => ?_) fun hc1818 h => ?_
  next =>
   refine jt (sk (RC.seq (RC.block (sr ?_))))
   obtain ⟨hq1847, h⟩ := h.req
   refine RL.s (Vl.indexOwn 0 hS rfl underlying43 sizeOf53 rfl rfl hq1847 (lt_len hl1633 hc1818)) rfl (RL.s (Vl.load isAgg53 rfl ((hS.slW 0 rfl).2.2.cell (j := 0) hq1847 (lt_len hl1633 hc1818) rfl)) rfl (pn 1 rfl (ln ?_)))
   have hl1848 := hS.p5.sepLen
   have hS := hS.p5.sepTake hq1847 (lt_len (hl1633.trans hl1848.symm) hc1818)
   obtain ⟨b1849, b1850, b1851, A1852, c1853, b1855, hr1854, hS⟩ := O_kernel_place.o hS
   refine dr [0, 3, 6, 9, 13, 17, 20, 23, 26, 29, 32, 35] [9, 10, 11] hS fun w hS => rq [0, 0, 0, 0, 1, 0, 0, 0, 11] hS ?_
   refine it ?_
   obtain ⟨t1856, hg1857, h⟩ := h.bind
   have hc := lane_Lane_Drop.ok hg1857 hS.p1
   obtain ⟨y1858, y1859⟩ := t1856
   refine RP.e 9 rfl (OW.callF (ls := [.tmp 21, .tmp 25]) rfl call121 hc) rfl rfl ?_
   rintro _ w ⟨hf, hs1864, A1860, c1861, cs1862, rfl, hS, hx1863⟩
   have hS := O_colour_Tally.l hs1864 hS.p3
   have hS := O_clock_Clocks.l hs1864 hS.p4
   have hS := hS.p6.imp fun _ h => SepH.m (fun _ _ => O_kernel_place.m hs1864) h
   have hS := hS.p12.imp fun _ h => SepL.m (fun _ _ => O_link_Way.m hs1864) h
   have hS := O_colour_Token.l hs1864 hS.p13
   have hS : St B w (_ :: _ :: _ :: _ :: _ :: _ :: _ :: _ :: _ :: _ :: _ :: _ :: _ :: _ :: l) hf := hS
   refine ⟨kp ⟨(by intro hx; cases hx), trivial⟩, ?_⟩
   obtain ⟨hq1867, h⟩ := h.req
   obtain ⟨hf, hs1865, hS, hr1866⟩ := St.promoteR R_api_Entry_ok hS.p5 rfl hx1863
   have hS := O_colour_Token.l hs1865 hS
   have hS := hS.p1.imp fun _ h => SepL.m (fun _ _ => O_link_Way.m hs1865) h
   have hS := hS.p2.imp fun _ h => SepH.m (fun _ _ => O_kernel_place.m hs1865) h
   have hS := O_clock_Clocks.l hs1865 hS.p3
   have hS := O_colour_Tally.l hs1865 hS.p4
   have hS := O_lane_Lane.l hs1865 hS.p5
   refine RP.e 10 rfl (OW.appendR (R := R_api_Entry) R_api_Entry_ok (xs := l1748) (ys := y1858) 11 hS rfl underlying245 type229 rfl rfl rfl rfl (by decide) (by decide) ((hx1752.mono hs1864).mono hs1865) rfl rfl hr1866 hq1867 rfl) rfl rfl ?_
   rintro _ w ⟨cs1870, hx1871, hS⟩
   obtain ⟨A1868, c1869, rfl, _⟩ := hS.osShape 0 rfl
   have hS : St B w (_ :: _ :: _ :: _ :: _ :: _ :: _ :: _ :: _ :: _ :: _ :: _ :: _ :: l) hf := hS
   refine ⟨kp ⟨(by intro hx; cases hx), trivial⟩, ?_⟩
   refine RP.v1 11 rfl (Vl.assign rfl) rfl rfl (RP.nil (RQ.inB_n (RQ.then_n (RC.region (pn 2 rfl (RL.nil ?_))))))
   have hS := O_kernel_place.c (x := (⟨y1859, (nth l1747 x1753).tally, (nth l1747 x1753).clocks, (nth l1747 x1753).ways, (nth l1747 x1753).into⟩ : kernel_place)) ((hr1854.mono hs1864).mono hs1865) hS.p8.p4.p4.p4.p8
   have hS := hS.p2.p1.sepPut hq1847 (lt_len (hl1633.trans hl1848.symm) hc1818)
   exact fun a ha => ⟨_, h.some, _, _, _, rfl, _, ((hs1690.trans hs1864).trans hs1865), _, _, _, ha.tE rfl, hS.p7.p2.p7.p7.p7, hx1871⟩
  refine jf (RC.exit (RQ.exitT ?_))
  have h := h.inr
  refine RQ.exitT (RQ.inB_hit (tsr (pn 1 rfl ?_)))
  obtain ⟨hf1881, hs1879, hS, hr1878, hb1880⟩ := St.lendSlR R_api_Entry_ok hS.p3 rfl hx1752
  obtain ⟨t1882, hg1883, h⟩ := h.bind
  have hc := slices_SortStableFunc_api_Entry_api_Entry.ok hr1878 hg1883 hS
  refine RL.e (OW.callF (ls := [.tmp 29, .func 123]) rfl call122 hc) rfl rfl ?_
  rintro _ w ⟨rfl, hS⟩
  have hS := hb1880 _ _ hS
  have hS : St B w (_ :: _ :: _ :: _ :: _ :: _ :: _ :: _ :: l) hf := hS
  refine ln (RC.seq (sr (r0 3 rfl (ln (RC.block ?_)))))
  have hS := O_kernel_Kernel.c (x := ({ a2 with at_ := l1747 } : kernel_Kernel)) (hr1623.mono hs1690) (hr1626.mono hs1690) (hr1629.mono hs1690) hS.p3.p7.p7.p5.p7.p6.p7
  refine fun a ha => lp h (fun (s : kernel_Kernel × Int) a w => ∃ y2381 x2382, s = (y2381, x2382) ∧ Has 96 [(0, pV b1), (31, sV A1749 l1748 c1750), (32, iV (l1748.length : Int)), (33, iV x2382)] a ∧ St B w (OSl 229 19 (sV A1749 l1748 c1750) l1748.length cs1751 :: O_kernel_Kernel hf y2381 b1 :: l) hf) ⟨_, _, rfl, ha.tE rfl, hS.p1⟩ ?_
  rintro G2509 _ a w ⟨y2381, x2382, rfl, ha, hS⟩ h
  refine ro ha (sr (pn 1 rfl (ln (RC.seq ?_))))
  refine RC.iteP 34 rfl h (fun hc2511 h => ?_) fun hc2511 h => ?_
  next =>
   refine jt (sk (RC.seq (RC.block (sr ?_))))
   obtain ⟨hq2579, h⟩ := h.req
   refine RL.s (Vl.indexOwn 0 hS rfl underlying245 sizeOf229 rfl rfl hq2579 hc2511) rfl ?_
   obtain ⟨_, ⟨A2581, c2582, rfl, hr2583⟩, hl2580⟩ := RepL.elem R_api_Entry_ok hx1752 hq2579 hc2511
   refine RL.s (Vl.loadA (vs := (C_api_Entry (nth l1748 x2382) A2581 c2582)) isAgg229 sizeOf229 rfl rfl (hS.elemCells 0 rfl hl2580 (off := 0) rfl)) rfl (rr [0, 1] hS ?_)
   refine fun b2584 => it fun w hS => ln (RC.seq (RC.seq ?_))
   obtain ⟨A2606, c2607, A2609, c2610, A2612, c2613, A2615, c2616, bs2617, A2619, c2620, bs2621, b2623, A2624, c2625, hr2608, hr2611, hr2614, hS⟩ := O_kernel_Kernel.o hS.p2
   have hl2618 := hS.p2.sepLen
   have hl2622 := hS.p4.sepLen
   refine dr [0, 3, 6, 10, 12, 17, 20, 23, 26, 29, 32] [10] hS fun w hS => rq [0, 0, 0, 1, 0, 0, 0, 0, 0, 1, 0] hS ?_
   refine it (RP.nil (RQ.then_n ?_))
   refine RC.iteP 47 rfl h (fun hc2626 h => ?_) fun hc2626 h => ?_
   next =>
    refine jtr (r0 3 rfl (lr (RQ.ret (ir ?_))))
    have h := h.inrS
    refine RQ.ret (ir ?_)
    have hS := O_kernel_Kernel.c (x := y2381) hr2608 hr2611 hr2614 hS
    cases h.some
    exact rt results72 rfl ⟨_, hs1690, rfl, hS.d1.d1⟩
   refine jfs (sr (rr [0, 8] hS ?_))
   refine it fun w hS => ln (RC.block (sr (pn 2 rfl (ln ?_))))
   refine RC.iteP 56 rfl h (fun hc2627 h => ?_) fun hc2627 h => ?_
   next =>
    refine jt (dr [0, 3, 6, 9, 13, 15, 18, 22, 24, 27, 31, 35, 38, 41, 44, 47, 50, 53, 56, 59] [16, 17, 18, 19] hS fun w hS => rq [0, 0, 0, 0, 1, 0, 0, 8, 0, 0, 8, 0, 0, 8, 0] hS ?_)
    refine it (RP.e 15 rfl (OW.buildSlice (E := E_api_Done) (xs := [(⟨((nth l1748 x2382).Event).Key, ((nth l1748 x2382).Event).To, ((nth l1748 x2382).Event).Value⟩ : api_Done)]) (cs := [iV ((((nth l1748 x2382).Event).Key).Time), iV ((((nth l1748 x2382).Event).Key).From), iV ((((nth l1748 x2382).Event).Key).Seq), iV (((nth l1748 x2382).Event).To), iV (((nth l1748 x2382).Event).Value)]) hS underlying46 zeroValue251 sizeOf251 (parts := [(0, .tmp 72)]) rfl rfl (by decide) (by decide) (by kernel_rfl) rfl) rfl rfl ?_)
    rintro _ w ⟨b2628, rfl, hS⟩
    refine ⟨kp ⟨fun _ => hS.d0, trivial⟩, ?_⟩
    obtain ⟨hq2629, h⟩ := h.req
    refine RP.e 16 rfl (OW.append (E := E_api_Done) (xs := y2381.history) (ys := [(⟨((nth l1748 x2382).Event).Key, ((nth l1748 x2382).Event).To, ((nth l1748 x2382).Event).Value⟩ : api_Done)]) 7 hS rfl underlying46 type251 rfl rfl rfl rfl (by decide) rfl rfl rfl (hS.slW 0 rfl).2.2.flat (by simp only [maxLen, List.length_cons, List.length_nil] at *; omega) hq2629 rfl) rfl rfl ?_
    rintro v2632 w hS
    obtain ⟨A2630, c2631, rfl, _⟩ := hS.osShape 0 rfl
    have hS : St B w (_ :: _ :: _ :: _ :: _ :: _ :: _ :: _ :: _ :: _ :: l) hf := hS
    refine ⟨kp ⟨(by intro hx; cases hx), trivial⟩, ?_⟩
    refine RP.v1 17 rfl (Vl.nilCheck rfl) rfl rfl (RP.v1 18 rfl (Vl.fa 12 underlying48 rfl sizeOf46 rfl rfl) rfl rfl (RP.e0 19 rfl (OW.store (vs := [.slice A2630 (y2381.history ++ ([(⟨((nth l1748 x2382).Event).Key, ((nth l1748 x2382).Event).To, ((nth l1748 x2382).Event).Value⟩ : api_Done)])).length c2631]) 2 hS rfl rfl rfl rfl sizeOf46 rfl rfl rfl rfl) rfl ?_))
    rintro _ w ⟨rfl, hS⟩
    have hS : St B w (_ :: _ :: Cl _ [_, _, _, _, _, _, _, _, _, _, _, _, _, _] _ :: _ :: _ :: _ :: _ :: _ :: _ :: _ :: l) hf := hS
    refine ⟨kp ⟨(by intro hx; cases hx), trivial⟩, ?_⟩
    refine RP.nil (RQ.inB_n (RQ.inB_n (RQ.then_n (RC.region (pn 2 rfl (RL.nil ?_))))))
    have hS := O_kernel_Kernel.c (x := ({ y2381 with history := (y2381.history ++ ([(⟨((nth l1748 x2382).Event).Key, ((nth l1748 x2382).Event).To, ((nth l1748 x2382).Event).Value⟩ : api_Done)])) } : kernel_Kernel)) hr2608 hr2611 hr2614 hS.p7.p7.p7.p7.p7.p7
    exact fun a ha => ⟨_, h.some, _, _, rfl, ha.tE rfl, hS.d1.d1.p1⟩
   refine jf (sr (pn 2 rfl (ln ?_)))
   refine RC.iteP 77 rfl h (fun hc2633 h => ?_) fun hc2633 h => ?_
   next =>
    refine jtr (rr [0, 8, 0, 0, 0] hS ?_)
    refine it fun w hS => lr (RQ.inB_ret (ir ?_))
    have h := h.inrS
    refine RQ.ret (ir ?_)
    have hS := O_kernel_Kernel.c (x := y2381) hr2608 hr2611 hr2614 hS
    cases h.some
    exact rt results72 rfl ⟨_, hs1690, rfl, hS.d1.d1⟩
   refine jf (sr (rr [0, 8, 0, 0, 0] hS ?_))
   refine it fun w hS => lr (RQ.inB_ret (ir ?_))
   have h := h.inrS
   refine RQ.ret (ir ?_)
   have hS := O_kernel_Kernel.c (x := y2381) hr2608 hr2611 hr2614 hS
   cases h.some
   exact rt results72 rfl ⟨_, hs1690, rfl, hS.d1.d1⟩
  refine jf (RC.exit (RQ.exitT ?_))
  have h := h.inr
  refine RQ.exitT (RQ.inB_hit (RQ.then_n (RC.seq (RC.seq ?_))))
  obtain ⟨A2634, c2635, A2637, c2638, A2640, c2641, A2643, c2644, bs2645, A2647, c2648, bs2649, b2651, A2652, c2653, hr2636, hr2639, hr2642, hS⟩ := O_kernel_Kernel.o hS.p1
  have hl2646 := hS.p2.sepLen
  have hl2650 := hS.p4.sepLen
  refine dr [0, 3, 6, 10, 14, 17, 20, 23, 26, 29] [9] hS fun w hS => rq [0, 0, 0, 1, 0, 0, 0, 0, 1, 0] hS ?_
  refine it (RP.nil (RQ.then_n ?_))
  refine RC.iteP 93 rfl h (fun hc2654 h => ?_) fun hc2654 h => ?_
  next =>
   refine jtr (r0 3 rfl (lr (RQ.ret ?_)))
   have hS := O_kernel_Kernel.c (x := y2381) hr2636 hr2639 hr2642 hS
   cases h.some
   exact rt results72 rfl ⟨_, hs1690, rfl, hS.d1⟩
  refine jfs (sr (pn 1 rfl (lr ?_)))
  have hS := O_kernel_Kernel.c (x := y2381) hr2636 hr2639 hr2642 hS
  cases h.some
  exact rt results72 rfl ⟨_, hs1690, rfl, hS.d1⟩
def errors_as_4.f (a1 a3 : kernel_halt) : Option (Bool × kernel_halt) := some (true, a1)
theorem errors_as_4.ok {a1 a3 : kernel_halt} {b2 b4 : Nat} {r : Bool × kernel_halt} (h : errors_as_4.f a1 a3 = some r) (hS : St B w (Cl b2 [iV a3.stop, iV a3.why] 177 :: Cl b4 [pV b2] 179 :: l) hf) :
    Calls prog 51 #[.iface 177 (.agg #[iV a1.stop, iV a1.why]), .iface 179 (pV b2), .agg #[.pointer (some ⟨1, 179, none⟩), pV b4, .int .u64 150], .iface 192 (.agg #[.pointer (some ⟨1, 177, none⟩)])] w (Ret fun v w => v = .bool r.1 ∧ St B w (Cl b2 [iV r.2.stop, iV r.2.why] 177 :: Cl b4 [pV b2] 179 :: l) hf) := by
  have h := Holds.of h
  refine en func51 rfl ntmps51 rfl (sr (rr [0, 0] hS ?_))
  refine fun b8 => it fun w hS => ln (RC.block (RC.unroll (RQ.round (RC.block (RC.seq (sr (pn 1 rfl (RL.s (Vl.eX [.tmp 16] (.iface 192 (.agg #[.pointer (some ⟨1, 177, none⟩)])) Ex1 func52 rfl) rfl (pn 1 rfl ?_)))))))))
  refine RL.s (Vl.iX [.tmp 18] (.bool true) (.agg #[.pointer (some ⟨1, 177, none⟩)]) Ex2 func238 rfl rfl) rfl (ln (jtr (rr [1] hS ?_)))
  refine it fun w hS => RL.s (Vl.externAt (ls := [.tmp 20]) (v := .agg #[.pointer (some ⟨1, 177, none⟩), pV b2, .int .u64 409]) rfl func84 (by kernel_rfl) (by kernel_rfl) (by kernel_rfl) (e := Extern.ReflectliteValue.method (Extern.ReflectliteValue.valueError "reflectlite.Value.Elem" 0) Extern.ReflectliteValue.elem) (by kernel_rfl) (run_elemV (n := 150) (a := ⟨b4, 0, none⟩) (fun w => by kernel_rfl) underlying179 rfl (hS.cell 2 rfl rfl) (fun w => by kernel_rfl) (fun w => by kernel_rfl))) rfl (pn 1 rfl (RL.e (OW.externNew (ls := [.tmp 22]) (cs := [iV a1.stop, iV a1.why]) (T := 177) (v := fun b => .agg #[.pointer (some ⟨1, 177, none⟩), pV b, .int .u64 153]) hS rfl func48 (by kernel_rfl) (by kernel_rfl) (by kernel_rfl) (e := fun args => Extern.ReflectliteValue.unpack (args.getD 0 (.tuple #[]))) (by kernel_rfl) (fun w => by kernel_rfl)) rfl rfl ?_))
  rintro _ w ⟨b10, rfl, hS⟩
  refine RL.e (OW.setV (ls := [.tmp 21, .tmp 23]) (val := .agg #[iV a1.stop, iV a1.why]) (vs := [iV a1.stop, iV a1.why]) (n := 409) (m := 153) (a2 := ⟨b10, 0, none⟩) 2 hS rfl rfl func85 (by kernel_rfl) (by kernel_rfl) (by kernel_rfl) (by kernel_rfl) (fun w => by kernel_rfl) (fun w => by kernel_rfl) rfl (fun w => by kernel_rfl) (run_loadVarA (vs := [iV a1.stop, iV a1.why]) isAgg177 sizeOf177 rfl (hS.cellsAt 0 rfl rfl)) rfl sizeOf177 rfl rfl rfl rfl) rfl rfl ?_
  rintro _ w ⟨rfl, hS⟩
  have hS : St B w (_ :: _ :: _ :: _ :: l) hf := hS
  refine lnsr (pn 1 rfl (lr (RQ.ret (ir (RQ.inB_ret ?_)))))
  cases h.some
  exact rt results51 rfl ⟨rfl, hS.d0.d0⟩
def errors_As_4.f (a1 a3 : kernel_halt) : Option (Bool × kernel_halt) := ((errors_as_4.f a1 a3).bind fun (y14, y15) => some (y14, y15))
theorem errors_As_4.ok {a1 a3 : kernel_halt} {b2 : Nat} (hG0 : GlobAt hf 0 (.iface 192 (.agg #[.pointer (some ⟨1, 85, none⟩)]))) {r : Bool × kernel_halt} (h : errors_As_4.f a1 a3 = some r) (hS : St B w (Cl b2 [iV a3.stop, iV a3.why] 177 :: l) hf) :
    Calls prog 24 #[.iface 177 (.agg #[iV a1.stop, iV a1.why]), .iface 179 (pV b2)] w (Ret fun v w => v = .bool r.1 ∧ St B w (Cl b2 [iV r.2.stop, iV r.2.why] 177 :: l) hf) := by
  have h := Holds.of h
  refine en func24 rfl ntmps24 rfl (sr (pn 1 rfl (ln (RC.seq (sr (pn 1 rfl (RL.s (Vl.bn false rfl rfl) rfl (ln (jfs ?_)))))))))
  refine RC.seq (sr (pn 1 rfl (RL.s (Vl.bn false rfl rfl) rfl (ln (jfs (sr (pn 1 rfl (RL.e (OW.externNew (ls := [.tmp 13]) (cs := [pV b2]) (T := 179) (v := fun b => .agg #[.pointer (some ⟨1, 179, none⟩), pV b, .int .u64 150]) hS rfl func48 (by kernel_rfl) (by kernel_rfl) (by kernel_rfl) (e := fun args => Extern.ReflectliteValue.unpack (args.getD 0 (.tuple #[]))) (by kernel_rfl) (fun w => by kernel_rfl)) rfl rfl ?_))))))))
  rintro _ w ⟨b10, rfl, hS⟩
  refine rr [0, 1] hS ?_
  refine fun b11 => it fun w hS => lnsr (rr [1] hS ?_)
  refine it fun w hS => RL.s (Vl.eX [.tmp 15] (.iface 192 (.agg #[.pointer (some ⟨1, 179, none⟩)])) Ex3 func49 rfl) rfl (pn 1 rfl (ln (RC.seq (sr (pn 1 rfl (RL.s (Vl.iX [] (.int .u8 22) (.pointer (some ⟨1, 179, none⟩)) Ex4 func218 rfl rfl) rfl (rr [0, 0, 1] hS ?_)))))))
  refine it fun w hS => ?_
  refine RL.sg (Vl.externAt (ls := [.tmp 21]) (v := .bool false) rfl func50 (by kernel_rfl) (by kernel_rfl) (by kernel_rfl) (e := Extern.ReflectliteValue.method (Extern.ReflectliteValue.valueError "reflectlite.Value.IsNil" 0) Extern.ReflectliteValue.isNil) (by kernel_rfl) (run_isNil (n := 150) (a := ⟨b10, 0, none⟩) (fun w => by kernel_rfl) underlying179 rfl (hS.cell 1 rfl rfl))) rfl rfl (pn 1 rfl (ln (jfs (sr (pn 1 rfl (RL.s (Vl.iX [] (.iface 192 (.agg #[.pointer (some ⟨1, 177, none⟩)])) (.agg #[.pointer (some ⟨1, 179, none⟩)]) Ex5 func240 rfl rfl) rfl (pn 1 rfl (ln (RC.seq (RC.seq ?_))))))))))
  refine RC.region (pn 1 rfl (RL.s (Vl.iX [] (.int .u8 25) (.pointer (some ⟨1, 177, none⟩)) Ex4 func218 rfl rfl) rfl (pn 3 rfl (RL.sg (Vl.load isAgg137 rfl (cellH_world hS.sub hG0)) rfl rfl (RL.sg (Vl.iX [.tmp 32] (.bool true) (.agg #[.pointer (some ⟨1, 177, none⟩)]) Ex6 func241 rfl rfl) rfl rfl (pn 2 rfl (ln (jfs (sr (rr [0, 0, 1, 0] hS ?_))))))))))
  refine it fun w hS => cF (fun _ hg => errors_as_4.ok hg hS.p1.p2) call51 h rfl rfl rfl ?_
  rintro ⟨y14, y15⟩ h _ w ⟨rfl, hS⟩
  refine pn 1 rfl (lr ?_)
  cases h.some
  exact rt results24 rfl ⟨rfl, hS.d1.d1⟩
def errors_As_5.f (a2 : kernel_halt) : Option (Bool) := some false
theorem errors_As_5.ok {a2 : kernel_halt} {b1 : Nat} {r : Bool} (h : errors_As_5.f a2 = some r) (hS : St B w (Cl b1 [iV a2.stop, iV a2.why] 177 :: l) hf) :
    Calls prog 24 #[.nilIface, .iface 179 (pV b1)] w (Ret fun v w => v = .bool r ∧ St B w (Cl b1 [iV a2.stop, iV a2.why] 177 :: l) hf) := by
  have h := Holds.of h
  refine en func24 rfl ntmps24 rfl (sr (pn 1 rfl (ln (RC.seq (sr (pn 1 rfl (RL.s (Vl.bn true rfl rfl) rfl (ln (jtr ?_)))))))))
  refine pn 1 rfl (lr (RQ.ret ?_))
  obtain rfl := h.some
  exact rt results24 rfl ⟨rfl, hS⟩
def kernel_Kernel_visit.f (a2 : kernel_Kernel) (a3 : api_Pick) : Option (Int × kernel_Kernel) := ((colour_Token_At.f a2.token).bind fun t236 => (if 0 ≤ t236 ∧ t236 < (a2.at_.length : Int) then ((lane_Lane_Local.f ((nth a2.at_ t236).Lane)).bind fun t299 => ((colour_Token_Visit.f a2.token ((nth a2.at_ t236).tally) t299).bind fun (y303, y304, y305, y306, y307) => (if y304 = true then ((kernel_Kernel_commit.f ({ a2 with at_ := (setL a2.at_ t236 (⟨(nth a2.at_ t236).Lane, y307, (nth a2.at_ t236).clocks, (nth a2.at_ t236).ways, (nth a2.at_ t236).into⟩ : kernel_place)), token := y306, global := (if a2.global < y303 then y303 else a2.global) } : kernel_Kernel)).bind fun t321 => match t321 with | .inl (y323, y324) => ((errors_As_4.f y323 (⟨0, 0⟩ : kernel_halt)).bind fun (y328, y329) => (if y328 = true then some (0, ({ y324 with stop := y329.stop } : kernel_Kernel)) else some (0, y324))) | .inr (y351) => ((errors_As_5.f (⟨0, 0⟩ : kernel_halt)).bind fun t353 => (if t353 = true then some (0, ({ y351 with stop := 0 } : kernel_Kernel)) else some (0, y351)))) else some (0, ({ a2 with at_ := (setL a2.at_ t236 (⟨(nth a2.at_ t236).Lane, y307, (nth a2.at_ t236).clocks, (nth a2.at_ t236).ways, (nth a2.at_ t236).into⟩ : kernel_place)), token := y306 } : kernel_Kernel))))) else none))
theorem kernel_Kernel_visit.ok {a2 : kernel_Kernel} {a3 : api_Pick} {b1 : Nat} (hG0 : GlobAt hf 0 (.iface 192 (.agg #[.pointer (some ⟨1, 85, none⟩)]))) {r : Int × kernel_Kernel} (h : kernel_Kernel_visit.f a2 a3 = some r) (hS : St B w (O_kernel_Kernel hf a2 b1 :: l) hf) :
    Calls prog 39 #[pV b1, .agg (C_api_Pick a3).toArray] w (Ret fun v w => ∃ hf_ : Hp, Sub hf hf_ ∧ v = iV r.1 ∧ St B w (O_kernel_Kernel hf_ r.2 b1 :: l) hf_) := by
  have h := Holds.of h
  refine en func39 rfl ntmps39 rfl (sr (rr [0, 0] hS ?_))
  refine fun b191 => it fun w hS => ln (RC.seq ?_)
  obtain ⟨A216, c217, A219, c220, A222, c223, A225, c226, bs227, A229, c230, bs231, b233, A234, c235, hr218, hr221, hr224, hS⟩ := O_kernel_Kernel.o hS.p1
  have hl228 := hS.p2.sepLen
  have hl232 := hS.p4.sepLen
  refine dr [0, 3, 6, 10, 14, 17, 20, 23, 26, 29, 32, 35] [9, 10, 11] hS fun w hS => rq [0, 0, 0, 1, 0, 0, 0, 1] hS ?_
  refine it ?_
  obtain ⟨t236, hg237, h⟩ := h.bind
  have hc := colour_Token_At.ok hg237 hS.p5
  refine RP.e 8 rfl (OW.callF (ls := [.tmp 18]) rfl call69 hc) rfl rfl ?_
  rintro _ w ⟨rfl, hS⟩
  refine ⟨kp ⟨fun _ => hS.p5.p5.p5.p5.p5, trivial⟩, ?_⟩
  obtain ⟨⟨hq238, hq239⟩, h⟩ := h.req
  refine RP.v1 9 rfl (Vl.indexOwn 2 hS rfl underlying43 sizeOf53 rfl rfl hq238 (lt_len hl228 hq239)) rfl rfl (RP.v1 10 rfl (Vl.load isAgg53 rfl ((hS.slW 2 rfl).2.2.cell (j := 0) hq238 (lt_len hl228 hq239) rfl)) rfl rfl (rq [0] hS.p5.p5.p5.p5.p5 ?_))
  refine it (RP.nil (RQ.then_n (RC.seq ?_)))
  have hS := hS.p3.sepTake hq238 hq239
  obtain ⟨b274, b275, b276, A277, c278, b280, hr279, hS⟩ := O_kernel_place.o hS
  refine dk [0, 3, 6, 10, 12, 15, 18, 22, 24, 27, 30, 34, 38, 41, 42, 45, 48, 51, 56, 59, 62] [18, 19, 20] hS (fun w hS => hS.d2.d5) fun w hS => rq [0, 0, 0, 6, 0, 0, 0, 1, 0, 0, 0, 1] hS.d2.d5 ?_
  refine it ?_
  obtain ⟨t299, hg300, h⟩ := h.bind
  have hc := lane_Lane_Local.ok hg300 hS.p1
  refine RP.e 12 rfl (OW.callF (ls := [.tmp 34]) rfl call71 hc) rfl rfl ?_
  rintro _ w ⟨rfl, hS⟩
  refine ⟨kp ⟨fun _ => hS.d2.d5.p1, trivial⟩, ?_⟩
  obtain ⟨t301, hg302, h⟩ := h.bind
  have hc := colour_Token_Visit.ok hg302 hS.p2.p6
  obtain ⟨y303, y304, y305, y306, y307⟩ := t301
  refine RP.e 13 rfl (OW.callF (ls := [.tmp 26, .tmp 30, .tmp 35]) rfl call70 hc) rfl rfl ?_
  rintro _ w ⟨rfl, hS⟩
  refine ⟨kp ⟨fun _ => hS.d0.d0.p1, trivial⟩, ?_⟩
  refine rq [0, 0, 0, 0, 0, 0, 0] hS.d0.d0.p1 ?_
  refine it (RP.nil (RQ.then_n (RC.seq (sr (pn 2 rfl (ln ?_))))))
  refine RC.iteM 41 rfl h (fun hc309 h => ?_) fun hc309 h => ?_
  next =>
   refine jfs (sr (rr [0, 0, 0, 0, 8, 0] hS ?_))
   refine it fun w hS => RL.s (Vl.max2 rfl rfl) rfl (rr [0, 0, 8] hS ?_)
   refine it fun w hS => lnsr (rr [0] hS ?_)
   refine fun b311 => it fun w hS => ln (RC.seq ?_)
   refine sr (pn 1 rfl ?_)
   have hS := O_kernel_place.c (x := (⟨(nth a2.at_ t236).Lane, y307, (nth a2.at_ t236).clocks, (nth a2.at_ t236).ways, (nth a2.at_ t236).into⟩ : kernel_place)) hr279 hS.p6.p6.p4.p5.p6
   have hS := hS.p3.p1.sepPut hq238 hq239
   have hS := O_kernel_Kernel.c (x := ({ a2 with at_ := (setL a2.at_ t236 (⟨(nth a2.at_ t236).Lane, y307, (nth a2.at_ t236).clocks, (nth a2.at_ t236).ways, (nth a2.at_ t236).into⟩ : kernel_place)), token := y306, global := (if a2.global < y303 then y303 else a2.global) } : kernel_Kernel)) hr218 hr221 hr224 hS.p7.p3.p7.p7.p4.p7.p7
   obtain ⟨t321, hg322, h⟩ := h.bind
   have hc := kernel_Kernel_commit.ok hg322 hS
   rcases t321 with ⟨y323, y324⟩ | y351
   · refine RL.e (OW.callF (ls := [.tmp 51]) rfl call72 hc) rfl rfl ?_
     rintro _ w ⟨hf, hs325, rfl, hS⟩
     refine pn 1 rfl (lnsr (r0 2 rfl (cF (fun _ hg => errors_As_4.ok (hG0.mono hs325) hg hS.p1) call24 h rfl rfl rfl ?_)))
     rintro ⟨y328, y329⟩ h _ w ⟨rfl, hS⟩
     refine ln ?_
     refine RC.iteB 55 rfl h (fun hc330 h => ?_) fun hc330 h => ?_
     next =>
      refine jt (RC.region (rr [0, 0, 1, 0, 0] hS ?_))
      refine it fun w hS => ?_
      obtain ⟨A331, c332, A334, c335, A337, c338, A340, c341, bs342, A344, c345, bs346, b348, A349, c350, hr333, hr336, hr339, hS⟩ := O_kernel_Kernel.o hS.p1
      have hl343 := hS.p2.sepLen
      have hl347 := hS.p4.sepLen
      refine rr [1] hS ?_
      refine it fun w hS => lnsr (pn 1 rfl (lr ?_))
      have hS := O_kernel_Kernel.c (x := ({ y324 with stop := y329.stop } : kernel_Kernel)) hr333 hr336 hr339 hS
      cases h.some
      exact rt results39 rfl ⟨_, hs325, rfl, hS.d1.d1⟩
     refine jfs (sr (pn 1 rfl (lr ?_)))
     cases h.some
     exact rt results39 rfl ⟨_, hs325, rfl, hS.d0.d1⟩
   refine RL.e (OW.callF (ls := [.tmp 51]) rfl call72 hc) rfl rfl ?_
   rintro _ w ⟨hf, hs352, rfl, hS⟩
   refine pn 1 rfl (lnsr (r0 2 rfl (cF (fun _ hg => errors_As_5.ok hg hS.p1) call24 h rfl rfl rfl ?_)))
   rintro t353 h _ w ⟨rfl, hS⟩
   refine ln ?_
   refine RC.iteB 55 rfl h (fun hc355 h => ?_) fun hc355 h => ?_
   next =>
    refine jt (RC.region (rr [0, 0, 1, 0, 0] hS ?_))
    refine it fun w hS => ?_
    obtain ⟨A356, c357, A359, c360, A362, c363, A365, c366, bs367, A369, c370, bs371, b373, A374, c375, hr358, hr361, hr364, hS⟩ := O_kernel_Kernel.o hS.p1
    have hl368 := hS.p2.sepLen
    have hl372 := hS.p4.sepLen
    refine rr [1] hS ?_
    refine it fun w hS => lnsr (pn 1 rfl (lr ?_))
    have hS := O_kernel_Kernel.c (x := ({ y351 with stop := 0 } : kernel_Kernel)) hr358 hr361 hr364 hS
    cases h.some
    exact rt results39 rfl ⟨_, hs352, rfl, hS.d1.d1⟩
   refine jfs (sr (pn 1 rfl (lr ?_)))
   cases h.some
   exact rt results39 rfl ⟨_, hs352, rfl, hS.d0.d1⟩
  refine jtr (pn 1 rfl (lr (RQ.ret ?_)))
  have hS := O_kernel_place.c (x := (⟨(nth a2.at_ t236).Lane, y307, (nth a2.at_ t236).clocks, (nth a2.at_ t236).ways, (nth a2.at_ t236).into⟩ : kernel_place)) hr279 hS.p5.p5.p3.p4.p5
  have hS := hS.p2.p1.sepPut hq238 hq239
  have hS := O_kernel_Kernel.c (x := ({ a2 with at_ := (setL a2.at_ t236 (⟨(nth a2.at_ t236).Lane, y307, (nth a2.at_ t236).clocks, (nth a2.at_ t236).ways, (nth a2.at_ t236).into⟩ : kernel_place)), token := y306 } : kernel_Kernel)) hr218 hr221 hr224 hS.p5.p5.p2.p5.p5
  cases h.some
  exact rt results39 rfl ⟨_, (Sub.refl _), rfl, hS.d1⟩
def kernel_Kernel_promise.f (a2 : kernel_Kernel) (a3 : api_Pick) : Option (Int) := ((kernel_Kernel_who.f a2.m.Progs a2.m.Links a2.m.Starts a2.m.Seed a2.m.End a2.m.Budget a2.at_ a2.ways a2.token a2.global a2.window a2.width a2.history a2.stop a3.A).bind fun t141 => match t141 with | .inl y143 => (if y143 = 0 then none else some y143) | .inr ((y146, y147)) => (if y147 = 0 then none else some y147))
theorem kernel_Kernel_promise.ok {a2 : kernel_Kernel} {a3 : api_Pick} {b1 : Nat} {r : Int} (h : kernel_Kernel_promise.f a2 a3 = some r) (hS : St B w (O_kernel_Kernel hf a2 b1 :: l) hf) :
    Calls prog 40 #[pV b1, .agg (C_api_Pick a3).toArray] w (Ret fun v w => v = iV r ∧ St B w (O_kernel_Kernel hf a2 b1 :: l) hf) := by
  have h := Holds.of h
  refine en func40 rfl ntmps40 rfl (sr (rr [0, 0] hS ?_))
  refine fun b93 => it fun w hS => lnsr (rr [0, 0, 1] hS ?_)
  refine it fun w hS => ?_
  obtain ⟨A121, c122, A124, c125, A127, c128, A130, c131, bs132, A134, c135, bs136, b138, A139, c140, hr123, hr126, hr129, hS⟩ := O_kernel_Kernel.o hS.p1
  have hl133 := hS.p2.sepLen
  have hl137 := hS.p4.sepLen
  obtain ⟨t141, hg142, h⟩ := h.bind
  have hc := kernel_Kernel_who.ok hr123 hr126 hr129 hl133 hl137 hg142 hS.p5
  rcases t141 with y143 | ⟨y146, y147⟩
  · refine RL.e (OW.callF (ls := [.tmp 14, .tmp 16]) rfl call59 hc) rfl rfl ?_
    rintro _ w ⟨rfl, hS⟩
    refine pn 5 rfl (ln (RC.seq (sr (pn 2 rfl (ln ?_)))))
    refine RC.iteN 21 rfl h (fun hc145 h => ?_) fun hc145 h => ?_
    next =>
     refine jfs (RC.seq (dr [0, 3, 6, 10, 12, 15, 18, 22, 26, 29] [9] hS fun w hS => rq [0, 0, 0, 2, 0, 0, 0, 2, 0, 0] hS ?_))
     refine it (RP.nil (RQ.then_n (RC.seq (sr (pn 1 rfl ?_)))))
     exact h.none
    refine jtr (pn 2 rfl (lr (RQ.ret ?_)))
    have hS := O_kernel_Kernel.c (x := a2) hr123 hr126 hr129 hS.p5.p5.p5.p5.p5
    obtain rfl := h.some
    exact rt results40 rfl ⟨rfl, hS.d1⟩
  refine RL.e (OW.callF (ls := [.tmp 14, .tmp 16]) rfl call59 hc) rfl rfl ?_
  rintro _ w ⟨rfl, hS, hz148, hz149⟩
  refine pn 5 rfl (ln (RC.seq (sr (pn 2 rfl (ln ?_)))))
  refine RC.iteN 21 rfl h (fun hc151 h => ?_) fun hc151 h => ?_
  next =>
   refine jfs (RC.seq (dr [0, 3, 6, 10, 12, 15, 18, 22, 26, 29] [9] hS fun w hS => rq [0, 0, 0, 2, 0, 0, 0, 2, 0, 0] hS ?_))
   refine it (RP.nil (RQ.then_n (RC.seq (sr (pn 2 rfl ?_)))))
   have hS := hS.p3.sepTake hz148 hz149
   refine r0 1 rfl ?_
   obtain ⟨b173, b174, b175, A176, c177, b179, hr178, hS⟩ := O_kernel_place.o hS
   refine rr [1] hS ?_
   refine it fun w hS => ?_
   exact h.none
  refine jtr (pn 2 rfl (lr (RQ.ret ?_)))
  have hS := O_kernel_Kernel.c (x := a2) hr123 hr126 hr129 hS.p5.p5.p5.p5.p5
  obtain rfl := h.some
  exact rt results40 rfl ⟨rfl, hS.d1⟩
def vtime_Reach.f (a1 a2 : Int) : Option (Int) := some (IntKind.i64.wrap ((if 4611686018427387904 < (if a1 < 0 then 0 else a1) then 4611686018427387904 else (if a1 < 0 then 0 else a1)) + (if IntKind.i64.wrap (4611686018427387904 - (if 4611686018427387904 < (if a1 < 0 then 0 else a1) then 4611686018427387904 else (if a1 < 0 then 0 else a1))) < (if a2 < 0 then 0 else a2) then IntKind.i64.wrap (4611686018427387904 - (if 4611686018427387904 < (if a1 < 0 then 0 else a1) then 4611686018427387904 else (if a1 < 0 then 0 else a1))) else (if a2 < 0 then 0 else a2))))
theorem vtime_Reach.ok {a1 a2 r : Int} (h : vtime_Reach.f a1 a2 = some r) (hS : St B w (l) hf) :
    Calls prog 77 #[iV a1, iV a2] w (Ret fun v w => v = iV r ∧ St B w (l) hf) := by
  have h := Holds.of h
  refine en func77 rfl ntmps77 rfl (sr (pn 1 rfl (lnsr (pn 1 rfl (RL.s (Vl.max2 rfl rfl) rfl (RL.s (Vl.min2 rfl rfl) rfl (pn 1 rfl (RL.s (Vl.max2 rfl rfl) rfl (pn 2 rfl (ln ?_))))))))))
  refine sr (pn 4 rfl (RL.s (Vl.min2 rfl rfl) rfl (pn 2 rfl (lr ?_))))
  cases h.some
  exact rt results77 rfl ⟨rfl, hS⟩
def kernel_Kernel_round.f (a2 : kernel_Kernel) (a3 : api_Pick) : Option (Int × kernel_Kernel) := ((vtime_Reach.f a2.global a2.width).bind fun t50 => some (0, ({ a2 with window := t50 } : kernel_Kernel)))
theorem kernel_Kernel_round.ok {a2 : kernel_Kernel} {a3 : api_Pick} {b1 : Nat} {r : Int × kernel_Kernel} (h : kernel_Kernel_round.f a2 a3 = some r) (hS : St B w (O_kernel_Kernel hf a2 b1 :: l) hf) :
    Calls prog 41 #[pV b1, .agg (C_api_Pick a3).toArray] w (Ret fun v w => v = iV r.1 ∧ St B w (O_kernel_Kernel hf r.2 b1 :: l) hf) := by
  have h := Holds.of h
  refine en func41 rfl ntmps41 rfl (sr (rr [0, 0] hS ?_))
  refine fun b29 => it fun w hS => ln (RC.seq ?_)
  obtain ⟨A30, c31, A33, c34, A36, c37, A39, c40, bs41, A43, c44, bs45, b47, A48, c49, hr32, hr35, hr38, hS⟩ := O_kernel_Kernel.o hS.p1
  have hl42 := hS.p2.sepLen
  have hl46 := hS.p4.sepLen
  refine dr [0, 3, 6, 9, 13, 17, 20, 23, 26, 29, 32, 35, 38] [9, 10, 11, 12] hS fun w hS => rq [0, 0, 0, 0, 1, 0, 0, 0, 1] hS ?_
  refine it ?_
  obtain ⟨t50, hg51, h⟩ := h.bind
  have hc := vtime_Reach.ok hg51 hS
  refine RP.e 9 rfl (OW.callF (ls := [.tmp 9, .tmp 13]) rfl call77 hc) rfl rfl ?_
  rintro _ w ⟨rfl, hS⟩
  refine ⟨kp ⟨(by intro hx; cases hx), trivial⟩, ?_⟩
  refine rq [0, 0] hS ?_
  refine it (RP.e0 12 rfl (OW.store (vs := [iV t50]) 0 hS rfl rfl rfl rfl sizeOf2 rfl rfl rfl rfl) rfl ?_)
  rintro _ w ⟨rfl, hS⟩
  have hS : St B w (Cl _ [_, _, _, _, _, _, _, _, _, _, _, _, _, _] _ :: _ :: _ :: _ :: _ :: _ :: _ :: _ :: l) hf := hS
  refine ⟨kp ⟨(by intro hx; cases hx), trivial⟩, ?_⟩
  refine RP.nil (tsr (pn 1 rfl (lr ?_)))
  have hS := O_kernel_Kernel.c (x := ({ a2 with window := t50 } : kernel_Kernel)) hr32 hr35 hr38 hS
  cases h.some
  exact rt results41 rfl ⟨rfl, hS.d1⟩
def kernel_Kernel_widen.f (a2 : kernel_Kernel) (a3 : api_Pick) : Option (Int × kernel_Kernel) := some (0, ({ a2 with width := (if 1048576 < (if a3.A < 1 then 1 else a3.A) then 1048576 else (if a3.A < 1 then 1 else a3.A)) } : kernel_Kernel))
theorem kernel_Kernel_widen.ok {a2 : kernel_Kernel} {a3 : api_Pick} {b1 : Nat} {r : Int × kernel_Kernel} (h : kernel_Kernel_widen.f a2 a3 = some r) (hS : St B w (O_kernel_Kernel hf a2 b1 :: l) hf) :
    Calls prog 42 #[pV b1, .agg (C_api_Pick a3).toArray] w (Ret fun v w => v = iV r.1 ∧ St B w (O_kernel_Kernel hf r.2 b1 :: l) hf) := by
  have h := Holds.of h
  refine en func42 rfl ntmps42 rfl (sr (rr [0, 0] hS ?_))
  refine fun b27 => it fun w hS => lnsr (rr [0, 0, 1] hS ?_)
  refine it fun w hS => RL.s (Vl.max2 rfl rfl) rfl (RL.s (Vl.min2 rfl rfl) rfl (r0 2 rfl ?_))
  obtain ⟨A28, c29, A31, c32, A34, c35, A37, c38, bs39, A41, c42, bs43, b45, A46, c47, hr30, hr33, hr36, hS⟩ := O_kernel_Kernel.o hS.p1
  have hl40 := hS.p2.sepLen
  have hl44 := hS.p4.sepLen
  refine rr [1] hS ?_
  refine it fun w hS => lnsr (pn 1 rfl (lr ?_))
  have hS := O_kernel_Kernel.c (x := ({ a2 with width := (if 1048576 < (if a3.A < 1 then 1 else a3.A) then 1048576 else (if a3.A < 1 then 1 else a3.A)) } : kernel_Kernel)) hr30 hr33 hr36 hS
  cases h.some
  exact rt results42 rfl ⟨rfl, hS.d1⟩
def lane_Lane_Setting.f (a2 : lane_Lane) : Option (api_Setting) := ((lane_Lane_none.f a2).bind fun _ => some a2.setting)
theorem lane_Lane_Setting.ok {a2 : lane_Lane} {b1 : Nat} {r : api_Setting} (h : lane_Lane_Setting.f a2 = some r) (hS : St B w (O_lane_Lane hf a2 b1 :: l) hf) :
    Calls prog 20 #[pV b1] w (Ret fun v w => v = .agg (C_api_Setting r).toArray ∧ St B w (O_lane_Lane hf a2 b1 :: l) hf) := by
  have h := Holds.of h
  refine en func20 rfl ntmps20 rfl (sr (rr [0] hS ?_))
  refine fun b30 => it fun w hS => ln (RC.seq (sr (pn 1 rfl (cF (fun _ hg => lane_Lane_none.ok hg hS.p1) call36 h rfl rfl rfl ?_))))
  rintro _ h _ w ⟨rfl, hS⟩
  refine ln (jfs (sr (r0 3 rfl ?_)))
  obtain ⟨A35, c36, A38, c39, A41, c42, A44, c45, b47, b48, A49, c50, A51, c52, b53, b54, hr37, hr40, hr43, hr46, hS⟩ := O_lane_Lane.o hS
  refine rr [1, 8] hS ?_
  refine it fun w hS => lr ?_
  have hS := O_lane_Lane.c (x := a2) hr37 hr40 hr43 hr46 hS
  cases h.some
  refine rz [1] results20 hS ?_
  exact it ⟨rfl, hS.d1⟩
def tune_bounds.f  : Option (Arr5xtune_bound) := some (⟨(⟨0, 2⟩ : tune_bound), (⟨1, 64⟩ : tune_bound), (⟨0, 1⟩ : tune_bound), (⟨1, 1048576⟩ : tune_bound), (⟨0, 2⟩ : tune_bound)⟩ : Arr5xtune_bound)
theorem tune_bounds.ok {r : Arr5xtune_bound} (h : tune_bounds.f = some r) (hS : St B w (l) hf) :
    Calls prog 153 #[] w (Ret fun v w => v = .agg (C_Arr5xtune_bound r).toArray ∧ St B w (l) hf) := by
  have h := Holds.of h
  refine en func153 rfl ntmps153 rfl (sr (rr [0] hS ?_))
  refine fun b2 => it fun w hS => lnsr (r0 5 rfl (RL.s (Vl.build (v := .agg #[iV 0, iV 2, iV 1, iV 64, iV 0, iV 1, iV 1, iV 1048576, iV 0, iV 2]) (parts := [(0, .tmp 1), (1, .tmp 2), (2, .tmp 3), (3, .tmp 4), (4, .tmp 5)]) rfl (by kernel_rfl)) rfl (rr [1] hS ?_)))
  refine it fun w hS => lr ?_
  cases h.some
  refine rz [0] results153 hS ?_
  exact it ⟨rfl, hS.d0⟩
def tune_bound_clamp.f (a1 : tune_bound) (a2 : Int) : Option (Int) := some (if a1.most < (if a2 < a1.least then a1.least else a2) then a1.most else (if a2 < a1.least then a1.least else a2))
theorem tune_bound_clamp.ok {a1 : tune_bound} {a2 r : Int} (h : tune_bound_clamp.f a1 a2 = some r) (hS : St B w (l) hf) :
    Calls prog 154 #[.agg #[iV a1.least, iV a1.most], iV a2] w (Ret fun v w => v = iV r ∧ St B w (l) hf) := by
  have h := Holds.of h
  refine en func154 rfl ntmps154 rfl (sr (rr [0, 0] hS ?_))
  refine fun b4 => it fun w hS => lnsr (rr [0, 0, 1] hS ?_)
  refine it fun w hS => RL.s (Vl.max2 rfl rfl) rfl (rr [0, 1] hS ?_)
  refine it fun w hS => RL.s (Vl.min2 rfl rfl) rfl (pn 1 rfl (lr ?_))
  cases h.some
  exact rt results154 rfl ⟨rfl, hS.d0⟩
def tune_Clamp.f (a1 : api_Setting) : Option (api_Setting) := ((tune_bounds.f).bind fun t19 => ((tune_bound_clamp.f t19.c0 a1.Mode).bind fun t22 => ((tune_bound_clamp.f t19.c1 a1.Every).bind fun t24 => ((tune_bound_clamp.f t19.c2 a1.Cancel).bind fun t26 => ((tune_bound_clamp.f t19.c3 a1.Reach).bind fun t28 => ((tune_bound_clamp.f t19.c4 a1.Queue).bind fun t30 => some (⟨t22, t24, t26, t28, t30⟩ : api_Setting)))))))
theorem tune_Clamp.ok {a1 r : api_Setting} (h : tune_Clamp.f a1 = some r) (hS : St B w (l) hf) :
    Calls prog 129 #[.agg (C_api_Setting a1).toArray] w (Ret fun v w => v = .agg (C_api_Setting r).toArray ∧ St B w (l) hf) := by
  have h := Holds.of h
  refine en func129 rfl ntmps129 rfl (sr (rr [0, 0] hS ?_))
  refine fun b17 b18 => it fun w hS => lnsr (cF (fun _ hg => tune_bounds.ok hg hS) call153 h rfl rfl rfl ?_)
  rintro t19 h _ w ⟨rfl, hS⟩
  refine rr [0, 1] hS ?_
  refine fun b21 => it fun w hS => ln (RC.seq (dr [0, 4, 6, 10, 15, 19, 21, 25, 30, 34, 36, 40, 45, 49, 51, 55, 60, 64, 66, 70, 14, 29, 44, 59, 74, 77, 80] [24, 25, 26] hS fun w hS => RP.s0 0 rfl (fun w => Vl.indexAddrA (a'' := ⟨b21, 0, none⟩) underlying308 sizeOf307 rfl rfl (by decide) (by decide) rfl) rfl (rq [1, 0, 3] hS ?_)))
  refine it (RP.s0 5 rfl (fun w => Vl.indexAddrA (a'' := ⟨b21, 2, none⟩) underlying308 sizeOf307 rfl rfl (by decide) (by decide) rfl) rfl (rq [1, 0, 3] hS ?_))
  refine it (RP.s0 10 rfl (fun w => Vl.indexAddrA (a'' := ⟨b21, 4, none⟩) underlying308 sizeOf307 rfl rfl (by decide) (by decide) rfl) rfl (rq [1, 0, 3] hS ?_))
  refine it (RP.s0 15 rfl (fun w => Vl.indexAddrA (a'' := ⟨b21, 6, none⟩) underlying308 sizeOf307 rfl rfl (by decide) (by decide) rfl) rfl (rq [1, 0, 3] hS ?_))
  refine it (RP.s0 20 rfl (fun w => Vl.indexAddrA (a'' := ⟨b21, 8, none⟩) underlying308 sizeOf307 rfl rfl (by decide) (by decide) rfl) rfl (rq [1, 0, 3] hS ?_))
  refine it ?_
  obtain ⟨t22, hg23, h⟩ := h.bind
  have hc := tune_bound_clamp.ok hg23 hS
  refine RP.e 4 rfl (OW.callF (ls := [.tmp 6, .tmp 8]) rfl call154 hc) rfl rfl ?_
  rintro _ w ⟨rfl, hS⟩
  refine ⟨kp ⟨fun _ => hS, trivial⟩, ?_⟩
  obtain ⟨t24, hg25, h⟩ := h.bind
  have hc := tune_bound_clamp.ok hg25 hS
  refine RP.e 9 rfl (OW.callF (ls := [.tmp 11, .tmp 13]) rfl call154 hc) rfl rfl ?_
  rintro _ w ⟨rfl, hS⟩
  refine ⟨kp ⟨fun _ => hS, trivial⟩, ?_⟩
  obtain ⟨t26, hg27, h⟩ := h.bind
  have hc := tune_bound_clamp.ok hg27 hS
  refine RP.e 14 rfl (OW.callF (ls := [.tmp 16, .tmp 18]) rfl call154 hc) rfl rfl ?_
  rintro _ w ⟨rfl, hS⟩
  refine ⟨kp ⟨fun _ => hS, trivial⟩, ?_⟩
  obtain ⟨t28, hg29, h⟩ := h.bind
  have hc := tune_bound_clamp.ok hg29 hS
  refine RP.e 19 rfl (OW.callF (ls := [.tmp 21, .tmp 23]) rfl call154 hc) rfl rfl ?_
  rintro _ w ⟨rfl, hS⟩
  refine ⟨kp ⟨fun _ => hS, trivial⟩, ?_⟩
  obtain ⟨t30, hg31, h⟩ := h.bind
  have hc := tune_bound_clamp.ok hg31 hS
  refine RP.e 24 rfl (OW.callF (ls := [.tmp 26, .tmp 28]) rfl call154 hc) rfl rfl ?_
  rintro _ w ⟨rfl, hS⟩
  refine ⟨kp ⟨(by intro hx; cases hx), trivial⟩, ?_⟩
  refine rq [0] hS ?_
  refine it (RP.e0 26 rfl (OW.store (vs := [iV t22, iV t24, iV t26, iV t28, iV t30]) 1 hS rfl rfl rfl rfl sizeOf36 rfl rfl rfl rfl) rfl ?_)
  rintro _ w ⟨rfl, hS⟩
  have hS : St B w (_ :: Cl _ [_, _, _, _, _] _ :: _ :: l) hf := hS
  refine ⟨kp ⟨(by intro hx; cases hx), trivial⟩, ?_⟩
  refine RP.nil (tr ?_)
  cases h.some
  refine rz [1] results129 hS ?_
  exact it ⟨rfl, hS.d0.d0.d0⟩
def log_Log_Every.f (a2 : log_Log) (a3 : Int) : Option (Int × log_Log) := ((log_Log_none.f a2).bind fun t29 => (if t29 = true then some (7, a2) else (if a3 < 1 then some (1, a2) else (if 1024 < a3 then some (1, a2) else some (0, ({ a2 with every := a3 } : log_Log))))))
theorem log_Log_Every.ok {a2 : log_Log} {a3 : Int} {b1 : Nat} {r : Int × log_Log} (h : log_Log_Every.f a2 a3 = some r) (hS : St B w (O_log_Log hf a2 b1 :: l) hf) :
    Calls prog 131 #[pV b1, iV a3] w (Ret fun v w => v = iV r.1 ∧ St B w (O_log_Log hf r.2 b1 :: l) hf) := by
  have h := Holds.of h
  refine en func131 rfl ntmps131 rfl (sr (pn 1 rfl (ln (RC.seq (RC.block (sr (pn 1 rfl (cF (fun _ hg => log_Log_none.ok hg hS) call136 h rfl rfl rfl ?_))))))))
  rintro t29 h _ w ⟨rfl, hS⟩
  refine pn 1 rfl (ln ?_)
  refine RC.iteB 5 rfl h (fun hc31 h => ?_) fun hc31 h => ?_
  next =>
   refine jtr (pn 1 rfl (lr (ir ?_)))
   cases h.some
   exact rt results131 rfl ⟨rfl, hS⟩
  refine jf (sr (pn 3 rfl ?_))
  refine RL.iteP 11 rfl h (fun hc32 h => ?_) fun hc32 h => ?_
  next =>
   refine pn 4 rfl (ln (jtr (pn 1 rfl (lr (ir ?_)))))
   cases h.some
   exact rt results131 rfl ⟨rfl, hS⟩
  refine pn 4 rfl (ln ?_)
  refine RC.iteP 8 rfl h (fun hc33 h => ?_) fun hc33 h => ?_
  next =>
   refine jtr (pn 1 rfl (lr (ir ?_)))
   cases h.some
   exact rt results131 rfl ⟨rfl, hS⟩
  refine jf (RC.skip (RQ.inB_n (tsr (r0 4 rfl ?_))))
  obtain ⟨A34, c35, A37, c38, A40, c41, cs42, hr36, hr39, hx43, hS⟩ := O_log_Log.o hS
  refine rr [1] hS ?_
  refine it fun w hS => lnsr (pn 1 rfl (lr ?_))
  have hS := O_log_Log.c (x := ({ a2 with every := a3 } : log_Log)) hr36 hr39 hx43 hS
  cases h.some
  exact rt results131 rfl ⟨rfl, hS⟩
def calendar_New.f (a1 : Int) : Option ((Int) ⊕ (calendar_Calendar × Int)) := (if a1 < 1 then some (.inl 1) else some (.inr (((⟨a1, ([] : List (Int × List api_Message)), 0⟩ : calendar_Calendar), 0))))
theorem calendar_New.ok {a1 : Int} {r : (Int) ⊕ (calendar_Calendar × Int)} (h : calendar_New.f a1 = some r) (hS : St B w (l) hf) :
    Calls prog 88 #[iV a1] w (Ret fun v w => match (generalizing := false) r with | .inl r_ => v = .tuple #[.pointer none, iV r_] ∧ St B w (l) hf | .inr (r_) => ∃ (b_1 : Nat), v = .tuple #[pV b_1, iV r_.2] ∧ St B w (O_calendar_Calendar hf r_.1 b_1 :: l) hf) := by
  have h := Holds.of h
  refine en func88 rfl ntmps88 rfl (sr (pn 2 rfl (ln (RC.seq (sr (pn 2 rfl (ln ?_)))))))
  refine RC.iteP 5 rfl h (fun hc7 h => ?_) fun hc7 h => ?_
  next =>
   refine jtr (pn 2 rfl (lr (RQ.ret ?_)))
   cases h.some
   exact rt results88 rfl ⟨rfl, hS⟩
  refine jfs (sr (pn 1 rfl (RL.e (OW.makeMapF (kv := (Value.int .i64)) (vv := hV) hS) rfl rfl ?_)))
  rintro _ w ⟨b8, rfl, hS⟩
  refine rr [0, 0, 0, 0] hS ?_
  refine fun b9 => it fun w hS => lr ?_
  have hS := O_calendar_Calendar.c (x := (⟨a1, ([] : List (Int × List api_Message)), 0⟩ : calendar_Calendar)) RowsW.nil hS
  cases h.some
  exact rt results88 rfl ⟨b9, rfl, hS⟩
def ladder_New.f (a1 : Int) : Option ((Int) ⊕ (ladder_Ladder × Int)) := (if a1 < 1 then some (.inl 1) else (if 16384 < a1 then some (.inl 1) else some (.inr (((⟨(⟨([] : List api_Message)⟩ : ladder_bottom), a1, ([] : List (List api_Message))⟩ : ladder_Ladder), 0)))))
theorem ladder_New.ok {a1 : Int} {r : (Int) ⊕ (ladder_Ladder × Int)} (h : ladder_New.f a1 = some r) (hS : St B w (l) hf) :
    Calls prog 89 #[iV a1] w (Ret fun v w => match (generalizing := false) r with | .inl r_ => v = .tuple #[.pointer none, iV r_] ∧ St B w (l) hf | .inr (r_) => ∃ (b_1 : Nat), v = .tuple #[pV b_1, iV r_.2] ∧ St B w (O_ladder_Ladder hf r_.1 b_1 :: l) hf) := by
  have h := Holds.of h
  refine en func89 rfl ntmps89 rfl (sr (pn 2 rfl (ln (RC.seq (sr (pn 3 rfl ?_))))))
  refine RL.iteP 6 rfl h (fun hc10 h => ?_) fun hc10 h => ?_
  next =>
   refine pn 3 rfl (ln (jtr (pn 2 rfl (lr (RQ.ret ?_)))))
   cases h.some
   exact rt results89 rfl ⟨rfl, hS⟩
  refine pn 3 rfl (ln ?_)
  refine RC.iteP 9 rfl h (fun hc11 h => ?_) fun hc11 h => ?_
  next =>
   refine jtr (pn 2 rfl (lr (RQ.ret ?_)))
   cases h.some
   exact rt results89 rfl ⟨rfl, hS⟩
  refine jfs (sr (rr [0, 0, 0, 0, 0] hS ?_))
  refine fun b12 => it fun w hS => lr ?_
  have hS := hS.nilSl E_api_Message 115
  have hS := hS.nilSl FSl 399
  have hS := hS.sepNil (O := ORw E_api_Message 115)
  have hl13 := hS.sepLen
  have hS := O_ladder_Ladder.c (x := (⟨(⟨([] : List api_Message)⟩ : ladder_bottom), a1, ([] : List (List api_Message))⟩ : ladder_Ladder)) (hs_5 := ([] : List (Option Addr × Nat × Nat))) hS.p1.p2.p3
  cases h.some
  exact rt results89 rfl ⟨b12, rfl, hS⟩
end
end Go.Proofs.Gx
