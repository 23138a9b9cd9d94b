/-
  The walks of functions, each with what it computes: printed by wip/gx.py.
-/
import Derived.Test.YtioiognklelipaaDoorW0
import Derived.Test.YtioiognklelipaaDoorW1
set_option linter.unusedVariables false
set_option maxRecDepth 100000
set_option maxHeartbeats 4000000
namespace Go.Proofs.Gx
open Go.Sl Tryd
variable {B : Base} {w : World} {l : List HProp} {hf : Hp}
/-! ### (*isochron/log.Log).Last: function 30 -/
noncomputable def log_Log_Last.f (a2 : log_Log) : Option (api_Message × Bool) := ((log_Log_none.f a2).bind fun t35 => (if t35 = true then some ((⟨(⟨0, 0, 0⟩ : api_Key), 0, 0, 0, false⟩ : api_Message), false) else (if (a2.l.length : Int) = 0 then some ((⟨(⟨0, 0, 0⟩ : api_Key), 0, 0, 0, false⟩ : api_Message), false) else (if 0 ≤ IntKind.i64.wrap ((a2.l.length : Int) - 1) ∧ IntKind.i64.wrap ((a2.l.length : Int) - 1) < (a2.l.length : Int) then some ((⟨((nth a2.l (IntKind.i64.wrap ((a2.l.length : Int) - 1))).event).Key, ((nth a2.l (IntKind.i64.wrap ((a2.l.length : Int) - 1))).event).To, ((nth a2.l (IntKind.i64.wrap ((a2.l.length : Int) - 1))).event).Value, ((nth a2.l (IntKind.i64.wrap ((a2.l.length : Int) - 1))).event).Uid, (((nth a2.l (IntKind.i64.wrap ((a2.l.length : Int) - 1))).event).Anti)⟩ : api_Message), true) else none))))
theorem log_Log_Last.ok {a2 : log_Log} {b1 : Nat} {A3 : Option Addr} {c4 : Nat} {A6 : Option Addr} {c7 : Nat} {A9 : Option Addr} {c10 : Nat} {cs11 : List Value} (hr5 : SlR E_api_Instr.rep hf A3 c4 a2.w.Prog) (hr8 : SlR E_api_Link.rep hf A6 c7 a2.w.Links) (hx12 : RepL R_log_done hf cs11 a2.l) {r : api_Message × Bool} (h : log_Log_Last.f a2 = some r) (hS : St B w (Cl b1 [.slice A3 a2.w.Prog.length c4, .int .i64 a2.w.Self, .slice A6 a2.w.Links.length c7, .int .u64 a2.w.Seed, .bool a2.made, .int .i64 a2.state.Regs.c0, .int .i64 a2.state.Regs.c1, .int .i64 a2.state.Regs.c2, .int .i64 a2.state.Regs.c3, .int .i64 a2.state.Regs.c4, .int .i64 a2.state.Regs.c5, .int .i64 a2.state.Regs.c6, .int .i64 a2.state.Regs.c7, .int .i64 a2.state.Draws, .int .i64 a2.state.Sent, .int .i64 a2.every, .slice A9 a2.l.length c10, .bool a2.stuck] 58 :: OSl 67 10 (.slice A9 a2.l.length c10) a2.l.length cs11 :: l) hf) :
    Calls prog 30 #[.pointer (some ⟨b1, 0, none⟩)] w (Ret fun v w => v = .tuple #[.agg #[.int .i64 r.1.Key.Time, .int .i64 r.1.Key.From, .int .i64 r.1.Key.Seq, .int .i64 r.1.To, .int .i64 r.1.Value, .int .i64 r.1.Uid, .bool r.1.Anti], .bool r.2] ∧ St B w (Cl b1 [.slice A3 a2.w.Prog.length c4, .int .i64 a2.w.Self, .slice A6 a2.w.Links.length c7, .int .u64 a2.w.Seed, .bool a2.made, .int .i64 a2.state.Regs.c0, .int .i64 a2.state.Regs.c1, .int .i64 a2.state.Regs.c2, .int .i64 a2.state.Regs.c3, .int .i64 a2.state.Regs.c4, .int .i64 a2.state.Regs.c5, .int .i64 a2.state.Regs.c6, .int .i64 a2.state.Regs.c7, .int .i64 a2.state.Draws, .int .i64 a2.state.Sent, .int .i64 a2.every, .slice A9 a2.l.length c10, .bool a2.stuck] 58 :: OSl 67 10 (.slice A9 a2.l.length c10) a2.l.length cs11 :: l) hf) := by
  have h := Holds.of h
  refine en func30 rfl ntmps30 rfl (sr (al hS zeroValue30 rfl rfl rfl fun b30 w hS => pn 1 rfl (ln (RC.seq (sr (pn 1 rfl (cF (fun _ hg => log_Log_none.ok hr5 hr8 hx12 hg hS.p2.p2) call20 h rfl rfl rfl ?_)))))))
  rintro t35 h _ w ⟨rfl, hS⟩
  refine pn 1 rfl ?_
  refine RL.iteB 6 rfl h (fun hc37 h => ?_) fun hc37 h => ?_
  next =>
   refine pn 7 rfl (ln (RC.condT rfl (sr (RL.s (Vl.build (v := .agg #[.int .i64 0, .int .i64 0, .int .i64 0, .int .i64 0, .int .i64 0, .int .i64 0, .bool false]) (parts := []) rfl (by kernel_rfl)) rfl (RL.e0 (OW.store (vs := [.int .i64 0, .int .i64 0, .int .i64 0, .int .i64 0, .int .i64 0, .int .i64 0, .bool false]) 2 hS rfl rfl rfl rfl sizeOf30 rfl rfl rfl rfl) rfl ?_)))))
   rintro _ w ⟨rfl, hS⟩
   have hS : St B w (_ :: _ :: Cl _ [_, _, _, _, _, _, _] _ :: l) hf := hS
   refine pn 1 rfl (lr (RQ.ret ?_))
   obtain rfl := h.some
   refine RQ.ret0 (vs := [.agg #[.int .i64 0, .int .i64 0, .int .i64 0, .int .i64 0, .int .i64 0, .int .i64 0, .bool false], .bool false]) results30 ⟨⟨_, rfl, run_loadVarA (vs := [.int .i64 0, .int .i64 0, .int .i64 0, .int .i64 0, .int .i64 0, .int .i64 0, .bool false]) isAgg30 sizeOf30 rfl (hS.cellsAt 2 rfl rfl)⟩, rfl, trivial⟩ ?_
   exact ⟨rfl, hS.d2⟩
  next =>
   refine pn 2 rfl (RL.sg (Vl.fa 16 underlying58 rfl sizeOf56 rfl rfl) rfl rfl (RL.sg (Vl.ld 0 hS isAgg56 rfl rfl rfl) rfl rfl (RL.sg (Vl.lenSl underlying56 rfl) rfl rfl (pn 2 rfl (ln ?_)))))
   refine RC.iteP 13 rfl h (fun hc38 h => ?_) fun hc38 h => ?_
   next =>
    refine RC.condT rfl (sr (RL.s (Vl.build (v := .agg #[.int .i64 0, .int .i64 0, .int .i64 0, .int .i64 0, .int .i64 0, .int .i64 0, .bool false]) (parts := []) rfl (by kernel_rfl)) rfl (RL.e0 (OW.store (vs := [.int .i64 0, .int .i64 0, .int .i64 0, .int .i64 0, .int .i64 0, .int .i64 0, .bool false]) 2 hS rfl rfl rfl rfl sizeOf30 rfl rfl rfl rfl) rfl ?_)))
    rintro _ w ⟨rfl, hS⟩
    have hS : St B w (_ :: _ :: Cl _ [_, _, _, _, _, _, _] _ :: l) hf := hS
    refine pn 1 rfl (lr (RQ.ret ?_))
    obtain rfl := h.some
    refine RQ.ret0 (vs := [.agg #[.int .i64 0, .int .i64 0, .int .i64 0, .int .i64 0, .int .i64 0, .int .i64 0, .bool false], .bool false]) results30 ⟨⟨_, rfl, run_loadVarA (vs := [.int .i64 0, .int .i64 0, .int .i64 0, .int .i64 0, .int .i64 0, .int .i64 0, .bool false]) isAgg30 sizeOf30 rfl (hS.cellsAt 2 rfl rfl)⟩, rfl, trivial⟩ ?_
    exact ⟨rfl, hS.d2⟩
   next =>
    refine RC.condF rfl (sk (RC.seq (RC.planS (plD [0, 3, 6, 10, 14, 17, 20, 23, 26, 29, 32, 35, 38, 41, 44]) [10, 11, 12, 13, 14] hS (fun w hS => hS) follows rfl (by kernel_rfl) (NoTmp.then NoTmp.body) fun w hS => pp 2 rfl (RP.s0 2 rfl (fun w => Vl.fa 16 underlying58 rfl sizeOf56 rfl rfl) rfl (RP.s 0 3 rfl rfl hS (fun w hS => Vl.ld 0 hS isAgg56 rfl rfl rfl) rfl (RP.v1 4 rfl (Vl.move rfl) rfl rfl (RP.v1 5 rfl (Vl.nilCheck rfl) rfl rfl (RP.v1 6 rfl (Vl.fa 16 underlying58 rfl sizeOf56 rfl rfl) rfl rfl (RP.v1 7 rfl (Vl.ld 0 hS isAgg56 rfl rfl rfl) rfl rfl (RP.v1 8 rfl (Vl.lenSl underlying56 rfl) rfl rfl (RP.v1 9 rfl (Vl.int rfl rfl rfl) rfl rfl ?_)))))))))))
    obtain ⟨⟨hq39, hq40⟩, h⟩ := h.req
    refine RP.v1 10 rfl (Vl.indexOwn 1 hS rfl underlying56 sizeOf67 rfl rfl hq39 hq40) rfl rfl (RP.v1 11 rfl (Vl.fieldAddr (a'' := (ad A9).add ((IntKind.i64.wrap ((a2.l.length : Int) - 1)).toNat * 10 + 0)) underlying67 rfl sizeOf30 rfl (add_add _ _ _)) rfl rfl ?_)
    obtain ⟨_, ⟨A42, c43, b45, rfl, hr44, hr46⟩, hl41⟩ := RepL.elem R_log_done_ok hx12 hq39 hq40
    refine RP.v1 12 rfl (Vl.loadA (vs := [.int .i64 ((((nth a2.l (IntKind.i64.wrap ((a2.l.length : Int) - 1))).event).Key).Time), .int .i64 ((((nth a2.l (IntKind.i64.wrap ((a2.l.length : Int) - 1))).event).Key).From), .int .i64 ((((nth a2.l (IntKind.i64.wrap ((a2.l.length : Int) - 1))).event).Key).Seq), .int .i64 (((nth a2.l (IntKind.i64.wrap ((a2.l.length : Int) - 1))).event).To), .int .i64 (((nth a2.l (IntKind.i64.wrap ((a2.l.length : Int) - 1))).event).Value), .int .i64 (((nth a2.l (IntKind.i64.wrap ((a2.l.length : Int) - 1))).event).Uid), .bool (((nth a2.l (IntKind.i64.wrap ((a2.l.length : Int) - 1))).event).Anti)]) isAgg30 sizeOf30 rfl rfl (hS.elemCells 1 rfl hl41 (off := 0) rfl)) rfl rfl (RP.e0 13 rfl (OW.store (vs := [.int .i64 ((((nth a2.l (IntKind.i64.wrap ((a2.l.length : Int) - 1))).event).Key).Time), .int .i64 ((((nth a2.l (IntKind.i64.wrap ((a2.l.length : Int) - 1))).event).Key).From), .int .i64 ((((nth a2.l (IntKind.i64.wrap ((a2.l.length : Int) - 1))).event).Key).Seq), .int .i64 (((nth a2.l (IntKind.i64.wrap ((a2.l.length : Int) - 1))).event).To), .int .i64 (((nth a2.l (IntKind.i64.wrap ((a2.l.length : Int) - 1))).event).Value), .int .i64 (((nth a2.l (IntKind.i64.wrap ((a2.l.length : Int) - 1))).event).Uid), .bool (((nth a2.l (IntKind.i64.wrap ((a2.l.length : Int) - 1))).event).Anti)]) 2 hS rfl rfl rfl rfl sizeOf30 rfl rfl rfl rfl) rfl ?_)
    rintro _ w ⟨rfl, hS⟩
    have hS : St B w (_ :: _ :: Cl _ [_, _, _, _, _, _, _] _ :: l) hf := hS
    refine ⟨kp ⟨(by intro hx; cases hx), trivial⟩, ?_⟩
    refine RP.v1 14 rfl (Vl.assign rfl) rfl rfl (RP.nil (tr ?_))
    obtain rfl := h.some
    refine RQ.ret0 (vs := [.agg #[.int .i64 ((((nth a2.l (IntKind.i64.wrap ((a2.l.length : Int) - 1))).event).Key).Time), .int .i64 ((((nth a2.l (IntKind.i64.wrap ((a2.l.length : Int) - 1))).event).Key).From), .int .i64 ((((nth a2.l (IntKind.i64.wrap ((a2.l.length : Int) - 1))).event).Key).Seq), .int .i64 (((nth a2.l (IntKind.i64.wrap ((a2.l.length : Int) - 1))).event).To), .int .i64 (((nth a2.l (IntKind.i64.wrap ((a2.l.length : Int) - 1))).event).Value), .int .i64 (((nth a2.l (IntKind.i64.wrap ((a2.l.length : Int) - 1))).event).Uid), .bool (((nth a2.l (IntKind.i64.wrap ((a2.l.length : Int) - 1))).event).Anti)], .bool true]) results30 ⟨⟨_, rfl, run_loadVarA (vs := [.int .i64 ((((nth a2.l (IntKind.i64.wrap ((a2.l.length : Int) - 1))).event).Key).Time), .int .i64 ((((nth a2.l (IntKind.i64.wrap ((a2.l.length : Int) - 1))).event).Key).From), .int .i64 ((((nth a2.l (IntKind.i64.wrap ((a2.l.length : Int) - 1))).event).Key).Seq), .int .i64 (((nth a2.l (IntKind.i64.wrap ((a2.l.length : Int) - 1))).event).To), .int .i64 (((nth a2.l (IntKind.i64.wrap ((a2.l.length : Int) - 1))).event).Value), .int .i64 (((nth a2.l (IntKind.i64.wrap ((a2.l.length : Int) - 1))).event).Uid), .bool (((nth a2.l (IntKind.i64.wrap ((a2.l.length : Int) - 1))).event).Anti)]) isAgg30 sizeOf30 rfl (hS.cellsAt 2 rfl rfl)⟩, rfl, trivial⟩ ?_
    exact ⟨rfl, hS.d2⟩

/-! ### isochron/event.lane: function 24 -/
noncomputable def event_lane.f (a1 : Int) : Option (Bool) := (if 0 ≤ a1 then some (decide (a1 < 16)) else some false)
theorem event_lane.ok {a1 : Int} {r : Bool} (h : event_lane.f a1 = some r) (hS : St B w (l) hf) :
    Calls prog 24 #[.int .i64 a1] w (Ret fun v w => v = .bool r ∧ St B w (l) hf) := by
  have h := Holds.of h
  refine en func24 rfl ntmps24 rfl (sr (pn 1 rfl (lnsr (pn 3 rfl ?_))))
  refine RL.iteP 5 rfl h (fun hc3 h => ?_) fun hc3 h => ?_
  next =>
   refine pn 4 rfl (lr ?_)
   obtain rfl := h.some
   exact rt results24 rfl ⟨rfl, hS⟩
  next =>
   refine pn 4 rfl (lr ?_)
   obtain rfl := h.some
   exact rt results24 rfl ⟨rfl, hS⟩

/-! ### isochron/event.Check: function 9 -/
noncomputable def event_Check.f (a1 : api_Message) : Option (Int) := ((vtime_Valid.f a1.Key.Time).bind fun t19 => (if t19 = true then ((event_lane.f a1.Key.From).bind fun t22 => (if t22 = true then ((event_lane.f a1.To).bind fun t25 => (if t25 = true then (if 0 ≤ (if a1.Uid < a1.Key.Seq then a1.Uid else a1.Key.Seq) then some 0 else some 1) else some 1)) else (if a1.Key.From = (-1) then ((event_lane.f a1.To).bind fun t30 => (if t30 = true then (if 0 ≤ (if a1.Uid < a1.Key.Seq then a1.Uid else a1.Key.Seq) then some 0 else some 1) else some 1)) else some 1))) else some 1))
theorem event_Check.ok {a1 : api_Message} {r : Int} (h : event_Check.f a1 = some r) (hS : St B w (l) hf) :
    Calls prog 9 #[.agg #[.int .i64 a1.Key.Time, .int .i64 a1.Key.From, .int .i64 a1.Key.Seq, .int .i64 a1.To, .int .i64 a1.Value, .int .i64 a1.Uid, .bool a1.Anti]] w (Ret fun v w => v = .int .i64 r ∧ St B w (l) hf) := by
  have h := Holds.of h
  refine en func9 rfl ntmps9 rfl (sr (bx hS rfl rfl rfl rfl fun b18 w hS => pn 1 rfl (ln (RC.seq (sr (RL.s (Vl.fa 0 underlying30 rfl sizeOf28 rfl rfl) rfl (RL.s (Vl.fa 0 underlying28 rfl sizeOf2 rfl rfl) rfl (RL.s (Vl.ld 0 hS isAgg2 rfl rfl rfl) rfl (cF (fun _ hg => vtime_Valid.ok hg hS) call19 h rfl rfl rfl ?_)))))))))
  rintro t19 h _ w ⟨rfl, hS⟩
  refine pn 1 rfl ?_
  refine RL.iteB 7 rfl h (fun hc21 h => ?_) fun hc21 h => ?_
  next =>
   refine RL.sg (Vl.fa 0 underlying30 rfl sizeOf28 rfl rfl) rfl rfl (RL.sg (Vl.fa 1 underlying28 rfl sizeOf3 rfl rfl) rfl rfl (RL.sg (Vl.ld 0 hS isAgg3 rfl rfl rfl) rfl rfl (cF (fun _ hg => event_lane.ok hg hS) call24 h rfl rfl rfl ?_)))
   rintro t22 h _ w ⟨rfl, hS⟩
   refine pn 1 rfl ?_
   refine RL.iteB 12 rfl h (fun hc24 h => ?_) fun hc24 h => ?_
   next =>
    refine pn 7 rfl (RL.sg (Vl.fa 3 underlying30 rfl sizeOf3 rfl rfl) rfl rfl (RL.sg (Vl.ld 0 hS isAgg3 rfl rfl rfl) rfl rfl (cF (fun _ hg => event_lane.ok hg hS) call24 h rfl rfl rfl ?_)))
    rintro t25 h _ w ⟨rfl, hS⟩
    refine pn 2 rfl ?_
    refine RL.iteB 24 rfl h (fun hc27 h => ?_) fun hc27 h => ?_
    next =>
     refine RL.sg (Vl.fa 0 underlying30 rfl sizeOf28 rfl rfl) rfl rfl (RL.sg (Vl.fa 2 underlying28 rfl sizeOf3 rfl rfl) rfl rfl (RL.sg (Vl.ld 0 hS isAgg3 rfl rfl rfl) rfl rfl (RL.sg (Vl.fa 5 underlying30 rfl sizeOf3 rfl rfl) rfl rfl (RL.sg (Vl.ld 0 hS isAgg3 rfl rfl rfl) rfl rfl (RL.sg (Vl.min2 rfl rfl) rfl rfl (pn 2 rfl (ln ?_)))))))
     refine RC.iteP 32 rfl h (fun hc28 h => ?_) fun hc28 h => ?_
     next =>
      refine RC.condT rfl (sr (pn 1 rfl (lr (RQ.ret ?_))))
      obtain rfl := h.some
      exact rt results9 rfl ⟨rfl, hS.d0⟩
     next =>
      refine RC.condF rfl (sk (sr (pn 1 rfl (lr ?_))))
      obtain rfl := h.some
      exact rt results9 rfl ⟨rfl, hS.d0⟩
    next =>
     refine pn 8 rfl (ln (RC.condF rfl (sk (sr (pn 1 rfl (lr ?_))))))
     obtain rfl := h.some
     exact rt results9 rfl ⟨rfl, hS.d0⟩
   next =>
    refine RL.sg (Vl.fa 0 underlying30 rfl sizeOf28 rfl rfl) rfl rfl (RL.sg (Vl.fa 1 underlying28 rfl sizeOf3 rfl rfl) rfl rfl (RL.sg (Vl.ld 0 hS isAgg3 rfl rfl rfl) rfl rfl (pn 4 rfl ?_)))
    refine RL.iteP 19 rfl h (fun hc29 h => ?_) fun hc29 h => ?_
    next =>
     refine RL.sg (Vl.fa 3 underlying30 rfl sizeOf3 rfl rfl) rfl rfl (RL.sg (Vl.ld 0 hS isAgg3 rfl rfl rfl) rfl rfl (cF (fun _ hg => event_lane.ok hg hS) call24 h rfl rfl rfl ?_))
     rintro t30 h _ w ⟨rfl, hS⟩
     refine pn 2 rfl ?_
     refine RL.iteB 24 rfl h (fun hc32 h => ?_) fun hc32 h => ?_
     next =>
      refine RL.sg (Vl.fa 0 underlying30 rfl sizeOf28 rfl rfl) rfl rfl (RL.sg (Vl.fa 2 underlying28 rfl sizeOf3 rfl rfl) rfl rfl (RL.sg (Vl.ld 0 hS isAgg3 rfl rfl rfl) rfl rfl (RL.sg (Vl.fa 5 underlying30 rfl sizeOf3 rfl rfl) rfl rfl (RL.sg (Vl.ld 0 hS isAgg3 rfl rfl rfl) rfl rfl (RL.sg (Vl.min2 rfl rfl) rfl rfl (pn 2 rfl (ln ?_)))))))
      refine RC.iteP 32 rfl h (fun hc33 h => ?_) fun hc33 h => ?_
      next =>
       refine RC.condT rfl (sr (pn 1 rfl (lr (RQ.ret ?_))))
       obtain rfl := h.some
       exact rt results9 rfl ⟨rfl, hS.d0⟩
      next =>
       refine RC.condF rfl (sk (sr (pn 1 rfl (lr ?_))))
       obtain rfl := h.some
       exact rt results9 rfl ⟨rfl, hS.d0⟩
     next =>
      refine pn 8 rfl (ln (RC.condF rfl (sk (sr (pn 1 rfl (lr ?_))))))
      obtain rfl := h.some
      exact rt results9 rfl ⟨rfl, hS.d0⟩
    next =>
     refine pn 13 rfl (ln (RC.condF rfl (sk (sr (pn 1 rfl (lr ?_))))))
     obtain rfl := h.some
     exact rt results9 rfl ⟨rfl, hS.d0⟩
  next =>
   refine pn 25 rfl (ln (RC.condF rfl (sk (sr (pn 1 rfl (lr ?_))))))
   obtain rfl := h.some
   exact rt results9 rfl ⟨rfl, hS.d0⟩

/-! ### cmp.isNaN[int64]: function 75 -/
noncomputable def cmp_isNaN_int64.f (a1 : Int) : Option (Bool) := some (!decide (a1 = a1))
theorem cmp_isNaN_int64.ok {a1 : Int} {r : Bool} (h : cmp_isNaN_int64.f a1 = some r) (hS : St B w (l) hf) :
    Calls prog 75 #[.int .i64 a1] w (Ret fun v w => v = .bool r ∧ St B w (l) hf) := by
  have h := Holds.of h
  refine en func75 rfl ntmps75 rfl (sr (pn 1 rfl (lnsr (pn 4 rfl (lr ?_)))))
  obtain rfl := h.some
  exact rt results75 rfl ⟨rfl, hS⟩

/-! ### cmp.Compare[int64]: function 54 -/
noncomputable def cmp_Compare_int64.f (a1 a2 : Int) : Option (Int) := ((cmp_isNaN_int64.f a1).bind fun t16 => ((cmp_isNaN_int64.f a2).bind fun t18 => (if t16 = true then (if t18 = true then some 0 else some (-1)) else (if t18 = true then some 1 else (if a1 < a2 then some (-1) else (if a2 < a1 then some 1 else some 0))))))
theorem cmp_Compare_int64.ok {a1 a2 : Int} {r : Int} (h : cmp_Compare_int64.f a1 a2 = some r) (hS : St B w (l) hf) :
    Calls prog 54 #[.int .i64 a1, .int .i64 a2] w (Ret fun v w => v = .int .i64 r ∧ St B w (l) hf) := by
  have h := Holds.of h
  refine en func54 rfl ntmps54 rfl (sr (pn 1 rfl (lnsr (pn 1 rfl (cF (fun _ hg => cmp_isNaN_int64.ok hg hS) call75 h rfl rfl rfl ?_)))))
  rintro t16 h _ w ⟨rfl, hS⟩
  refine pn 1 rfl (lnsr (pn 1 rfl (cF (fun _ hg => cmp_isNaN_int64.ok hg hS) call75 h rfl rfl rfl ?_)))
  rintro t18 h _ w ⟨rfl, hS⟩
  refine pn 1 rfl (ln (RC.seq (sr (pn 1 rfl (ln ?_)))))
  refine RC.iteB 11 rfl h (fun hc22 h => ?_) fun hc22 h => ?_
  next =>
   refine RC.condT rfl (RC.seq (sr (pn 1 rfl (ln ?_))))
   refine RC.iteB 12 rfl h (fun hc23 h => ?_) fun hc23 h => ?_
   next =>
    refine RC.condT rfl (sr (pn 1 rfl (lr (RQ.ret (RQ.ret ?_)))))
    obtain rfl := h.some
    exact rt results54 rfl ⟨rfl, hS⟩
   next =>
    refine RC.condF rfl (sk (sr (pn 1 rfl (lr (RQ.ret ?_)))))
    obtain rfl := h.some
    exact rt results54 rfl ⟨rfl, hS⟩
  next =>
   refine RC.condF rfl (sk (RC.seq (sr (pn 1 rfl (ln ?_)))))
   refine RC.iteB 13 rfl h (fun hc25 h => ?_) fun hc25 h => ?_
   next =>
    refine RC.condT rfl (sr (pn 1 rfl (lr (RQ.ret ?_))))
    obtain rfl := h.some
    exact rt results54 rfl ⟨rfl, hS⟩
   next =>
    refine RC.condF rfl (sk (RC.seq (sr (pn 3 rfl (ln ?_)))))
    refine RC.iteP 16 rfl h (fun hc27 h => ?_) fun hc27 h => ?_
    next =>
     refine RC.condT rfl (sr (pn 1 rfl (lr (RQ.ret ?_))))
     obtain rfl := h.some
     exact rt results54 rfl ⟨rfl, hS⟩
    next =>
     refine RC.condF rfl (sk (RC.seq (sr (pn 3 rfl (ln ?_)))))
     refine RC.iteP 19 rfl h (fun hc28 h => ?_) fun hc28 h => ?_
     next =>
      refine RC.condT rfl (sr (pn 1 rfl (lr (RQ.ret ?_))))
      obtain rfl := h.some
      exact rt results54 rfl ⟨rfl, hS⟩
     next =>
      refine RC.condF rfl (sk (sr (pn 1 rfl (lr ?_))))
      obtain rfl := h.some
      exact rt results54 rfl ⟨rfl, hS⟩

/-! ### cmp.isNaN[int]: function 55 -/
noncomputable def cmp_isNaN_int.f (a1 : Int) : Option (Bool) := some (!decide (a1 = a1))
theorem cmp_isNaN_int.ok {a1 : Int} {r : Bool} (h : cmp_isNaN_int.f a1 = some r) (hS : St B w (l) hf) :
    Calls prog 55 #[.int .i64 a1] w (Ret fun v w => v = .bool r ∧ St B w (l) hf) := by
  have h := Holds.of h
  refine en func55 rfl ntmps55 rfl (sr (pn 1 rfl (lnsr (pn 4 rfl (lr ?_)))))
  obtain rfl := h.some
  exact rt results55 rfl ⟨rfl, hS⟩

/-! ### cmp.Compare[int]: function 46 -/
noncomputable def cmp_Compare_int.f (a1 a2 : Int) : Option (Int) := ((cmp_isNaN_int.f a1).bind fun t16 => ((cmp_isNaN_int.f a2).bind fun t18 => (if t16 = true then (if t18 = true then some 0 else some (-1)) else (if t18 = true then some 1 else (if a1 < a2 then some (-1) else (if a2 < a1 then some 1 else some 0))))))
theorem cmp_Compare_int.ok {a1 a2 : Int} {r : Int} (h : cmp_Compare_int.f a1 a2 = some r) (hS : St B w (l) hf) :
    Calls prog 46 #[.int .i64 a1, .int .i64 a2] w (Ret fun v w => v = .int .i64 r ∧ St B w (l) hf) := by
  have h := Holds.of h
  refine en func46 rfl ntmps46 rfl (sr (pn 1 rfl (lnsr (pn 1 rfl (cF (fun _ hg => cmp_isNaN_int.ok hg hS) call55 h rfl rfl rfl ?_)))))
  rintro t16 h _ w ⟨rfl, hS⟩
  refine pn 1 rfl (lnsr (pn 1 rfl (cF (fun _ hg => cmp_isNaN_int.ok hg hS) call55 h rfl rfl rfl ?_)))
  rintro t18 h _ w ⟨rfl, hS⟩
  refine pn 1 rfl (ln (RC.seq (sr (pn 1 rfl (ln ?_)))))
  refine RC.iteB 11 rfl h (fun hc22 h => ?_) fun hc22 h => ?_
  next =>
   refine RC.condT rfl (RC.seq (sr (pn 1 rfl (ln ?_))))
   refine RC.iteB 12 rfl h (fun hc23 h => ?_) fun hc23 h => ?_
   next =>
    refine RC.condT rfl (sr (pn 1 rfl (lr (RQ.ret (RQ.ret ?_)))))
    obtain rfl := h.some
    exact rt results46 rfl ⟨rfl, hS⟩
   next =>
    refine RC.condF rfl (sk (sr (pn 1 rfl (lr (RQ.ret ?_)))))
    obtain rfl := h.some
    exact rt results46 rfl ⟨rfl, hS⟩
  next =>
   refine RC.condF rfl (sk (RC.seq (sr (pn 1 rfl (ln ?_)))))
   refine RC.iteB 13 rfl h (fun hc25 h => ?_) fun hc25 h => ?_
   next =>
    refine RC.condT rfl (sr (pn 1 rfl (lr (RQ.ret ?_))))
    obtain rfl := h.some
    exact rt results46 rfl ⟨rfl, hS⟩
   next =>
    refine RC.condF rfl (sk (RC.seq (sr (pn 3 rfl (ln ?_)))))
    refine RC.iteP 16 rfl h (fun hc27 h => ?_) fun hc27 h => ?_
    next =>
     refine RC.condT rfl (sr (pn 1 rfl (lr (RQ.ret ?_))))
     obtain rfl := h.some
     exact rt results46 rfl ⟨rfl, hS⟩
    next =>
     refine RC.condF rfl (sk (RC.seq (sr (pn 3 rfl (ln ?_)))))
     refine RC.iteP 19 rfl h (fun hc28 h => ?_) fun hc28 h => ?_
     next =>
      refine RC.condT rfl (sr (pn 1 rfl (lr (RQ.ret ?_))))
      obtain rfl := h.some
      exact rt results46 rfl ⟨rfl, hS⟩
     next =>
      refine RC.condF rfl (sk (sr (pn 1 rfl (lr ?_))))
      obtain rfl := h.some
      exact rt results46 rfl ⟨rfl, hS⟩

/-! ### cmp.Or[int]: function 44 -/
noncomputable def cmp_Or_int.l2b (a1 : List Int) : Int → Option ((Int) ⊕ (Int))
  | (x30) => (if x30 < (a1.length : Int) then (if 0 ≤ x30 then (if nth a1 x30 = 0 then some (.inl (IntKind.i64.wrap (x30 + 1))) else some (.inr (nth a1 x30))) else none) else some (.inr 0))
noncomputable def cmp_Or_int.l2 (a1 : List Int) (s : Int) : Option (Int) := loopR (cmp_Or_int.l2b a1) s
noncomputable def cmp_Or_int.f (a1 : List Int) : Option (Int) := cmp_Or_int.l2 a1 (0)
theorem cmp_Or_int.ok {a1 : List Int} {A2 : Option Addr} {c3 : Nat} (hr4 : SlR ((FI .i64).rep) hf A2 c3 a1) {r : Int} (h : cmp_Or_int.f a1 = some r) (hS : St B w (l) hf) :
    Calls prog 44 #[.slice A2 a1.length c3] w (Ret fun v w => v = .int .i64 r ∧ St B w (l) hf) := by
  have h := Holds.of h
  refine en func44 rfl ntmps44 rfl (sr (pn 1 rfl (lnsr (pn 1 rfl (ln (RC.seq (sr (pn 1 rfl (RL.s (Vl.lenSl underlying142 rfl) rfl ?_)))))))))
  refine pn 1 rfl (ln (RC.block ?_))
  refine fun a ha => RC.loop (N := 18) (body := (cmp_Or_int.l2b a1)) (φ := (· = r)) (fun (s : Int) a w => ∃ (x30 : Int), s = (x30) ∧ Has 18 [(3, .int .i64 0), (6, .slice A2 a1.length c3), (7, .int .i64 (a1.length : Int)), (8, .int .i64 x30)] a ∧ St B w (l) hf) ?_ (s0 := (0)) h ⟨0, rfl, ha.to ⟨rfl, rfl, rfl, rfl, trivial⟩, hS⟩
  rintro G38 x30 a w ⟨_, rfl, ha, hS⟩ h
  revert a
  show RC _ _ _ _ _ _
  refine sr (pn 1 rfl (ln (RC.seq ?_)))
  refine RC.iteP 9 rfl h (fun hc40 h => ?_) fun hc40 h => ?_
  next =>
   refine RC.condT rfl (sk (RC.seq (RC.block (sr ?_))))
   obtain ⟨hq43, h⟩ := h.req
   refine RL.s (Vl.indexAddr underlying142 sizeOf3 rfl rfl ((hr4.2.world hS.sub).adr hq43 hc40) hq43 hc40 rfl) rfl (RL.s (Vl.load isAgg3 rfl ((hr4.2.world hS.sub).cell (j := 0) hq43 hc40 rfl)) rfl (pn 1 rfl (lnsr (pn 3 rfl (ln ?_)))))
   refine RC.iteN 14 rfl h (fun hc44 h => ?_) fun hc44 h => ?_
   next =>
    refine RC.condF rfl (RC.skip (RQ.inB_n (RQ.then_n (RC.region (pn 2 rfl (RL.nil ?_))))))
    exact fun a ha => ⟨(IntKind.i64.wrap (x30 + 1)), ⟨(IntKind.i64.wrap (x30 + 1)), rfl, ha.to ⟨rfl, rfl, rfl, rfl, trivial⟩, hS⟩, h.some⟩
   next =>
    refine RC.condT rfl (sr (pn 2 rfl (lr (RQ.inB_ret (RQ.ret ?_)))))
    have h := h.inrS
    refine RQ.ret (RQ.inB_ret (RQ.ret ?_))
    obtain rfl := h.some
    exact rt results44 rfl ⟨rfl, hS⟩
  next =>
   refine RC.condF rfl (RC.exit (RQ.exitT ?_))
   have h := h.inrS
   refine RQ.exitT (RQ.inB_hit (tsr (pn 2 rfl (lr ?_))))
   obtain rfl := h.some
   exact rt results44 rfl ⟨rfl, hS⟩

/-! ### isochron/event.Compare: function 45 -/
noncomputable def event_Compare.f (a1 a2 : api_Key) : Option (Int) := (if a1 = a2 then some 0 else ((cmp_Compare_int64.f a1.Time a2.Time).bind fun t24 => ((cmp_Compare_int.f a1.From a2.From).bind fun t26 => ((cmp_Compare_int.f a1.Seq a2.Seq).bind fun t28 => ((cmp_Or_int.f ([t24, t26, t28] : List Int)).bind fun t35 => some t35)))))
theorem event_Compare.ok {a1 a2 : api_Key} {r : Int} (h : event_Compare.f a1 a2 = some r) (hS : St B w (l) hf) :
    Calls prog 45 #[.agg #[.int .i64 a1.Time, .int .i64 a1.From, .int .i64 a1.Seq], .agg #[.int .i64 a2.Time, .int .i64 a2.From, .int .i64 a2.Seq]] w (Ret fun v w => v = .int .i64 r ∧ St B w (l) hf) := by
  have h := Holds.of h
  refine en func45 rfl ntmps45 rfl (sr (bx hS rfl rfl rfl rfl fun b20 w hS => bx hS rfl rfl rfl rfl fun b21 w hS => pn 1 rfl (ln (RC.seq (sr (RL.s (Vl.lw 1 hS isAgg28 sizeOf28 rfl rfl rfl) rfl (RL.s (Vl.lw 0 hS isAgg28 sizeOf28 rfl rfl rfl) rfl (RL.s (Vl.eqlS (run_eql_api_Key _ _ a1 a2) rfl rfl) rfl (ln ?_)))))))))
  refine RC.iteP 7 rfl h (fun hc23 h => ?_) fun hc23 h => ?_
  next =>
   refine RC.condT rfl (sr (pn 1 rfl (lr (RQ.ret ?_))))
   obtain rfl := h.some
   exact rt results45 rfl ⟨rfl, hS.d0.d0⟩
  next =>
   refine RC.condF rfl (sk (RC.seq (RC.planS (plD [0, 4, 6, 10, 15, 19, 21, 25, 30, 34, 36, 40, 14, 29, 44, 47, 50, 53]) [14, 15, 16, 17] hS (fun w hS => hS) follows rfl (by kernel_rfl) (NoTmp.then NoTmp.body) fun w hS => RP.s0 0 rfl (fun w => Vl.fa 0 underlying28 rfl sizeOf2 rfl rfl) rfl (RP.s 0 1 rfl rfl hS (fun w hS => Vl.ld 1 hS isAgg2 rfl rfl rfl) rfl (RP.s0 2 rfl (fun w => Vl.fa 0 underlying28 rfl sizeOf2 rfl rfl) rfl (RP.s 0 3 rfl rfl hS (fun w hS => Vl.ld 0 hS isAgg2 rfl rfl rfl) rfl (RP.s0 5 rfl (fun w => Vl.fa 1 underlying28 rfl sizeOf3 rfl rfl) rfl (RP.s 0 6 rfl rfl hS (fun w hS => Vl.ld 1 hS isAgg3 rfl rfl rfl) rfl (RP.s0 7 rfl (fun w => Vl.fa 1 underlying28 rfl sizeOf3 rfl rfl) rfl (RP.s 0 8 rfl rfl hS (fun w hS => Vl.ld 0 hS isAgg3 rfl rfl rfl) rfl (RP.s0 10 rfl (fun w => Vl.fa 2 underlying28 rfl sizeOf3 rfl rfl) rfl (RP.s 0 11 rfl rfl hS (fun w hS => Vl.ld 1 hS isAgg3 rfl rfl rfl) rfl (RP.s0 12 rfl (fun w => Vl.fa 2 underlying28 rfl sizeOf3 rfl rfl) rfl ?_)))))))))))))
   refine RP.s 0 13 rfl rfl hS (fun w hS => Vl.ld 0 hS isAgg3 rfl rfl rfl) rfl ?_
   obtain ⟨t24, hg25, h⟩ := h.bind
   have hc := cmp_Compare_int64.ok hg25 hS
   refine RP.e 4 rfl (OW.callF (ls := [.tmp 9, .tmp 11]) rfl call54 hc) rfl rfl ?_
   rintro _ w ⟨rfl, hS⟩
   refine ⟨kp ⟨fun _ => hS, trivial⟩, ?_⟩
   obtain ⟨t26, hg27, h⟩ := h.bind
   have hc := cmp_Compare_int.ok hg27 hS
   refine RP.e 9 rfl (OW.callF (ls := [.tmp 14, .tmp 16]) rfl call46 hc) rfl rfl ?_
   rintro _ w ⟨rfl, hS⟩
   refine ⟨kp ⟨fun _ => hS, trivial⟩, ?_⟩
   obtain ⟨t28, hg29, h⟩ := h.bind
   have hc := cmp_Compare_int.ok hg29 hS
   refine RP.e 14 rfl (OW.callF (ls := [.tmp 19, .tmp 21]) rfl call46 hc) rfl rfl ?_
   rintro _ w ⟨rfl, hS⟩
   refine ⟨kp ⟨(by intro hx; cases hx), trivial⟩, ?_⟩
   refine RP.e 15 rfl (OW.buildSlice (E := (FI .i64)) (xs := ([t24, t26, t28] : List Int)) (cs := [.int .i64 t24, .int .i64 t26, .int .i64 t28]) hS underlying142 zeroValue3 sizeOf3 (parts := [(0, .tmp 12), (1, .tmp 17), (2, .tmp 22)]) rfl rfl (by decide) (by decide) (by kernel_rfl) rfl) rfl rfl ?_
   rintro _ w ⟨b30, rfl, hS⟩
   refine ⟨kp ⟨(by intro hx; cases hx), trivial⟩, ?_⟩
   obtain ⟨hf34, hs32, hS, hr31, hb33⟩ := St.lendSl hS
   obtain ⟨t35, hg36, h⟩ := h.bind
   have hc := cmp_Or_int.ok hr31 hg36 hS
   refine RP.e 16 rfl (OW.callF (ls := [.tmp 23]) rfl call44 hc) rfl rfl ?_
   rintro _ w ⟨rfl, hS⟩
   have hS := hb33 _ _ hS
   have hS : St B w (_ :: _ :: _ :: l) hf := hS
   refine ⟨kp ⟨(by intro hx; cases hx), trivial⟩, ?_⟩
   refine RP.v1 17 rfl (Vl.assign rfl) rfl rfl (RP.nil (tr ?_))
   obtain rfl := h.some
   exact rt results45 rfl ⟨rfl, hS.d0.d0.d0⟩

/-! ### isochron/event.order: function 39 -/
noncomputable def event_order.f (a1 a2 : api_Message) : Option (Int) := ((event_Compare.f a1.Key a2.Key).bind fun t18 => ((cmp_Compare_int.f a1.Uid a2.Uid).bind fun t20 => ((cmp_Or_int.f ([t18, t20] : List Int)).bind fun t27 => some t27)))
theorem event_order.ok {a1 a2 : api_Message} {r : Int} (h : event_order.f a1 a2 = some r) (hS : St B w (l) hf) :
    Calls prog 39 #[.agg #[.int .i64 a1.Key.Time, .int .i64 a1.Key.From, .int .i64 a1.Key.Seq, .int .i64 a1.To, .int .i64 a1.Value, .int .i64 a1.Uid, .bool a1.Anti], .agg #[.int .i64 a2.Key.Time, .int .i64 a2.Key.From, .int .i64 a2.Key.Seq, .int .i64 a2.To, .int .i64 a2.Value, .int .i64 a2.Uid, .bool a2.Anti]] w (Ret fun v w => v = .int .i64 r ∧ St B w (l) hf) := by
  have h := Holds.of h
  refine en func39 rfl ntmps39 rfl (sr (bx hS rfl rfl rfl rfl fun b16 w hS => bx hS rfl rfl rfl rfl fun b17 w hS => pn 1 rfl (ln (RC.seq (RC.planS (plD [0, 4, 6, 10, 15, 19, 21, 25, 14, 29, 32, 35, 38]) [9, 10, 11, 12] hS (fun w hS => hS) follows rfl (by kernel_rfl) (NoTmp.then NoTmp.body) fun w hS => RP.s0 0 rfl (fun w => Vl.fa 0 underlying30 rfl sizeOf28 rfl rfl) rfl (RP.s 0 1 rfl rfl hS (fun w hS => Vl.loadA (vs := [.int .i64 a1.Key.Time, .int .i64 a1.Key.From, .int .i64 a1.Key.Seq]) isAgg28 sizeOf28 rfl rfl (hS.cellsAt 1 rfl rfl)) rfl (RP.s0 2 rfl (fun w => Vl.fa 0 underlying30 rfl sizeOf28 rfl rfl) rfl (RP.s 0 3 rfl rfl hS (fun w hS => Vl.loadA (vs := [.int .i64 a2.Key.Time, .int .i64 a2.Key.From, .int .i64 a2.Key.Seq]) isAgg28 sizeOf28 rfl rfl (hS.cellsAt 0 rfl rfl)) rfl (RP.s0 5 rfl (fun w => Vl.fa 5 underlying30 rfl sizeOf3 rfl rfl) rfl (RP.s 0 6 rfl rfl hS (fun w hS => Vl.ld 1 hS isAgg3 rfl rfl rfl) rfl ?_))))))))))
  refine RP.s0 7 rfl (fun w => Vl.fa 5 underlying30 rfl sizeOf3 rfl rfl) rfl (RP.s 0 8 rfl rfl hS (fun w hS => Vl.ld 0 hS isAgg3 rfl rfl rfl) rfl ?_)
  obtain ⟨t18, hg19, h⟩ := h.bind
  have hc := event_Compare.ok hg19 hS
  refine RP.e 4 rfl (OW.callF (ls := [.tmp 6, .tmp 8]) rfl call45 hc) rfl rfl ?_
  rintro _ w ⟨rfl, hS⟩
  refine ⟨kp ⟨fun _ => hS, trivial⟩, ?_⟩
  obtain ⟨t20, hg21, h⟩ := h.bind
  have hc := cmp_Compare_int.ok hg21 hS
  refine RP.e 9 rfl (OW.callF (ls := [.tmp 11, .tmp 13]) rfl call46 hc) rfl rfl ?_
  rintro _ w ⟨rfl, hS⟩
  refine ⟨kp ⟨(by intro hx; cases hx), trivial⟩, ?_⟩
  refine RP.e 10 rfl (OW.buildSlice (E := (FI .i64)) (xs := ([t18, t20] : List Int)) (cs := [.int .i64 t18, .int .i64 t20]) hS underlying142 zeroValue3 sizeOf3 (parts := [(0, .tmp 9), (1, .tmp 14)]) rfl rfl (by decide) (by decide) (by kernel_rfl) rfl) rfl rfl ?_
  rintro _ w ⟨b22, rfl, hS⟩
  refine ⟨kp ⟨(by intro hx; cases hx), trivial⟩, ?_⟩
  obtain ⟨hf26, hs24, hS, hr23, hb25⟩ := St.lendSl hS
  obtain ⟨t27, hg28, h⟩ := h.bind
  have hc := cmp_Or_int.ok hr23 hg28 hS
  refine RP.e 11 rfl (OW.callF (ls := [.tmp 15]) rfl call44 hc) rfl rfl ?_
  rintro _ w ⟨rfl, hS⟩
  have hS := hb25 _ _ hS
  have hS : St B w (_ :: _ :: _ :: l) hf := hS
  refine ⟨kp ⟨(by intro hx; cases hx), trivial⟩, ?_⟩
  refine RP.v1 12 rfl (Vl.assign rfl) rfl rfl (RP.nil (tr ?_))
  obtain rfl := h.some
  exact rt results39 rfl ⟨rfl, hS.d0.d0.d0⟩

/-! ### isochron/event.Before: function 31 -/
noncomputable def event_Before.f (a1 a2 : api_Message) : Option (Bool) := ((event_order.f a1 a2).bind fun t9 => some (decide (t9 < 0)))
theorem event_Before.ok {a1 a2 : api_Message} {r : Bool} (h : event_Before.f a1 a2 = some r) (hS : St B w (l) hf) :
    Calls prog 31 #[.agg #[.int .i64 a1.Key.Time, .int .i64 a1.Key.From, .int .i64 a1.Key.Seq, .int .i64 a1.To, .int .i64 a1.Value, .int .i64 a1.Uid, .bool a1.Anti], .agg #[.int .i64 a2.Key.Time, .int .i64 a2.Key.From, .int .i64 a2.Key.Seq, .int .i64 a2.To, .int .i64 a2.Value, .int .i64 a2.Uid, .bool a2.Anti]] w (Ret fun v w => v = .bool r ∧ St B w (l) hf) := by
  have h := Holds.of h
  refine en func31 rfl ntmps31 rfl (sr (bx hS rfl rfl rfl rfl fun b7 w hS => bx hS rfl rfl rfl rfl fun b8 w hS => pn 1 rfl (lnsr (RL.s (Vl.lw 1 hS isAgg30 sizeOf30 rfl rfl rfl) rfl (RL.s (Vl.lw 0 hS isAgg30 sizeOf30 rfl rfl rfl) rfl (cF (fun _ hg => event_order.ok hg hS) call39 h rfl rfl rfl ?_))))))
  rintro t9 h _ w ⟨rfl, hS⟩
  refine pn 2 rfl (lr ?_)
  obtain rfl := h.some
  exact rt results31 rfl ⟨rfl, hS.d0.d0⟩

/-! ### (*isochron/log.Log).may: function 21 -/
noncomputable def log_Log_may.f (a2 : log_Log) (a13 : api_Message) (a14 : Int) : Option (Int) := ((log_Log_Last.f a2).bind fun (y38, y39) => ((event_Check.f a13).bind fun t41 => (if t41 = 0 then (if a13.Anti = true then some 1 else (if a14 < 0 then some 1 else (if 1099511627776 < a14 then some 1 else (if y39 = true then ((event_Before.f y38 a13).bind fun t48 => (if t48 = true then (if a2.stuck = true then some 5 else (if 16384 ≤ (a2.l.length : Int) then some 9 else some 0)) else some 1)) else (if a2.stuck = true then some 5 else (if 16384 ≤ (a2.l.length : Int) then some 9 else some 0)))))) else some 1)))
theorem log_Log_may.ok {a2 : log_Log} {a13 : api_Message} {a14 : Int} {b1 : Nat} {A3 : Option Addr} {c4 : Nat} {A6 : Option Addr} {c7 : Nat} {A9 : Option Addr} {c10 : Nat} {cs11 : List Value} (hr5 : SlR E_api_Instr.rep hf A3 c4 a2.w.Prog) (hr8 : SlR E_api_Link.rep hf A6 c7 a2.w.Links) (hx12 : RepL R_log_done hf cs11 a2.l) {r : Int} (h : log_Log_may.f a2 a13 a14 = some r) (hS : St B w (Cl b1 [.slice A3 a2.w.Prog.length c4, .int .i64 a2.w.Self, .slice A6 a2.w.Links.length c7, .int .u64 a2.w.Seed, .bool a2.made, .int .i64 a2.state.Regs.c0, .int .i64 a2.state.Regs.c1, .int .i64 a2.state.Regs.c2, .int .i64 a2.state.Regs.c3, .int .i64 a2.state.Regs.c4, .int .i64 a2.state.Regs.c5, .int .i64 a2.state.Regs.c6, .int .i64 a2.state.Regs.c7, .int .i64 a2.state.Draws, .int .i64 a2.state.Sent, .int .i64 a2.every, .slice A9 a2.l.length c10, .bool a2.stuck] 58 :: OSl 67 10 (.slice A9 a2.l.length c10) a2.l.length cs11 :: l) hf) :
    Calls prog 21 #[.pointer (some ⟨b1, 0, none⟩), .agg #[.int .i64 a13.Key.Time, .int .i64 a13.Key.From, .int .i64 a13.Key.Seq, .int .i64 a13.To, .int .i64 a13.Value, .int .i64 a13.Uid, .bool a13.Anti], .int .i64 a14] w (Ret fun v w => v = .int .i64 r ∧ St B w (Cl b1 [.slice A3 a2.w.Prog.length c4, .int .i64 a2.w.Self, .slice A6 a2.w.Links.length c7, .int .u64 a2.w.Seed, .bool a2.made, .int .i64 a2.state.Regs.c0, .int .i64 a2.state.Regs.c1, .int .i64 a2.state.Regs.c2, .int .i64 a2.state.Regs.c3, .int .i64 a2.state.Regs.c4, .int .i64 a2.state.Regs.c5, .int .i64 a2.state.Regs.c6, .int .i64 a2.state.Regs.c7, .int .i64 a2.state.Draws, .int .i64 a2.state.Sent, .int .i64 a2.every, .slice A9 a2.l.length c10, .bool a2.stuck] 58 :: OSl 67 10 (.slice A9 a2.l.length c10) a2.l.length cs11 :: l) hf) := by
  have h := Holds.of h
  refine en func21 rfl ntmps21 rfl (sr (bx hS rfl rfl rfl rfl fun b35 w hS => pn 1 rfl (lnsr (pn 1 rfl (cF (fun _ hg => log_Log_Last.ok hr5 hr8 hx12 hg hS.p2.p2) call30 h rfl rfl rfl ?_)))))
  rintro ⟨y38, y39⟩ h _ w ⟨rfl, hS⟩
  refine pn 3 rfl (al hS zeroValue30 rfl rfl rfl fun b40 w hS => RL.e0 (OW.store (vs := [.int .i64 y38.Key.Time, .int .i64 y38.Key.From, .int .i64 y38.Key.Seq, .int .i64 y38.To, .int .i64 y38.Value, .int .i64 y38.Uid, .bool y38.Anti]) 0 hS rfl rfl rfl rfl sizeOf30 rfl rfl rfl rfl) rfl ?_)
  rintro _ w ⟨rfl, hS⟩
  have hS : St B w (Cl _ [_, _, _, _, _, _, _] _ :: _ :: _ :: _ :: l) hf := hS
  refine pn 1 rfl (ln (RC.seq (RC.block (sr (RL.s (Vl.lw 3 hS isAgg30 sizeOf30 rfl rfl rfl) rfl (cF (fun _ hg => event_Check.ok hg hS) call9 h rfl rfl rfl ?_))))))
  rintro t41 h _ w ⟨rfl, hS⟩
  refine pn 2 rfl ?_
  refine RL.iteN 18 rfl h (fun hc43 h => ?_) fun hc43 h => ?_
  next =>
   refine RL.sg (Vl.fa 6 underlying30 rfl sizeOf4 rfl rfl) rfl rfl (RL.sg (Vl.ld 3 hS isAgg4 rfl rfl rfl) rfl rfl (pn 2 rfl ?_))
   refine RL.iteB 22 rfl h (fun hc44 h => ?_) fun hc44 h => ?_
   next =>
    refine pn 17 rfl (ln (RC.condT rfl (sr (pn 1 rfl (lr (RQ.inB_ret (RQ.ret ?_)))))))
    obtain rfl := h.some
    exact rt results21 rfl ⟨rfl, hS.d0.d2⟩
   next =>
    refine pn 4 rfl ?_
    refine RL.iteP 26 rfl h (fun hc45 h => ?_) fun hc45 h => ?_
    next =>
     refine pn 13 rfl (ln (RC.condT rfl (sr (pn 1 rfl (lr (RQ.inB_ret (RQ.ret ?_)))))))
     obtain rfl := h.some
     exact rt results21 rfl ⟨rfl, hS.d0.d2⟩
    next =>
     refine pn 4 rfl ?_
     refine RL.iteP 30 rfl h (fun hc46 h => ?_) fun hc46 h => ?_
     next =>
      refine pn 9 rfl (ln (RC.condT rfl (sr (pn 1 rfl (lr (RQ.inB_ret (RQ.ret ?_)))))))
      obtain rfl := h.some
      exact rt results21 rfl ⟨rfl, hS.d0.d2⟩
     next =>
      refine pn 2 rfl ?_
      refine RL.iteB 32 rfl h (fun hc47 h => ?_) fun hc47 h => ?_
      next =>
       refine RL.sg (Vl.lw 0 hS isAgg30 sizeOf30 rfl rfl rfl) rfl rfl (RL.sg (Vl.lw 3 hS isAgg30 sizeOf30 rfl rfl rfl) rfl rfl (cF (fun _ hg => event_Before.ok hg hS) call31 h rfl rfl rfl ?_))
       rintro t48 h _ w ⟨rfl, hS⟩
       refine pn 4 rfl (ln ?_)
       refine RC.iteM 14 rfl h (fun hc50 h => ?_) fun hc50 h => ?_
       next =>
        refine RC.condF rfl (sr (pn 2 rfl (RL.s (Vl.fa 17 underlying58 rfl sizeOf4 rfl rfl) rfl (RL.s (Vl.ld 1 hS isAgg4 rfl rfl rfl) rfl (pn 1 rfl (ln ?_))))))
        refine RC.iteB 39 rfl h (fun hc51 h => ?_) fun hc51 h => ?_
        next =>
         refine RC.condT rfl (sr (pn 1 rfl (lr (RQ.inB_ret (RQ.ret ?_)))))
         obtain rfl := h.some
         exact rt results21 rfl ⟨rfl, hS.d0.d2⟩
        next =>
         refine RC.condF rfl (sr (pn 2 rfl (RL.s (Vl.fa 16 underlying58 rfl sizeOf56 rfl rfl) rfl (RL.s (Vl.ld 1 hS isAgg56 rfl rfl rfl) rfl (RL.s (Vl.lenSl underlying56 rfl) rfl (pn 2 rfl (ln ?_)))))))
         refine RC.iteP 44 rfl h (fun hc52 h => ?_) fun hc52 h => ?_
         next =>
          refine RC.condT rfl (sr (pn 1 rfl (lr (RQ.inB_ret (RQ.ret ?_)))))
          obtain rfl := h.some
          exact rt results21 rfl ⟨rfl, hS.d0.d2⟩
         next =>
          refine RC.condF rfl (RC.skip (RQ.inB_n (tsr (pn 1 rfl (lr ?_)))))
          obtain rfl := h.some
          exact rt results21 rfl ⟨rfl, hS.d0.d2⟩
       next =>
        refine RC.condT rfl (sr (pn 1 rfl (lr (RQ.inB_ret (RQ.ret ?_)))))
        obtain rfl := h.some
        exact rt results21 rfl ⟨rfl, hS.d0.d2⟩
      next =>
       refine pn 7 rfl (ln (RC.condF rfl (sr (pn 2 rfl (RL.s (Vl.fa 17 underlying58 rfl sizeOf4 rfl rfl) rfl (RL.s (Vl.ld 1 hS isAgg4 rfl rfl rfl) rfl (pn 1 rfl (ln ?_))))))))
       refine RC.iteB 39 rfl h (fun hc53 h => ?_) fun hc53 h => ?_
       next =>
        refine RC.condT rfl (sr (pn 1 rfl (lr (RQ.inB_ret (RQ.ret ?_)))))
        obtain rfl := h.some
        exact rt results21 rfl ⟨rfl, hS.d0.d2⟩
       next =>
        refine RC.condF rfl (sr (pn 2 rfl (RL.s (Vl.fa 16 underlying58 rfl sizeOf56 rfl rfl) rfl (RL.s (Vl.ld 1 hS isAgg56 rfl rfl rfl) rfl (RL.s (Vl.lenSl underlying56 rfl) rfl (pn 2 rfl (ln ?_)))))))
        refine RC.iteP 44 rfl h (fun hc54 h => ?_) fun hc54 h => ?_
        next =>
         refine RC.condT rfl (sr (pn 1 rfl (lr (RQ.inB_ret (RQ.ret ?_)))))
         obtain rfl := h.some
         exact rt results21 rfl ⟨rfl, hS.d0.d2⟩
        next =>
         refine RC.condF rfl (RC.skip (RQ.inB_n (tsr (pn 1 rfl (lr ?_)))))
         obtain rfl := h.some
         exact rt results21 rfl ⟨rfl, hS.d0.d2⟩
  next =>
   refine pn 21 rfl (ln (RC.condT rfl (sr (pn 1 rfl (lr (RQ.inB_ret (RQ.ret ?_)))))))
   obtain rfl := h.some
   exact rt results21 rfl ⟨rfl, hS.d0.d2⟩

/-! ### isochron/vm.operators: function 49 -/
noncomputable def vm_operators.f  : Option (Unit) := some ()
theorem vm_operators.ok {r : Unit} (h : vm_operators.f = some r) (hS : St B w (l) hf) :
    Calls prog 49 #[] w (Ret fun v w => ∃ (b_1 : Nat), v = .map (some b_1) ∧ St B w (MapL b_1 [({ key := .int .i64 0, val := .func (.func 56) #[] #[], born := 0 } : MapEntry), ({ key := .int .i64 1, val := .func (.func 57) #[] #[], born := 1 } : MapEntry), ({ key := .int .i64 2, val := .func (.func 58) #[] #[], born := 2 } : MapEntry), ({ key := .int .i64 3, val := .func (.func 59) #[] #[], born := 3 } : MapEntry), ({ key := .int .i64 4, val := .func (.func 60) #[] #[], born := 4 } : MapEntry), ({ key := .int .i64 5, val := .func (.func 61) #[] #[], born := 5 } : MapEntry), ({ key := .int .i64 6, val := .func (.func 62) #[] #[], born := 6 } : MapEntry), ({ key := .int .i64 7, val := .func (.func 63) #[] #[], born := 7 } : MapEntry), ({ key := .int .i64 8, val := .func (.func 64) #[] #[], born := 8 } : MapEntry), ({ key := .int .i64 9, val := .func (.func 65) #[] #[], born := 9 } : MapEntry), ({ key := .int .i64 10, val := .func (.func 66) #[] #[], born := 10 } : MapEntry), ({ key := .int .i64 11, val := .func (.func 67) #[] #[], born := 11 } : MapEntry), ({ key := .int .i64 12, val := .func (.func 68) #[] #[], born := 12 } : MapEntry), ({ key := .int .i64 13, val := .func (.func 69) #[] #[], born := 13 } : MapEntry), ({ key := .int .i64 14, val := .func (.func 70) #[] #[], born := 14 } : MapEntry), ({ key := .int .i64 15, val := .func (.func 71) #[] #[], born := 15 } : MapEntry), ({ key := .int .i64 16, val := .func (.func 72) #[] #[], born := 16 } : MapEntry)] 17 :: l) hf) := by
  have h := Holds.of h
  refine en func49 rfl ntmps49 rfl (sr (pn 1 rfl (lnsr (RL.e (OW.makeMapL hS) rfl rfl ?_))))
  rintro _ w ⟨b2, rfl, hS⟩
  refine RL.e0 (OW.insertL 0 hS rfl underlying128 underlying3 rfl rfl rfl rfl rfl rfl rfl) rfl ?_
  rintro _ w ⟨rfl, hS⟩
  have hS : St B w (_ :: l) hf := hS
  refine RL.e0 (OW.insertL 0 hS rfl underlying128 underlying3 rfl rfl rfl rfl rfl rfl rfl) rfl ?_
  rintro _ w ⟨rfl, hS⟩
  have hS : St B w (_ :: l) hf := hS
  refine RL.e0 (OW.insertL 0 hS rfl underlying128 underlying3 rfl rfl rfl rfl rfl rfl rfl) rfl ?_
  rintro _ w ⟨rfl, hS⟩
  have hS : St B w (_ :: l) hf := hS
  refine RL.e0 (OW.insertL 0 hS rfl underlying128 underlying3 rfl rfl rfl rfl rfl rfl rfl) rfl ?_
  rintro _ w ⟨rfl, hS⟩
  have hS : St B w (_ :: l) hf := hS
  refine RL.e0 (OW.insertL 0 hS rfl underlying128 underlying3 rfl rfl rfl rfl rfl rfl rfl) rfl ?_
  rintro _ w ⟨rfl, hS⟩
  have hS : St B w (_ :: l) hf := hS
  refine RL.e0 (OW.insertL 0 hS rfl underlying128 underlying3 rfl rfl rfl rfl rfl rfl rfl) rfl ?_
  rintro _ w ⟨rfl, hS⟩
  have hS : St B w (_ :: l) hf := hS
  refine RL.e0 (OW.insertL 0 hS rfl underlying128 underlying3 rfl rfl rfl rfl rfl rfl rfl) rfl ?_
  rintro _ w ⟨rfl, hS⟩
  have hS : St B w (_ :: l) hf := hS
  refine RL.e0 (OW.insertL 0 hS rfl underlying128 underlying3 rfl rfl rfl rfl rfl rfl rfl) rfl ?_
  rintro _ w ⟨rfl, hS⟩
  have hS : St B w (_ :: l) hf := hS
  refine RL.e0 (OW.insertL 0 hS rfl underlying128 underlying3 rfl rfl rfl rfl rfl rfl rfl) rfl ?_
  rintro _ w ⟨rfl, hS⟩
  have hS : St B w (_ :: l) hf := hS
  refine RL.e0 (OW.insertL 0 hS rfl underlying128 underlying3 rfl rfl rfl rfl rfl rfl rfl) rfl ?_
  rintro _ w ⟨rfl, hS⟩
  have hS : St B w (_ :: l) hf := hS
  refine RL.e0 (OW.insertL 0 hS rfl underlying128 underlying3 rfl rfl rfl rfl rfl rfl rfl) rfl ?_
  rintro _ w ⟨rfl, hS⟩
  have hS : St B w (_ :: l) hf := hS
  refine RL.e0 (OW.insertL 0 hS rfl underlying128 underlying3 rfl rfl rfl rfl rfl rfl rfl) rfl ?_
  rintro _ w ⟨rfl, hS⟩
  have hS : St B w (_ :: l) hf := hS
  refine RL.e0 (OW.insertL 0 hS rfl underlying128 underlying3 rfl rfl rfl rfl rfl rfl rfl) rfl ?_
  rintro _ w ⟨rfl, hS⟩
  have hS : St B w (_ :: l) hf := hS
  refine RL.e0 (OW.insertL 0 hS rfl underlying128 underlying3 rfl rfl rfl rfl rfl rfl rfl) rfl ?_
  rintro _ w ⟨rfl, hS⟩
  have hS : St B w (_ :: l) hf := hS
  refine RL.e0 (OW.insertL 0 hS rfl underlying128 underlying3 rfl rfl rfl rfl rfl rfl rfl) rfl ?_
  rintro _ w ⟨rfl, hS⟩
  have hS : St B w (_ :: l) hf := hS
  refine RL.e0 (OW.insertL 0 hS rfl underlying128 underlying3 rfl rfl rfl rfl rfl rfl rfl) rfl ?_
  rintro _ w ⟨rfl, hS⟩
  have hS : St B w (_ :: l) hf := hS
  refine RL.e0 (OW.insertL 0 hS rfl underlying128 underlying3 rfl rfl rfl rfl rfl rfl rfl) rfl ?_
  rintro _ w ⟨rfl, hS⟩
  have hS : St B w (_ :: l) hf := hS
  refine pn 2 rfl (lr ?_)
  exact rt results49 rfl ⟨b2, rfl, hS⟩

/-! ### (*isochron/vm.cpu).halt: function 56 -/
noncomputable def vm_cpu_halt.f (a2 : List api_Instr) (a6 : Int) (a7 : List api_Link) (a11 a12 a13 a14 a15 a16 a17 : Int) (a18 : Bool) (a19 : Int) (a22 : List api_Out) (a23 : Int) (fn24 : (Nat → Int)) (a25 : api_Instr) : Option (Int) := some (a2.length : Int)
theorem vm_cpu_halt.ok {a2 : List api_Instr} {a6 : Int} {a7 : List api_Link} {a11 a12 a13 a14 a15 a16 a17 : Int} {a18 : Bool} {a19 : Int} {a22 : List api_Out} {a23 : Int} {fn24 : (Nat → Int)} {a25 : api_Instr} {b1 : Nat} {A3 : Option Addr} {c4 : Nat} {A8 : Option Addr} {c9 : Nat} {A20 : Option Addr} {c21 : Nat} (hr5 : SlR E_api_Instr.rep hf A3 c4 a2) (hr10 : SlR E_api_Link.rep hf A8 c9 a7) {r : Int} (h : vm_cpu_halt.f a2 a6 a7 a11 a12 a13 a14 a15 a16 a17 a18 a19 a22 a23 fn24 a25 = some r) (hS : St B w (Cl b1 [.slice A3 a2.length c4, .int .i64 a6, .slice A8 a7.length c9, .int .u64 a11, .int .i64 a12, .int .i64 a13, .int .i64 a14, .int .i64 a15, .int .i64 a16, .int .i64 a17, .bool a18, .int .i64 (fn24 0), .int .i64 (fn24 1), .int .i64 (fn24 2), .int .i64 (fn24 3), .int .i64 (fn24 4), .int .i64 (fn24 5), .int .i64 (fn24 6), .int .i64 (fn24 7), .int .i64 (fn24 8), .int .i64 (fn24 9), .int .i64 (fn24 10), .int .i64 (fn24 11), .int .i64 (fn24 12), .int .i64 (fn24 13), .int .i64 (fn24 14), .int .i64 (fn24 15), .int .i64 a19, .slice A20 a22.length c21, .int .i64 a23] 102 :: OSf E_api_Out 110 (.slice A20 a22.length c21) a22 :: l) hf) :
    Calls prog 56 #[.pointer (some ⟨b1, 0, none⟩), .agg #[.int .i64 a25.Op, .int .i64 a25.A, .int .i64 a25.B, .int .i64 a25.C]] w (Ret fun v w => v = .tuple #[] ∧ St B w (Cl b1 [.slice A3 a2.length c4, .int .i64 a6, .slice A8 a7.length c9, .int .u64 a11, .int .i64 a12, .int .i64 a13, .int .i64 a14, .int .i64 a15, .int .i64 a16, .int .i64 a17, .bool a18, .int .i64 (fn24 0), .int .i64 (fn24 1), .int .i64 (fn24 2), .int .i64 (fn24 3), .int .i64 (fn24 4), .int .i64 (fn24 5), .int .i64 (fn24 6), .int .i64 (fn24 7), .int .i64 (fn24 8), .int .i64 (fn24 9), .int .i64 (fn24 10), .int .i64 (fn24 11), .int .i64 (fn24 12), .int .i64 (fn24 13), .int .i64 (fn24 14), .int .i64 (fn24 15), .int .i64 a19, .slice A20 a22.length c21, .int .i64 r] 102 :: OSf E_api_Out 110 (.slice A20 a22.length c21) a22 :: l) hf) := by
  have h := Holds.of h
  refine en func56 rfl ntmps56 rfl (sr (bx hS rfl rfl rfl rfl fun b27 w hS => ln (RC.region (pn 3 rfl (RL.s (Vl.fa 0 underlying102 rfl sizeOf26 rfl rfl) rfl (RL.s (Vl.fa 0 underlying26 rfl sizeOf22 rfl rfl) rfl (RL.s (Vl.ld 1 hS isAgg22 rfl rfl rfl) rfl (RL.s (Vl.lenSl underlying22 rfl) rfl (pn 1 rfl (RL.s (Vl.fa 29 underlying102 rfl sizeOf3 rfl rfl) rfl (RL.e0 (OW.store (vs := [.int .i64 (a2.length : Int)]) 1 hS rfl rfl rfl rfl sizeOf3 rfl rfl rfl rfl) rfl ?_)))))))))))
  rintro _ w ⟨rfl, hS⟩
  have hS : St B w (_ :: Cl b1 [.slice A3 a2.length c4, .int .i64 a6, .slice A8 a7.length c9, .int .u64 a11, .int .i64 a12, .int .i64 a13, .int .i64 a14, .int .i64 a15, .int .i64 a16, .int .i64 a17, .bool a18, .int .i64 (fn24 0), .int .i64 (fn24 1), .int .i64 (fn24 2), .int .i64 (fn24 3), .int .i64 (fn24 4), .int .i64 (fn24 5), .int .i64 (fn24 6), .int .i64 (fn24 7), .int .i64 (fn24 8), .int .i64 (fn24 9), .int .i64 (fn24 10), .int .i64 (fn24 11), .int .i64 (fn24 12), .int .i64 (fn24 13), .int .i64 (fn24 14), .int .i64 (fn24 15), .int .i64 a19, .slice A20 a22.length c21, .int .i64 (a2.length : Int)] 102 :: _ :: l) hf := hS
  refine RL.nil ?_
  obtain rfl := h.some
  exact rtE results56 rfl ⟨rfl, hS.d0⟩

/-! ### (*isochron/vm.cpu).set: function 57 -/
noncomputable def vm_cpu_set.f (a2 : List api_Instr) (a6 : Int) (a7 : List api_Link) (a11 a12 a13 a14 a15 a16 a17 : Int) (a18 : Bool) (a19 : Int) (a22 : List api_Out) (a23 : Int) (fn24 : (Nat → Int)) (a25 : api_Instr) : Option ((Nat → Int)) := (if 0 ≤ a25.A ∧ a25.A < 16 then some (upd fn24 (a25.A.toNat * 1) a25.B) else none)
theorem vm_cpu_set.ok {a2 : List api_Instr} {a6 : Int} {a7 : List api_Link} {a11 a12 a13 a14 a15 a16 a17 : Int} {a18 : Bool} {a19 : Int} {a22 : List api_Out} {a23 : Int} {fn24 : (Nat → Int)} {a25 : api_Instr} {b1 : Nat} {A3 : Option Addr} {c4 : Nat} {A8 : Option Addr} {c9 : Nat} {A20 : Option Addr} {c21 : Nat} (hr5 : SlR E_api_Instr.rep hf A3 c4 a2) (hr10 : SlR E_api_Link.rep hf A8 c9 a7) {r : (Nat → Int)} (h : vm_cpu_set.f a2 a6 a7 a11 a12 a13 a14 a15 a16 a17 a18 a19 a22 a23 fn24 a25 = some r) (hS : St B w (Cl b1 [.slice A3 a2.length c4, .int .i64 a6, .slice A8 a7.length c9, .int .u64 a11, .int .i64 a12, .int .i64 a13, .int .i64 a14, .int .i64 a15, .int .i64 a16, .int .i64 a17, .bool a18, .int .i64 (fn24 0), .int .i64 (fn24 1), .int .i64 (fn24 2), .int .i64 (fn24 3), .int .i64 (fn24 4), .int .i64 (fn24 5), .int .i64 (fn24 6), .int .i64 (fn24 7), .int .i64 (fn24 8), .int .i64 (fn24 9), .int .i64 (fn24 10), .int .i64 (fn24 11), .int .i64 (fn24 12), .int .i64 (fn24 13), .int .i64 (fn24 14), .int .i64 (fn24 15), .int .i64 a19, .slice A20 a22.length c21, .int .i64 a23] 102 :: OSf E_api_Out 110 (.slice A20 a22.length c21) a22 :: l) hf) :
    Calls prog 57 #[.pointer (some ⟨b1, 0, none⟩), .agg #[.int .i64 a25.Op, .int .i64 a25.A, .int .i64 a25.B, .int .i64 a25.C]] w (Ret fun v w => v = .tuple #[] ∧ St B w (Cl b1 [.slice A3 a2.length c4, .int .i64 a6, .slice A8 a7.length c9, .int .u64 a11, .int .i64 a12, .int .i64 a13, .int .i64 a14, .int .i64 a15, .int .i64 a16, .int .i64 a17, .bool a18, .int .i64 (r 0), .int .i64 (r 1), .int .i64 (r 2), .int .i64 (r 3), .int .i64 (r 4), .int .i64 (r 5), .int .i64 (r 6), .int .i64 (r 7), .int .i64 (r 8), .int .i64 (r 9), .int .i64 (r 10), .int .i64 (r 11), .int .i64 (r 12), .int .i64 (r 13), .int .i64 (r 14), .int .i64 (r 15), .int .i64 a19, .slice A20 a22.length c21, .int .i64 a23] 102 :: OSf E_api_Out 110 (.slice A20 a22.length c21) a22 :: l) hf) := by
  have h := Holds.of h
  refine en func57 rfl ntmps57 rfl (sr (bx hS rfl rfl rfl rfl fun b29 w hS => ln (RC.planS (plD [0, 3, 7, 9, 13, 17, 20, 23, 26]) [7, 8] hS (fun w hS => hS) follows rfl (by kernel_rfl) NoTmp.body fun w hS => pp 1 rfl (RP.s0 1 rfl (fun w => Vl.fa 1 underlying89 rfl sizeOf3 rfl rfl) rfl (RP.s 0 2 rfl rfl hS (fun w hS => Vl.ld 0 hS isAgg3 rfl rfl rfl) rfl (RP.s0 3 rfl (fun w => Vl.fa 2 underlying89 rfl sizeOf3 rfl rfl) rfl (RP.s 0 4 rfl rfl hS (fun w hS => Vl.ld 0 hS isAgg3 rfl rfl rfl) rfl (RP.v1 5 rfl (Vl.nilCheck rfl) rfl rfl (RP.v1 6 rfl (Vl.fa 11 underlying102 rfl sizeOf100 rfl rfl) rfl rfl ?_)))))))))
  obtain ⟨⟨hq30, hq31⟩, h⟩ := h.req
  refine RP.v1 7 rfl (Vl.indexAddrA (a'' := ⟨b1, 11 + a25.A.toNat * 1, none⟩) underlying100 sizeOf2 rfl rfl hq30 hq31 (add_mk _ _ _)) rfl rfl (RP.e0 8 rfl (OW.storeSeg (mk := (Value.int .i64)) (f := fn24) (n := 16) (m := 11) (pre := [.slice A3 a2.length c4, .int .i64 a6, .slice A8 a7.length c9, .int .u64 a11, .int .i64 a12, .int .i64 a13, .int .i64 a14, .int .i64 a15, .int .i64 a16, .int .i64 a17, .bool a18]) (post := [.int .i64 a19, .slice A20 a22.length c21, .int .i64 a23]) 1 hS rfl rfl rfl rfl sizeOf2 (by omega) (fun _ => rfl) (fun _ => rfl) rfl) rfl ?_)
  rintro _ w ⟨rfl, hS⟩
  have hS : St B w (_ :: _ :: _ :: l) hf := hS
  refine ⟨kp ⟨(by intro hx; cases hx), trivial⟩, ?_⟩
  refine RP.nil ?_
  obtain rfl := h.some
  exact rtE results57 rfl ⟨rfl, hS.d0⟩

/-! ### (*isochron/vm.cpu).move: function 58 -/
noncomputable def vm_cpu_move.f (a2 : List api_Instr) (a6 : Int) (a7 : List api_Link) (a11 a12 a13 a14 a15 a16 a17 : Int) (a18 : Bool) (a19 : Int) (a22 : List api_Out) (a23 : Int) (fn24 : (Nat → Int)) (a25 : api_Instr) : Option ((Nat → Int)) := (if 0 ≤ a25.B ∧ a25.B < 16 then (if 0 ≤ a25.A ∧ a25.A < 16 then some (upd fn24 (a25.A.toNat * 1) (fn24 (a25.B.toNat * 1))) else none) else none)
theorem vm_cpu_move.ok {a2 : List api_Instr} {a6 : Int} {a7 : List api_Link} {a11 a12 a13 a14 a15 a16 a17 : Int} {a18 : Bool} {a19 : Int} {a22 : List api_Out} {a23 : Int} {fn24 : (Nat → Int)} {a25 : api_Instr} {b1 : Nat} {A3 : Option Addr} {c4 : Nat} {A8 : Option Addr} {c9 : Nat} {A20 : Option Addr} {c21 : Nat} (hr5 : SlR E_api_Instr.rep hf A3 c4 a2) (hr10 : SlR E_api_Link.rep hf A8 c9 a7) {r : (Nat → Int)} (h : vm_cpu_move.f a2 a6 a7 a11 a12 a13 a14 a15 a16 a17 a18 a19 a22 a23 fn24 a25 = some r) (hS : St B w (Cl b1 [.slice A3 a2.length c4, .int .i64 a6, .slice A8 a7.length c9, .int .u64 a11, .int .i64 a12, .int .i64 a13, .int .i64 a14, .int .i64 a15, .int .i64 a16, .int .i64 a17, .bool a18, .int .i64 (fn24 0), .int .i64 (fn24 1), .int .i64 (fn24 2), .int .i64 (fn24 3), .int .i64 (fn24 4), .int .i64 (fn24 5), .int .i64 (fn24 6), .int .i64 (fn24 7), .int .i64 (fn24 8), .int .i64 (fn24 9), .int .i64 (fn24 10), .int .i64 (fn24 11), .int .i64 (fn24 12), .int .i64 (fn24 13), .int .i64 (fn24 14), .int .i64 (fn24 15), .int .i64 a19, .slice A20 a22.length c21, .int .i64 a23] 102 :: OSf E_api_Out 110 (.slice A20 a22.length c21) a22 :: l) hf) :
    Calls prog 58 #[.pointer (some ⟨b1, 0, none⟩), .agg #[.int .i64 a25.Op, .int .i64 a25.A, .int .i64 a25.B, .int .i64 a25.C]] w (Ret fun v w => v = .tuple #[] ∧ St B w (Cl b1 [.slice A3 a2.length c4, .int .i64 a6, .slice A8 a7.length c9, .int .u64 a11, .int .i64 a12, .int .i64 a13, .int .i64 a14, .int .i64 a15, .int .i64 a16, .int .i64 a17, .bool a18, .int .i64 (r 0), .int .i64 (r 1), .int .i64 (r 2), .int .i64 (r 3), .int .i64 (r 4), .int .i64 (r 5), .int .i64 (r 6), .int .i64 (r 7), .int .i64 (r 8), .int .i64 (r 9), .int .i64 (r 10), .int .i64 (r 11), .int .i64 (r 12), .int .i64 (r 13), .int .i64 (r 14), .int .i64 (r 15), .int .i64 a19, .slice A20 a22.length c21, .int .i64 a23] 102 :: OSf E_api_Out 110 (.slice A20 a22.length c21) a22 :: l) hf) := by
  have h := Holds.of h
  refine en func58 rfl ntmps58 rfl (sr (bx hS rfl rfl rfl rfl fun b31 w hS => ln (RC.planS (plD [0, 3, 7, 9, 12, 16, 18, 21, 24, 28, 32, 35, 38, 41]) [12, 13] hS (fun w hS => hS) follows rfl (by kernel_rfl) NoTmp.body fun w hS => pp 1 rfl (RP.s0 1 rfl (fun w => Vl.fa 1 underlying89 rfl sizeOf3 rfl rfl) rfl (RP.s 0 2 rfl rfl hS (fun w hS => Vl.ld 0 hS isAgg3 rfl rfl rfl) rfl (pp 1 rfl (RP.s0 4 rfl (fun w => Vl.fa 2 underlying89 rfl sizeOf3 rfl rfl) rfl (RP.s 0 5 rfl rfl hS (fun w hS => Vl.ld 0 hS isAgg3 rfl rfl rfl) rfl (pp 1 rfl (RP.s0 7 rfl (fun w => Vl.fa 11 underlying102 rfl sizeOf100 rfl rfl) rfl ?_))))))))))
  obtain ⟨⟨hq32, hq33⟩, h⟩ := h.req
  refine RP.s0 8 rfl (fun w => Vl.indexAddrA (a'' := ⟨b1, 11 + a25.B.toNat * 1, none⟩) underlying100 sizeOf2 rfl rfl hq32 hq33 (add_mk _ _ _)) rfl (RP.s 0 9 rfl rfl hS (fun w hS => Vl.load isAgg2 rfl (hS.cell (off := 11 + a25.B.toNat * 1) (cs := [.slice A3 a2.length c4, .int .i64 a6, .slice A8 a7.length c9, .int .u64 a11, .int .i64 a12, .int .i64 a13, .int .i64 a14, .int .i64 a15, .int .i64 a16, .int .i64 a17, .bool a18] ++ (fc (Value.int .i64) 16 fn24 ++ [.int .i64 a19, .slice A20 a22.length c21, .int .i64 a23])) 1 rfl (seg_get rfl (by omega)))) rfl (RP.v1 10 rfl (Vl.nilCheck rfl) rfl rfl (RP.v1 11 rfl (Vl.fa 11 underlying102 rfl sizeOf100 rfl rfl) rfl rfl ?_)))
  obtain ⟨⟨hq34, hq35⟩, h⟩ := h.req
  refine RP.v1 12 rfl (Vl.indexAddrA (a'' := ⟨b1, 11 + a25.A.toNat * 1, none⟩) underlying100 sizeOf2 rfl rfl hq34 hq35 (add_mk _ _ _)) rfl rfl (RP.e0 13 rfl (OW.storeSeg (mk := (Value.int .i64)) (f := fn24) (n := 16) (m := 11) (pre := [.slice A3 a2.length c4, .int .i64 a6, .slice A8 a7.length c9, .int .u64 a11, .int .i64 a12, .int .i64 a13, .int .i64 a14, .int .i64 a15, .int .i64 a16, .int .i64 a17, .bool a18]) (post := [.int .i64 a19, .slice A20 a22.length c21, .int .i64 a23]) 1 hS rfl rfl rfl rfl sizeOf2 (by omega) (fun _ => rfl) (fun _ => rfl) rfl) rfl ?_)
  rintro _ w ⟨rfl, hS⟩
  have hS : St B w (_ :: _ :: _ :: l) hf := hS
  refine ⟨kp ⟨(by intro hx; cases hx), trivial⟩, ?_⟩
  refine RP.nil ?_
  obtain rfl := h.some
  exact rtE results58 rfl ⟨rfl, hS.d0⟩

/-! ### (*isochron/vm.cpu).add: function 59 -/
noncomputable def vm_cpu_add.f (a2 : List api_Instr) (a6 : Int) (a7 : List api_Link) (a11 a12 a13 a14 a15 a16 a17 : Int) (a18 : Bool) (a19 : Int) (a22 : List api_Out) (a23 : Int) (fn24 : (Nat → Int)) (a25 : api_Instr) : Option ((Nat → Int)) := (if 0 ≤ a25.B ∧ a25.B < 16 then (if 0 ≤ a25.C ∧ a25.C < 16 then (if 0 ≤ a25.A ∧ a25.A < 16 then some (upd fn24 (a25.A.toNat * 1) (IntKind.i64.wrap ((fn24 (a25.B.toNat * 1)) + (fn24 (a25.C.toNat * 1))))) else none) else none) else none)
theorem vm_cpu_add.ok {a2 : List api_Instr} {a6 : Int} {a7 : List api_Link} {a11 a12 a13 a14 a15 a16 a17 : Int} {a18 : Bool} {a19 : Int} {a22 : List api_Out} {a23 : Int} {fn24 : (Nat → Int)} {a25 : api_Instr} {b1 : Nat} {A3 : Option Addr} {c4 : Nat} {A8 : Option Addr} {c9 : Nat} {A20 : Option Addr} {c21 : Nat} (hr5 : SlR E_api_Instr.rep hf A3 c4 a2) (hr10 : SlR E_api_Link.rep hf A8 c9 a7) {r : (Nat → Int)} (h : vm_cpu_add.f a2 a6 a7 a11 a12 a13 a14 a15 a16 a17 a18 a19 a22 a23 fn24 a25 = some r) (hS : St B w (Cl b1 [.slice A3 a2.length c4, .int .i64 a6, .slice A8 a7.length c9, .int .u64 a11, .int .i64 a12, .int .i64 a13, .int .i64 a14, .int .i64 a15, .int .i64 a16, .int .i64 a17, .bool a18, .int .i64 (fn24 0), .int .i64 (fn24 1), .int .i64 (fn24 2), .int .i64 (fn24 3), .int .i64 (fn24 4), .int .i64 (fn24 5), .int .i64 (fn24 6), .int .i64 (fn24 7), .int .i64 (fn24 8), .int .i64 (fn24 9), .int .i64 (fn24 10), .int .i64 (fn24 11), .int .i64 (fn24 12), .int .i64 (fn24 13), .int .i64 (fn24 14), .int .i64 (fn24 15), .int .i64 a19, .slice A20 a22.length c21, .int .i64 a23] 102 :: OSf E_api_Out 110 (.slice A20 a22.length c21) a22 :: l) hf) :
    Calls prog 59 #[.pointer (some ⟨b1, 0, none⟩), .agg #[.int .i64 a25.Op, .int .i64 a25.A, .int .i64 a25.B, .int .i64 a25.C]] w (Ret fun v w => v = .tuple #[] ∧ St B w (Cl b1 [.slice A3 a2.length c4, .int .i64 a6, .slice A8 a7.length c9, .int .u64 a11, .int .i64 a12, .int .i64 a13, .int .i64 a14, .int .i64 a15, .int .i64 a16, .int .i64 a17, .bool a18, .int .i64 (r 0), .int .i64 (r 1), .int .i64 (r 2), .int .i64 (r 3), .int .i64 (r 4), .int .i64 (r 5), .int .i64 (r 6), .int .i64 (r 7), .int .i64 (r 8), .int .i64 (r 9), .int .i64 (r 10), .int .i64 (r 11), .int .i64 (r 12), .int .i64 (r 13), .int .i64 (r 14), .int .i64 (r 15), .int .i64 a19, .slice A20 a22.length c21, .int .i64 a23] 102 :: OSf E_api_Out 110 (.slice A20 a22.length c21) a22 :: l) hf) := by
  have h := Holds.of h
  refine en func59 rfl ntmps59 rfl (sr (bx hS rfl rfl rfl rfl fun b33 w hS => ln (RC.planS (plD [0, 3, 7, 9, 12, 16, 18, 21, 24, 28, 30, 33, 37, 39, 42, 45, 49, 51, 56, 59, 62, 65]) [20, 21] hS (fun w hS => hS) follows rfl (by kernel_rfl) NoTmp.body fun w hS => pp 1 rfl (RP.s0 1 rfl (fun w => Vl.fa 1 underlying89 rfl sizeOf3 rfl rfl) rfl (RP.s 0 2 rfl rfl hS (fun w hS => Vl.ld 0 hS isAgg3 rfl rfl rfl) rfl (pp 1 rfl (RP.s0 4 rfl (fun w => Vl.fa 2 underlying89 rfl sizeOf3 rfl rfl) rfl (RP.s 0 5 rfl rfl hS (fun w hS => Vl.ld 0 hS isAgg3 rfl rfl rfl) rfl (pp 1 rfl (RP.s0 7 rfl (fun w => Vl.fa 11 underlying102 rfl sizeOf100 rfl rfl) rfl ?_))))))))))
  obtain ⟨⟨hq34, hq35⟩, h⟩ := h.req
  refine RP.s0 8 rfl (fun w => Vl.indexAddrA (a'' := ⟨b1, 11 + a25.B.toNat * 1, none⟩) underlying100 sizeOf2 rfl rfl hq34 hq35 (add_mk _ _ _)) rfl (RP.s 0 9 rfl rfl hS (fun w hS => Vl.load isAgg2 rfl (hS.cell (off := 11 + a25.B.toNat * 1) (cs := [.slice A3 a2.length c4, .int .i64 a6, .slice A8 a7.length c9, .int .u64 a11, .int .i64 a12, .int .i64 a13, .int .i64 a14, .int .i64 a15, .int .i64 a16, .int .i64 a17, .bool a18] ++ (fc (Value.int .i64) 16 fn24 ++ [.int .i64 a19, .slice A20 a22.length c21, .int .i64 a23])) 1 rfl (seg_get rfl (by omega)))) rfl (pp 1 rfl (RP.s0 11 rfl (fun w => Vl.fa 3 underlying89 rfl sizeOf3 rfl rfl) rfl (RP.s 0 12 rfl rfl hS (fun w hS => Vl.ld 0 hS isAgg3 rfl rfl rfl) rfl (pp 1 rfl (RP.s0 14 rfl (fun w => Vl.fa 11 underlying102 rfl sizeOf100 rfl rfl) rfl ?_))))))
  obtain ⟨⟨hq36, hq37⟩, h⟩ := h.req
  refine RP.s0 15 rfl (fun w => Vl.indexAddrA (a'' := ⟨b1, 11 + a25.C.toNat * 1, none⟩) underlying100 sizeOf2 rfl rfl hq36 hq37 (add_mk _ _ _)) rfl (RP.s 0 16 rfl rfl hS (fun w hS => Vl.load isAgg2 rfl (hS.cell (off := 11 + a25.C.toNat * 1) (cs := [.slice A3 a2.length c4, .int .i64 a6, .slice A8 a7.length c9, .int .u64 a11, .int .i64 a12, .int .i64 a13, .int .i64 a14, .int .i64 a15, .int .i64 a16, .int .i64 a17, .bool a18] ++ (fc (Value.int .i64) 16 fn24 ++ [.int .i64 a19, .slice A20 a22.length c21, .int .i64 a23])) 1 rfl (seg_get rfl (by omega)))) rfl (pp 1 rfl (RP.v1 18 rfl (Vl.nilCheck rfl) rfl rfl (RP.v1 19 rfl (Vl.fa 11 underlying102 rfl sizeOf100 rfl rfl) rfl rfl ?_))))
  obtain ⟨⟨hq38, hq39⟩, h⟩ := h.req
  refine RP.v1 20 rfl (Vl.indexAddrA (a'' := ⟨b1, 11 + a25.A.toNat * 1, none⟩) underlying100 sizeOf2 rfl rfl hq38 hq39 (add_mk _ _ _)) rfl rfl (RP.e0 21 rfl (OW.storeSeg (mk := (Value.int .i64)) (f := fn24) (n := 16) (m := 11) (pre := [.slice A3 a2.length c4, .int .i64 a6, .slice A8 a7.length c9, .int .u64 a11, .int .i64 a12, .int .i64 a13, .int .i64 a14, .int .i64 a15, .int .i64 a16, .int .i64 a17, .bool a18]) (post := [.int .i64 a19, .slice A20 a22.length c21, .int .i64 a23]) 1 hS rfl rfl rfl rfl sizeOf2 (by omega) (fun _ => rfl) (fun _ => rfl) rfl) rfl ?_)
  rintro _ w ⟨rfl, hS⟩
  have hS : St B w (_ :: _ :: _ :: l) hf := hS
  refine ⟨kp ⟨(by intro hx; cases hx), trivial⟩, ?_⟩
  refine RP.nil ?_
  obtain rfl := h.some
  exact rtE results59 rfl ⟨rfl, hS.d0⟩

/-! ### (*isochron/vm.cpu).sub: function 60 -/
noncomputable def vm_cpu_sub.f (a2 : List api_Instr) (a6 : Int) (a7 : List api_Link) (a11 a12 a13 a14 a15 a16 a17 : Int) (a18 : Bool) (a19 : Int) (a22 : List api_Out) (a23 : Int) (fn24 : (Nat → Int)) (a25 : api_Instr) : Option ((Nat → Int)) := (if 0 ≤ a25.B ∧ a25.B < 16 then (if 0 ≤ a25.C ∧ a25.C < 16 then (if 0 ≤ a25.A ∧ a25.A < 16 then some (upd fn24 (a25.A.toNat * 1) (IntKind.i64.wrap ((fn24 (a25.B.toNat * 1)) - (fn24 (a25.C.toNat * 1))))) else none) else none) else none)
theorem vm_cpu_sub.ok {a2 : List api_Instr} {a6 : Int} {a7 : List api_Link} {a11 a12 a13 a14 a15 a16 a17 : Int} {a18 : Bool} {a19 : Int} {a22 : List api_Out} {a23 : Int} {fn24 : (Nat → Int)} {a25 : api_Instr} {b1 : Nat} {A3 : Option Addr} {c4 : Nat} {A8 : Option Addr} {c9 : Nat} {A20 : Option Addr} {c21 : Nat} (hr5 : SlR E_api_Instr.rep hf A3 c4 a2) (hr10 : SlR E_api_Link.rep hf A8 c9 a7) {r : (Nat → Int)} (h : vm_cpu_sub.f a2 a6 a7 a11 a12 a13 a14 a15 a16 a17 a18 a19 a22 a23 fn24 a25 = some r) (hS : St B w (Cl b1 [.slice A3 a2.length c4, .int .i64 a6, .slice A8 a7.length c9, .int .u64 a11, .int .i64 a12, .int .i64 a13, .int .i64 a14, .int .i64 a15, .int .i64 a16, .int .i64 a17, .bool a18, .int .i64 (fn24 0), .int .i64 (fn24 1), .int .i64 (fn24 2), .int .i64 (fn24 3), .int .i64 (fn24 4), .int .i64 (fn24 5), .int .i64 (fn24 6), .int .i64 (fn24 7), .int .i64 (fn24 8), .int .i64 (fn24 9), .int .i64 (fn24 10), .int .i64 (fn24 11), .int .i64 (fn24 12), .int .i64 (fn24 13), .int .i64 (fn24 14), .int .i64 (fn24 15), .int .i64 a19, .slice A20 a22.length c21, .int .i64 a23] 102 :: OSf E_api_Out 110 (.slice A20 a22.length c21) a22 :: l) hf) :
    Calls prog 60 #[.pointer (some ⟨b1, 0, none⟩), .agg #[.int .i64 a25.Op, .int .i64 a25.A, .int .i64 a25.B, .int .i64 a25.C]] w (Ret fun v w => v = .tuple #[] ∧ St B w (Cl b1 [.slice A3 a2.length c4, .int .i64 a6, .slice A8 a7.length c9, .int .u64 a11, .int .i64 a12, .int .i64 a13, .int .i64 a14, .int .i64 a15, .int .i64 a16, .int .i64 a17, .bool a18, .int .i64 (r 0), .int .i64 (r 1), .int .i64 (r 2), .int .i64 (r 3), .int .i64 (r 4), .int .i64 (r 5), .int .i64 (r 6), .int .i64 (r 7), .int .i64 (r 8), .int .i64 (r 9), .int .i64 (r 10), .int .i64 (r 11), .int .i64 (r 12), .int .i64 (r 13), .int .i64 (r 14), .int .i64 (r 15), .int .i64 a19, .slice A20 a22.length c21, .int .i64 a23] 102 :: OSf E_api_Out 110 (.slice A20 a22.length c21) a22 :: l) hf) := by
  have h := Holds.of h
  refine en func60 rfl ntmps60 rfl (sr (bx hS rfl rfl rfl rfl fun b33 w hS => ln (RC.planS (plD [0, 3, 7, 9, 12, 16, 18, 21, 24, 28, 30, 33, 37, 39, 42, 45, 49, 51, 56, 59, 62, 65]) [20, 21] hS (fun w hS => hS) follows rfl (by kernel_rfl) NoTmp.body fun w hS => pp 1 rfl (RP.s0 1 rfl (fun w => Vl.fa 1 underlying89 rfl sizeOf3 rfl rfl) rfl (RP.s 0 2 rfl rfl hS (fun w hS => Vl.ld 0 hS isAgg3 rfl rfl rfl) rfl (pp 1 rfl (RP.s0 4 rfl (fun w => Vl.fa 2 underlying89 rfl sizeOf3 rfl rfl) rfl (RP.s 0 5 rfl rfl hS (fun w hS => Vl.ld 0 hS isAgg3 rfl rfl rfl) rfl (pp 1 rfl (RP.s0 7 rfl (fun w => Vl.fa 11 underlying102 rfl sizeOf100 rfl rfl) rfl ?_))))))))))
  obtain ⟨⟨hq34, hq35⟩, h⟩ := h.req
  refine RP.s0 8 rfl (fun w => Vl.indexAddrA (a'' := ⟨b1, 11 + a25.B.toNat * 1, none⟩) underlying100 sizeOf2 rfl rfl hq34 hq35 (add_mk _ _ _)) rfl (RP.s 0 9 rfl rfl hS (fun w hS => Vl.load isAgg2 rfl (hS.cell (off := 11 + a25.B.toNat * 1) (cs := [.slice A3 a2.length c4, .int .i64 a6, .slice A8 a7.length c9, .int .u64 a11, .int .i64 a12, .int .i64 a13, .int .i64 a14, .int .i64 a15, .int .i64 a16, .int .i64 a17, .bool a18] ++ (fc (Value.int .i64) 16 fn24 ++ [.int .i64 a19, .slice A20 a22.length c21, .int .i64 a23])) 1 rfl (seg_get rfl (by omega)))) rfl (pp 1 rfl (RP.s0 11 rfl (fun w => Vl.fa 3 underlying89 rfl sizeOf3 rfl rfl) rfl (RP.s 0 12 rfl rfl hS (fun w hS => Vl.ld 0 hS isAgg3 rfl rfl rfl) rfl (pp 1 rfl (RP.s0 14 rfl (fun w => Vl.fa 11 underlying102 rfl sizeOf100 rfl rfl) rfl ?_))))))
  obtain ⟨⟨hq36, hq37⟩, h⟩ := h.req
  refine RP.s0 15 rfl (fun w => Vl.indexAddrA (a'' := ⟨b1, 11 + a25.C.toNat * 1, none⟩) underlying100 sizeOf2 rfl rfl hq36 hq37 (add_mk _ _ _)) rfl (RP.s 0 16 rfl rfl hS (fun w hS => Vl.load isAgg2 rfl (hS.cell (off := 11 + a25.C.toNat * 1) (cs := [.slice A3 a2.length c4, .int .i64 a6, .slice A8 a7.length c9, .int .u64 a11, .int .i64 a12, .int .i64 a13, .int .i64 a14, .int .i64 a15, .int .i64 a16, .int .i64 a17, .bool a18] ++ (fc (Value.int .i64) 16 fn24 ++ [.int .i64 a19, .slice A20 a22.length c21, .int .i64 a23])) 1 rfl (seg_get rfl (by omega)))) rfl (pp 1 rfl (RP.v1 18 rfl (Vl.nilCheck rfl) rfl rfl (RP.v1 19 rfl (Vl.fa 11 underlying102 rfl sizeOf100 rfl rfl) rfl rfl ?_))))
  obtain ⟨⟨hq38, hq39⟩, h⟩ := h.req
  refine RP.v1 20 rfl (Vl.indexAddrA (a'' := ⟨b1, 11 + a25.A.toNat * 1, none⟩) underlying100 sizeOf2 rfl rfl hq38 hq39 (add_mk _ _ _)) rfl rfl (RP.e0 21 rfl (OW.storeSeg (mk := (Value.int .i64)) (f := fn24) (n := 16) (m := 11) (pre := [.slice A3 a2.length c4, .int .i64 a6, .slice A8 a7.length c9, .int .u64 a11, .int .i64 a12, .int .i64 a13, .int .i64 a14, .int .i64 a15, .int .i64 a16, .int .i64 a17, .bool a18]) (post := [.int .i64 a19, .slice A20 a22.length c21, .int .i64 a23]) 1 hS rfl rfl rfl rfl sizeOf2 (by omega) (fun _ => rfl) (fun _ => rfl) rfl) rfl ?_)
  rintro _ w ⟨rfl, hS⟩
  have hS : St B w (_ :: _ :: _ :: l) hf := hS
  refine ⟨kp ⟨(by intro hx; cases hx), trivial⟩, ?_⟩
  refine RP.nil ?_
  obtain rfl := h.some
  exact rtE results60 rfl ⟨rfl, hS.d0⟩

end Go.Proofs.Gx
