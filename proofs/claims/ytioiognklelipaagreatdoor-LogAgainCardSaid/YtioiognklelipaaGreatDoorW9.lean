/-
  The walks of functions, each with what it computes: printed by wip/gx.py.
-/
import Derived.Test.YtioiognklelipaaGreatDoorW0
set_option linter.unusedVariables false
set_option maxRecDepth 100000
set_option maxHeartbeats 4000000
namespace Go.Proofs.Gx
open Go.Sl Tryz
variable {B : Base} {w : World} {l : List HProp} {hf : Hp}
/-! ### isochron/isochronlaw10.entry: function 15 -/
noncomputable def isochronlaw10ventry.l2b (a1 a5 : api_Entry) : Int → Option ((Int) ⊕ (Bool))
  | (x62) => (if x62 < (a1.Sent.length : Int) then (if 0 ≤ x62 then (if x62 < (a5.Sent.length : Int) then (if (⟨(nth a1.Sent x62).Key, (nth a1.Sent x62).To, (nth a1.Sent x62).Value, (nth a1.Sent x62).Uid, ((nth a1.Sent x62).Anti)⟩ : api_Message) = (⟨(nth a5.Sent x62).Key, (nth a5.Sent x62).To, (nth a5.Sent x62).Value, (nth a5.Sent x62).Uid, ((nth a5.Sent x62).Anti)⟩ : api_Message) then some (.inl (IntKind.i64.wrap (x62 + 1))) else some (.inr false)) else none) else none) else some (.inr true))
noncomputable def isochronlaw10ventry.l2 (a1 a5 : api_Entry) (s : Int) : Option (Bool) := loopR (isochronlaw10ventry.l2b a1 a5) s
noncomputable def isochronlaw10ventry.f (a1 a5 : api_Entry) : Option (Bool) := (if a1.Event = a5.Event then (if a1.Before = a5.Before then (if a1.Fault = a5.Fault then (if (a1.Sent.length : Int) = (a5.Sent.length : Int) then isochronlaw10ventry.l2 a1 a5 (0) else some false) else some false) else some false) else some false)
theorem isochronlaw10ventry.ok {a1 a5 : api_Entry} {A2 : Option Addr} {c3 : Nat} {A6 : Option Addr} {c7 : Nat} (hr4 : SlR E_api_Message.rep hf A2 c3 a1.Sent) (hr8 : SlR E_api_Message.rep hf A6 c7 a5.Sent) {r : Bool} (h : isochronlaw10ventry.f a1 a5 = some r) (hS : St B w (l) hf) :
    Calls prog 15 #[.agg #[.int .i64 a1.Event.Key.Time, .int .i64 a1.Event.Key.From, .int .i64 a1.Event.Key.Seq, .int .i64 a1.Event.To, .int .i64 a1.Event.Value, .int .i64 a1.Event.Uid, .bool a1.Event.Anti, .int .i64 a1.Before.Regs.c0, .int .i64 a1.Before.Regs.c1, .int .i64 a1.Before.Regs.c2, .int .i64 a1.Before.Regs.c3, .int .i64 a1.Before.Regs.c4, .int .i64 a1.Before.Regs.c5, .int .i64 a1.Before.Regs.c6, .int .i64 a1.Before.Regs.c7, .int .i64 a1.Before.Draws, .int .i64 a1.Before.Sent, .int .i64 a1.Fault, .slice A2 a1.Sent.length c3], .agg #[.int .i64 a5.Event.Key.Time, .int .i64 a5.Event.Key.From, .int .i64 a5.Event.Key.Seq, .int .i64 a5.Event.To, .int .i64 a5.Event.Value, .int .i64 a5.Event.Uid, .bool a5.Event.Anti, .int .i64 a5.Before.Regs.c0, .int .i64 a5.Before.Regs.c1, .int .i64 a5.Before.Regs.c2, .int .i64 a5.Before.Regs.c3, .int .i64 a5.Before.Regs.c4, .int .i64 a5.Before.Regs.c5, .int .i64 a5.Before.Regs.c6, .int .i64 a5.Before.Regs.c7, .int .i64 a5.Before.Draws, .int .i64 a5.Before.Sent, .int .i64 a5.Fault, .slice A6 a5.Sent.length c7]] w (Ret fun v w => v = .bool r ∧ St B w (l) hf) := by
  have h := Holds.of h
  refine en func15 rfl ntmps15 rfl (sr (bx hS rfl rfl rfl rfl fun b45 w hS => bx hS rfl rfl rfl rfl fun b46 w hS => pn 1 rfl (ln (RC.seq (sr (RL.s (Vl.fa 0 underlying44 rfl sizeOf42 rfl rfl) rfl (RL.s (Vl.loadA (vs := [.int .i64 a1.Event.Key.Time, .int .i64 a1.Event.Key.From, .int .i64 a1.Event.Key.Seq, .int .i64 a1.Event.To, .int .i64 a1.Event.Value, .int .i64 a1.Event.Uid, .bool a1.Event.Anti]) isAgg42 sizeOf42 rfl rfl (hS.cellsAt 1 rfl rfl)) rfl (RL.s (Vl.fa 0 underlying44 rfl sizeOf42 rfl rfl) rfl (RL.s (Vl.loadA (vs := [.int .i64 a5.Event.Key.Time, .int .i64 a5.Event.Key.From, .int .i64 a5.Event.Key.Seq, .int .i64 a5.Event.To, .int .i64 a5.Event.Value, .int .i64 a5.Event.Uid, .bool a5.Event.Anti]) isAgg42 sizeOf42 rfl rfl (hS.cellsAt 0 rfl rfl)) rfl (RL.s (Vl.neqS (run_neq_api_Message _ _ a1.Event a5.Event) rfl rfl) rfl ?_))))))))))
  refine pn 1 rfl ?_
  refine RL.iteN 11 rfl h (fun hc51 h => ?_) fun hc51 h => ?_
  next =>
   refine RL.sg (Vl.fa 7 underlying44 rfl sizeOf34 rfl rfl) rfl rfl (RL.sg (Vl.loadA (vs := [.int .i64 a1.Before.Regs.c0, .int .i64 a1.Before.Regs.c1, .int .i64 a1.Before.Regs.c2, .int .i64 a1.Before.Regs.c3, .int .i64 a1.Before.Regs.c4, .int .i64 a1.Before.Regs.c5, .int .i64 a1.Before.Regs.c6, .int .i64 a1.Before.Regs.c7, .int .i64 a1.Before.Draws, .int .i64 a1.Before.Sent]) isAgg34 sizeOf34 rfl rfl (hS.cellsAt 1 rfl rfl)) rfl rfl (RL.sg (Vl.fa 7 underlying44 rfl sizeOf34 rfl rfl) rfl rfl (RL.sg (Vl.loadA (vs := [.int .i64 a5.Before.Regs.c0, .int .i64 a5.Before.Regs.c1, .int .i64 a5.Before.Regs.c2, .int .i64 a5.Before.Regs.c3, .int .i64 a5.Before.Regs.c4, .int .i64 a5.Before.Regs.c5, .int .i64 a5.Before.Regs.c6, .int .i64 a5.Before.Regs.c7, .int .i64 a5.Before.Draws, .int .i64 a5.Before.Sent]) isAgg34 sizeOf34 rfl rfl (hS.cellsAt 0 rfl rfl)) rfl rfl (RL.sg (Vl.neqS (run_neq_api_State _ _ a1.Before a5.Before) rfl rfl) rfl rfl (pn 2 rfl ?_)))))
   refine RL.iteN 18 rfl h (fun hc52 h => ?_) fun hc52 h => ?_
   next =>
    refine RL.sg (Vl.fa 17 underlying44 rfl sizeOf29 rfl rfl) rfl rfl (RL.sg (Vl.ld 1 hS isAgg29 rfl rfl rfl) rfl rfl (RL.sg (Vl.fa 17 underlying44 rfl sizeOf29 rfl rfl) rfl rfl (RL.sg (Vl.ld 0 hS isAgg29 rfl rfl rfl) rfl rfl (pn 3 rfl ?_))))
    refine RL.iteN 25 rfl h (fun hc53 h => ?_) fun hc53 h => ?_
    next =>
     refine RL.sg (Vl.fa 18 underlying44 rfl sizeOf37 rfl rfl) rfl rfl (RL.sg (Vl.ld 1 hS isAgg37 rfl rfl rfl) rfl rfl (RL.sg (Vl.lenSl underlying37 rfl) rfl rfl (RL.sg (Vl.fa 18 underlying44 rfl sizeOf37 rfl rfl) rfl rfl (RL.sg (Vl.ld 0 hS isAgg37 rfl rfl rfl) rfl rfl (RL.sg (Vl.lenSl underlying37 rfl) rfl rfl (pn 2 rfl (ln ?_)))))))
     refine RC.iteN 33 rfl h (fun hc54 h => ?_) fun hc54 h => ?_
     next =>
      refine RC.condF rfl (sk (RC.seq (sr (pn 1 rfl (ln (RC.block ?_))))))
      refine fun a ha => RC.loop (N := 52) (body := (isochronlaw10ventry.l2b a1 a5)) (φ := (· = r)) (fun (s : Int) a w => ∃ (x62 : Int), s = (x62) ∧ Has 52 [(2, .pointer (some ⟨b45, 0, none⟩)), (3, .pointer (some ⟨b46, 0, none⟩)), (5, .int .i64 x62)] a ∧ St B w (Cl b46 [.int .i64 a5.Event.Key.Time, .int .i64 a5.Event.Key.From, .int .i64 a5.Event.Key.Seq, .int .i64 a5.Event.To, .int .i64 a5.Event.Value, .int .i64 a5.Event.Uid, .bool a5.Event.Anti, .int .i64 a5.Before.Regs.c0, .int .i64 a5.Before.Regs.c1, .int .i64 a5.Before.Regs.c2, .int .i64 a5.Before.Regs.c3, .int .i64 a5.Before.Regs.c4, .int .i64 a5.Before.Regs.c5, .int .i64 a5.Before.Regs.c6, .int .i64 a5.Before.Regs.c7, .int .i64 a5.Before.Draws, .int .i64 a5.Before.Sent, .int .i64 a5.Fault, .slice A6 a5.Sent.length c7] 44 :: Cl b45 [.int .i64 a1.Event.Key.Time, .int .i64 a1.Event.Key.From, .int .i64 a1.Event.Key.Seq, .int .i64 a1.Event.To, .int .i64 a1.Event.Value, .int .i64 a1.Event.Uid, .bool a1.Event.Anti, .int .i64 a1.Before.Regs.c0, .int .i64 a1.Before.Regs.c1, .int .i64 a1.Before.Regs.c2, .int .i64 a1.Before.Regs.c3, .int .i64 a1.Before.Regs.c4, .int .i64 a1.Before.Regs.c5, .int .i64 a1.Before.Regs.c6, .int .i64 a1.Before.Regs.c7, .int .i64 a1.Before.Draws, .int .i64 a1.Before.Sent, .int .i64 a1.Fault, .slice A2 a1.Sent.length c3] 44 :: l) hf) ?_ (s0 := (0)) h ⟨0, rfl, ha.to ⟨rfl, rfl, rfl, trivial⟩, hS⟩
      rintro G72 x62 a w ⟨_, rfl, ha, hS⟩ h
      revert a
      show RC _ _ _ _ _ _
      refine RC.seq (sr (pn 1 rfl (RL.s (Vl.fa 18 underlying44 rfl sizeOf37 rfl rfl) rfl (RL.s (Vl.ld 1 hS isAgg37 rfl rfl rfl) rfl (RL.s (Vl.lenSl underlying37 rfl) rfl (pn 1 rfl (ln ?_)))))))
      refine RC.iteP 38 rfl h (fun hc74 h => ?_) fun hc74 h => ?_
      next =>
       refine RC.condT rfl (sk (RC.seq (RC.block (RC.seq (RC.planS (plD [0, 4, 6, 10, 13, 15, 19, 23, 26, 29, 32]) [10] hS (fun w hS => hS) follows rfl (by kernel_rfl) (NoTmp.then (NoTmp.block (NoTmp.then (NoTmp.then (NoTmp.block (NoTmp.then NoTmp.body)))))) fun w hS => RP.s0 0 rfl (fun w => Vl.fa 18 underlying44 rfl sizeOf37 rfl rfl) rfl (RP.s 0 1 rfl rfl hS (fun w hS => Vl.ld 1 hS isAgg37 rfl rfl rfl) rfl (pp 1 rfl ?_)))))))
       obtain ⟨hq78, h⟩ := h.req
       refine RP.s 0 3 rfl rfl hS (fun w hS => Vl.indexAddr underlying37 sizeOf42 rfl rfl ((hr4.2.world hS.sub).adr hq78 hc74) hq78 hc74 rfl) rfl (RP.s 0 4 rfl rfl hS (fun w hS => Vl.loadA isAgg42 sizeOf42 rfl rfl ((hr4.2.world hS.sub).cells hq78 hc74)) rfl (RP.s0 5 rfl (fun w => Vl.fa 18 underlying44 rfl sizeOf37 rfl rfl) rfl (RP.s 0 6 rfl rfl hS (fun w hS => Vl.ld 0 hS isAgg37 rfl rfl rfl) rfl (RP.v1 7 rfl (Vl.move rfl) rfl rfl ?_))))
       obtain ⟨hq79, h⟩ := h.req
       refine RP.v1 8 rfl (Vl.indexAddr underlying37 sizeOf42 rfl rfl ((hr8.2.world hS.sub).adr hq78 hq79) hq78 hq79 rfl) rfl rfl (RP.v1 9 rfl (Vl.loadA isAgg42 sizeOf42 rfl rfl ((hr8.2.world hS.sub).cells hq78 hq79)) rfl rfl (RP.v1 10 rfl (Vl.neqS (run_neq_api_Message _ _ (⟨(nth a1.Sent x62).Key, (nth a1.Sent x62).To, (nth a1.Sent x62).Value, (nth a1.Sent x62).Uid, ((nth a1.Sent x62).Anti)⟩ : api_Message) (⟨(nth a5.Sent x62).Key, (nth a5.Sent x62).To, (nth a5.Sent x62).Value, (nth a5.Sent x62).Uid, ((nth a5.Sent x62).Anti)⟩ : api_Message)) rfl rfl) rfl rfl (RP.nil (RQ.then_n ?_))))
       refine RC.iteN 51 rfl h (fun hc80 h => ?_) fun hc80 h => ?_
       next =>
        refine RC.condF rfl (RC.skip (RQ.inB_n (RQ.then_n (RC.region (pn 3 rfl (RL.nil ?_))))))
        exact fun a ha => ⟨(IntKind.i64.wrap (x62 + 1)), ⟨(IntKind.i64.wrap (x62 + 1)), rfl, ha.to ⟨rfl, rfl, rfl, trivial⟩, hS⟩, h.some⟩
       next =>
        refine RC.condT rfl (sr (pn 1 rfl (lr (RQ.inB_ret (RQ.ret ?_)))))
        have h := h.inrS
        refine RQ.ret (RQ.inB_ret (RQ.ret ?_))
        obtain rfl := h.some
        exact rt results15 rfl ⟨rfl, hS.d0.d0⟩
      next =>
       refine RC.condF rfl (RC.exit (RQ.exitT ?_))
       have h := h.inrS
       refine RQ.exitT (RQ.inB_hit (tsr (pn 1 rfl (lr ?_))))
       obtain rfl := h.some
       exact rt results15 rfl ⟨rfl, hS.d0.d0⟩
     next =>
      refine RC.condT rfl (sr (pn 1 rfl (lr (RQ.ret ?_))))
      obtain rfl := h.some
      exact rt results15 rfl ⟨rfl, hS.d0.d0⟩
    next =>
     refine pn 8 rfl (ln (RC.condT rfl (sr (pn 1 rfl (lr (RQ.ret ?_))))))
     obtain rfl := h.some
     exact rt results15 rfl ⟨rfl, hS.d0.d0⟩
   next =>
    refine pn 15 rfl (ln (RC.condT rfl (sr (pn 1 rfl (lr (RQ.ret ?_))))))
    obtain rfl := h.some
    exact rt results15 rfl ⟨rfl, hS.d0.d0⟩
  next =>
   refine pn 22 rfl (ln (RC.condT rfl (sr (pn 1 rfl (lr (RQ.ret ?_))))))
   obtain rfl := h.some
   exact rt results15 rfl ⟨rfl, hS.d0.d0⟩

/-! ### isochron/isochronlaw10.entries: function 14 -/
noncomputable def isochronlaw10ventries.l2b (a1 a5 : List api_Entry) : Int → Option ((Int) ⊕ (Bool))
  | (x126) => (if x126 < (a1.length : Int) then (if 0 ≤ x126 then (if x126 < (a5.length : Int) then ((isochronlaw10ventry.f (⟨(⟨((nth a1 x126).Event).Key, ((nth a1 x126).Event).To, ((nth a1 x126).Event).Value, ((nth a1 x126).Event).Uid, (((nth a1 x126).Event).Anti)⟩ : api_Message), (nth a1 x126).Before, (nth a1 x126).Fault, (nth a1 x126).Sent⟩ : api_Entry) (⟨(⟨((nth a5 x126).Event).Key, ((nth a5 x126).Event).To, ((nth a5 x126).Event).Value, ((nth a5 x126).Event).Uid, (((nth a5 x126).Event).Anti)⟩ : api_Message), (nth a5 x126).Before, (nth a5 x126).Fault, (nth a5 x126).Sent⟩ : api_Entry)).bind fun t182 => (if t182 = true then some (.inl (IntKind.i64.wrap (x126 + 1))) else some (.inr false))) else none) else none) else some (.inr true))
noncomputable def isochronlaw10ventries.l2 (a1 a5 : List api_Entry) (s : Int) : Option (Bool) := loopR (isochronlaw10ventries.l2b a1 a5) s
noncomputable def isochronlaw10ventries.f (a1 a5 : List api_Entry) : Option (Bool) := (if (a1.length : Int) = (a5.length : Int) then isochronlaw10ventries.l2 a1 a5 (0) else some false)
theorem isochronlaw10ventries.ok {a1 a5 : List api_Entry} {A2 : Option Addr} {c3 : Nat} {A6 : Option Addr} {c7 : Nat} (hr4 : SlR R_api_Entry hf A2 c3 a1) (hr8 : SlR R_api_Entry hf A6 c7 a5) {r : Bool} (h : isochronlaw10ventries.f a1 a5 = some r) (hS : St B w (l) hf) :
    Calls prog 14 #[.slice A2 a1.length c3, .slice A6 a5.length c7] w (Ret fun v w => v = .bool r ∧ St B w (l) hf) := by
  have h := Holds.of h
  refine en func14 rfl ntmps14 rfl (sr (pn 1 rfl (ln (RC.seq (sr (pn 1 rfl (RL.s (Vl.lenSl underlying47 rfl) rfl (pn 1 rfl (RL.s (Vl.lenSl underlying47 rfl) rfl (pn 1 rfl (ln ?_)))))))))))
  refine RC.iteN 10 rfl h (fun hc98 h => ?_) fun hc98 h => ?_
  next =>
   refine RC.condF rfl (sk (RC.seq (sr (pn 1 rfl (ln (RC.block ?_))))))
   refine fun a ha => RC.loop (N := 27) (body := (isochronlaw10ventries.l2b a1 a5)) (φ := (· = r)) (fun (s : Int) a w => ∃ (x126 : Int), s = (x126) ∧ Has 27 [(0, .slice A2 a1.length c3), (1, .slice A6 a5.length c7), (5, .int .i64 x126)] a ∧ St B w (l) hf) ?_ (s0 := (0)) h ⟨0, rfl, ha.to ⟨rfl, rfl, rfl, trivial⟩, hS⟩
   rintro G156 x126 a w ⟨_, rfl, ha, hS⟩ h
   revert a
   show RC _ _ _ _ _ _
   refine RC.seq (sr (pn 2 rfl (RL.s (Vl.lenSl underlying47 rfl) rfl (pn 1 rfl (ln ?_)))))
   refine RC.iteP 14 rfl h (fun hc158 h => ?_) fun hc158 h => ?_
   next =>
    refine RC.condT rfl (sk (RC.seq (RC.block (RC.seq (RC.planS (plD [0, 3, 7, 10, 12, 17, 20, 23, 26, 29]) [8, 9] hS (fun w hS => hS) follows rfl (by kernel_rfl) (NoTmp.then (NoTmp.block (NoTmp.then (NoTmp.then (NoTmp.block (NoTmp.then NoTmp.body)))))) fun w hS => pp 2 rfl ?_)))))
    obtain ⟨hq172, h⟩ := h.req
    refine RP.s 0 2 rfl rfl hS (fun w hS => Vl.indexAddr underlying47 sizeOf44 rfl rfl (hr4.2.adr hq172 hc158) hq172 hc158 rfl) rfl ?_
    obtain ⟨_, _, ⟨A173, c174, rfl, hr175⟩, hl176⟩ := hr4.2.elem hq172 hc158
    refine RP.s 0 3 rfl rfl hS (fun w hS => Vl.loadA (vs := [.int .i64 ((((nth a1 x126).Event).Key).Time), .int .i64 ((((nth a1 x126).Event).Key).From), .int .i64 ((((nth a1 x126).Event).Key).Seq), .int .i64 (((nth a1 x126).Event).To), .int .i64 (((nth a1 x126).Event).Value), .int .i64 (((nth a1 x126).Event).Uid), .bool (((nth a1 x126).Event).Anti), .int .i64 ((((nth a1 x126).Before).Regs).c0), .int .i64 ((((nth a1 x126).Before).Regs).c1), .int .i64 ((((nth a1 x126).Before).Regs).c2), .int .i64 ((((nth a1 x126).Before).Regs).c3), .int .i64 ((((nth a1 x126).Before).Regs).c4), .int .i64 ((((nth a1 x126).Before).Regs).c5), .int .i64 ((((nth a1 x126).Before).Regs).c6), .int .i64 ((((nth a1 x126).Before).Regs).c7), .int .i64 (((nth a1 x126).Before).Draws), .int .i64 (((nth a1 x126).Before).Sent), .int .i64 ((nth a1 x126).Fault), .slice A173 ((nth a1 x126).Sent).length c174]) isAgg44 sizeOf44 rfl rfl (elemCells hS.sub hl176 (off := 0) rfl)) rfl (pp 1 rfl (RP.v1 5 rfl (Vl.move rfl) rfl rfl ?_))
    obtain ⟨hq177, h⟩ := h.req
    refine RP.v1 6 rfl (Vl.indexAddr underlying47 sizeOf44 rfl rfl (hr8.2.adr hq172 hq177) hq172 hq177 rfl) rfl rfl ?_
    obtain ⟨_, _, ⟨A178, c179, rfl, hr180⟩, hl181⟩ := hr8.2.elem hq172 hq177
    refine RP.v1 7 rfl (Vl.loadA (vs := [.int .i64 ((((nth a5 x126).Event).Key).Time), .int .i64 ((((nth a5 x126).Event).Key).From), .int .i64 ((((nth a5 x126).Event).Key).Seq), .int .i64 (((nth a5 x126).Event).To), .int .i64 (((nth a5 x126).Event).Value), .int .i64 (((nth a5 x126).Event).Uid), .bool (((nth a5 x126).Event).Anti), .int .i64 ((((nth a5 x126).Before).Regs).c0), .int .i64 ((((nth a5 x126).Before).Regs).c1), .int .i64 ((((nth a5 x126).Before).Regs).c2), .int .i64 ((((nth a5 x126).Before).Regs).c3), .int .i64 ((((nth a5 x126).Before).Regs).c4), .int .i64 ((((nth a5 x126).Before).Regs).c5), .int .i64 ((((nth a5 x126).Before).Regs).c6), .int .i64 ((((nth a5 x126).Before).Regs).c7), .int .i64 (((nth a5 x126).Before).Draws), .int .i64 (((nth a5 x126).Before).Sent), .int .i64 ((nth a5 x126).Fault), .slice A178 ((nth a5 x126).Sent).length c179]) isAgg44 sizeOf44 rfl rfl (elemCells hS.sub hl181 (off := 0) rfl)) rfl rfl ?_
    obtain ⟨t182, hg183, h⟩ := h.bind
    have hc := isochronlaw10ventry.ok (a1 := (⟨(⟨((nth a1 x126).Event).Key, ((nth a1 x126).Event).To, ((nth a1 x126).Event).Value, ((nth a1 x126).Event).Uid, (((nth a1 x126).Event).Anti)⟩ : api_Message), (nth a1 x126).Before, (nth a1 x126).Fault, (nth a1 x126).Sent⟩ : api_Entry)) (a5 := (⟨(⟨((nth a5 x126).Event).Key, ((nth a5 x126).Event).To, ((nth a5 x126).Event).Value, ((nth a5 x126).Event).Uid, (((nth a5 x126).Event).Anti)⟩ : api_Message), (nth a5 x126).Before, (nth a5 x126).Fault, (nth a5 x126).Sent⟩ : api_Entry)) hr175 hr180 hg183 hS
    refine RP.e 8 rfl (OW.callF (ls := [.tmp 20, .tmp 24]) rfl call15 hc) rfl rfl ?_
    rintro _ w ⟨rfl, hS⟩
    refine ⟨kp ⟨(by intro hx; cases hx), trivial⟩, ?_⟩
    refine RP.v1 9 rfl (Vl.not rfl) rfl rfl (RP.nil (RQ.then_n ?_))
    refine RC.iteM 26 rfl h (fun hc184 h => ?_) fun hc184 h => ?_
    next =>
     refine RC.condF rfl (RC.skip (RQ.inB_n (RQ.then_n (RC.region (pn 3 rfl (RL.nil ?_))))))
     exact fun a ha => ⟨(IntKind.i64.wrap (x126 + 1)), ⟨(IntKind.i64.wrap (x126 + 1)), rfl, ha.to ⟨rfl, rfl, rfl, trivial⟩, hS⟩, h.some⟩
    next =>
     refine RC.condT rfl (sr (pn 1 rfl (lr (RQ.inB_ret (RQ.ret ?_)))))
     have h := h.inrS
     refine RQ.ret (RQ.inB_ret (RQ.ret ?_))
     obtain rfl := h.some
     exact rt results14 rfl ⟨rfl, hS⟩
   next =>
    refine RC.condF rfl (RC.exit (RQ.exitT ?_))
    have h := h.inrS
    refine RQ.exitT (RQ.inB_hit (tsr (pn 1 rfl (lr ?_))))
    obtain rfl := h.some
    exact rt results14 rfl ⟨rfl, hS⟩
  next =>
   refine RC.condT rfl (sr (pn 1 rfl (lr (RQ.ret ?_))))
   obtain rfl := h.some
   exact rt results14 rfl ⟨rfl, hS⟩

end Go.Proofs.Gx
