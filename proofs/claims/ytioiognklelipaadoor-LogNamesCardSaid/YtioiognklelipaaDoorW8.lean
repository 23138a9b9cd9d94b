/-
  The walks of functions, each with what it computes: printed by wip/gx.py.
-/
import Derived.Test.YtioiognklelipaaDoorW0
import Derived.Test.YtioiognklelipaaDoorW1
import Derived.Test.YtioiognklelipaaDoorW2
import Derived.Test.YtioiognklelipaaDoorW6
import Derived.Test.YtioiognklelipaaDoorW7
set_option linter.unusedVariables false
set_option maxRecDepth 100000
set_option maxHeartbeats 4000000
namespace Go.Proofs.Gx
open Go.Sl Tryd
variable {B : Base} {w : World} {l : List HProp} {hf : Hp}
/-! ### isochron/isochronlaw10.LogNames: function 3 -/
noncomputable def isochronlaw10vLogNames.l8b (a9 : List Int) (y457 : api_Entry) (x584 : Int) (y644 : api_Entry) : Int × Int → Option ((Int × Int) ⊕ (Bool))
  | (x776, x777) => (if x777 < (y644.Sent.length : Int) then (if x777 < (a9.length : Int) then (if 0 ≤ x777 then (if Int.tmod (nth a9 x777) 2 = 1 then (if (nth y644.Sent x777).Uid = x777 then some (.inl (x776, IntKind.i64.wrap (x777 + 1))) else some (.inr false)) else (if (nth y644.Sent x777).Uid = x776 then some (.inl (IntKind.i64.wrap (x776 + 1), IntKind.i64.wrap (x777 + 1))) else some (.inr false))) else none) else (if 0 ≤ x777 then (if (nth y644.Sent x777).Uid = x776 then some (.inl (IntKind.i64.wrap (x776 + 1), IntKind.i64.wrap (x777 + 1))) else some (.inr false)) else none)) else some (.inr (decide (x776 = IntKind.i64.wrap ((IntKind.i64.wrap (100 + (y457.Sent.length : Int))) - x584)))))
noncomputable def isochronlaw10vLogNames.l8 (a9 : List Int) (y457 : api_Entry) (x584 : Int) (y644 : api_Entry) (s : Int × Int) : Option (Bool) := loopR (isochronlaw10vLogNames.l8b a9 y457 x584 y644) s
noncomputable def isochronlaw10vLogNames.l6b (a8 : api_Message) (a9 : List Int) (y445 : log_Log) (y457 : api_Entry) : List api_Message × Int × Int → Option ((List api_Message × Int × Int) ⊕ (Bool))
  | (l581, x584, x585) => (if x585 < (y457.Sent.length : Int) then (if x585 < (a9.length : Int) then (if 0 ≤ x585 then (if Int.tmod (nth a9 x585) 2 = 1 then (if (l581.length + 1) * 56 ≤ 140737488355328 then some (.inl ((l581 ++ ([(⟨(nth y457.Sent x585).Key, (nth y457.Sent x585).To, (nth y457.Sent x585).Value, x585, ((nth y457.Sent x585).Anti)⟩ : api_Message)])), IntKind.i64.wrap (x584 + 1), IntKind.i64.wrap (x585 + 1))) else none) else some (.inl (l581, x584, IntKind.i64.wrap (x585 + 1)))) else none) else some (.inl (l581, x584, IntKind.i64.wrap (x585 + 1)))) else (Option.map Sum.inr ((log_Log_Do.f (⟨y445.w, y445.made, y445.state, y445.every, ([] : List log_done), y445.stuck⟩ : log_Log) a8 100 l581).bind fun (y644, y645, y646) => (if y645 = 0 then (if (y644.Sent.length : Int) = (y457.Sent.length : Int) then isochronlaw10vLogNames.l8 a9 y457 x584 y644 (100, 0) else some false) else some false))))
noncomputable def isochronlaw10vLogNames.l6 (a8 : api_Message) (a9 : List Int) (y445 : log_Log) (y457 : api_Entry) (s : List api_Message × Int × Int) : Option (Bool) := loopR (isochronlaw10vLogNames.l6b a8 a9 y445 y457) s
noncomputable def isochronlaw10vLogNames.f (a1 : api_World) (a8 : api_Message) (a9 : List Int) : Option (Bool) := ((log_New.f a1 (⟨(⟨0, 0, 0, 0, 0, 0, 0, 0⟩ : Arr8xInti64), 0, 0⟩ : api_State) 4).bind fun t432 => match t432 with | .inl y434 => ((vm_Check.f a1).bind fun t440 => (if t440 = 0 then some false else ((isochronlaw10vawake.f).bind fun t443 => some t443))) | .inr ((y445, y446)) => ((log_Log_Try.f (⟨y445.w, y445.made, y445.state, y445.every, ([] : List log_done), y445.stuck⟩ : log_Log) a8 100 ([])).bind fun (y457, y458) => (if y458 = 0 then isochronlaw10vLogNames.l6 a8 a9 y445 y457 ([], 0, 0) else (if y458 = 1 then ((event_Check.f a8).bind fun t844 => (if t844 = 0 then some a8.Anti else some true)) else some false))))
theorem isochronlaw10vLogNames.ok {a1 : api_World} {a8 : api_Message} {a9 : List Int} {A2 : Option Addr} {c3 : Nat} {A5 : Option Addr} {c6 : Nat} {A10 : Option Addr} {c11 : Nat} (hr4 : SlR E_api_Instr.rep hf A2 c3 a1.Prog) (hr7 : SlR E_api_Link.rep hf A5 c6 a1.Links) (hr12 : SlR ((FI .u8).rep) hf A10 c11 a9) (hG0 : GlobAt hf 0 (.iface 115 (.agg #[.pointer (some ⟨1, 75, none⟩)]))) {r : Bool} (h : isochronlaw10vLogNames.f a1 a8 a9 = some r) (hS : St B w (l) hf) :
    Calls prog 3 #[.agg #[.slice A2 a1.Prog.length c3, .int .i64 a1.Self, .slice A5 a1.Links.length c6, .int .u64 a1.Seed], .agg #[.int .i64 a8.Key.Time, .int .i64 a8.Key.From, .int .i64 a8.Key.Seq, .int .i64 a8.To, .int .i64 a8.Value, .int .i64 a8.Uid, .bool a8.Anti], .slice A10 a9.length c11] w (Ret fun v w => v = .bool r ∧ St B w (l) hf) := by
  have h := Holds.of h
  refine en func3 rfl ntmps3 rfl (sr (bx hS rfl rfl rfl rfl fun b430 w hS => bx hS rfl rfl rfl rfl fun b431 w hS => pn 1 rfl (lnsr (RL.s (Vl.lw 1 hS isAgg26 sizeOf26 rfl rfl rfl) rfl (RL.s (Vl.build (v := .agg #[.int .i64 0, .int .i64 0, .int .i64 0, .int .i64 0, .int .i64 0, .int .i64 0, .int .i64 0, .int .i64 0, .int .i64 0, .int .i64 0]) (parts := []) rfl (by kernel_rfl)) rfl ?_)))))
  obtain ⟨t432, hg433, h⟩ := h.bind
  have hc := log_New.ok hr4 hr7 hg433 hS
  rcases t432 with y434 | ⟨y445, y446⟩
  · refine RL.e (OW.callF (ls := [.tmp 19, .tmp 20, .const (.int .i64 4)]) rfl call5 hc) rfl rfl ?_
    rintro _ w ⟨rfl, hS⟩
    refine pn 5 rfl (ln (RC.seq (sr (pn 1 rfl (RL.s (Vl.bin (v := .bool true) rfl rfl (by kernel_rfl)) rfl (ln (RC.condT rfl (sr (RL.s (Vl.lw 1 hS isAgg26 sizeOf26 rfl rfl rfl) rfl (cF (fun _ hg => vm_Check.ok hr4 hr7 hg hS) call6 h rfl rfl rfl ?_))))))))))
    rintro t440 h _ w ⟨rfl, hS⟩
    refine pn 2 rfl ?_
    refine RL.iteN 29 rfl h (fun hc442 h => ?_) fun hc442 h => ?_
    next =>
     refine pn 3 rfl (lr (RQ.ret ?_))
     obtain rfl := h.some
     exact rt results3 rfl ⟨rfl, hS.d0.d0⟩
    next =>
     refine cF (fun _ hg => isochronlaw10vawake.ok hg hS) call7 h rfl rfl rfl ?_
     rintro t443 h _ w ⟨rfl, hS⟩
     refine pn 2 rfl (lr (RQ.ret ?_))
     obtain rfl := h.some
     exact rt results3 rfl ⟨rfl, hS.d0.d0⟩
  · refine RL.e (OW.callF (ls := [.tmp 19, .tmp 20, .const (.int .i64 4)]) rfl call5 hc) rfl rfl ?_
    rintro _ w ⟨hf, hs454, b447, A448, c449, A451, c452, rfl, hS, hr450, hr453⟩
    refine pn 5 rfl (ln (RC.seq (sr (pn 1 rfl (RL.s (Vl.bin (v := .bool false) rfl rfl (by kernel_rfl)) rfl (ln (RC.condF rfl (sk (sr (pn 1 rfl ?_))))))))))
    refine RL.s (Vl.lw 1 hS isAgg30 sizeOf30 rfl rfl rfl) rfl ?_
    have hS := hS.nilSlR 67 10
    have hS : St B w (_ :: _ :: _ :: _ :: l) hf := hS
    refine cF (fun _ hg => log_Log_Try.ok (a2 := (⟨y445.w, y445.made, y445.state, y445.every, ([] : List log_done), y445.stuck⟩ : log_Log)) hr450 hr453 RepL.nil (SlR.nil (A := none) (c := 0)) (hG0.mono hs454) hg hS.p1) call8 h rfl rfl rfl ?_
    rintro ⟨y457, y458⟩ h _ w ⟨A459, c460, rfl, hS⟩
    refine pn 3 rfl (al hS zeroValue43 rfl rfl rfl fun b461 w hS => RL.e0 (OW.store (vs := [.int .i64 y457.Event.Key.Time, .int .i64 y457.Event.Key.From, .int .i64 y457.Event.Key.Seq, .int .i64 y457.Event.To, .int .i64 y457.Event.Value, .int .i64 y457.Event.Uid, .bool y457.Event.Anti, .int .i64 y457.Before.Regs.c0, .int .i64 y457.Before.Regs.c1, .int .i64 y457.Before.Regs.c2, .int .i64 y457.Before.Regs.c3, .int .i64 y457.Before.Regs.c4, .int .i64 y457.Before.Regs.c5, .int .i64 y457.Before.Regs.c6, .int .i64 y457.Before.Regs.c7, .int .i64 y457.Before.Draws, .int .i64 y457.Before.Sent, .int .i64 y457.Fault, .slice A459 y457.Sent.length c460]) 0 hS rfl rfl rfl rfl sizeOf43 rfl rfl rfl rfl) rfl ?_)
    rintro _ w ⟨rfl, hS⟩
    have hS : St B w (Cl _ [_, _, _, _, _, _, _, _, _, _, _, _, _, _, _, _, _, _, _] _ :: _ :: _ :: _ :: _ :: _ :: l) hf := hS
    refine pn 1 rfl (ln (RC.seq (sr (pn 2 rfl (ln ?_)))))
    refine RC.iteN 39 rfl h (fun hc467 h => ?_) fun hc467 h => ?_
    next =>
     refine RC.condF rfl (sk (sr (pn 1 rfl (lnsr (pn 1 rfl (ln (RC.seq (sr ?_))))))))
     refine pn 1 rfl (ln (RC.block ?_))
     have hS := hS.nilSl E_api_Message 30
     refine fun a ha => RC.loop (N := 146) (body := (isochronlaw10vLogNames.l6b a8 a9 y445 y457)) (φ := (· = r)) (fun (s : List api_Message × Int × Int) a w => ∃ (l581 : List api_Message) (x584 : Int) (x585 : Int), s = (l581, x584, x585) ∧ ∃ (A582 : Option Addr) (c583 : Nat), Has 146 [(2, .slice A10 a9.length c11), (4, .pointer (some ⟨b431, 0, none⟩)), (7, .pointer (some ⟨b447, 0, none⟩)), (9, .pointer (some ⟨b461, 0, none⟩)), (11, .slice A582 l581.length c583), (12, .int .i64 x584), (13, .int .i64 x585)] a ∧ St B w (OSl 67 10 (.slice none ([] : List log_done).length 0) ([] : List log_done).length ([]) :: OSf E_api_Message 30 (.slice A459 y457.Sent.length c460) y457.Sent :: OSf E_api_Message 30 (.slice A582 l581.length c583) l581 :: Cl b461 [.int .i64 y457.Event.Key.Time, .int .i64 y457.Event.Key.From, .int .i64 y457.Event.Key.Seq, .int .i64 y457.Event.To, .int .i64 y457.Event.Value, .int .i64 y457.Event.Uid, .bool y457.Event.Anti, .int .i64 y457.Before.Regs.c0, .int .i64 y457.Before.Regs.c1, .int .i64 y457.Before.Regs.c2, .int .i64 y457.Before.Regs.c3, .int .i64 y457.Before.Regs.c4, .int .i64 y457.Before.Regs.c5, .int .i64 y457.Before.Regs.c6, .int .i64 y457.Before.Regs.c7, .int .i64 y457.Before.Draws, .int .i64 y457.Before.Sent, .int .i64 y457.Fault, .slice A459 y457.Sent.length c460] 43 :: Cl b447 [.slice A448 y445.w.Prog.length c449, .int .i64 y445.w.Self, .slice A451 y445.w.Links.length c452, .int .u64 y445.w.Seed, .bool y445.made, .int .i64 y445.state.Regs.c0, .int .i64 y445.state.Regs.c1, .int .i64 y445.state.Regs.c2, .int .i64 y445.state.Regs.c3, .int .i64 y445.state.Regs.c4, .int .i64 y445.state.Regs.c5, .int .i64 y445.state.Regs.c6, .int .i64 y445.state.Regs.c7, .int .i64 y445.state.Draws, .int .i64 y445.state.Sent, .int .i64 y445.every, .slice none ([] : List log_done).length 0, .bool y445.stuck] 58 :: Cl b431 [.int .i64 a8.Key.Time, .int .i64 a8.Key.From, .int .i64 a8.Key.Seq, .int .i64 a8.To, .int .i64 a8.Value, .int .i64 a8.Uid, .bool a8.Anti] 30 :: l) hf) ?_ (s0 := ([], 0, 0)) h ⟨([]), 0, 0, rfl, none, 0, ha.to ⟨rfl, rfl, rfl, rfl, rfl, rfl, rfl, trivial⟩, hS.d6.p2.p4⟩
     rintro G615 _ a w ⟨l581, x584, x585, rfl, A582, c583, ha, hS⟩ h
     revert a
     show RC _ _ _ _ _ _
     refine RC.seq (sr (pn 1 rfl (RL.s (Vl.fa 18 underlying43 rfl sizeOf41 rfl rfl) rfl (RL.s (Vl.ld 3 hS isAgg41 rfl rfl rfl) rfl (RL.s (Vl.lenSl underlying41 rfl) rfl (pn 1 rfl (ln ?_)))))))
     refine RC.iteP 55 rfl h (fun hc617 h => ?_) fun hc617 h => ?_
     next =>
      refine RC.condT rfl (sk (RC.seq (RC.block (sr (pn 2 rfl (RL.s (Vl.lenSl underlying31 rfl) rfl (pn 2 rfl ?_)))))))
      refine RL.iteP 62 rfl h (fun hc631 h => ?_) fun hc631 h => ?_
      next =>
       refine pn 2 rfl ?_
       obtain ⟨hq632, h⟩ := h.req
       refine RL.sg (Vl.indexAddr underlying31 sizeOf5 rfl rfl (((hr12.mono hs454).2.world hS.sub).adr hq632 hc631) hq632 hc631 rfl) rfl rfl (RL.sg (Vl.load isAgg5 rfl (((hr12.mono hs454).2.world hS.sub).cell (j := 0) hq632 hc631 rfl)) rfl rfl (RL.sg (Vl.rem rfl rfl (by decide)) rfl rfl (pn 2 rfl (ln ?_))))
       refine RC.iteP 69 rfl h (fun hc633 h => ?_) fun hc633 h => ?_
       next =>
        refine RC.condT rfl (sr (RL.s (Vl.fa 18 underlying43 rfl sizeOf41 rfl rfl) rfl (RL.s (Vl.ld 3 hS isAgg41 rfl rfl rfl) rfl (pn 1 rfl (RL.s (Vl.indexOwn 1 hS rfl underlying41 sizeOf30 rfl rfl hq632 hc617) rfl (RL.s (Vl.loadA isAgg30 sizeOf30 rfl rfl ((hS.slW 1 rfl).2.2.cells hq632 hc617)) rfl (al hS zeroValue30 rfl rfl rfl fun b634 w hS => RL.e0 (OW.store (vs := [.int .i64 (((nth y457.Sent x585).Key).Time), .int .i64 (((nth y457.Sent x585).Key).From), .int .i64 (((nth y457.Sent x585).Key).Seq), .int .i64 ((nth y457.Sent x585).To), .int .i64 ((nth y457.Sent x585).Value), .int .i64 ((nth y457.Sent x585).Uid), .bool ((nth y457.Sent x585).Anti)]) 0 hS rfl rfl rfl rfl sizeOf30 rfl rfl rfl rfl) rfl ?_)))))))
        rintro _ w ⟨rfl, hS⟩
        have hS : St B w (Cl _ [_, _, _, _, _, _, _] _ :: _ :: _ :: _ :: _ :: _ :: _ :: l) hf := hS
        refine lnsr (pn 1 rfl (RL.s (Vl.fa 5 underlying30 rfl sizeOf3 rfl rfl) rfl (RL.e0 (OW.store (vs := [.int .i64 x585]) 0 hS rfl rfl rfl rfl sizeOf3 rfl rfl rfl rfl) rfl ?_)))
        rintro _ w ⟨rfl, hS⟩
        have hS : St B w (Cl _ [_, _, _, _, _, _, _] _ :: _ :: _ :: _ :: _ :: _ :: _ :: l) hf := hS
        refine lnsr (pn 1 rfl (RL.s (Vl.lw 0 hS isAgg30 sizeOf30 rfl rfl rfl) rfl (RL.e (OW.buildSlice (E := E_api_Message) (xs := [(⟨(nth y457.Sent x585).Key, (nth y457.Sent x585).To, (nth y457.Sent x585).Value, x585, ((nth y457.Sent x585).Anti)⟩ : api_Message)]) (cs := [.int .i64 (((nth y457.Sent x585).Key).Time), .int .i64 (((nth y457.Sent x585).Key).From), .int .i64 (((nth y457.Sent x585).Key).Seq), .int .i64 ((nth y457.Sent x585).To), .int .i64 ((nth y457.Sent x585).Value), .int .i64 x585, .bool ((nth y457.Sent x585).Anti)]) hS underlying41 zeroValue30 sizeOf30 (parts := [(0, .tmp 78)]) rfl rfl (by decide) (by decide) (by kernel_rfl) rfl) rfl rfl ?_)))
        rintro _ w ⟨b635, rfl, hS⟩
        obtain ⟨hq636, h⟩ := h.req
        refine RL.e (OW.append (E := E_api_Message) (xs := l581) (ys := [(⟨(nth y457.Sent x585).Key, (nth y457.Sent x585).To, (nth y457.Sent x585).Value, x585, ((nth y457.Sent x585).Anti)⟩ : api_Message)]) 4 hS rfl underlying41 type30 rfl rfl rfl rfl (by decide) rfl rfl rfl (hS.slW 0 rfl).2.2.flat (by simp only [maxLen, List.length_cons, List.length_nil] at *; omega) hq636 rfl) rfl rfl ?_
        rintro v639 w hS
        obtain ⟨A637, c638, rfl, _⟩ := hS.osShape 0 rfl
        have hS : St B w (_ :: _ :: _ :: _ :: _ :: _ :: _ :: _ :: l) hf := hS
        refine pn 1 rfl (ln (RC.region (pn 3 rfl (RL.nil (RQ.inB_n (RQ.then_n (RC.region (pn 3 rfl (RL.nil ?_)))))))))
        exact fun a ha => ⟨((l581 ++ ([(⟨(nth y457.Sent x585).Key, (nth y457.Sent x585).To, (nth y457.Sent x585).Value, x585, ((nth y457.Sent x585).Anti)⟩ : api_Message)])), IntKind.i64.wrap (x584 + 1), IntKind.i64.wrap (x585 + 1)), ⟨(l581 ++ ([(⟨(nth y457.Sent x585).Key, (nth y457.Sent x585).To, (nth y457.Sent x585).Value, x585, ((nth y457.Sent x585).Anti)⟩ : api_Message)])), (IntKind.i64.wrap (x584 + 1)), (IntKind.i64.wrap (x585 + 1)), rfl, A637, c638, ha.to ⟨rfl, rfl, rfl, rfl, rfl, rfl, rfl, trivial⟩, hS.d1.d1.p2.p2⟩, h.some⟩
       next =>
        refine RC.condF rfl (RC.skip (RQ.inB_n (RQ.then_n (RC.region (pn 3 rfl (RL.nil ?_))))))
        exact fun a ha => ⟨(l581, x584, IntKind.i64.wrap (x585 + 1)), ⟨l581, x584, (IntKind.i64.wrap (x585 + 1)), rfl, A582, c583, ha.to ⟨rfl, rfl, rfl, rfl, rfl, rfl, rfl, trivial⟩, hS⟩, h.some⟩
      next =>
       refine pn 7 rfl (ln (RC.condF rfl (RC.skip (RQ.inB_n (RQ.then_n (RC.region (pn 3 rfl (RL.nil ?_))))))))
       exact fun a ha => ⟨(l581, x584, IntKind.i64.wrap (x585 + 1)), ⟨l581, x584, (IntKind.i64.wrap (x585 + 1)), rfl, A582, c583, ha.to ⟨rfl, rfl, rfl, rfl, rfl, rfl, rfl, trivial⟩, hS⟩, h.some⟩
     next =>
      refine RC.condF rfl (RC.exit (RQ.exitT ?_))
      have h := h.inr
      refine RQ.exitT (RQ.inB_hit (tsr (pn 1 rfl (RL.s (Vl.lw 5 hS isAgg30 sizeOf30 rfl rfl rfl) rfl (pn 1 rfl ?_)))))
      obtain ⟨hf, hs640, hS, hr641⟩ := St.promote hS.p2
      have hS : St B w (_ :: _ :: _ :: _ :: _ :: l) hf := hS
      refine cF (fun _ hg => log_Log_Do.ok (a2 := (⟨y445.w, y445.made, y445.state, y445.every, ([] : List log_done), y445.stuck⟩ : log_Log)) (hr450.mono hs640) (hr453.mono hs640) RepL.nil hr641 ((hG0.mono hs454).mono hs640) hg hS.p3) call10 h rfl rfl rfl ?_
      rintro ⟨y644, y645, y646⟩ h _ w ⟨hf, hs653, A647, c648, A649, c650, cs651, rfl, hS, hx652⟩
      refine pn 3 rfl (al hS zeroValue43 rfl rfl rfl fun b654 w hS => RL.e0 (OW.store (vs := [.int .i64 y644.Event.Key.Time, .int .i64 y644.Event.Key.From, .int .i64 y644.Event.Key.Seq, .int .i64 y644.Event.To, .int .i64 y644.Event.Value, .int .i64 y644.Event.Uid, .bool y644.Event.Anti, .int .i64 y644.Before.Regs.c0, .int .i64 y644.Before.Regs.c1, .int .i64 y644.Before.Regs.c2, .int .i64 y644.Before.Regs.c3, .int .i64 y644.Before.Regs.c4, .int .i64 y644.Before.Regs.c5, .int .i64 y644.Before.Regs.c6, .int .i64 y644.Before.Regs.c7, .int .i64 y644.Before.Draws, .int .i64 y644.Before.Sent, .int .i64 y644.Fault, .slice A647 y644.Sent.length c648]) 0 hS rfl rfl rfl rfl sizeOf43 rfl rfl rfl rfl) rfl ?_)
      rintro _ w ⟨rfl, hS⟩
      have hS : St B w (Cl _ [_, _, _, _, _, _, _, _, _, _, _, _, _, _, _, _, _, _, _] _ :: _ :: _ :: _ :: _ :: _ :: _ :: l) hf := hS
      refine pn 1 rfl (ln (RC.seq (sr (pn 3 rfl ?_))))
      refine RL.iteN 92 rfl h (fun hc657 h => ?_) fun hc657 h => ?_
      next =>
       refine RL.sg (Vl.fa 18 underlying43 rfl sizeOf41 rfl rfl) rfl rfl (RL.sg (Vl.ld 0 hS isAgg41 rfl rfl rfl) rfl rfl (RL.sg (Vl.lenSl underlying41 rfl) rfl rfl (RL.sg (Vl.fa 18 underlying43 rfl sizeOf41 rfl rfl) rfl rfl (RL.sg (Vl.ld 5 hS isAgg41 rfl rfl rfl) rfl rfl (RL.sg (Vl.lenSl underlying41 rfl) rfl rfl (pn 2 rfl (ln ?_)))))))
       refine RC.iteN 100 rfl h (fun hc658 h => ?_) fun hc658 h => ?_
       next =>
        refine RC.condF rfl (sk (sr (pn 1 rfl (ln (RC.seq (sr (pn 1 rfl (ln (RC.block ?_)))))))))
        refine fun a ha => RC.loop (N := 146) (body := (isochronlaw10vLogNames.l8b a9 y457 x584 y644)) (φ := (· = r)) (fun (s : Int × Int) a w => ∃ (x776 : Int) (x777 : Int), s = (x776, x777) ∧ Has 146 [(2, .slice A10 a9.length c11), (9, .pointer (some ⟨b461, 0, none⟩)), (12, .int .i64 x584), (15, .pointer (some ⟨b654, 0, none⟩)), (16, .int .i64 x776), (17, .int .i64 x777)] a ∧ St B w (OSf E_api_Message 30 (.slice A459 y457.Sent.length c460) y457.Sent :: OSf E_api_Message 30 (.slice A647 y644.Sent.length c648) y644.Sent :: Cl b654 [.int .i64 y644.Event.Key.Time, .int .i64 y644.Event.Key.From, .int .i64 y644.Event.Key.Seq, .int .i64 y644.Event.To, .int .i64 y644.Event.Value, .int .i64 y644.Event.Uid, .bool y644.Event.Anti, .int .i64 y644.Before.Regs.c0, .int .i64 y644.Before.Regs.c1, .int .i64 y644.Before.Regs.c2, .int .i64 y644.Before.Regs.c3, .int .i64 y644.Before.Regs.c4, .int .i64 y644.Before.Regs.c5, .int .i64 y644.Before.Regs.c6, .int .i64 y644.Before.Regs.c7, .int .i64 y644.Before.Draws, .int .i64 y644.Before.Sent, .int .i64 y644.Fault, .slice A647 y644.Sent.length c648] 43 :: Cl b461 [.int .i64 y457.Event.Key.Time, .int .i64 y457.Event.Key.From, .int .i64 y457.Event.Key.Seq, .int .i64 y457.Event.To, .int .i64 y457.Event.Value, .int .i64 y457.Event.Uid, .bool y457.Event.Anti, .int .i64 y457.Before.Regs.c0, .int .i64 y457.Before.Regs.c1, .int .i64 y457.Before.Regs.c2, .int .i64 y457.Before.Regs.c3, .int .i64 y457.Before.Regs.c4, .int .i64 y457.Before.Regs.c5, .int .i64 y457.Before.Regs.c6, .int .i64 y457.Before.Regs.c7, .int .i64 y457.Before.Draws, .int .i64 y457.Before.Sent, .int .i64 y457.Fault, .slice A459 y457.Sent.length c460] 43 :: l) hf) ?_ (s0 := (100, 0)) h ⟨100, 0, rfl, ha.to ⟨rfl, rfl, rfl, rfl, rfl, rfl, trivial⟩, hS.d2.d2.d4.p1.p2⟩
        rintro G811 _ a w ⟨x776, x777, rfl, ha, hS⟩ h
        revert a
        show RC _ _ _ _ _ _
        refine RC.seq (sr (pn 1 rfl (RL.s (Vl.fa 18 underlying43 rfl sizeOf41 rfl rfl) rfl (RL.s (Vl.ld 2 hS isAgg41 rfl rfl rfl) rfl (RL.s (Vl.lenSl underlying41 rfl) rfl (pn 1 rfl (ln ?_)))))))
        refine RC.iteP 105 rfl h (fun hc813 h => ?_) fun hc813 h => ?_
        next =>
         refine RC.condT rfl (sk (RC.seq (RC.block (RC.seq (sr (pn 2 rfl (RL.s (Vl.lenSl underlying31 rfl) rfl (pn 2 rfl ?_))))))))
         refine RL.iteP 112 rfl h (fun hc833 h => ?_) fun hc833 h => ?_
         next =>
          refine pn 2 rfl ?_
          obtain ⟨hq834, h⟩ := h.req
          refine RL.sg (Vl.indexAddr underlying31 sizeOf5 rfl rfl (((((hr12.mono hs454).mono hs640).mono hs653).2.world hS.sub).adr hq834 hc833) hq834 hc833 rfl) rfl rfl (RL.sg (Vl.load isAgg5 rfl (((((hr12.mono hs454).mono hs640).mono hs653).2.world hS.sub).cell (j := 0) hq834 hc833 rfl)) rfl rfl (RL.sg (Vl.rem rfl rfl (by decide)) rfl rfl (pn 2 rfl (ln ?_))))
          refine RC.iteP 119 rfl h (fun hc835 h => ?_) fun hc835 h => ?_
          next =>
           refine RC.condT rfl (RC.seq (sr (RL.s (Vl.fa 18 underlying43 rfl sizeOf41 rfl rfl) rfl (RL.s (Vl.ld 2 hS isAgg41 rfl rfl rfl) rfl (pn 1 rfl (RL.s (Vl.indexOwn 1 hS rfl underlying41 sizeOf30 rfl rfl hq834 hc813) rfl (RL.s (Vl.fieldAddr (a'' := (ad A647).add (x777.toNat * 7 + 5)) underlying30 rfl sizeOf3 rfl (add_add _ _ _)) rfl (RL.s (Vl.load isAgg3 rfl ((hS.slW 1 rfl).2.2.cell (j := 5) hq834 hc813 rfl)) rfl (pn 2 rfl (ln ?_))))))))))
           refine RC.iteN 127 rfl h (fun hc836 h => ?_) fun hc836 h => ?_
           next =>
            refine RC.condF rfl (sk (RC.exit (RQ.exitT (RQ.inB_hit (RQ.then_n (RC.region (pn 3 rfl (RL.nil ?_))))))))
            exact fun a ha => ⟨(x776, IntKind.i64.wrap (x777 + 1)), ⟨x776, (IntKind.i64.wrap (x777 + 1)), rfl, ha.to ⟨rfl, rfl, rfl, rfl, rfl, rfl, trivial⟩, hS⟩, h.some⟩
           next =>
            refine RC.condT rfl (sr (pn 1 rfl (lr (RQ.ret (RQ.ret (RQ.inB_ret (RQ.ret ?_)))))))
            have h := h.inrS
            refine RQ.ret (RQ.inB_ret (RQ.ret ?_))
            obtain rfl := h.some
            exact rt results3 rfl ⟨rfl, (hS.d0.d0.d0.d0).down ((hs454.trans hs640).trans hs653)⟩
          next =>
           refine RC.condF rfl (sk (RC.seq (sr (RL.s (Vl.fa 18 underlying43 rfl sizeOf41 rfl rfl) rfl (RL.s (Vl.ld 2 hS isAgg41 rfl rfl rfl) rfl (pn 1 rfl (RL.s (Vl.indexOwn 1 hS rfl underlying41 sizeOf30 rfl rfl hq834 hc813) rfl (RL.s (Vl.fieldAddr (a'' := (ad A647).add (x777.toNat * 7 + 5)) underlying30 rfl sizeOf3 rfl (add_add _ _ _)) rfl (RL.s (Vl.load isAgg3 rfl ((hS.slW 1 rfl).2.2.cell (j := 5) hq834 hc813 rfl)) rfl (pn 2 rfl (ln ?_)))))))))))
           refine RC.iteN 135 rfl h (fun hc838 h => ?_) fun hc838 h => ?_
           next =>
            refine RC.condF rfl (sk (RC.region (pn 3 rfl (RL.nil (RQ.inB_n (RQ.then_n (RC.region (pn 3 rfl (RL.nil ?_)))))))))
            exact fun a ha => ⟨(IntKind.i64.wrap (x776 + 1), IntKind.i64.wrap (x777 + 1)), ⟨(IntKind.i64.wrap (x776 + 1)), (IntKind.i64.wrap (x777 + 1)), rfl, ha.to ⟨rfl, rfl, rfl, rfl, rfl, rfl, trivial⟩, hS⟩, h.some⟩
           next =>
            refine RC.condT rfl (sr (pn 1 rfl (lr (RQ.ret (RQ.inB_ret (RQ.ret ?_))))))
            have h := h.inrS
            refine RQ.ret (RQ.inB_ret (RQ.ret ?_))
            obtain rfl := h.some
            exact rt results3 rfl ⟨rfl, (hS.d0.d0.d0.d0).down ((hs454.trans hs640).trans hs653)⟩
         next =>
          refine pn 7 rfl (ln (RC.condF rfl (sk (RC.seq (sr (RL.s (Vl.fa 18 underlying43 rfl sizeOf41 rfl rfl) rfl (RL.s (Vl.ld 2 hS isAgg41 rfl rfl rfl) rfl (pn 1 rfl ?_))))))))
          obtain ⟨hq841, h⟩ := h.req
          refine RL.s (Vl.indexOwn 1 hS rfl underlying41 sizeOf30 rfl rfl hq841 hc813) rfl (RL.s (Vl.fieldAddr (a'' := (ad A647).add (x777.toNat * 7 + 5)) underlying30 rfl sizeOf3 rfl (add_add _ _ _)) rfl (RL.s (Vl.load isAgg3 rfl ((hS.slW 1 rfl).2.2.cell (j := 5) hq841 hc813 rfl)) rfl (pn 2 rfl (ln ?_))))
          refine RC.iteN 135 rfl h (fun hc842 h => ?_) fun hc842 h => ?_
          next =>
           refine RC.condF rfl (sk (RC.region (pn 3 rfl (RL.nil (RQ.inB_n (RQ.then_n (RC.region (pn 3 rfl (RL.nil ?_)))))))))
           exact fun a ha => ⟨(IntKind.i64.wrap (x776 + 1), IntKind.i64.wrap (x777 + 1)), ⟨(IntKind.i64.wrap (x776 + 1)), (IntKind.i64.wrap (x777 + 1)), rfl, ha.to ⟨rfl, rfl, rfl, rfl, rfl, rfl, trivial⟩, hS⟩, h.some⟩
          next =>
           refine RC.condT rfl (sr (pn 1 rfl (lr (RQ.ret (RQ.inB_ret (RQ.ret ?_))))))
           have h := h.inrS
           refine RQ.ret (RQ.inB_ret (RQ.ret ?_))
           obtain rfl := h.some
           exact rt results3 rfl ⟨rfl, (hS.d0.d0.d0.d0).down ((hs454.trans hs640).trans hs653)⟩
        next =>
         refine RC.condF rfl (RC.exit (RQ.exitT ?_))
         have h := h.inrS
         refine RQ.exitT (RQ.inB_hit (tsr (pn 1 rfl (RL.s (Vl.fa 18 underlying43 rfl sizeOf41 rfl rfl) rfl (RL.s (Vl.ld 3 hS isAgg41 rfl rfl rfl) rfl (RL.s (Vl.lenSl underlying41 rfl) rfl (pn 5 rfl (lr ?_))))))))
         obtain rfl := h.some
         exact rt results3 rfl ⟨rfl, (hS.d0.d0.d0.d0).down ((hs454.trans hs640).trans hs653)⟩
       next =>
        refine RC.condT rfl (sr (pn 1 rfl (lr (RQ.ret ?_))))
        obtain rfl := h.some
        exact rt results3 rfl ⟨rfl, (hS.d0.d0.d0.d0.d0.d0.d0).down ((hs454.trans hs640).trans hs653)⟩
      next =>
       refine pn 8 rfl (ln (RC.condT rfl (sr (pn 1 rfl (lr (RQ.ret ?_))))))
       obtain rfl := h.some
       exact rt results3 rfl ⟨rfl, (hS.d0.d0.d0.d0.d0.d0.d0).down ((hs454.trans hs640).trans hs653)⟩
    next =>
     refine RC.condT rfl (sr (pn 3 rfl ?_))
     refine RL.iteP 42 rfl h (fun hc843 h => ?_) fun hc843 h => ?_
     next =>
      refine RL.sg (Vl.lw 4 hS isAgg30 sizeOf30 rfl rfl rfl) rfl rfl (cF (fun _ hg => event_Check.ok hg hS) call9 h rfl rfl rfl ?_)
      rintro t844 h _ w ⟨rfl, hS⟩
      refine pn 2 rfl ?_
      refine RL.iteN 46 rfl h (fun hc846 h => ?_) fun hc846 h => ?_
      next =>
       refine RL.sg (Vl.fa 6 underlying30 rfl sizeOf4 rfl rfl) rfl rfl (RL.sg (Vl.ld 4 hS isAgg4 rfl rfl rfl) rfl rfl (pn 3 rfl (lr (RQ.ret ?_))))
       obtain rfl := h.some
       exact rt results3 rfl ⟨rfl, (hS.d0.d0.d0.d0.d0.d0).down hs454⟩
      next =>
       refine pn 5 rfl (lr (RQ.ret ?_))
       obtain rfl := h.some
       exact rt results3 rfl ⟨rfl, (hS.d0.d0.d0.d0.d0.d0).down hs454⟩
     next =>
      refine pn 9 rfl (lr (RQ.ret ?_))
      obtain rfl := h.some
      exact rt results3 rfl ⟨rfl, (hS.d0.d0.d0.d0.d0.d0).down hs454⟩

end Go.Proofs.Gx
