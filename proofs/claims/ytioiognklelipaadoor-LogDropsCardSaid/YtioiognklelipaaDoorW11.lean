/-
  The walks of functions, each with what it computes: printed by wip/gx.py.
-/
import Derived.Test.YtioiognklelipaaDoorW0
import Derived.Test.YtioiognklelipaaDoorW1
import Derived.Test.YtioiognklelipaaDoorW10
import Derived.Test.YtioiognklelipaaDoorW7
import Derived.Test.YtioiognklelipaaDoorW9
set_option linter.unusedVariables false
set_option maxRecDepth 100000
set_option maxHeartbeats 4000000
namespace Go.Proofs.Gx
open Go.Sl Tryd
variable {B : Base} {w : World} {l : List HProp} {hf : Hp}
/-! ### isochron/isochronlaw10.LogDrops: function 4 -/
noncomputable def isochronlaw10vLogDrops.l8b (a12 : Int) (y525 y726 : log_Log) (y807 : List api_Entry) (y808 : List log_done) (t818 : List api_Entry) : Int → Option ((Int) ⊕ (Bool))
  | (x938) => (if x938 < (y807.length : Int) then (if 0 ≤ x938 then (if IntKind.i64.wrap a12 ≤ (((nth y807 x938).Event).Key).Time then some (.inr false) else some (.inl (IntKind.i64.wrap (x938 + 1)))) else none) else (Option.map Sum.inr (if (t818.length : Int) = 0 then ((log_Log_Drop.f (⟨y525.w, y525.made, y726.state, y525.every, y808, y726.stuck⟩ : log_Log) (IntKind.i64.wrap a12)).bind fun (y972, y973) => (if (y972.length : Int) = 0 then ((log_Log_Kept.f (⟨y525.w, y525.made, y726.state, y525.every, y973, y726.stuck⟩ : log_Log)).bind fun t984 => some (decide (1 ≤ t984))) else some false)) else (if 0 < (t818.length : Int) then (if IntKind.i64.wrap a12 ≤ (((nth t818 0).Event).Key).Time then ((log_Log_Drop.f (⟨y525.w, y525.made, y726.state, y525.every, y808, y726.stuck⟩ : log_Log) (IntKind.i64.wrap a12)).bind fun (y994, y995) => (if (y994.length : Int) = 0 then ((log_Log_Kept.f (⟨y525.w, y525.made, y726.state, y525.every, y995, y726.stuck⟩ : log_Log)).bind fun t1006 => some (decide (1 ≤ t1006))) else some false)) else some false) else none))))
noncomputable def isochronlaw10vLogDrops.l8 (a12 : Int) (y525 y726 : log_Log) (y807 : List api_Entry) (y808 : List log_done) (t818 : List api_Entry) (s : Int) : Option (Bool) := loopR (isochronlaw10vLogDrops.l8b a12 y525 y726 y807 y808 t818) s
noncomputable def isochronlaw10vLogDrops.l6b (a12 : Int) (y525 : log_Log) (t535 : List api_Message) : log_Log × Int → Option ((log_Log × Int) ⊕ (Bool))
  | (y726, x731) => (if x731 < (t535.length : Int) then (if 0 ≤ x731 then ((log_Log_Do.f (⟨y525.w, y525.made, y726.state, y525.every, y726.l, y726.stuck⟩ : log_Log) (⟨(nth t535 x731).Key, (nth t535 x731).To, (nth t535 x731).Value, (nth t535 x731).Uid, ((nth t535 x731).Anti)⟩ : api_Message) 0 ([])).bind fun (y785, y786, y787) => some (.inl ((⟨y525.w, y525.made, y787.state, y525.every, y787.l, y787.stuck⟩ : log_Log), IntKind.i64.wrap (x731 + 1)))) else none) else (Option.map Sum.inr ((log_Log_All.f (⟨y525.w, y525.made, y726.state, y525.every, y726.l, y726.stuck⟩ : log_Log)).bind fun t795 => ((log_Log_State.f (⟨y525.w, y525.made, y726.state, y525.every, y726.l, y726.stuck⟩ : log_Log)).bind fun t802 => ((log_Log_Drop.f (⟨y525.w, y525.made, y726.state, y525.every, y726.l, y726.stuck⟩ : log_Log) (IntKind.i64.wrap a12)).bind fun (y807, y808) => ((log_Log_All.f (⟨y525.w, y525.made, y726.state, y525.every, y808, y726.stuck⟩ : log_Log)).bind fun t818 => (if IntKind.i64.wrap ((y807.length : Int) + (t818.length : Int)) = (t795.length : Int) then ((log_Log_State.f (⟨y525.w, y525.made, y726.state, y525.every, y808, y726.stuck⟩ : log_Log)).bind fun t854 => (if t854 = t802 then (if 0 ≤ (y807.length : Int) ∧ (y807.length : Int) ≤ (t795.length : Int) then ((isochronlaw10ventries.f (subL t795 0 (y807.length : Int)) y807).bind fun t867 => (if t867 = true then ((isochronlaw10ventries.f (subL t795 (y807.length : Int) (t795.length : Int)) t818).bind fun t878 => (if t878 = true then isochronlaw10vLogDrops.l8 a12 y525 y726 y807 y808 t818 (0) else some false)) else some false)) else none) else some false)) else some false)))))))
noncomputable def isochronlaw10vLogDrops.l6 (a12 : Int) (y525 : log_Log) (t535 : List api_Message) (s : log_Log × Int) : Option (Bool) := loopR (isochronlaw10vLogDrops.l6b a12 y525 t535) s
noncomputable def isochronlaw10vLogDrops.f (a1 : api_World) (a8 : List Int) (a12 a13 : Int) : Option (Bool) := ((log_New.f a1 (⟨(⟨0, 0, 0, 0, 0, 0, 0, 0⟩ : Arr8xInti64), 0, 0⟩ : api_State) (IntKind.i64.wrap (1 + (IntKind.i64.wrap (Int.tmod a13 20))))).bind fun t512 => match t512 with | .inl y514 => ((vm_Check.f a1).bind fun t520 => (if t520 = 0 then some false else ((isochronlaw10vawake.f).bind fun t523 => some t523))) | .inr ((y525, y526)) => ((isochronlaw10vevents.f a8).bind fun t535 => isochronlaw10vLogDrops.l6 a12 y525 t535 ((⟨y525.w, y525.made, y525.state, y525.every, [], y525.stuck⟩ : log_Log), 0)))
theorem isochronlaw10vLogDrops.ok {a1 : api_World} {a8 : List Int} {a12 a13 : Int} {A2 : Option Addr} {c3 : Nat} {A5 : Option Addr} {c6 : Nat} {A9 : Option Addr} {c10 : Nat} (hr4 : SlR E_api_Instr.rep hf A2 c3 a1.Prog) (hr7 : SlR E_api_Link.rep hf A5 c6 a1.Links) (hr11 : SlR ((FI .u8).rep) hf A9 c10 a8) (hG0 : GlobAt hf 0 (.iface 115 (.agg #[.pointer (some ⟨1, 75, none⟩)]))) {r : Bool} (h : isochronlaw10vLogDrops.f a1 a8 a12 a13 = some r) (hS : St B w (l) hf) :
    Calls prog 4 #[.agg #[.slice A2 a1.Prog.length c3, .int .i64 a1.Self, .slice A5 a1.Links.length c6, .int .u64 a1.Seed], .slice A9 a8.length c10, .int .u8 a12, .int .u8 a13] w (Ret fun v w => v = .bool r ∧ St B w (l) hf) := by
  have h := Holds.of h
  refine en func4 rfl ntmps4 rfl (sr (bx hS rfl rfl rfl rfl fun b511 w hS => pn 1 rfl (lnsr (RL.s (Vl.lw 0 hS isAgg26 sizeOf26 rfl rfl rfl) rfl (RL.s (Vl.build (v := .agg #[.int .i64 0, .int .i64 0, .int .i64 0, .int .i64 0, .int .i64 0, .int .i64 0, .int .i64 0, .int .i64 0, .int .i64 0, .int .i64 0]) (parts := []) rfl (by kernel_rfl)) rfl (pn 1 rfl (RL.s (Vl.rem rfl rfl (by decide)) rfl (RL.s (Vl.conv underlying5 underlying3 rfl) rfl (pn 1 rfl ?_)))))))))
  obtain ⟨t512, hg513, h⟩ := h.bind
  have hc := log_New.ok hr4 hr7 hg513 hS
  rcases t512 with y514 | ⟨y525, y526⟩
  · refine RL.e (OW.callF (ls := [.tmp 19, .tmp 20, .tmp 24]) rfl call5 hc) rfl rfl ?_
    rintro _ w ⟨rfl, hS⟩
    refine pn 5 rfl (ln (RC.seq (sr (pn 1 rfl (RL.s (Vl.bin (v := .bool true) rfl rfl (by kernel_rfl)) rfl (ln (RC.condT rfl (sr (RL.s (Vl.lw 0 hS isAgg26 sizeOf26 rfl rfl rfl) rfl (cF (fun _ hg => vm_Check.ok hr4 hr7 hg hS) call6 h rfl rfl rfl ?_))))))))))
    rintro t520 h _ w ⟨rfl, hS⟩
    refine pn 2 rfl ?_
    refine RL.iteN 33 rfl h (fun hc522 h => ?_) fun hc522 h => ?_
    next =>
     refine pn 3 rfl (lr (RQ.ret ?_))
     obtain rfl := h.some
     exact rt results4 rfl ⟨rfl, hS.d0⟩
    next =>
     refine cF (fun _ hg => isochronlaw10vawake.ok hg hS) call7 h rfl rfl rfl ?_
     rintro t523 h _ w ⟨rfl, hS⟩
     refine pn 2 rfl (lr (RQ.ret ?_))
     obtain rfl := h.some
     exact rt results4 rfl ⟨rfl, hS.d0⟩
  · refine RL.e (OW.callF (ls := [.tmp 19, .tmp 20, .tmp 24]) rfl call5 hc) rfl rfl ?_
    rintro _ w ⟨hf, hs534, b527, A528, c529, A531, c532, rfl, hS, hr530, hr533⟩
    refine pn 5 rfl (ln (RC.seq (sr (pn 1 rfl (RL.s (Vl.bin (v := .bool false) rfl rfl (by kernel_rfl)) rfl (ln (RC.condF rfl (sk (sr (pn 1 rfl ?_))))))))))
    refine cF (fun _ hg => isochronlaw10vevents.ok (hr11.mono hs534) hg hS) call11 h rfl rfl rfl ?_
    rintro t535 h _ w ⟨A537, c538, rfl, hS⟩
    refine pn 1 rfl (ln (RC.seq (sr (pn 1 rfl (ln (RC.block ?_))))))
    have hS := hS.nilSlR 67 10
    refine fun a ha => RC.loop (N := 135) (body := (isochronlaw10vLogDrops.l6b a12 y525 t535)) (φ := (· = r)) (fun (s : log_Log × Int) a w => ∃ (y726 : log_Log) (x731 : Int), s = (y726, x731) ∧ ∃ hf_ : Hp, Sub hf hf_ ∧ ∃ (A727 : Option Addr) (c728 : Nat) (cs729 : List Value), Has 135 [(2, .int .u8 a12), (9, .pointer (some ⟨b527, 0, none⟩)), (11, .slice A537 t535.length c538), (12, .int .i64 x731)] a ∧ St B w (OSl 67 10 (.slice A727 y726.l.length c728) y726.l.length cs729 :: OSf E_api_Message 30 (.slice A537 t535.length c538) t535 :: Cl b527 [.slice A528 y525.w.Prog.length c529, .int .i64 y525.w.Self, .slice A531 y525.w.Links.length c532, .int .u64 y525.w.Seed, .bool y525.made, .int .i64 y726.state.Regs.c0, .int .i64 y726.state.Regs.c1, .int .i64 y726.state.Regs.c2, .int .i64 y726.state.Regs.c3, .int .i64 y726.state.Regs.c4, .int .i64 y726.state.Regs.c5, .int .i64 y726.state.Regs.c6, .int .i64 y726.state.Regs.c7, .int .i64 y726.state.Draws, .int .i64 y726.state.Sent, .int .i64 y525.every, .slice A727 y726.l.length c728, .bool y726.stuck] 58 :: l) hf_ ∧ RepL R_log_done hf_ cs729 y726.l) ?_ (s0 := ((⟨y525.w, y525.made, y525.state, y525.every, [], y525.stuck⟩ : log_Log), 0)) h ⟨(⟨y525.w, y525.made, y525.state, y525.every, [], y525.stuck⟩ : log_Log), 0, rfl, _, (Sub.refl _), none, 0, ([]), ha.to ⟨rfl, rfl, rfl, rfl, trivial⟩, hS.d3, RepL.nil⟩
    rintro G766 _ a w ⟨y726, x731, rfl, hf, hs693, A727, c728, cs729, ha, hS, hx730⟩ h
    revert a
    show RC _ _ _ _ _ _
    refine RC.seq (sr (pn 2 rfl (RL.s (Vl.lenSl underlying41 rfl) rfl (pn 1 rfl (ln ?_)))))
    refine RC.iteP 41 rfl h (fun hc768 h => ?_) fun hc768 h => ?_
    next =>
     refine RC.condT rfl (sk (RC.seq (RC.block (RC.region (pn 3 rfl ?_)))))
     obtain ⟨hq782, h⟩ := h.req
     refine RL.s (Vl.indexOwn 1 hS rfl underlying41 sizeOf30 rfl rfl hq782 hc768) rfl (RL.s (Vl.loadA isAgg30 sizeOf30 rfl rfl ((hS.slW 1 rfl).2.2.cells hq782 hc768)) rfl (cF (fun _ hg => log_Log_Do.ok (a2 := (⟨y525.w, y525.made, y726.state, y525.every, y726.l, y726.stuck⟩ : log_Log)) (hr530.mono hs693) (hr533.mono hs693) hx730 (SlR.nil (A := none) (c := 0)) ((hG0.mono hs534).mono hs693) hg hS.p2) call10 h rfl rfl rfl ?_))
     rintro ⟨y785, y786, y787⟩ h _ w ⟨hf, hs794, A788, c789, A790, c791, cs792, rfl, hS, hx793⟩
     refine RL.nil (RQ.inB_n (RQ.then_n (RC.region (pn 3 rfl (RL.nil ?_)))))
     exact fun a ha => ⟨((⟨y525.w, y525.made, y787.state, y525.every, y787.l, y787.stuck⟩ : log_Log), IntKind.i64.wrap (x731 + 1)), ⟨(⟨y525.w, y525.made, y787.state, y525.every, y787.l, y787.stuck⟩ : log_Log), (IntKind.i64.wrap (x731 + 1)), rfl, _, (hs693.trans hs794), A790, c791, cs792, ha.to ⟨rfl, rfl, rfl, rfl, trivial⟩, hS.d0.p2.p1, hx793⟩, h.some⟩
    next =>
     refine RC.condF rfl (RC.exit (RQ.exitT ?_))
     have h := h.inr
     refine RQ.exitT (RQ.inB_hit (tsr (pn 1 rfl (cF (fun _ hg => log_Log_All.ok (a2 := (⟨y525.w, y525.made, y726.state, y525.every, y726.l, y726.stuck⟩ : log_Log)) (hr530.mono hs693) (hr533.mono hs693) hx730 ((hG0.mono hs534).mono hs693) hg hS.p2) call12 h rfl rfl rfl ?_))))
     rintro t795 h _ w ⟨hf, hs801, A797, c798, cs799, rfl, hS, hx800⟩
     refine pn 1 rfl (lnsr (pn 1 rfl (cF (fun _ hg => log_Log_State.ok (a2 := (⟨y525.w, y525.made, y726.state, y525.every, y726.l, y726.stuck⟩ : log_Log)) ((hr530.mono hs693).mono hs801) ((hr533.mono hs693).mono hs801) (hx730.mono hs801) hg hS.p2.p2) call13 h rfl rfl rfl ?_)))
     rintro t802 h _ w ⟨rfl, hS⟩
     refine al hS zeroValue38 rfl rfl rfl fun b804 w hS => RL.e0 (OW.store (vs := [.int .i64 t802.Regs.c0, .int .i64 t802.Regs.c1, .int .i64 t802.Regs.c2, .int .i64 t802.Regs.c3, .int .i64 t802.Regs.c4, .int .i64 t802.Regs.c5, .int .i64 t802.Regs.c6, .int .i64 t802.Regs.c7, .int .i64 t802.Draws, .int .i64 t802.Sent]) 0 hS rfl rfl rfl rfl sizeOf38 rfl rfl rfl rfl) rfl ?_
     rintro _ w ⟨rfl, hS⟩
     have hS : St B w (Cl _ [_, _, _, _, _, _, _, _, _, _] _ :: _ :: _ :: _ :: _ :: l) hf := hS
     refine lnsr (pn 2 rfl (RL.s (Vl.conv underlying5 underlying2 rfl) rfl (cF (fun _ hg => log_Log_Drop.ok (a2 := (⟨y525.w, y525.made, y726.state, y525.every, y726.l, y726.stuck⟩ : log_Log)) ((hr530.mono hs693).mono hs801) ((hr533.mono hs693).mono hs801) (hx730.mono hs801) (((hG0.mono hs534).mono hs693).mono hs801) hg hS.p2.p2) call14 h rfl rfl rfl ?_)))
     rintro ⟨y807, y808⟩ h _ w ⟨hf, hs817, A809, c810, cs811, A813, c814, cs815, rfl, hS, hx812, hx816⟩
     refine pn 1 rfl (lnsr (pn 1 rfl (cF (fun _ hg => log_Log_All.ok (a2 := (⟨y525.w, y525.made, y726.state, y525.every, y808, y726.stuck⟩ : log_Log)) (((hr530.mono hs693).mono hs801).mono hs817) (((hr533.mono hs693).mono hs801).mono hs817) hx816 ((((hG0.mono hs534).mono hs693).mono hs801).mono hs817) hg hS.p1.p2) call12 h rfl rfl rfl ?_)))
     rintro t818 h _ w ⟨hf, hs824, A820, c821, cs822, rfl, hS, hx823⟩
     refine pn 1 rfl (ln (RC.seq (RC.seq (RC.planS (plD [0, 3, 6, 9, 12, 15, 18, 21, 24, 27, 34, 32, 36, 39, 42, 45, 48, 51, 55, 57, 62, 63, 66, 69, 72, 75, 78, 82, 86, 89, 92, 95]) [29, 30, 31] hS (fun w hS => hS) follows rfl (by kernel_rfl) (NoTmp.then (NoTmp.then NoTmp.body)) fun w hS => pp 1 rfl (RP.s0 1 rfl (fun w => Vl.lenSl underlying49 rfl) rfl (pp 1 rfl (RP.s0 3 rfl (fun w => Vl.lenSl underlying49 rfl) rfl (pp 2 rfl (RP.s0 6 rfl (fun w => Vl.lenSl underlying49 rfl) rfl (pp 2 rfl ?_))))))))))
     refine RP.iteN 68 rfl h (fun hc853 h => ?_) fun hc853 h => ?_
     next =>
      refine pp 1 rfl (RP.sg 0 11 rfl rfl hS (fun w hS => Vl.lw 4 hS isAgg38 sizeOf38 rfl rfl rfl) rfl rfl ?_)
      obtain ⟨t854, hg855, h⟩ := h.bind
      have hc := log_Log_State.ok (a2 := (⟨y525.w, y525.made, y726.state, y525.every, y808, y726.stuck⟩ : log_Log)) ((((hr530.mono hs693).mono hs801).mono hs817).mono hs824) ((((hr533.mono hs693).mono hs801).mono hs817).mono hs824) (hx816.mono hs824) hg855 hS.p2.p2
      refine RP.e 10 rfl (OW.callF (ls := [.tmp 69]) rfl call13 hc) rfl rfl ?_
      rintro _ w ⟨rfl, hS⟩
      refine ⟨kp ⟨fun _ => hS.p2, trivial⟩, ?_⟩
      refine RP.sg0 12 rfl (fun w => Vl.neqS (run_neq_api_State _ _ t854 t802) rfl rfl) rfl rfl (pp 2 rfl ?_)
      refine RP.iteN 74 rfl h (fun hc856 h => ?_) fun hc856 h => ?_
      next =>
       refine pp 2 rfl (RP.sg0 17 rfl (fun w => Vl.lenSl underlying49 rfl) rfl rfl ?_)
       obtain ⟨⟨hq857, hq858⟩, h⟩ := h.req
       refine RP.sg 0 18 rfl rfl hS.p2 (fun w hS => Vl.sliceHO (xs := t795) 5 hS rfl underlying49 sizeOf43 rfl rfl  hq857 hq858) rfl rfl (pp 1 rfl ?_)
       obtain ⟨hf862, hs860, hS, hr859, hb861⟩ := St.lendSlR R_api_Entry_ok hS.p3.p5 rfl ((hx800.mono hs817).mono hs824)
       obtain ⟨hf866, hs864, hS, hr863, hb865⟩ := St.lendSlR R_api_Entry_ok hS rfl ((hx812.mono hs824).mono hs860)
       obtain ⟨t867, hg868, h⟩ := h.bind
       have hc := isochronlaw10ventries.ok ((hr859.sub (lo := 0) (hi := (y807.length : Int)) (m := c798) (Int.le_refl 0) hq857 hq858 (by have : t795.length ≤ c798 := hr859.1; omega)).mono hs864) hr863 hg868 hS
       refine RP.e 20 rfl (OW.callF (ls := [.tmp 78, .tmp 79]) rfl call15 hc) rfl rfl ?_
       rintro _ w ⟨rfl, hS⟩
       have hS := hb865 _ _ hS
       have hS := hb861 _ _ hS
       have hS : St B w (_ :: _ :: _ :: _ :: _ :: _ :: _ :: l) hf := hS
       refine ⟨kp ⟨fun _ => hS.p5.p2.p4.p4.p5, trivial⟩, ?_⟩
       refine pp 3 rfl ?_
       refine RP.iteM 83 rfl h (fun hc869 h => ?_) fun hc869 h => ?_
       next =>
        refine pp 2 rfl (RP.sg0 26 rfl (fun w => Vl.lenSl underlying49 rfl) rfl rfl (RP.sg 0 27 rfl rfl hS.p5.p2.p4.p4.p5 (fun w hS => Vl.sliceLO (xs := t795) 5 hS rfl underlying49 sizeOf43 rfl rfl  hq857 hq858) rfl rfl (RP.v1 28 rfl (Vl.move rfl) rfl rfl ?_)))
        obtain ⟨hf873, hs871, hS, hr870, hb872⟩ := St.lendSlR R_api_Entry_ok hS.p4.p1 rfl ((hx800.mono hs817).mono hs824)
        obtain ⟨hf877, hs875, hS, hr874, hb876⟩ := St.lendSlR R_api_Entry_ok hS rfl (hx823.mono hs871)
        obtain ⟨t878, hg879, h⟩ := h.bind
        have hc := isochronlaw10ventries.ok ((hr870.sub (lo := (y807.length : Int)) (hi := (t795.length : Int)) (m := c798) hq857 hq858 (Int.le_refl _) (by have : t795.length ≤ c798 := hr870.1; omega)).mono hs875) hr874 hg879 hS
        refine RP.e 29 rfl (OW.callF (ls := [.tmp 87, .tmp 88]) rfl call15 hc) rfl rfl ?_
        rintro _ w ⟨rfl, hS⟩
        have hS := hb876 _ _ hS
        have hS := hb872 _ _ hS
        have hS : St B w (_ :: _ :: _ :: _ :: _ :: _ :: _ :: l) hf := hS
        refine ⟨kp ⟨(by intro hx; cases hx), trivial⟩, ?_⟩
        refine RP.v1 30 rfl (Vl.not rfl) rfl rfl (RP.v1 31 rfl (Vl.pickF rfl rfl) rfl rfl (RP.nil (RQ.then_n ?_)))
        refine RC.iteM 91 rfl h (fun hc880 h => ?_) fun hc880 h => ?_
        next =>
         refine RC.condF rfl (sk (RC.seq (sr (pn 1 rfl (ln (RC.block ?_))))))
         refine fun a ha => RC.loop (N := 135) (body := (isochronlaw10vLogDrops.l8b a12 y525 y726 y807 y808 t818)) (φ := (· = r)) (fun (s : Int) a w => ∃ (x938 : Int), s = (x938) ∧ Has 135 [(2, .int .u8 a12), (9, .pointer (some ⟨b527, 0, none⟩)), (15, .slice A809 y807.length c810), (16, .slice A820 t818.length c821), (17, .int .i64 x938)] a ∧ St B w (OSl 67 10 (.slice A813 y808.length c814) y808.length cs815 :: OSl 43 19 (.slice A809 y807.length c810) y807.length cs811 :: OSl 43 19 (.slice A820 t818.length c821) t818.length cs822 :: Cl b527 [.slice A528 y525.w.Prog.length c529, .int .i64 y525.w.Self, .slice A531 y525.w.Links.length c532, .int .u64 y525.w.Seed, .bool y525.made, .int .i64 y726.state.Regs.c0, .int .i64 y726.state.Regs.c1, .int .i64 y726.state.Regs.c2, .int .i64 y726.state.Regs.c3, .int .i64 y726.state.Regs.c4, .int .i64 y726.state.Regs.c5, .int .i64 y726.state.Regs.c6, .int .i64 y726.state.Regs.c7, .int .i64 y726.state.Draws, .int .i64 y726.state.Sent, .int .i64 y525.every, .slice A813 y808.length c814, .bool y726.stuck] 58 :: l) hf) ?_ (s0 := (0)) h ⟨0, rfl, ha.to ⟨rfl, rfl, rfl, rfl, rfl, trivial⟩, hS.d0.d4.d4.p1.p3⟩
         rintro G954 x938 a w ⟨_, rfl, ha, hS⟩ h
         revert a
         show RC _ _ _ _ _ _
         refine RC.seq (sr (pn 2 rfl (RL.s (Vl.lenSl underlying49 rfl) rfl (pn 1 rfl (ln ?_)))))
         refine RC.iteP 95 rfl h (fun hc956 h => ?_) fun hc956 h => ?_
         next =>
          refine RC.condT rfl (sk (RC.seq (RC.block (sr (pn 2 rfl ?_)))))
          obtain ⟨hq963, h⟩ := h.req
          refine RL.s (Vl.indexOwn 1 hS rfl underlying49 sizeOf43 rfl rfl hq963 hc956) rfl (RL.s (Vl.fieldAddr (a'' := (ad A809).add (x938.toNat * 19 + 0)) underlying43 rfl sizeOf30 rfl (add_add _ _ _)) rfl (RL.s (Vl.fieldAddr (a'' := (ad A809).add (x938.toNat * 19 + 0)) underlying30 rfl sizeOf28 rfl (add_add _ _ _)) rfl (RL.s (Vl.fieldAddr (a'' := (ad A809).add (x938.toNat * 19 + 0)) underlying28 rfl sizeOf2 rfl (add_add _ _ _)) rfl ?_)))
          obtain ⟨_, ⟨A965, c966, rfl, hr967⟩, hl964⟩ := RepL.elem R_api_Entry_ok (hx812.mono hs824) hq963 hc956
          refine RL.s (Vl.load isAgg2 rfl (hS.litCell 1 rfl (hl964 0 _ rfl))) rfl (pn 1 rfl (RL.s (Vl.conv underlying5 underlying2 rfl) rfl (pn 1 rfl (ln ?_))))
          refine RC.iteP 107 rfl h (fun hc968 h => ?_) fun hc968 h => ?_
          next =>
           refine RC.condT rfl (sr (pn 1 rfl (lr (RQ.inB_ret (RQ.ret ?_)))))
           have h := h.inrS
           refine RQ.ret (RQ.inB_ret (RQ.ret ?_))
           obtain rfl := h.some
           exact rt results4 rfl ⟨rfl, (hS.d0.d0.d0.d0).down ((((hs534.trans hs693).trans hs801).trans hs817).trans hs824)⟩
          next =>
           refine RC.condF rfl (RC.skip (RQ.inB_n (RQ.then_n (RC.region (pn 3 rfl (RL.nil ?_))))))
           exact fun a ha => ⟨(IntKind.i64.wrap (x938 + 1)), ⟨(IntKind.i64.wrap (x938 + 1)), rfl, ha.to ⟨rfl, rfl, rfl, rfl, rfl, trivial⟩, hS⟩, h.some⟩
         next =>
          refine RC.condF rfl (RC.exit (RQ.exitT ?_))
          have h := h.inr
          refine RQ.exitT (RQ.inB_hit (tsr (pn 1 rfl (RL.s (Vl.lenSl underlying49 rfl) rfl (pn 2 rfl ?_)))))
          refine RL.iteP 111 rfl h (fun hc969 h => ?_) fun hc969 h => ?_
          next =>
           refine pn 13 rfl (RL.sg (Vl.conv underlying5 underlying2 rfl) rfl rfl (cF (fun _ hg => log_Log_Drop.ok (a2 := (⟨y525.w, y525.made, y726.state, y525.every, y808, y726.stuck⟩ : log_Log)) ((((hr530.mono hs693).mono hs801).mono hs817).mono hs824) ((((hr533.mono hs693).mono hs801).mono hs817).mono hs824) (hx816.mono hs824) (((((hG0.mono hs534).mono hs693).mono hs801).mono hs817).mono hs824) hg hS.p3) call14 h rfl rfl rfl ?_))
           rintro ⟨y972, y973⟩ h _ w ⟨hf, hs982, A974, c975, cs976, A978, c979, cs980, rfl, hS, hx977, hx981⟩
           refine RL.sg (Vl.lenSl underlying49 rfl) rfl rfl (pn 3 rfl ?_)
           refine RL.iteP 130 rfl h (fun hc983 h => ?_) fun hc983 h => ?_
           next =>
            refine pn 1 rfl (cF (fun _ hg => log_Log_Kept.ok (a2 := (⟨y525.w, y525.made, y726.state, y525.every, y973, y726.stuck⟩ : log_Log)) (((((hr530.mono hs693).mono hs801).mono hs817).mono hs824).mono hs982) (((((hr533.mono hs693).mono hs801).mono hs817).mono hs824).mono hs982) hx981 hg hS.p1.p2) call16 h rfl rfl rfl ?_)
            rintro t984 h _ w ⟨rfl, hS⟩
            refine pn 3 rfl (lr ?_)
            obtain rfl := h.some
            exact rt results4 rfl ⟨rfl, (hS.d0.d0.d0.d0.d0).down (((((hs534.trans hs693).trans hs801).trans hs817).trans hs824).trans hs982)⟩
           next =>
            refine pn 5 rfl (lr ?_)
            obtain rfl := h.some
            exact rt results4 rfl ⟨rfl, (hS.d0.d0.d0.d0.d0).down (((((hs534.trans hs693).trans hs801).trans hs817).trans hs824).trans hs982)⟩
          next =>
           refine pn 1 rfl ?_
           obtain ⟨hq986, h⟩ := h.req
           refine RL.sg (Vl.indexOwn 2 hS rfl underlying49 sizeOf43 rfl rfl (by decide) hq986) rfl rfl (RL.sg (Vl.fieldAddr (a'' := (ad A820).add ((0 : Int).toNat * 19 + 0)) underlying43 rfl sizeOf30 rfl (add_add _ _ _)) rfl rfl (RL.sg (Vl.fieldAddr (a'' := (ad A820).add ((0 : Int).toNat * 19 + 0)) underlying30 rfl sizeOf28 rfl (add_add _ _ _)) rfl rfl (RL.sg (Vl.fieldAddr (a'' := (ad A820).add ((0 : Int).toNat * 19 + 0)) underlying28 rfl sizeOf2 rfl (add_add _ _ _)) rfl rfl ?_)))
           obtain ⟨_, ⟨A988, c989, rfl, hr990⟩, hl987⟩ := RepL.elem R_api_Entry_ok hx823 (by decide) hq986
           refine RL.sg (Vl.load isAgg2 rfl (hS.litCell 2 rfl (hl987 0 _ rfl))) rfl rfl (pn 1 rfl (RL.sg (Vl.conv underlying5 underlying2 rfl) rfl rfl (pn 3 rfl ?_)))
           refine RL.iteP 122 rfl h (fun hc991 h => ?_) fun hc991 h => ?_
           next =>
            refine pn 2 rfl (RL.sg (Vl.conv underlying5 underlying2 rfl) rfl rfl (cF (fun _ hg => log_Log_Drop.ok (a2 := (⟨y525.w, y525.made, y726.state, y525.every, y808, y726.stuck⟩ : log_Log)) ((((hr530.mono hs693).mono hs801).mono hs817).mono hs824) ((((hr533.mono hs693).mono hs801).mono hs817).mono hs824) (hx816.mono hs824) (((((hG0.mono hs534).mono hs693).mono hs801).mono hs817).mono hs824) hg hS.p3) call14 h rfl rfl rfl ?_))
            rintro ⟨y994, y995⟩ h _ w ⟨hf, hs1004, A996, c997, cs998, A1000, c1001, cs1002, rfl, hS, hx999, hx1003⟩
            refine RL.sg (Vl.lenSl underlying49 rfl) rfl rfl (pn 3 rfl ?_)
            refine RL.iteP 130 rfl h (fun hc1005 h => ?_) fun hc1005 h => ?_
            next =>
             refine pn 1 rfl (cF (fun _ hg => log_Log_Kept.ok (a2 := (⟨y525.w, y525.made, y726.state, y525.every, y995, y726.stuck⟩ : log_Log)) (((((hr530.mono hs693).mono hs801).mono hs817).mono hs824).mono hs1004) (((((hr533.mono hs693).mono hs801).mono hs817).mono hs824).mono hs1004) hx1003 hg hS.p1.p2) call16 h rfl rfl rfl ?_)
             rintro t1006 h _ w ⟨rfl, hS⟩
             refine pn 3 rfl (lr ?_)
             obtain rfl := h.some
             exact rt results4 rfl ⟨rfl, (hS.d0.d0.d0.d0.d0).down (((((hs534.trans hs693).trans hs801).trans hs817).trans hs824).trans hs1004)⟩
            next =>
             refine pn 5 rfl (lr ?_)
             obtain rfl := h.some
             exact rt results4 rfl ⟨rfl, (hS.d0.d0.d0.d0.d0).down (((((hs534.trans hs693).trans hs801).trans hs817).trans hs824).trans hs1004)⟩
           next =>
            refine pn 13 rfl (lr ?_)
            obtain rfl := h.some
            exact rt results4 rfl ⟨rfl, (hS.d0.d0.d0.d0).down ((((hs534.trans hs693).trans hs801).trans hs817).trans hs824)⟩
        next =>
         refine RC.condT rfl (sr (pn 1 rfl (lr (RQ.ret ?_))))
         obtain rfl := h.some
         exact rt results4 rfl ⟨rfl, (hS.d0.d0.d0.d0.d0.d0.d0).down ((((hs534.trans hs693).trans hs801).trans hs817).trans hs824)⟩
       next =>
        refine pp 3 rfl (RP.nn 0 27 rfl rfl rfl (RP.n1 28 rfl rfl rfl (RP.n1 29 rfl rfl rfl (RP.n1 30 rfl rfl rfl (RP.v1 31 rfl (Vl.pickT rfl rfl) rfl rfl (RP.nil (RQ.then_n (RC.condT rfl (sr (pn 1 rfl (lr (RQ.ret ?_))))))))))))
        obtain rfl := h.some
        exact rt results4 rfl ⟨rfl, (hS.d0.d0.d0.d0.d0.d0.d0).down ((((hs534.trans hs693).trans hs801).trans hs817).trans hs824)⟩
      next =>
       refine pp 3 rfl (RP.nn 0 18 rfl rfl rfl (pp 1 rfl (RP.n1 20 rfl rfl rfl (pp 6 rfl (RP.nn 0 27 rfl rfl rfl (RP.n1 28 rfl rfl rfl (RP.n1 29 rfl rfl rfl (RP.n1 30 rfl rfl rfl (RP.v1 31 rfl (Vl.pickT rfl rfl) rfl rfl (RP.nil (RQ.then_n (RC.condT rfl (sr (pn 1 rfl ?_))))))))))))))
       refine lr (RQ.ret ?_)
       obtain rfl := h.some
       exact rt results4 rfl ⟨rfl, (hS.d0.d0.d0.d0.d0.d0.d0).down ((((hs534.trans hs693).trans hs801).trans hs817).trans hs824)⟩
     next =>
      refine pp 1 rfl (RP.nn 0 11 rfl rfl rfl (RP.n1 10 rfl rfl rfl (pp 6 rfl (RP.nn 0 18 rfl rfl rfl (pp 1 rfl (RP.n1 20 rfl rfl rfl (pp 6 rfl (RP.nn 0 27 rfl rfl rfl (RP.n1 28 rfl rfl rfl (RP.n1 29 rfl rfl rfl (RP.n1 30 rfl rfl rfl (RP.v1 31 rfl (Vl.pickT rfl rfl) rfl rfl (RP.nil (RQ.then_n (RC.condT rfl ?_)))))))))))))))
      refine sr (pn 1 rfl (lr (RQ.ret ?_)))
      obtain rfl := h.some
      exact rt results4 rfl ⟨rfl, (hS.d0.d0.d0.d0.d0.d0.d0).down ((((hs534.trans hs693).trans hs801).trans hs817).trans hs824)⟩

end Go.Proofs.Gx
