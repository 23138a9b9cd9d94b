/-
  The walks of functions, each with what it computes: printed by wip/gx.py.
-/
import Derived.Test.YtioiognklelipaaGreatDoorW0
import Derived.Test.YtioiognklelipaaGreatDoorW1
import Derived.Test.YtioiognklelipaaGreatDoorW7
import Derived.Test.YtioiognklelipaaGreatDoorW8
import Derived.Test.YtioiognklelipaaGreatDoorW9
set_option linter.unusedVariables false
set_option maxRecDepth 100000
set_option maxHeartbeats 4000000
namespace Go.Proofs.Gx
open Go.Sl Tryz
variable {B : Base} {w : World} {l : List HProp} {hf : Hp}
/-! ### isochron/isochronlaw10.LogAgain: function 3 -/
noncomputable def isochronlaw10vLogAgain.l10b (y638 : log_Log) (t650 : List api_Message) (t910 : List api_Entry) (t917 : api_State) : log_Log × Int → Option ((log_Log × Int) ⊕ (Bool))
  | (y1129, x1134) => (if x1134 < (t650.length : Int) then (if 0 ≤ x1134 then ((log_Log_Do.f (⟨y638.w, y638.made, y1129.state, y638.every, y1129.l, y1129.stuck⟩ : log_Log) (⟨(nth t650 x1134).Key, (nth t650 x1134).To, (nth t650 x1134).Value, (nth t650 x1134).Uid, ((nth t650 x1134).Anti)⟩ : api_Message) 0 ([])).bind fun (y1188, y1189, y1190) => some (.inl ((⟨y638.w, y638.made, y1190.state, y638.every, y1190.l, y1190.stuck⟩ : log_Log), IntKind.i64.wrap (x1134 + 1)))) else none) else (Option.map Sum.inr ((log_Log_All.f (⟨y638.w, y638.made, y1129.state, y638.every, y1129.l, y1129.stuck⟩ : log_Log)).bind fun t1198 => ((isochronlaw10ventries.f t1198 t910).bind fun t1213 => (if t1213 = true then ((log_Log_State.f (⟨y638.w, y638.made, y1129.state, y638.every, y1129.l, y1129.stuck⟩ : log_Log)).bind fun t1216 => some (decide (t1216 = t917))) else some false)))))
noncomputable def isochronlaw10vLogAgain.l10 (y638 : log_Log) (t650 : List api_Message) (t910 : List api_Entry) (t917 : api_State) (s : log_Log × Int) : Option (Bool) := loopR (isochronlaw10vLogAgain.l10b y638 t650 t910 t917) s
noncomputable def isochronlaw10vLogAgain.j8 (a12 : Int) (y638 : log_Log) (t650 : List api_Message) (t910 : List api_Entry) (t917 : api_State) (y928 : log_Log) : Option (Bool) := isochronlaw10vLogAgain.l10 y638 t650 t910 t917 ((⟨y638.w, y638.made, y928.state, y638.every, y928.l, y928.stuck⟩ : log_Log), Int.tmod (IntKind.i64.wrap a12) (t650.length : Int))
noncomputable def isochronlaw10vLogAgain.l7b (a12 : Int) (y638 : log_Log) (t650 : List api_Message) : log_Log × Int → Option ((log_Log × Int) ⊕ (Bool))
  | (y841, x846) => (if x846 < (t650.length : Int) then (if 0 ≤ x846 then ((log_Log_Do.f (⟨y638.w, y638.made, y841.state, y638.every, y841.l, y841.stuck⟩ : log_Log) (⟨(nth t650 x846).Key, (nth t650 x846).To, (nth t650 x846).Value, (nth t650 x846).Uid, ((nth t650 x846).Anti)⟩ : api_Message) 0 ([])).bind fun (y900, y901, y902) => some (.inl ((⟨y638.w, y638.made, y902.state, y638.every, y902.l, y902.stuck⟩ : log_Log), IntKind.i64.wrap (x846 + 1)))) else none) else (Option.map Sum.inr ((log_Log_All.f (⟨y638.w, y638.made, y841.state, y638.every, y841.l, y841.stuck⟩ : log_Log)).bind fun t910 => ((log_Log_State.f (⟨y638.w, y638.made, y841.state, y638.every, y841.l, y841.stuck⟩ : log_Log)).bind fun t917 => (if (t650.length : Int) = 0 then some (decide ((t910.length : Int) = 0)) else (if ¬ (t650.length : Int) = 0 then (if 0 ≤ Int.tmod (IntKind.i64.wrap a12) (t650.length : Int) ∧ Int.tmod (IntKind.i64.wrap a12) (t650.length : Int) < (t650.length : Int) then ((log_Log_Back.f (⟨y638.w, y638.made, y841.state, y638.every, y841.l, y841.stuck⟩ : log_Log) (⟨(nth t650 (Int.tmod (IntKind.i64.wrap a12) (t650.length : Int))).Key, (nth t650 (Int.tmod (IntKind.i64.wrap a12) (t650.length : Int))).To, (nth t650 (Int.tmod (IntKind.i64.wrap a12) (t650.length : Int))).Value, (nth t650 (Int.tmod (IntKind.i64.wrap a12) (t650.length : Int))).Uid, ((nth t650 (Int.tmod (IntKind.i64.wrap a12) (t650.length : Int))).Anti)⟩ : api_Message)).bind fun (y927, y928) => (if Int.tmod (IntKind.i64.wrap a12) (t650.length : Int) < (t910.length : Int) then (if (y927.length : Int) = IntKind.i64.wrap ((t910.length : Int) - (Int.tmod (IntKind.i64.wrap a12) (t650.length : Int))) then ((log_Log_State.f (⟨y638.w, y638.made, y928.state, y638.every, y928.l, y928.stuck⟩ : log_Log)).bind fun t1224 => (if t1224 = (nth t910 (Int.tmod (IntKind.i64.wrap a12) (t650.length : Int))).Before then ((log_Log_Len.f (⟨y638.w, y638.made, y928.state, y638.every, y928.l, y928.stuck⟩ : log_Log)).bind fun t1227 => (if t1227 = Int.tmod (IntKind.i64.wrap a12) (t650.length : Int) then isochronlaw10vLogAgain.j8 a12 y638 t650 t910 t917 y928 else some false)) else some false)) else some false) else isochronlaw10vLogAgain.j8 a12 y638 t650 t910 t917 y928)) else none) else none))))))
noncomputable def isochronlaw10vLogAgain.l7 (a12 : Int) (y638 : log_Log) (t650 : List api_Message) (s : log_Log × Int) : Option (Bool) := loopR (isochronlaw10vLogAgain.l7b a12 y638 t650) s
noncomputable def isochronlaw10vLogAgain.f (a1 : api_World) (a8 : List Int) (a12 a13 : Int) : Option (Bool) := ((log_New.f a1 (⟨(⟨0, 0, 0, 0, 0, 0, 0, 0⟩ : Arr8xInti64), 0, 0⟩ : api_State) (IntKind.i64.wrap (1 + (IntKind.i64.wrap (Int.tmod a13 20))))).bind fun t623 => match t623 with | .inl y625 => (if y625 = 0 then some false else ((vm_Check.f a1).bind fun t633 => (if t633 = 0 then some false else ((isochronlaw10vawake.f).bind fun t636 => some t636)))) | .inr ((y638, y639)) => (if y639 = 0 then ((isochronlaw10vevents.f a8).bind fun t650 => isochronlaw10vLogAgain.l7 a12 y638 t650 ((⟨y638.w, y638.made, y638.state, y638.every, [], y638.stuck⟩ : log_Log), 0)) else some false))
theorem isochronlaw10vLogAgain.ok {a1 : api_World} {a8 : List Int} {a12 a13 : Int} {A2 : Option Addr} {c3 : Nat} {A5 : Option Addr} {c6 : Nat} {A9 : Option Addr} {c10 : Nat} (hr4 : SlR E_api_Instr.rep hf A2 c3 a1.Prog) (hr7 : SlR E_api_Link.rep hf A5 c6 a1.Links) (hr11 : SlR ((FI .u8).rep) hf A9 c10 a8) (hG0 : GlobAt hf 0 (.iface 119 (.agg #[.pointer (some ⟨1, 76, none⟩)]))) {r : Bool} (h : isochronlaw10vLogAgain.f a1 a8 a12 a13 = some r) (hS : St B w (l) hf) :
    Calls prog 3 #[.agg #[.slice A2 a1.Prog.length c3, .int .i64 a1.Self, .slice A5 a1.Links.length c6, .int .u64 a1.Seed], .slice A9 a8.length c10, .int .u8 a12, .int .u8 a13] w (Ret fun v w => v = .bool r ∧ St B w (l) hf) := by
  have h := Holds.of h
  refine en func3 rfl ntmps3 rfl (sr (bx hS rfl rfl rfl rfl fun b622 w hS => pn 1 rfl (lnsr (RL.s (Vl.lw 0 hS isAgg26 sizeOf26 rfl rfl rfl) rfl (RL.s (Vl.build (v := .agg #[.int .i64 0, .int .i64 0, .int .i64 0, .int .i64 0, .int .i64 0, .int .i64 0, .int .i64 0, .int .i64 0, .int .i64 0, .int .i64 0]) (parts := []) rfl (by kernel_rfl)) rfl (pn 1 rfl (RL.s (Vl.rem rfl rfl (by decide)) rfl (RL.s (Vl.conv underlying5 underlying3 rfl) rfl (pn 1 rfl ?_)))))))))
  obtain ⟨t623, hg624, h⟩ := h.bind
  have hc := log_New.ok hr4 hr7 hg624 hS
  rcases t623 with y625 | ⟨y638, y639⟩
  · refine RL.e (OW.callF (ls := [.tmp 19, .tmp 20, .tmp 24]) rfl call5 hc) rfl rfl ?_
    rintro _ w ⟨rfl, hS⟩
    refine pn 5 rfl (ln (RC.seq (sr (pn 2 rfl (ln ?_)))))
    refine RC.iteN 29 rfl h (fun hc632 h => ?_) fun hc632 h => ?_
    next =>
     refine RC.condF rfl (sk (RC.seq (sr (pn 1 rfl (RL.s (Vl.bin (v := .bool true) rfl rfl (by kernel_rfl)) rfl (ln (RC.condT rfl (sr (pn 1 rfl (ln ?_))))))))))
     refine RC.ret (RQ.ret ?_)
     obtain rfl := h.some
     exact rt results3 rfl ⟨rfl, hS.d0⟩
    next =>
     refine RC.condT rfl (sr (pn 1 rfl (RL.s (Vl.bin (v := .bool true) rfl rfl (by kernel_rfl)) rfl (pn 1 rfl (RL.sg (Vl.lw 0 hS isAgg26 sizeOf26 rfl rfl rfl) rfl rfl (cF (fun _ hg => vm_Check.ok hr4 hr7 hg hS) call6 h rfl rfl rfl ?_))))))
     rintro t633 h _ w ⟨rfl, hS⟩
     refine pn 3 rfl ?_
     refine RL.iteN 37 rfl h (fun hc635 h => ?_) fun hc635 h => ?_
     next =>
      refine pn 3 rfl (lr (RQ.ret ?_))
      obtain rfl := h.some
      exact rt results3 rfl ⟨rfl, hS.d0⟩
     next =>
      refine cF (fun _ hg => isochronlaw10vawake.ok hg hS) call7 h rfl rfl rfl ?_
      rintro t636 h _ w ⟨rfl, hS⟩
      refine pn 2 rfl (lr (RQ.ret ?_))
      obtain rfl := h.some
      exact rt results3 rfl ⟨rfl, hS.d0⟩
  · refine RL.e (OW.callF (ls := [.tmp 19, .tmp 20, .tmp 24]) rfl call5 hc) rfl rfl ?_
    rintro _ w ⟨hf, hs647, b640, A641, c642, A644, c645, rfl, hS, hr643, hr646⟩
    refine pn 5 rfl (ln (RC.seq (sr (pn 2 rfl (ln ?_)))))
    refine RC.iteN 29 rfl h (fun hc649 h => ?_) fun hc649 h => ?_
    next =>
     refine RC.condF rfl (sk (RC.seq (sr (pn 1 rfl (RL.s (Vl.bin (v := .bool false) rfl rfl (by kernel_rfl)) rfl (ln (RC.condF rfl (sk (sr (pn 1 rfl ?_))))))))))
     refine cF (fun _ hg => isochronlaw10vevents.ok (hr11.mono hs647) hg hS) call8 h rfl rfl rfl ?_
     rintro t650 h _ w ⟨A652, c653, rfl, hS⟩
     refine pn 1 rfl (ln (RC.seq (sr (pn 1 rfl (ln (RC.block ?_))))))
     have hS := hS.nilSlR 68 10
     refine fun a ha => RC.loop (N := 129) (body := (isochronlaw10vLogAgain.l7b a12 y638 t650)) (φ := (· = r)) (fun (s : log_Log × Int) a w => ∃ (y841 : log_Log) (x846 : Int), s = (y841, x846) ∧ ∃ hf_ : Hp, Sub hf hf_ ∧ ∃ (A842 : Option Addr) (c843 : Nat) (cs844 : List Value), Has 129 [(2, .int .u8 a12), (9, .pointer (some ⟨b640, 0, none⟩)), (11, .slice A652 t650.length c653), (12, .int .i64 x846)] a ∧ St B w (OSl 68 10 (.slice A842 y841.l.length c843) y841.l.length cs844 :: OSf E_api_Message 42 (.slice A652 t650.length c653) t650 :: Cl b640 [.slice A641 y638.w.Prog.length c642, .int .i64 y638.w.Self, .slice A644 y638.w.Links.length c645, .int .u64 y638.w.Seed, .bool y638.made, .int .i64 y841.state.Regs.c0, .int .i64 y841.state.Regs.c1, .int .i64 y841.state.Regs.c2, .int .i64 y841.state.Regs.c3, .int .i64 y841.state.Regs.c4, .int .i64 y841.state.Regs.c5, .int .i64 y841.state.Regs.c6, .int .i64 y841.state.Regs.c7, .int .i64 y841.state.Draws, .int .i64 y841.state.Sent, .int .i64 y638.every, .slice A842 y841.l.length c843, .bool y841.stuck] 59 :: l) hf_ ∧ RepL R_log_done hf_ cs844 y841.l) ?_ (s0 := ((⟨y638.w, y638.made, y638.state, y638.every, [], y638.stuck⟩ : log_Log), 0)) h ⟨(⟨y638.w, y638.made, y638.state, y638.every, [], y638.stuck⟩ : log_Log), 0, rfl, _, (Sub.refl _), none, 0, ([]), ha.to ⟨rfl, rfl, rfl, rfl, trivial⟩, hS.d3, RepL.nil⟩
     rintro G881 _ a w ⟨y841, x846, rfl, hf, hs808, A842, c843, cs844, ha, hS, hx845⟩ h
     revert a
     show RC _ _ _ _ _ _
     refine RC.seq (sr (pn 2 rfl (RL.s (Vl.lenSl underlying37 rfl) rfl (pn 1 rfl (ln ?_)))))
     refine RC.iteP 47 rfl h (fun hc883 h => ?_) fun hc883 h => ?_
     next =>
      refine RC.condT rfl (sk (RC.seq (RC.block (RC.region (pn 3 rfl ?_)))))
      obtain ⟨hq897, h⟩ := h.req
      refine RL.s (Vl.indexOwn 1 hS rfl underlying37 sizeOf42 rfl rfl hq897 hc883) rfl (RL.s (Vl.loadA isAgg42 sizeOf42 rfl rfl ((hS.slW 1 rfl).2.2.cells hq897 hc883)) rfl (cF (fun _ hg => log_Log_Do.ok (a2 := (⟨y638.w, y638.made, y841.state, y638.every, y841.l, y841.stuck⟩ : log_Log)) (hr643.mono hs808) (hr646.mono hs808) hx845 (SlR.nil (A := none) (c := 0)) ((hG0.mono hs647).mono hs808) hg hS.p2) call9 h rfl rfl rfl ?_))
      rintro ⟨y900, y901, y902⟩ h _ w ⟨hf, hs909, A903, c904, A905, c906, cs907, rfl, hS, hx908⟩
      refine RL.nil (RQ.inB_n (RQ.then_n (RC.region (pn 3 rfl (RL.nil ?_)))))
      exact fun a ha => ⟨((⟨y638.w, y638.made, y902.state, y638.every, y902.l, y902.stuck⟩ : log_Log), IntKind.i64.wrap (x846 + 1)), ⟨(⟨y638.w, y638.made, y902.state, y638.every, y902.l, y902.stuck⟩ : log_Log), (IntKind.i64.wrap (x846 + 1)), rfl, _, (hs808.trans hs909), A905, c906, cs907, ha.to ⟨rfl, rfl, rfl, rfl, trivial⟩, hS.d0.p2.p1, hx908⟩, h.some⟩
     next =>
      refine RC.condF rfl (RC.exit (RQ.exitT ?_))
      have h := h.inr
      refine RQ.exitT (RQ.inB_hit (tsr (pn 1 rfl (cF (fun _ hg => log_Log_All.ok (a2 := (⟨y638.w, y638.made, y841.state, y638.every, y841.l, y841.stuck⟩ : log_Log)) (hr643.mono hs808) (hr646.mono hs808) hx845 ((hG0.mono hs647).mono hs808) hg hS.p2) call10 h rfl rfl rfl ?_))))
      rintro t910 h _ w ⟨hf, hs916, A912, c913, cs914, rfl, hS, hx915⟩
      refine pn 1 rfl (lnsr (pn 1 rfl (cF (fun _ hg => log_Log_State.ok (a2 := (⟨y638.w, y638.made, y841.state, y638.every, y841.l, y841.stuck⟩ : log_Log)) ((hr643.mono hs808).mono hs916) ((hr646.mono hs808).mono hs916) (hx845.mono hs916) hg hS.p2.p2) call11 h rfl rfl rfl ?_)))
      rintro t917 h _ w ⟨rfl, hS⟩
      refine al hS zeroValue34 rfl rfl rfl fun b919 w hS => RL.e0 (OW.store (vs := [.int .i64 t917.Regs.c0, .int .i64 t917.Regs.c1, .int .i64 t917.Regs.c2, .int .i64 t917.Regs.c3, .int .i64 t917.Regs.c4, .int .i64 t917.Regs.c5, .int .i64 t917.Regs.c6, .int .i64 t917.Regs.c7, .int .i64 t917.Draws, .int .i64 t917.Sent]) 0 hS rfl rfl rfl rfl sizeOf34 rfl rfl rfl rfl) rfl ?_
      rintro _ w ⟨rfl, hS⟩
      have hS : St B w (Cl _ [_, _, _, _, _, _, _, _, _, _] _ :: _ :: _ :: _ :: _ :: l) hf := hS
      refine ln (RC.seq (sr (pn 1 rfl (RL.s (Vl.lenSl underlying37 rfl) rfl (pn 1 rfl (ln ?_))))))
      refine RC.iteP 62 rfl h (fun hc921 h => ?_) fun hc921 h => ?_
      next =>
       refine RC.condT rfl (sr (pn 1 rfl (RL.s (Vl.lenSl underlying47 rfl) rfl (pn 2 rfl (lr (RQ.ret ?_))))))
       obtain rfl := h.some
       exact rt results3 rfl ⟨rfl, (hS.d0.d0.d0.d0.d0).down ((hs647.trans hs808).trans hs916)⟩
      next =>
       refine RC.condF rfl (sk (sr (pn 1 rfl (RL.s (Vl.conv underlying5 underlying3 rfl) rfl (pn 1 rfl (RL.s (Vl.lenSl underlying37 rfl) rfl ?_))))))
       obtain ⟨hq922, h⟩ := h.req
       refine RL.s (Vl.rem rfl rfl hq922) rfl (pn 1 rfl (lnsr (pn 3 rfl ?_)))
       obtain ⟨⟨hq923, hq924⟩, h⟩ := h.req
       refine RL.s (Vl.indexOwn 4 hS rfl underlying37 sizeOf42 rfl rfl hq923 hq924) rfl (RL.s (Vl.loadA isAgg42 sizeOf42 rfl rfl ((hS.slW 4 rfl).2.2.cells hq923 hq924)) rfl (cF (fun _ hg => log_Log_Back.ok (a2 := (⟨y638.w, y638.made, y841.state, y638.every, y841.l, y841.stuck⟩ : log_Log)) ((hr643.mono hs808).mono hs916) ((hr646.mono hs808).mono hs916) (hx845.mono hs916) (((hG0.mono hs647).mono hs808).mono hs916) hg hS.p2.p2) call12 h rfl rfl rfl ?_))
       rintro ⟨y927, y928⟩ h _ w ⟨hf, hs937, A929, c930, cs931, A933, c934, cs935, rfl, hS, hx932, hx936⟩
       refine pn 1 rfl (ln ?_)
       refine RC.join (fun (s : Unit) a w => s = () ∧ Has 129 [(9, .pointer (some ⟨b640, 0, none⟩)), (11, .slice A652 t650.length c653), (13, .slice A912 t910.length c913), (14, .pointer (some ⟨b919, 0, none⟩)), (15, .int .i64 (Int.tmod (IntKind.i64.wrap a12) (t650.length : Int)))] a ∧ St B w (OSl 68 10 (.slice A933 y928.l.length c934) y928.l.length cs935 :: OSf E_api_Message 42 (.slice A652 t650.length c653) t650 :: OSl 44 19 (.slice A912 t910.length c913) t910.length cs914 :: Cl b640 [.slice A641 y638.w.Prog.length c642, .int .i64 y638.w.Self, .slice A644 y638.w.Links.length c645, .int .u64 y638.w.Seed, .bool y638.made, .int .i64 y928.state.Regs.c0, .int .i64 y928.state.Regs.c1, .int .i64 y928.state.Regs.c2, .int .i64 y928.state.Regs.c3, .int .i64 y928.state.Regs.c4, .int .i64 y928.state.Regs.c5, .int .i64 y928.state.Regs.c6, .int .i64 y928.state.Regs.c7, .int .i64 y928.state.Draws, .int .i64 y928.state.Sent, .int .i64 y638.every, .slice A933 y928.l.length c934, .bool y928.stuck] 59 :: Cl b919 [.int .i64 t917.Regs.c0, .int .i64 t917.Regs.c1, .int .i64 t917.Regs.c2, .int .i64 t917.Regs.c3, .int .i64 t917.Regs.c4, .int .i64 t917.Regs.c5, .int .i64 t917.Regs.c6, .int .i64 t917.Regs.c7, .int .i64 t917.Draws, .int .i64 t917.Sent] 34 :: l) hf ∧ Holds (· = r) (isochronlaw10vLogAgain.j8 a12 y638 t650 t910 t917 y928)) ?_ ?_
       · rintro _ a w ⟨rfl, ha, hS, h⟩
         revert a
         show RC _ _ _ _ _ _
         refine RC.seq (sr (pn 2 rfl (ln (RC.block ?_))))
         refine fun a ha => RC.loop (N := 129) (body := (isochronlaw10vLogAgain.l10b y638 t650 t910 t917)) (φ := (· = r)) (fun (s : log_Log × Int) a w => ∃ (y1129 : log_Log) (x1134 : Int), s = (y1129, x1134) ∧ ∃ hf_ : Hp, Sub hf hf_ ∧ ∃ (A1130 : Option Addr) (c1131 : Nat) (cs1132 : List Value), Has 129 [(9, .pointer (some ⟨b640, 0, none⟩)), (11, .slice A652 t650.length c653), (13, .slice A912 t910.length c913), (14, .pointer (some ⟨b919, 0, none⟩)), (17, .int .i64 x1134)] a ∧ St B w (OSl 68 10 (.slice A1130 y1129.l.length c1131) y1129.l.length cs1132 :: OSf E_api_Message 42 (.slice A652 t650.length c653) t650 :: OSl 44 19 (.slice A912 t910.length c913) t910.length cs914 :: Cl b640 [.slice A641 y638.w.Prog.length c642, .int .i64 y638.w.Self, .slice A644 y638.w.Links.length c645, .int .u64 y638.w.Seed, .bool y638.made, .int .i64 y1129.state.Regs.c0, .int .i64 y1129.state.Regs.c1, .int .i64 y1129.state.Regs.c2, .int .i64 y1129.state.Regs.c3, .int .i64 y1129.state.Regs.c4, .int .i64 y1129.state.Regs.c5, .int .i64 y1129.state.Regs.c6, .int .i64 y1129.state.Regs.c7, .int .i64 y1129.state.Draws, .int .i64 y1129.state.Sent, .int .i64 y638.every, .slice A1130 y1129.l.length c1131, .bool y1129.stuck] 59 :: Cl b919 [.int .i64 t917.Regs.c0, .int .i64 t917.Regs.c1, .int .i64 t917.Regs.c2, .int .i64 t917.Regs.c3, .int .i64 t917.Regs.c4, .int .i64 t917.Regs.c5, .int .i64 t917.Regs.c6, .int .i64 t917.Regs.c7, .int .i64 t917.Draws, .int .i64 t917.Sent] 34 :: l) hf_ ∧ RepL R_log_done hf_ cs1132 y1129.l) ?_ (s0 := ((⟨y638.w, y638.made, y928.state, y638.every, y928.l, y928.stuck⟩ : log_Log), Int.tmod (IntKind.i64.wrap a12) (t650.length : Int))) h ⟨(⟨y638.w, y638.made, y928.state, y638.every, y928.l, y928.stuck⟩ : log_Log), (Int.tmod (IntKind.i64.wrap a12) (t650.length : Int)), rfl, _, (Sub.refl _), A933, c934, cs935, ha.to ⟨rfl, rfl, rfl, rfl, rfl, trivial⟩, hS, hx936⟩
         rintro G1169 _ a w ⟨y1129, x1134, rfl, hf, hs1098, A1130, c1131, cs1132, ha, hS, hx1133⟩ h
         revert a
         show RC _ _ _ _ _ _
         refine RC.seq (sr (pn 2 rfl (RL.s (Vl.lenSl underlying37 rfl) rfl (pn 1 rfl (ln ?_)))))
         refine RC.iteP 110 rfl h (fun hc1171 h => ?_) fun hc1171 h => ?_
         next =>
          refine RC.condT rfl (sk (RC.seq (RC.block (RC.region (pn 3 rfl ?_)))))
          obtain ⟨hq1185, h⟩ := h.req
          refine RL.s (Vl.indexOwn 1 hS rfl underlying37 sizeOf42 rfl rfl hq1185 hc1171) rfl (RL.s (Vl.loadA isAgg42 sizeOf42 rfl rfl ((hS.slW 1 rfl).2.2.cells hq1185 hc1171)) rfl (cF (fun _ hg => log_Log_Do.ok (a2 := (⟨y638.w, y638.made, y1129.state, y638.every, y1129.l, y1129.stuck⟩ : log_Log)) ((((hr643.mono hs808).mono hs916).mono hs937).mono hs1098) ((((hr646.mono hs808).mono hs916).mono hs937).mono hs1098) hx1133 (SlR.nil (A := none) (c := 0)) (((((hG0.mono hs647).mono hs808).mono hs916).mono hs937).mono hs1098) hg hS.p3) call9 h rfl rfl rfl ?_))
          rintro ⟨y1188, y1189, y1190⟩ h _ w ⟨hf, hs1197, A1191, c1192, A1193, c1194, cs1195, rfl, hS, hx1196⟩
          refine RL.nil (RQ.inB_n (RQ.then_n (RC.region (pn 3 rfl (RL.nil ?_)))))
          exact fun a ha => ⟨((⟨y638.w, y638.made, y1190.state, y638.every, y1190.l, y1190.stuck⟩ : log_Log), IntKind.i64.wrap (x1134 + 1)), ⟨(⟨y638.w, y638.made, y1190.state, y638.every, y1190.l, y1190.stuck⟩ : log_Log), (IntKind.i64.wrap (x1134 + 1)), rfl, _, (hs1098.trans hs1197), A1193, c1194, cs1195, ha.to ⟨rfl, rfl, rfl, rfl, rfl, trivial⟩, hS.d0.p3.p3.p2, hx1196⟩, h.some⟩
         next =>
          refine RC.condF rfl (RC.exit (RQ.exitT ?_))
          have h := h.inr
          refine RQ.exitT (RQ.inB_hit (RQ.then_n (RC.seq (RC.planS (plD [0, 6, 5, 11, 12, 15, 22, 20, 26, 29, 32]) [8, 9, 10] hS (fun w hS => hS) follows rfl (by kernel_rfl) (NoTmp.then NoTmp.body) fun w hS => pp 2 rfl ?_))))
          obtain ⟨t1198, hg1199, h⟩ := h.bind
          have hc := log_Log_All.ok (a2 := (⟨y638.w, y638.made, y1129.state, y638.every, y1129.l, y1129.stuck⟩ : log_Log)) ((((hr643.mono hs808).mono hs916).mono hs937).mono hs1098) ((((hr646.mono hs808).mono hs916).mono hs937).mono hs1098) hx1133 (((((hG0.mono hs647).mono hs808).mono hs916).mono hs937).mono hs1098) hg1199 hS.p3
          refine RP.e 1 rfl (OW.callF (ls := [.tmp 119]) rfl call10 hc) rfl rfl ?_
          rintro _ w ⟨hf, hs1204, A1200, c1201, cs1202, rfl, hS, hx1203⟩
          refine ⟨kp ⟨fun _ => (St.down hS.d0.p3.p3.p3 hs1204), trivial⟩, ?_⟩
          obtain ⟨hf1208, hs1206, hS, hr1205, hb1207⟩ := St.lendSlR R_api_Entry_ok hS.p4.p1 rfl hx1203
          obtain ⟨hf1212, hs1210, hS, hr1209, hb1211⟩ := St.lendSlR R_api_Entry_ok hS rfl ((((hx915.mono hs937).mono hs1098).mono hs1204).mono hs1206)
          obtain ⟨t1213, hg1214, h⟩ := h.bind
          have hc := isochronlaw10ventries.ok (hr1205.mono hs1210) hr1209 hg1214 hS
          refine RP.e 3 rfl (OW.callF (ls := [.tmp 120, .tmp 121]) rfl call14 hc) rfl rfl ?_
          rintro _ w ⟨rfl, hS⟩
          have hS := hb1211 _ _ hS
          have hS := hb1207 _ _ hS
          have hS : St B w (_ :: _ :: _ :: _ :: _ :: _ :: l) hf := hS
          refine ⟨kp ⟨fun _ => (St.down hS.d0.p3.p3 hs1204), trivial⟩, ?_⟩
          refine pp 1 rfl ?_
          refine RP.iteB 123 rfl h (fun hc1215 h => ?_) fun hc1215 h => ?_
          next =>
           refine pp 1 rfl (RP.sg 0 7 rfl rfl (St.down hS.d0.p3.p3 hs1204) (fun w hS => Vl.lw 4 hS isAgg34 sizeOf34 rfl rfl rfl) rfl rfl ?_)
           obtain ⟨t1216, hg1217, h⟩ := h.bind
           have hc := log_Log_State.ok (a2 := (⟨y638.w, y638.made, y1129.state, y638.every, y1129.l, y1129.stuck⟩ : log_Log)) (((((hr643.mono hs808).mono hs916).mono hs937).mono hs1098).mono hs1204) (((((hr646.mono hs808).mono hs916).mono hs937).mono hs1098).mono hs1204) (hx1133.mono hs1204) hg1217 hS.p3.p3
           refine RP.e 6 rfl (OW.callF (ls := [.tmp 124]) rfl call11 hc) rfl rfl ?_
           rintro _ w ⟨rfl, hS⟩
           refine ⟨kp ⟨fun _ => (St.down hS.d2.p2.p3.p3 hs1204), trivial⟩, ?_⟩
           refine RP.v1 8 rfl (Vl.eqlS (run_eql_api_State _ _ t1216 t917) rfl rfl) rfl rfl (RP.v1 9 rfl (Vl.pickT rfl rfl) rfl rfl (RP.v1 10 rfl (Vl.assign rfl) rfl rfl (RP.nil (tr ?_))))
           obtain rfl := h.some
           exact rt results3 rfl ⟨rfl, (hS.d0.d0.d0.d0.d0.d0).down (((((hs647.trans hs808).trans hs916).trans hs937).trans hs1098).trans hs1204)⟩
          next =>
           refine pp 1 rfl (RP.nn 0 7 rfl rfl rfl (RP.n1 6 rfl rfl rfl (RP.n1 8 rfl rfl rfl (RP.v1 9 rfl (Vl.pickF rfl rfl) rfl rfl (RP.v1 10 rfl (Vl.assign rfl) rfl rfl (RP.nil (tr ?_)))))))
           obtain rfl := h.some
           exact rt results3 rfl ⟨rfl, (hS.d0.d0.d0.d0.d0.d0).down (((((hs647.trans hs808).trans hs916).trans hs937).trans hs1098).trans hs1204)⟩
       · refine RC.seq ?_
         refine RC.planS (plD [0, 3, 6, 9, 12, 15, 18, 21, 24, 27, 30, 33, 36, 39, 45, 48, 52, 54, 58, 44, 60, 63, 66, 69, 75, 74, 80, 83, 86]) [24, 26, 27, 28] hS (fun w hS => hS) follows rfl (by kernel_rfl) (NoTmp.then (NoTmp.then NoTmp.body)) fun w hS => pp 1 rfl (RP.s0 1 rfl (fun w => Vl.lenSl underlying47 rfl) rfl (pp 3 rfl ?_))
         refine RP.iteP 81 rfl h (fun hc1218 h => ?_) fun hc1218 h => ?_
         next =>
          refine pp 1 rfl (RP.sg0 6 rfl (fun w => Vl.lenSl underlying47 rfl) rfl rfl (pp 1 rfl (RP.sg0 8 rfl (fun w => Vl.lenSl underlying47 rfl) rfl rfl (pp 4 rfl ?_))))
          refine RP.iteN 89 rfl h (fun hc1219 h => ?_) fun hc1219 h => ?_
          next =>
           refine pp 3 rfl (RP.sg 0 17 rfl rfl hS (fun w hS => Vl.indexOwn 4 hS rfl underlying47 sizeOf44 rfl rfl hq923 hc1218) rfl rfl (RP.sg0 18 rfl (fun w => Vl.fieldAddr (a'' := (ad A912).add ((Int.tmod (IntKind.i64.wrap a12) (t650.length : Int)).toNat * 19 + 7)) underlying44 rfl sizeOf34 rfl (add_add _ _ _)) rfl rfl ?_))
           obtain ⟨_, ⟨A1221, c1222, rfl, hr1223⟩, hl1220⟩ := RepL.elem R_api_Entry_ok (hx915.mono hs937) hq923 hc1218
           refine RP.sg 0 19 rfl rfl hS (fun w hS => Vl.loadA (vs := [.int .i64 ((((nth t910 (Int.tmod (IntKind.i64.wrap a12) (t650.length : Int))).Before).Regs).c0), .int .i64 ((((nth t910 (Int.tmod (IntKind.i64.wrap a12) (t650.length : Int))).Before).Regs).c1), .int .i64 ((((nth t910 (Int.tmod (IntKind.i64.wrap a12) (t650.length : Int))).Before).Regs).c2), .int .i64 ((((nth t910 (Int.tmod (IntKind.i64.wrap a12) (t650.length : Int))).Before).Regs).c3), .int .i64 ((((nth t910 (Int.tmod (IntKind.i64.wrap a12) (t650.length : Int))).Before).Regs).c4), .int .i64 ((((nth t910 (Int.tmod (IntKind.i64.wrap a12) (t650.length : Int))).Before).Regs).c5), .int .i64 ((((nth t910 (Int.tmod (IntKind.i64.wrap a12) (t650.length : Int))).Before).Regs).c6), .int .i64 ((((nth t910 (Int.tmod (IntKind.i64.wrap a12) (t650.length : Int))).Before).Regs).c7), .int .i64 (((nth t910 (Int.tmod (IntKind.i64.wrap a12) (t650.length : Int))).Before).Draws), .int .i64 (((nth t910 (Int.tmod (IntKind.i64.wrap a12) (t650.length : Int))).Before).Sent)]) isAgg34 sizeOf34 rfl rfl (hS.elemCells 4 rfl hl1220 (off := 7) rfl)) rfl rfl ?_
           obtain ⟨t1224, hg1225, h⟩ := h.bind
           have hc := log_Log_State.ok (a2 := (⟨y638.w, y638.made, y928.state, y638.every, y928.l, y928.stuck⟩ : log_Log)) (((hr643.mono hs808).mono hs916).mono hs937) (((hr646.mono hs808).mono hs916).mono hs937) hx936 hg1225 hS.p1.p2
           refine RP.e 14 rfl (OW.callF (ls := [.tmp 90]) rfl call11 hc) rfl rfl ?_
           rintro _ w ⟨rfl, hS⟩
           refine ⟨kp ⟨fun _ => hS.p1.p2, trivial⟩, ?_⟩
           refine RP.sg0 20 rfl (fun w => Vl.neqS (run_neq_api_State _ _ t1224 ((nth t910 (Int.tmod (IntKind.i64.wrap a12) (t650.length : Int))).Before)) rfl rfl) rfl rfl (pp 2 rfl ?_)
           refine RP.iteN 99 rfl h (fun hc1226 h => ?_) fun hc1226 h => ?_
           next =>
            refine pp 2 rfl ?_
            obtain ⟨t1227, hg1228, h⟩ := h.bind
            have hc := log_Log_Len.ok (a2 := (⟨y638.w, y638.made, y928.state, y638.every, y928.l, y928.stuck⟩ : log_Log)) (((hr643.mono hs808).mono hs916).mono hs937) (((hr646.mono hs808).mono hs916).mono hs937) hx936 hg1228 hS
            refine RP.e 24 rfl (OW.callF (ls := [.tmp 100]) rfl call13 hc) rfl rfl ?_
            rintro _ w ⟨rfl, hS⟩
            refine ⟨kp ⟨(by intro hx; cases hx), trivial⟩, ?_⟩
            refine RP.v1 26 rfl (Vl.int rfl rfl rfl) rfl rfl (RP.v1 27 rfl (Vl.pickF rfl rfl) rfl rfl (RP.v1 28 rfl (Vl.pickT rfl rfl) rfl rfl (RP.nil (RQ.then_n ?_))))
            refine RC.iteN 105 rfl h (fun hc1229 h => ?_) fun hc1229 h => ?_
            next =>
             refine RC.condF rfl (RC.skip ?_)
             exact fun a ha => ⟨(), rfl, ha.to ⟨rfl, rfl, rfl, rfl, rfl, trivial⟩, hS.d2.p3.p4.p3, h⟩
            next =>
             refine RC.condT rfl (sr (pn 1 rfl (lr (RQ.ret ?_))))
             obtain rfl := h.some
             exact rt results3 rfl ⟨rfl, (hS.d0.d0.d0.d0.d0.d0).down (((hs647.trans hs808).trans hs916).trans hs937)⟩
           next =>
            refine pp 2 rfl (RP.n1 24 rfl rfl rfl (RP.n1 26 rfl rfl rfl (RP.v1 27 rfl (Vl.pickT rfl rfl) rfl rfl (RP.v1 28 rfl (Vl.pickT rfl rfl) rfl rfl (RP.nil (RQ.then_n (RC.condT rfl (sr (pn 1 rfl (lr (RQ.ret ?_)))))))))))
            obtain rfl := h.some
            exact rt results3 rfl ⟨rfl, (hS.d0.d0.d0.d0.d0.d0).down (((hs647.trans hs808).trans hs916).trans hs937)⟩
          next =>
           refine pp 3 rfl (RP.nn 0 17 rfl rfl rfl (pp 1 rfl (RP.nn 0 19 rfl rfl rfl (RP.n1 14 rfl rfl rfl (pp 5 rfl (RP.n1 24 rfl rfl rfl (RP.n1 26 rfl rfl rfl (RP.v1 27 rfl (Vl.pickT rfl rfl) rfl rfl (RP.v1 28 rfl (Vl.pickT rfl rfl) rfl rfl (RP.nil (RQ.then_n (RC.condT rfl (sr (pn 1 rfl ?_))))))))))))))
           refine lr (RQ.ret ?_)
           obtain rfl := h.some
           exact rt results3 rfl ⟨rfl, (hS.d0.d0.d0.d0.d0.d0).down (((hs647.trans hs808).trans hs916).trans hs937)⟩
         next =>
          refine pp 11 rfl (RP.nn 0 17 rfl rfl rfl (pp 1 rfl (RP.nn 0 19 rfl rfl rfl (RP.n1 14 rfl rfl rfl (pp 5 rfl (RP.n1 24 rfl rfl rfl (RP.n1 26 rfl rfl rfl (RP.n1 27 rfl rfl rfl (RP.v1 28 rfl (Vl.pickF rfl rfl) rfl rfl (RP.nil (RQ.then_n (RC.condF rfl (RC.skip ?_)))))))))))))
          exact fun a ha => ⟨(), rfl, ha.to ⟨rfl, rfl, rfl, rfl, rfl, trivial⟩, hS.d0.p3.p4.p2, h⟩
    next =>
     refine RC.condT rfl (sr (pn 1 rfl (RL.s (Vl.bin (v := .bool false) rfl rfl (by kernel_rfl)) rfl (pn 9 rfl (lr (RQ.ret ?_))))))
     obtain rfl := h.some
     exact rt results3 rfl ⟨rfl, (hS.d0.d0).down hs647⟩

end Go.Proofs.Gx
