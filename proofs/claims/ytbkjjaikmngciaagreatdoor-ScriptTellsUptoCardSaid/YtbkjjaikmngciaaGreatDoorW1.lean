/-
  The walks of functions, each with what it computes: printed by wip/gx.py.
-/
import Derived.Test.YtbkjjaikmngciaaGreatDoorW0
set_option linter.unusedVariables false
set_option linter.unusedSimpArgs false
set_option maxRecDepth 100000
set_option maxHeartbeats 4000000
namespace Go.Proofs.Gx
open Go.Sl Tryz
variable {B : Base} {w : World} {l : List HProp} {hf : Hp}
noncomputable section
def script_Told_1.l4b (a2 : List Int) : ByteArray × Int → Option ((ByteArray × Int) ⊕ (ByteArray))
  | (s146, x147) => (if x147 < (a2.length : Int) then (if 0 ≤ x147 then (if -9223372036854775808 ≤ nth a2 x147 ∧ nth a2 x147 ≤ 9223372036854775807 then (if lit_20.size + (itoaB (nth a2 x147)).size ≤ 9223372036854775807 then (if s146.size + (lit_20 ++ (itoaB (nth a2 x147))).size ≤ 140737488355328 then some (.inl (s146 ++ (lit_20 ++ (itoaB (nth a2 x147))), IntKind.i64.wrap (x147 + 1))) else none) else none) else none) else none) else (Option.map Sum.inr (if s146.size + lit_0a.size ≤ 140737488355328 then some (s146 ++ lit_0a) else none)))
def script_Told_1.l4 (a2 : List Int) (s : ByteArray × Int) : Option (ByteArray) := loopR (script_Told_1.l4b a2) s
def script_Told_1.f (a1 : ByteArray) (a2 : List Int) (a7 : ByteArray) : Option (ByteArray) := (if a7.size + a1.size ≤ 140737488355328 then script_Told_1.l4 a2 (a7 ++ a1, 0) else none)
theorem script_Told_1.ok {a1 a7 : ByteArray} {a2 : List Int} {A3 : Option Addr} {c4 b6 : Nat} (hr5 : SlR ((FI .i64).rep) hf A3 c4 a2) (hT : TabH prog hf) {r : ByteArray} (h : script_Told_1.f a1 a2 a7 = some r) (hS : St B w (Bd 50 5 [] a7 b6 :: l) hf) :
    Calls prog 13 #[.string a1, sV A3 a2 c4, pV b6] w (Ret fun v w => v = .tuple #[] ∧ St B w (Bd 50 5 [] r b6 :: l) hf) := by
  have h := Holds.of h
  refine en func13 rfl ntmps13 rfl (sr (pn 1 rfl ?_))
  obtain ⟨hq92, h⟩ := h.req
  refine RL.e (OW.callF (ls := [.tmp 2, .tmp 7]) rfl call14 (bld_write a1 bldT50 hq92 hS)) rfl rfl ?_
  rintro _ w ⟨rfl, hS⟩
  refine ln (RC.seq (sr (r0 3 rfl (ln (RC.block (fun a ha => lp h (fun (s : ByteArray × Int) a w => ∃ s146 x147, s = (s146, x147) ∧ Has 21 [(2, pV b6), (9, sV A3 a2 c4), (10, iV (a2.length : Int)), (11, iV x147)] a ∧ St B w (Bd 50 5 [] s146 b6 :: l) hf) ⟨_, _, rfl, ha.tE rfl, hS⟩ ?_))))))
  rintro G162 _ a w ⟨s146, x147, rfl, ha, hS⟩ h
  refine ro ha (sr (pn 1 rfl (ln (RC.seq ?_))))
  refine RC.iteP 12 rfl h (fun hc164 h => ?_) fun hc164 h => ?_
  next =>
   refine jt (sk (RC.seq (RC.block (sr ?_))))
   obtain ⟨hq170, h⟩ := h.req
   refine RL.s (Vl.indexAddr underlying51 sizeOf2 rfl rfl ((hr5.2.world hS.sub).adr hq170 hc164) hq170 hc164 rfl) rfl (RL.s (Vl.load isAgg2 rfl ((hr5.2.world hS.sub).cell (j := 0) hq170 hc164 rfl)) rfl (pn 1 rfl (ln (RC.region (pn 1 rfl ?_)))))
   obtain ⟨⟨hq171, hq172⟩, h⟩ := h.req
   refine RL.e (OW.callF (ls := [.tmp 15, .const (iV 10)]) rfl call15 (format_ok strconv_FormatInt_10 (nth a2 x147) hq171 hq172 hT hS)) rfl rfl ?_
   rintro _ w ⟨rfl, hS⟩
   obtain ⟨hq173, h⟩ := h.req
   refine RL.s (Vl.strAdd hq173 rfl rfl) rfl ?_
   obtain ⟨hq174, h⟩ := h.req
   refine RL.e (OW.callF (ls := [.tmp 2, .tmp 17]) rfl call14 (bld_write (lit_20 ++ (itoaB (nth a2 x147))) bldT50 hq174 hS)) rfl rfl ?_
   rintro _ w ⟨rfl, hS⟩
   refine RL.nil (RQ.inB_n (RQ.then_n (RC.region (pn 2 rfl (RL.nil ?_)))))
   exact fun a ha => ⟨_, h.some, _, _, rfl, ha.tE rfl, hS⟩
  refine jf (RC.exit (RQ.exitT ?_))
  have h := h.inr
  refine RQ.exitT (RQ.inB_hit (RQ.then_n (RC.region ?_)))
  obtain ⟨hq175, h⟩ := h.req
  refine RL.e (OW.callF (ls := [.tmp 2, .const (.string lit_0a)]) rfl call14 (bld_write lit_0a bldT50 hq175 hS)) rfl rfl ?_
  rintro _ w ⟨rfl, hS⟩
  refine RL.nil ?_
  cases h.some
  exact rtE results13 rfl ⟨rfl, hS⟩
def script_Told_1v2.f (a1 : ByteArray) (a3 : api_State) (a5 : ByteArray) : Option (ByteArray) := (if a5.size + a1.size ≤ 140737488355328 then (if -9223372036854775808 ≤ a3.Regs.c0 ∧ a3.Regs.c0 ≤ 9223372036854775807 then (if lit_20.size + (itoaB a3.Regs.c0).size ≤ 9223372036854775807 then (if (a5 ++ a1).size + (lit_20 ++ (itoaB a3.Regs.c0)).size ≤ 140737488355328 then (if -9223372036854775808 ≤ a3.Regs.c1 ∧ a3.Regs.c1 ≤ 9223372036854775807 then (if lit_20.size + (itoaB a3.Regs.c1).size ≤ 9223372036854775807 then (if ((a5 ++ a1) ++ (lit_20 ++ (itoaB a3.Regs.c0))).size + (lit_20 ++ (itoaB a3.Regs.c1)).size ≤ 140737488355328 then (if -9223372036854775808 ≤ a3.Regs.c2 ∧ a3.Regs.c2 ≤ 9223372036854775807 then (if lit_20.size + (itoaB a3.Regs.c2).size ≤ 9223372036854775807 then (if (((a5 ++ a1) ++ (lit_20 ++ (itoaB a3.Regs.c0))) ++ (lit_20 ++ (itoaB a3.Regs.c1))).size + (lit_20 ++ (itoaB a3.Regs.c2)).size ≤ 140737488355328 then (if -9223372036854775808 ≤ a3.Regs.c3 ∧ a3.Regs.c3 ≤ 9223372036854775807 then (if lit_20.size + (itoaB a3.Regs.c3).size ≤ 9223372036854775807 then (if ((((a5 ++ a1) ++ (lit_20 ++ (itoaB a3.Regs.c0))) ++ (lit_20 ++ (itoaB a3.Regs.c1))) ++ (lit_20 ++ (itoaB a3.Regs.c2))).size + (lit_20 ++ (itoaB a3.Regs.c3)).size ≤ 140737488355328 then (if -9223372036854775808 ≤ a3.Regs.c4 ∧ a3.Regs.c4 ≤ 9223372036854775807 then (if lit_20.size + (itoaB a3.Regs.c4).size ≤ 9223372036854775807 then (if (((((a5 ++ a1) ++ (lit_20 ++ (itoaB a3.Regs.c0))) ++ (lit_20 ++ (itoaB a3.Regs.c1))) ++ (lit_20 ++ (itoaB a3.Regs.c2))) ++ (lit_20 ++ (itoaB a3.Regs.c3))).size + (lit_20 ++ (itoaB a3.Regs.c4)).size ≤ 140737488355328 then (if -9223372036854775808 ≤ a3.Regs.c5 ∧ a3.Regs.c5 ≤ 9223372036854775807 then (if lit_20.size + (itoaB a3.Regs.c5).size ≤ 9223372036854775807 then (if ((((((a5 ++ a1) ++ (lit_20 ++ (itoaB a3.Regs.c0))) ++ (lit_20 ++ (itoaB a3.Regs.c1))) ++ (lit_20 ++ (itoaB a3.Regs.c2))) ++ (lit_20 ++ (itoaB a3.Regs.c3))) ++ (lit_20 ++ (itoaB a3.Regs.c4))).size + (lit_20 ++ (itoaB a3.Regs.c5)).size ≤ 140737488355328 then (if -9223372036854775808 ≤ a3.Regs.c6 ∧ a3.Regs.c6 ≤ 9223372036854775807 then (if lit_20.size + (itoaB a3.Regs.c6).size ≤ 9223372036854775807 then (if (((((((a5 ++ a1) ++ (lit_20 ++ (itoaB a3.Regs.c0))) ++ (lit_20 ++ (itoaB a3.Regs.c1))) ++ (lit_20 ++ (itoaB a3.Regs.c2))) ++ (lit_20 ++ (itoaB a3.Regs.c3))) ++ (lit_20 ++ (itoaB a3.Regs.c4))) ++ (lit_20 ++ (itoaB a3.Regs.c5))).size + (lit_20 ++ (itoaB a3.Regs.c6)).size ≤ 140737488355328 then (if -9223372036854775808 ≤ a3.Regs.c7 ∧ a3.Regs.c7 ≤ 9223372036854775807 then (if lit_20.size + (itoaB a3.Regs.c7).size ≤ 9223372036854775807 then (if ((((((((a5 ++ a1) ++ (lit_20 ++ (itoaB a3.Regs.c0))) ++ (lit_20 ++ (itoaB a3.Regs.c1))) ++ (lit_20 ++ (itoaB a3.Regs.c2))) ++ (lit_20 ++ (itoaB a3.Regs.c3))) ++ (lit_20 ++ (itoaB a3.Regs.c4))) ++ (lit_20 ++ (itoaB a3.Regs.c5))) ++ (lit_20 ++ (itoaB a3.Regs.c6))).size + (lit_20 ++ (itoaB a3.Regs.c7)).size ≤ 140737488355328 then (if (((((((((a5 ++ a1) ++ (lit_20 ++ (itoaB a3.Regs.c0))) ++ (lit_20 ++ (itoaB a3.Regs.c1))) ++ (lit_20 ++ (itoaB a3.Regs.c2))) ++ (lit_20 ++ (itoaB a3.Regs.c3))) ++ (lit_20 ++ (itoaB a3.Regs.c4))) ++ (lit_20 ++ (itoaB a3.Regs.c5))) ++ (lit_20 ++ (itoaB a3.Regs.c6))) ++ (lit_20 ++ (itoaB a3.Regs.c7))).size + lit_0a.size ≤ 140737488355328 then some ((((((((((a5 ++ a1) ++ (lit_20 ++ (itoaB a3.Regs.c0))) ++ (lit_20 ++ (itoaB a3.Regs.c1))) ++ (lit_20 ++ (itoaB a3.Regs.c2))) ++ (lit_20 ++ (itoaB a3.Regs.c3))) ++ (lit_20 ++ (itoaB a3.Regs.c4))) ++ (lit_20 ++ (itoaB a3.Regs.c5))) ++ (lit_20 ++ (itoaB a3.Regs.c6))) ++ (lit_20 ++ (itoaB a3.Regs.c7))) ++ lit_0a) else none) else none) else none) else none) else none) else none) else none) else none) else none) else none) else none) else none) else none) else none) else none) else none) else none) else none) else none) else none) else none) else none) else none) else none) else none) else none)
theorem script_Told_1v2.ok {a1 a5 : ByteArray} {a3 : api_State} {b2 b4 : Nat} (hT : TabH prog hf) {r : ByteArray} (h : script_Told_1v2.f a1 a3 a5 = some r) (hS : St B w (Cl b2 (C_api_State a3) 64 :: Bd 50 5 [] a5 b4 :: l) hf) :
    Calls prog 13 #[.string a1, .slice (some ⟨b2, 0, none⟩) 8 8, pV b4] w (Ret fun v w => v = .tuple #[] ∧ St B w (Cl b2 (C_api_State a3) 64 :: Bd 50 5 [] r b4 :: l) hf) := by
  have h := Holds.of h
  refine en func13 rfl ntmps13 rfl (sr (pn 1 rfl ?_))
  obtain ⟨hq136, h⟩ := h.req
  refine RL.e (OW.callF (ls := [.tmp 2, .tmp 7]) rfl call14 (bld_write a1 bldT50 hq136 hS.p1)) rfl rfl ?_
  rintro _ w ⟨rfl, hS⟩
  refine ln (RC.seq (sr (r0 3 rfl (ln (RC.block (RC.unroll (RQ.round (sr (pn 1 rfl (ln ?_))))))))))
  refine RC.seq (jt (sk (RC.seq (RC.block (sr (RL.s (Vl.indexAddr (a'' := ⟨b2, 0, none⟩) underlying51 sizeOf2 rfl rfl rfl (by decide) (by decide) rfl) rfl (rr [2, 0] hS ?_)))))))
  refine it fun w hS => ln (RC.region (pn 1 rfl ?_))
  obtain ⟨⟨hq205, hq206⟩, h⟩ := h.req
  refine RL.e (OW.callF (ls := [.tmp 15, .const (iV 10)]) rfl call15 (format_ok strconv_FormatInt_10 a3.Regs.c0 hq205 hq206 hT hS)) rfl rfl ?_
  rintro _ w ⟨rfl, hS⟩
  obtain ⟨hq207, h⟩ := h.req
  refine RL.s (Vl.strAdd hq207 rfl rfl) rfl ?_
  obtain ⟨hq208, h⟩ := h.req
  refine RL.e (OW.callF (ls := [.tmp 2, .tmp 17]) rfl call14 (bld_write (lit_20 ++ (itoaB a3.Regs.c0)) bldT50 hq208 hS)) rfl rfl ?_
  rintro _ w ⟨rfl, hS⟩
  refine RL.nil (RQ.inB_n (RQ.then_n (RC.region (pn 2 rfl (ln (RQ.round (sr (pn 1 rfl (ln (RC.seq (jt (RC.skip ?_))))))))))))
  refine RQ.then_n (RC.seq (RC.block (sr (RL.s (Vl.indexAddr (a'' := ⟨b2, 1, none⟩) underlying51 sizeOf2 rfl rfl rfl (by decide) (by decide) rfl) rfl (rr [2, 0] hS ?_)))))
  refine it fun w hS => ln (RC.region (pn 1 rfl ?_))
  obtain ⟨⟨hq213, hq214⟩, h⟩ := h.req
  refine RL.e (OW.callF (ls := [.tmp 15, .const (iV 10)]) rfl call15 (format_ok strconv_FormatInt_10 a3.Regs.c1 hq213 hq214 hT hS)) rfl rfl ?_
  rintro _ w ⟨rfl, hS⟩
  obtain ⟨hq215, h⟩ := h.req
  refine RL.s (Vl.strAdd hq215 rfl rfl) rfl ?_
  obtain ⟨hq216, h⟩ := h.req
  refine RL.e (OW.callF (ls := [.tmp 2, .tmp 17]) rfl call14 (bld_write (lit_20 ++ (itoaB a3.Regs.c1)) bldT50 hq216 hS)) rfl rfl ?_
  rintro _ w ⟨rfl, hS⟩
  refine RL.nil (RQ.inB_n (RQ.then_n (RC.region (pn 2 rfl (ln (RQ.round (sr (pn 1 rfl (ln (RC.seq (jt (RC.skip ?_))))))))))))
  refine RQ.then_n (RC.seq (RC.block (sr (RL.s (Vl.indexAddr (a'' := ⟨b2, 2, none⟩) underlying51 sizeOf2 rfl rfl rfl (by decide) (by decide) rfl) rfl (rr [2, 0] hS ?_)))))
  refine it fun w hS => ln (RC.region (pn 1 rfl ?_))
  obtain ⟨⟨hq221, hq222⟩, h⟩ := h.req
  refine RL.e (OW.callF (ls := [.tmp 15, .const (iV 10)]) rfl call15 (format_ok strconv_FormatInt_10 a3.Regs.c2 hq221 hq222 hT hS)) rfl rfl ?_
  rintro _ w ⟨rfl, hS⟩
  obtain ⟨hq223, h⟩ := h.req
  refine RL.s (Vl.strAdd hq223 rfl rfl) rfl ?_
  obtain ⟨hq224, h⟩ := h.req
  refine RL.e (OW.callF (ls := [.tmp 2, .tmp 17]) rfl call14 (bld_write (lit_20 ++ (itoaB a3.Regs.c2)) bldT50 hq224 hS)) rfl rfl ?_
  rintro _ w ⟨rfl, hS⟩
  refine RL.nil (RQ.inB_n (RQ.then_n (RC.region (pn 2 rfl (ln (RQ.round (sr (pn 1 rfl (ln (RC.seq (jt (RC.skip ?_))))))))))))
  refine RQ.then_n (RC.seq (RC.block (sr (RL.s (Vl.indexAddr (a'' := ⟨b2, 3, none⟩) underlying51 sizeOf2 rfl rfl rfl (by decide) (by decide) rfl) rfl (rr [2, 0] hS ?_)))))
  refine it fun w hS => ln (RC.region (pn 1 rfl ?_))
  obtain ⟨⟨hq229, hq230⟩, h⟩ := h.req
  refine RL.e (OW.callF (ls := [.tmp 15, .const (iV 10)]) rfl call15 (format_ok strconv_FormatInt_10 a3.Regs.c3 hq229 hq230 hT hS)) rfl rfl ?_
  rintro _ w ⟨rfl, hS⟩
  obtain ⟨hq231, h⟩ := h.req
  refine RL.s (Vl.strAdd hq231 rfl rfl) rfl ?_
  obtain ⟨hq232, h⟩ := h.req
  refine RL.e (OW.callF (ls := [.tmp 2, .tmp 17]) rfl call14 (bld_write (lit_20 ++ (itoaB a3.Regs.c3)) bldT50 hq232 hS)) rfl rfl ?_
  rintro _ w ⟨rfl, hS⟩
  refine RL.nil (RQ.inB_n (RQ.then_n (RC.region (pn 2 rfl (ln (RQ.round (sr (pn 1 rfl (ln (RC.seq (jt (RC.skip ?_))))))))))))
  refine RQ.then_n (RC.seq (RC.block (sr (RL.s (Vl.indexAddr (a'' := ⟨b2, 4, none⟩) underlying51 sizeOf2 rfl rfl rfl (by decide) (by decide) rfl) rfl (rr [2, 0] hS ?_)))))
  refine it fun w hS => ln (RC.region (pn 1 rfl ?_))
  obtain ⟨⟨hq237, hq238⟩, h⟩ := h.req
  refine RL.e (OW.callF (ls := [.tmp 15, .const (iV 10)]) rfl call15 (format_ok strconv_FormatInt_10 a3.Regs.c4 hq237 hq238 hT hS)) rfl rfl ?_
  rintro _ w ⟨rfl, hS⟩
  obtain ⟨hq239, h⟩ := h.req
  refine RL.s (Vl.strAdd hq239 rfl rfl) rfl ?_
  obtain ⟨hq240, h⟩ := h.req
  refine RL.e (OW.callF (ls := [.tmp 2, .tmp 17]) rfl call14 (bld_write (lit_20 ++ (itoaB a3.Regs.c4)) bldT50 hq240 hS)) rfl rfl ?_
  rintro _ w ⟨rfl, hS⟩
  refine RL.nil (RQ.inB_n (RQ.then_n (RC.region (pn 2 rfl (ln (RQ.round (sr (pn 1 rfl (ln (RC.seq (jt (RC.skip ?_))))))))))))
  refine RQ.then_n (RC.seq (RC.block (sr (RL.s (Vl.indexAddr (a'' := ⟨b2, 5, none⟩) underlying51 sizeOf2 rfl rfl rfl (by decide) (by decide) rfl) rfl (rr [2, 0] hS ?_)))))
  refine it fun w hS => ln (RC.region (pn 1 rfl ?_))
  obtain ⟨⟨hq245, hq246⟩, h⟩ := h.req
  refine RL.e (OW.callF (ls := [.tmp 15, .const (iV 10)]) rfl call15 (format_ok strconv_FormatInt_10 a3.Regs.c5 hq245 hq246 hT hS)) rfl rfl ?_
  rintro _ w ⟨rfl, hS⟩
  obtain ⟨hq247, h⟩ := h.req
  refine RL.s (Vl.strAdd hq247 rfl rfl) rfl ?_
  obtain ⟨hq248, h⟩ := h.req
  refine RL.e (OW.callF (ls := [.tmp 2, .tmp 17]) rfl call14 (bld_write (lit_20 ++ (itoaB a3.Regs.c5)) bldT50 hq248 hS)) rfl rfl ?_
  rintro _ w ⟨rfl, hS⟩
  refine RL.nil (RQ.inB_n (RQ.then_n (RC.region (pn 2 rfl (ln (RQ.round (sr (pn 1 rfl (ln (RC.seq (jt (RC.skip ?_))))))))))))
  refine RQ.then_n (RC.seq (RC.block (sr (RL.s (Vl.indexAddr (a'' := ⟨b2, 6, none⟩) underlying51 sizeOf2 rfl rfl rfl (by decide) (by decide) rfl) rfl (rr [2, 0] hS ?_)))))
  refine it fun w hS => ln (RC.region (pn 1 rfl ?_))
  obtain ⟨⟨hq253, hq254⟩, h⟩ := h.req
  refine RL.e (OW.callF (ls := [.tmp 15, .const (iV 10)]) rfl call15 (format_ok strconv_FormatInt_10 a3.Regs.c6 hq253 hq254 hT hS)) rfl rfl ?_
  rintro _ w ⟨rfl, hS⟩
  obtain ⟨hq255, h⟩ := h.req
  refine RL.s (Vl.strAdd hq255 rfl rfl) rfl ?_
  obtain ⟨hq256, h⟩ := h.req
  refine RL.e (OW.callF (ls := [.tmp 2, .tmp 17]) rfl call14 (bld_write (lit_20 ++ (itoaB a3.Regs.c6)) bldT50 hq256 hS)) rfl rfl ?_
  rintro _ w ⟨rfl, hS⟩
  refine RL.nil (RQ.inB_n (RQ.then_n (RC.region (pn 2 rfl (ln (RQ.round (sr (pn 1 rfl (ln (RC.seq (jt (RC.skip ?_))))))))))))
  refine RQ.then_n (RC.seq (RC.block (sr (RL.s (Vl.indexAddr (a'' := ⟨b2, 7, none⟩) underlying51 sizeOf2 rfl rfl rfl (by decide) (by decide) rfl) rfl (rr [2, 0] hS ?_)))))
  refine it fun w hS => ln (RC.region (pn 1 rfl ?_))
  obtain ⟨⟨hq261, hq262⟩, h⟩ := h.req
  refine RL.e (OW.callF (ls := [.tmp 15, .const (iV 10)]) rfl call15 (format_ok strconv_FormatInt_10 a3.Regs.c7 hq261 hq262 hT hS)) rfl rfl ?_
  rintro _ w ⟨rfl, hS⟩
  obtain ⟨hq263, h⟩ := h.req
  refine RL.s (Vl.strAdd hq263 rfl rfl) rfl ?_
  obtain ⟨hq264, h⟩ := h.req
  refine RL.e (OW.callF (ls := [.tmp 2, .tmp 17]) rfl call14 (bld_write (lit_20 ++ (itoaB a3.Regs.c7)) bldT50 hq264 hS)) rfl rfl ?_
  rintro _ w ⟨rfl, hS⟩
  refine RL.nil (RQ.inB_n (RQ.then_n (RC.region (pn 2 rfl (ln (RQ.round (sr (pn 1 rfl (ln (RC.seq (jf (RC.exit ?_))))))))))))
  refine RQ.exitT (RQ.exitT (RQ.inB_hit (RQ.then_n (RC.region ?_))))
  obtain ⟨hq265, h⟩ := h.req
  refine RL.e (OW.callF (ls := [.tmp 2, .const (.string lit_0a)]) rfl call14 (bld_write lit_0a bldT50 hq265 hS)) rfl rfl ?_
  rintro _ w ⟨rfl, hS⟩
  refine RL.nil ?_
  cases h.some
  exact rtE results13 rfl ⟨rfl, hS.p1⟩
def script_Told.l8b (a1 : api_Result) : ByteArray × Int → Option ((ByteArray × Int) ⊕ (ByteArray))
  | (s394, x395) => (if x395 < (a1.States.length : Int) then (if 0 ≤ x395 then ((script_Told_1v2.f lit_state (nth a1.States x395) s394).bind fun t417 => some (.inl (t417, IntKind.i64.wrap (x395 + 1)))) else none) else (Option.map Sum.inr ((script_Told_1.f lit_stop ([a1.Stop] : List Int) s394).bind fun t424 => some t424)))
def script_Told.l8 (a1 : api_Result) (s : ByteArray × Int) : Option (ByteArray) := loopR (script_Told.l8b a1) s
def script_Told.l6b (a1 : api_Result) : ByteArray × Int → Option ((ByteArray × Int) ⊕ (ByteArray))
  | (s304, x305) => (if x305 < (a1.History.length : Int) then (if 0 ≤ x305 then ((script_Told_1.f lit_did ([((nth a1.History x305).Key).Time, ((nth a1.History x305).Key).From, ((nth a1.History x305).Key).Seq, (nth a1.History x305).To, (nth a1.History x305).Value] : List Int) s304).bind fun t347 => some (.inl (t347, IntKind.i64.wrap (x305 + 1)))) else none) else (Option.map Sum.inr (script_Told.l8 a1 (s304, 0))))
def script_Told.l6 (a1 : api_Result) (s : ByteArray × Int) : Option (ByteArray) := loopR (script_Told.l6b a1) s
def script_Told.f (a1 : api_Result) : Option (ByteArray) := script_Told.l6 a1 (ByteArray.empty, 0)
theorem script_Told.ok {a1 : api_Result} {A2 A5 : Option Addr} {c3 c6 : Nat} (hr4 : SlR E_api_Done.rep hf A2 c3 a1.History) (hr7 : SlR E_api_State.rep hf A5 c6 a1.States) (hT : TabH prog hf) {r : ByteArray} (h : script_Told.f a1 = some r) (hS : St B w (l) hf) :
    Calls prog 6 #[.agg (C_api_Result a1 A2 c3 A5 c6).toArray] w (Ret fun v w => v = .string r ∧ St B w (l) hf) := by
  have h := Holds.of h
  refine en func6 rfl ntmps6 rfl (sr (rr [0, 0] hS ?_))
  refine fun b217 => it fun w hS => lnsr (RL.e (OW.alloc (cs := [.pointer none, .slice none 0 0]) hS zeroValue50 (by rfl)) rfl rfl ?_)
  rintro _ w ⟨b218, rfl, hS⟩
  have hS := Bd.new 5 hS
  have hS : St B w (_ :: _ :: l) hf := hS
  refine lnsr (RL.s (Vl.makeFunc (fi := []) (ca := [.tmp 3]) rfl rfl) rfl (pn 1 rfl (ln (RC.seq (sr (rr [0, 2, 0, 0] hS ?_))))))
  refine it fun w hS => ln (RC.block (fun a ha => lp h (fun (s : ByteArray × Int) a w => ∃ s304 x305, s = (s304, x305) ∧ Has 52 [(1, pV b217), (3, pV b218), (4, .func (.func 13) #[] #[pV b218]), (11, sV A2 a1.History c3), (12, iV (a1.History.length : Int)), (13, iV x305)] a ∧ St B w (Bd 50 5 [] s304 b218 :: Cl b217 (C_api_Result a1 A2 c3 A5 c6) 25 :: l) hf) ⟨_, _, rfl, ha.tE rfl, hS⟩ ?_))
  rintro G328 _ a w ⟨s304, x305, rfl, ha, hS⟩ h
  refine ro ha (sr (pn 1 rfl (ln (RC.seq ?_))))
  refine RC.iteP 14 rfl h (fun hc330 h => ?_) fun hc330 h => ?_
  next =>
   refine jt (sk (RC.seq (RC.block (sr ?_))))
   obtain ⟨hq340, h⟩ := h.req
   refine RL.s (Vl.indexAddr underlying22 sizeOf61 rfl rfl ((hr4.2.world hS.sub).adr hq340 hc330) hq340 hc330 rfl) rfl (RL.s (Vl.loadA isAgg61 sizeOf61 rfl rfl ((hr4.2.world hS.sub).cells hq340 hc330)) rfl (rr [0, 1] hS ?_))
   refine fun b341 => it fun w hS => ln (RC.region (rr [0, 0, 0, 1, 0, 0, 1, 0, 0, 1, 0, 1, 0, 1] hS ?_))
   refine it fun w hS => RL.e (OW.buildSlice (E := (FI .i64)) (xs := ([((nth a1.History x305).Key).Time, ((nth a1.History x305).Key).From, ((nth a1.History x305).Key).Seq, (nth a1.History x305).To, (nth a1.History x305).Value] : List Int)) (cs := (C_api_Done (nth a1.History x305))) hS underlying51 zeroValue2 sizeOf2 (parts := [(0, .tmp 20), (1, .tmp 23), (2, .tmp 26), (3, .tmp 28), (4, .tmp 30)]) rfl rfl (by decide) (by decide) (by kernel_rfl) rfl) rfl rfl ?_
   rintro _ w ⟨b342, rfl, hS⟩
   obtain ⟨hf346, hs344, hS, hr343, hb345⟩ := St.lendSl hS
   obtain ⟨t347, hg348, h⟩ := h.bind
   have hc := script_Told_1.ok hr343 (hT.mono hs344) hg348 hS.p1
   refine RL.e (OW.call (ls := [.const (.string lit_did), .tmp 31]) rfl rfl call13 rfl hc) rfl rfl ?_
   rintro _ w ⟨rfl, hS⟩
   have hS := hb345 _ _ hS
   have hS : St B w (_ :: _ :: _ :: _ :: l) hf := hS
   refine RL.nil (RQ.inB_n (RQ.then_n (RC.region (pn 2 rfl (RL.nil ?_)))))
   exact fun a ha => ⟨_, h.some, _, _, rfl, ha.tE rfl, hS.d0.d1⟩
  refine jf (RC.exit (RQ.exitT ?_))
  have h := h.inr
  refine RQ.exitT (RQ.inB_hit (RQ.then_n (RC.seq (sr (rr [0, 2, 0, 0] hS ?_)))))
  refine it fun w hS => ln (RC.block (fun a ha => lp h (fun (s : ByteArray × Int) a w => ∃ s394 x395, s = (s394, x395) ∧ Has 52 [(1, pV b217), (3, pV b218), (4, .func (.func 13) #[] #[pV b218]), (35, sV A5 a1.States c6), (36, iV (a1.States.length : Int)), (37, iV x395)] a ∧ St B w (Bd 50 5 [] s394 b218 :: Cl b217 (C_api_Result a1 A2 c3 A5 c6) 25 :: l) hf) ⟨_, _, rfl, ha.tE rfl, hS⟩ ?_))
  rintro G408 _ a w ⟨s394, x395, rfl, ha, hS⟩ h
  refine ro ha (sr (pn 1 rfl (ln (RC.seq ?_))))
  refine RC.iteP 38 rfl h (fun hc410 h => ?_) fun hc410 h => ?_
  next =>
   refine jt (sk (RC.seq (RC.block (sr ?_))))
   obtain ⟨hq415, h⟩ := h.req
   refine RL.s (Vl.indexAddr underlying23 sizeOf64 rfl rfl ((hr7.2.world hS.sub).adr hq415 hc410) hq415 hc410 rfl) rfl (RL.s (Vl.loadA isAgg64 sizeOf64 rfl rfl ((hr7.2.world hS.sub).cells hq415 hc410)) rfl (rr [0, 1] hS ?_))
   refine fun b416 => it fun w hS => ln (RC.region (r0 2 rfl (RL.s (Vl.sliceArr underlying62 sizeOf2 rfl) rfl ?_)))
   obtain ⟨t417, hg418, h⟩ := h.bind
   have hc := script_Told_1v2.ok hT hg418 hS
   refine RL.e (OW.call (ls := [.const (.string lit_state), .tmp 43]) rfl rfl call13 rfl hc) rfl rfl ?_
   rintro _ w ⟨rfl, hS⟩
   refine RL.nil (RQ.inB_n (RQ.then_n (RC.region (pn 2 rfl (RL.nil ?_)))))
   exact fun a ha => ⟨_, h.some, _, _, rfl, ha.tE rfl, hS.d0⟩
  refine jf (RC.exit (RQ.exitT ?_))
  have h := h.inr
  refine RQ.exitT (RQ.inB_hit (tsr (rr [0, 0, 2] hS ?_)))
  refine it fun w hS => RL.e (OW.buildSlice (E := (FI .i64)) (xs := ([a1.Stop] : List Int)) (cs := [iV a1.Stop]) hS underlying51 zeroValue2 sizeOf2 (parts := [(0, .tmp 48)]) rfl rfl (by decide) (by decide) (by kernel_rfl) rfl) rfl rfl ?_
  rintro _ w ⟨b419, rfl, hS⟩
  obtain ⟨hf423, hs421, hS, hr420, hb422⟩ := St.lendSl hS
  obtain ⟨t424, hg425, h⟩ := h.bind
  have hc := script_Told_1.ok hr420 (hT.mono hs421) hg425 hS
  refine RL.e (OW.call (ls := [.const (.string lit_stop), .tmp 49]) rfl rfl call13 rfl hc) rfl rfl ?_
  rintro _ w ⟨rfl, hS⟩
  have hS := hb422 _ _ hS
  have hS : St B w (_ :: _ :: _ :: l) hf := hS
  refine lnsr (RL.e (OW.callF (ls := [.tmp 3]) rfl call16 (bld_string hS.p1)) rfl rfl ?_)
  rintro _ w ⟨rfl, hS⟩
  refine pn 1 rfl (lr ?_)
  obtain rfl := h.some
  exact rt results6 rfl ⟨rfl, hS.d0.d0⟩
def isochronref21vtold.f (a1 : Int) : Option (ByteArray) := (if a1 < 0 then (if numM (IntKind.i64.wrap (0 - a1)) < numM a1 ∧ -9223372036854775807 ≤ IntKind.i64.wrap (0 - a1) ∧ IntKind.i64.wrap (0 - a1) ≤ 9223372036854775807 then (if lit_2d.size + (itoaB (IntKind.i64.wrap (0 - a1))).size ≤ 9223372036854775807 then some (lit_2d ++ (itoaB (IntKind.i64.wrap (0 - a1)))) else none) else none) else (if 10 ≤ a1 then (if numM (IntKind.i64.wrap (Int.tdiv a1 10)) < numM a1 ∧ -9223372036854775807 ≤ IntKind.i64.wrap (Int.tdiv a1 10) ∧ IntKind.i64.wrap (Int.tdiv a1 10) ≤ 9223372036854775807 then (if (itoaB (IntKind.i64.wrap (Int.tdiv a1 10))).size + (strOf ([IntKind.u8.wrap (IntKind.i64.wrap (48 + (Int.tmod a1 10)))] : List Int)).size ≤ 9223372036854775807 then some ((itoaB (IntKind.i64.wrap (Int.tdiv a1 10))) ++ (strOf ([IntKind.u8.wrap (IntKind.i64.wrap (48 + (Int.tmod a1 10)))] : List Int))) else none) else none) else some (strOf ([IntKind.u8.wrap (IntKind.i64.wrap (48 + (Int.tmod a1 10)))] : List Int))))
theorem isochronref21vtold.ok {a1 : Int} (ih : ∀ (m : Int), numM m < numM a1 → -9223372036854775807 ≤ m → m ≤ 9223372036854775807 → ∀ {B : Base} {w : World} {l : List HProp} {hf : Hp}, St B w l hf → Calls prog 29 #[iV m] w (Ret fun v w => v = .string (itoaB m) ∧ St B w l hf)) {r : ByteArray} (h : isochronref21vtold.f a1 = some r) (hS : St B w (l) hf) :
    Calls prog 29 #[iV a1] w (Ret fun v w => v = .string r ∧ St B w (l) hf) := by
  have h := Holds.of h
  refine en func29 rfl ntmps29 rfl (sr (pn 1 rfl (ln (RC.seq (sr (pn 2 rfl (ln ?_)))))))
  refine RC.iteP 5 rfl h (fun hc23 h => ?_) fun hc23 h => ?_
  next =>
   refine jtr (pn 1 rfl (RL.s (Vl.neg rfl) rfl ?_))
   obtain ⟨⟨hq24, hq25, hq26⟩, h⟩ := h.req
   refine RL.e (OW.callF (ls := [.tmp 7]) rfl call29 (ih (IntKind.i64.wrap (0 - a1)) hq24 hq25 hq26 hS)) rfl rfl ?_
   rintro _ w ⟨rfl, hS⟩
   obtain ⟨hq27, h⟩ := h.req
   refine RL.s (Vl.strAdd hq27 rfl rfl) rfl (pn 1 rfl (lr (RQ.ret ?_)))
   cases h.some
   exact rt results29 rfl ⟨rfl, hS⟩
  refine jfs (sr (pn 1 rfl (RL.s (Vl.rem rfl rfl (by decide)) rfl (r0 2 rfl (RL.e (OW.buildSlice (E := (FI .u8)) (xs := ([IntKind.u8.wrap (IntKind.i64.wrap (48 + (Int.tmod a1 10)))] : List Int)) (cs := [.int .u8 (IntKind.u8.wrap (IntKind.i64.wrap (48 + (Int.tmod a1 10))))]) hS underlying48 zeroValue5 sizeOf5 (parts := [(0, .tmp 13)]) rfl rfl (by decide) (by decide) (by kernel_rfl) rfl) rfl rfl ?_)))))
  rintro _ w ⟨b28, rfl, hS⟩
  refine RL.s (Vl.bytesStr underlying48 underlying5 underlying9 rfl (hS.slW 0 rfl).2.2) rfl (pn 1 rfl (ln (RC.seq (sr (pn 2 rfl (ln ?_))))))
  refine RC.iteP 17 rfl h (fun hc29 h => ?_) fun hc29 h => ?_
  next =>
   refine jtr (pn 1 rfl (RL.s (Vl.quo rfl rfl (by decide)) rfl ?_))
   obtain ⟨⟨hq30, hq31, hq32⟩, h⟩ := h.req
   refine RL.e (OW.callF (ls := [.tmp 19]) rfl call29 (ih (IntKind.i64.wrap (Int.tdiv a1 10)) hq30 hq31 hq32 hS)) rfl rfl ?_
   rintro _ w ⟨rfl, hS⟩
   refine pn 1 rfl ?_
   obtain ⟨hq33, h⟩ := h.req
   refine RL.s (Vl.strAdd hq33 rfl rfl) rfl (pn 1 rfl (lr (RQ.ret ?_)))
   cases h.some
   exact rt results29 rfl ⟨rfl, hS.d0⟩
  refine jfs (sr (pn 2 rfl (lr ?_)))
  cases h.some
  exact rt results29 rfl ⟨rfl, hS.d0⟩
theorem isochronref21vtold.eq (n : Int) (h0 : -9223372036854775807 ≤ n) (h1 : n ≤ 9223372036854775807) : isochronref21vtold.f n = some (itoaB n) := by
  unfold isochronref21vtold.f
  have l1 : lit_2d = ⟨[45].toArray⟩ := rfl
  have ls : lit_2d.size = 1 := rfl
  rcases Int.lt_or_le n 0 with hn | hn
  · rw [if_pos hn, w64 (x := 0 - n) (by omega) (by omega)]
    have s1 := itoa_size (n := 0 - n) (by omega) (by omega)
    rw [if_pos ⟨by unfold numM; rw [if_pos hn, if_neg (by omega)]; omega, by omega, by omega⟩, if_pos (by omega), itoa_nonneg (n := 0 - n) (by omega), itoa_neg hn, l1, ba_append, show (0 - n).toNat = n.natAbs by omega]
    rfl
  · rw [if_neg (by omega), tdiv_pos' hn 10, tmod_pos' hn 10, w64 (x := 48 + n % 10) (by omega) (by omega), wu8 (x := 48 + n % 10) (by omega) (by omega), strOf_one]
    by_cases h10 : 10 ≤ n
    · have s1 := itoa_size (n := n / 10) (by omega) (by omega)
      have sz : ∀ x : UInt8, (⟨[x].toArray⟩ : ByteArray).size = 1 := fun _ => rfl
      rw [if_pos h10, w64 (x := n / 10) (by omega) (by omega), if_pos ⟨by unfold numM; rw [if_neg (by omega), if_neg (by omega)]; omega, by omega, by omega⟩, if_pos (by rw [sz]; omega), itoa_nonneg (n := n / 10) (by omega), itoa_nonneg hn, ba_append, dec_big (u := n.toNat) (by omega)]
      rw [show (n / 10).toNat = n.toNat / 10 by omega, show (48 + n % 10).toNat = 48 + n.toNat % 10 by omega]
    · rw [if_neg h10, itoa_nonneg hn, dec_small (by omega), show (48 + n % 10).toNat = 48 + n.toNat by omega]
theorem isochronref21vtold.ok' (n : Int) (h0 : -9223372036854775807 ≤ n) (h1 : n ≤ 9223372036854775807) {B : Base} {w : World} {l : List HProp} {hf : Hp} (hS : St B w l hf) :
    Calls prog 29 #[iV n] w (Ret fun v w => v = .string (itoaB n) ∧ St B w l hf) := by
  have key : ∀ (k : Nat) (n : Int), numM n = k → -9223372036854775807 ≤ n → n ≤ 9223372036854775807 → ∀ {B : Base} {w : World} {l : List HProp} {hf : Hp}, St B w l hf → Calls prog 29 #[iV n] w (Ret fun v w => v = .string (itoaB n) ∧ St B w l hf) := by
    intro k
    induction k using Nat.strongRecOn with
    | _ k ih =>
      intro n e h0 h1 B w l hf hS
      exact isochronref21vtold.ok (fun m hm a b => ih (numM m) (e ▸ hm) m rfl a b) (isochronref21vtold.eq n h0 h1) hS
  exact key _ n rfl h0 h1 hS
def isochronref21vleast.f (a1 : Int) : Option (ByteArray) := (if a1 = (-9223372036854775808) then some lit_2d39323233333732303336383534373735383038 else (if -9223372036854775807 ≤ a1 ∧ a1 ≤ 9223372036854775807 then some (itoaB a1) else none))
theorem isochronref21vleast.ok {a1 : Int} {r : ByteArray} (h : isochronref21vleast.f a1 = some r) (hS : St B w (l) hf) :
    Calls prog 17 #[iV a1] w (Ret fun v w => v = .string r ∧ St B w (l) hf) := by
  have h := Holds.of h
  refine en func17 rfl ntmps17 rfl (sr (pn 1 rfl (ln (RC.seq (sr (pn 2 rfl (ln ?_)))))))
  refine RC.iteP 4 rfl h (fun hc7 h => ?_) fun hc7 h => ?_
  next =>
   refine jtr (pn 1 rfl (lr (RQ.ret ?_)))
   obtain rfl := h.some
   exact rt results17 rfl ⟨rfl, hS⟩
  refine jfs (sr (pn 1 rfl ?_))
  obtain ⟨⟨hq8, hq9⟩, h⟩ := h.req
  refine RL.e (OW.callF (ls := [.tmp 5]) rfl call29 (isochronref21vtold.ok' a1 hq8 hq9 hS)) rfl rfl ?_
  rintro _ w ⟨rfl, hS⟩
  refine pn 1 rfl (lr ?_)
  cases h.some
  exact rt results17 rfl ⟨rfl, hS⟩
def isochronref21vTold.l8b (a1 : api_Result) : ByteArray × Int → Option ((ByteArray × Int) ⊕ (ByteArray))
  | (s3302, x3303) => (if x3303 < (a1.States.length : Int) then (if s3302.size + lit_state.size ≤ 9223372036854775807 then (if (s3302 ++ lit_state).size + lit_20.size ≤ 9223372036854775807 then (if 0 ≤ x3303 then ((isochronref21vleast.f (((nth a1.States x3303).Regs).c0)).bind fun t3787 => (if ((s3302 ++ lit_state) ++ lit_20).size + t3787.size ≤ 9223372036854775807 then (if (((s3302 ++ lit_state) ++ lit_20) ++ t3787).size + lit_20.size ≤ 9223372036854775807 then ((isochronref21vleast.f (((nth a1.States x3303).Regs).c1)).bind fun t3795 => (if ((((s3302 ++ lit_state) ++ lit_20) ++ t3787) ++ lit_20).size + t3795.size ≤ 9223372036854775807 then (if (((((s3302 ++ lit_state) ++ lit_20) ++ t3787) ++ lit_20) ++ t3795).size + lit_20.size ≤ 9223372036854775807 then ((isochronref21vleast.f (((nth a1.States x3303).Regs).c2)).bind fun t3803 => (if ((((((s3302 ++ lit_state) ++ lit_20) ++ t3787) ++ lit_20) ++ t3795) ++ lit_20).size + t3803.size ≤ 9223372036854775807 then (if (((((((s3302 ++ lit_state) ++ lit_20) ++ t3787) ++ lit_20) ++ t3795) ++ lit_20) ++ t3803).size + lit_20.size ≤ 9223372036854775807 then ((isochronref21vleast.f (((nth a1.States x3303).Regs).c3)).bind fun t3811 => (if ((((((((s3302 ++ lit_state) ++ lit_20) ++ t3787) ++ lit_20) ++ t3795) ++ lit_20) ++ t3803) ++ lit_20).size + t3811.size ≤ 9223372036854775807 then (if (((((((((s3302 ++ lit_state) ++ lit_20) ++ t3787) ++ lit_20) ++ t3795) ++ lit_20) ++ t3803) ++ lit_20) ++ t3811).size + lit_20.size ≤ 9223372036854775807 then ((isochronref21vleast.f (((nth a1.States x3303).Regs).c4)).bind fun t3819 => (if ((((((((((s3302 ++ lit_state) ++ lit_20) ++ t3787) ++ lit_20) ++ t3795) ++ lit_20) ++ t3803) ++ lit_20) ++ t3811) ++ lit_20).size + t3819.size ≤ 9223372036854775807 then (if (((((((((((s3302 ++ lit_state) ++ lit_20) ++ t3787) ++ lit_20) ++ t3795) ++ lit_20) ++ t3803) ++ lit_20) ++ t3811) ++ lit_20) ++ t3819).size + lit_20.size ≤ 9223372036854775807 then ((isochronref21vleast.f (((nth a1.States x3303).Regs).c5)).bind fun t3827 => (if ((((((((((((s3302 ++ lit_state) ++ lit_20) ++ t3787) ++ lit_20) ++ t3795) ++ lit_20) ++ t3803) ++ lit_20) ++ t3811) ++ lit_20) ++ t3819) ++ lit_20).size + t3827.size ≤ 9223372036854775807 then (if (((((((((((((s3302 ++ lit_state) ++ lit_20) ++ t3787) ++ lit_20) ++ t3795) ++ lit_20) ++ t3803) ++ lit_20) ++ t3811) ++ lit_20) ++ t3819) ++ lit_20) ++ t3827).size + lit_20.size ≤ 9223372036854775807 then ((isochronref21vleast.f (((nth a1.States x3303).Regs).c6)).bind fun t3835 => (if ((((((((((((((s3302 ++ lit_state) ++ lit_20) ++ t3787) ++ lit_20) ++ t3795) ++ lit_20) ++ t3803) ++ lit_20) ++ t3811) ++ lit_20) ++ t3819) ++ lit_20) ++ t3827) ++ lit_20).size + t3835.size ≤ 9223372036854775807 then (if (((((((((((((((s3302 ++ lit_state) ++ lit_20) ++ t3787) ++ lit_20) ++ t3795) ++ lit_20) ++ t3803) ++ lit_20) ++ t3811) ++ lit_20) ++ t3819) ++ lit_20) ++ t3827) ++ lit_20) ++ t3835).size + lit_20.size ≤ 9223372036854775807 then ((isochronref21vleast.f (((nth a1.States x3303).Regs).c7)).bind fun t3843 => (if ((((((((((((((((s3302 ++ lit_state) ++ lit_20) ++ t3787) ++ lit_20) ++ t3795) ++ lit_20) ++ t3803) ++ lit_20) ++ t3811) ++ lit_20) ++ t3819) ++ lit_20) ++ t3827) ++ lit_20) ++ t3835) ++ lit_20).size + t3843.size ≤ 9223372036854775807 then (if (((((((((((((((((s3302 ++ lit_state) ++ lit_20) ++ t3787) ++ lit_20) ++ t3795) ++ lit_20) ++ t3803) ++ lit_20) ++ t3811) ++ lit_20) ++ t3819) ++ lit_20) ++ t3827) ++ lit_20) ++ t3835) ++ lit_20) ++ t3843).size + lit_0a.size ≤ 9223372036854775807 then some (.inl ((((((((((((((((((s3302 ++ lit_state) ++ lit_20) ++ t3787) ++ lit_20) ++ t3795) ++ lit_20) ++ t3803) ++ lit_20) ++ t3811) ++ lit_20) ++ t3819) ++ lit_20) ++ t3827) ++ lit_20) ++ t3835) ++ lit_20) ++ t3843) ++ lit_0a, IntKind.i64.wrap (x3303 + 1))) else none) else none)) else none) else none)) else none) else none)) else none) else none)) else none) else none)) else none) else none)) else none) else none)) else none) else none)) else none) else none) else none) else (Option.map Sum.inr (if s3302.size + lit_73746f7020.size ≤ 9223372036854775807 then ((isochronref21vleast.f a1.Stop).bind fun t3848 => (if (s3302 ++ lit_73746f7020).size + t3848.size ≤ 9223372036854775807 then (if ((s3302 ++ lit_73746f7020) ++ t3848).size + lit_0a.size ≤ 9223372036854775807 then some (((s3302 ++ lit_73746f7020) ++ t3848) ++ lit_0a) else none) else none)) else none)))
def isochronref21vTold.l8 (a1 : api_Result) (s : ByteArray × Int) : Option (ByteArray) := loopR (isochronref21vTold.l8b a1) s
def isochronref21vTold.l6b (a1 : api_Result) : ByteArray × Int → Option ((ByteArray × Int) ⊕ (ByteArray))
  | (s2128, x2129) => (if x2129 < (a1.History.length : Int) then (if 0 ≤ x2129 then (if s2128.size + lit_64696420.size ≤ 9223372036854775807 then ((isochronref21vleast.f (((nth a1.History x2129).Key).Time)).bind fun t2209 => (if (s2128 ++ lit_64696420).size + t2209.size ≤ 9223372036854775807 then (if ((s2128 ++ lit_64696420) ++ t2209).size + lit_20.size ≤ 9223372036854775807 then ((isochronref21vleast.f (((nth a1.History x2129).Key).From)).bind fun t2213 => (if (((s2128 ++ lit_64696420) ++ t2209) ++ lit_20).size + t2213.size ≤ 9223372036854775807 then (if ((((s2128 ++ lit_64696420) ++ t2209) ++ lit_20) ++ t2213).size + lit_20.size ≤ 9223372036854775807 then ((isochronref21vleast.f (((nth a1.History x2129).Key).Seq)).bind fun t2217 => (if (((((s2128 ++ lit_64696420) ++ t2209) ++ lit_20) ++ t2213) ++ lit_20).size + t2217.size ≤ 9223372036854775807 then (if ((((((s2128 ++ lit_64696420) ++ t2209) ++ lit_20) ++ t2213) ++ lit_20) ++ t2217).size + lit_20.size ≤ 9223372036854775807 then ((isochronref21vleast.f ((nth a1.History x2129).To)).bind fun t2221 => (if (((((((s2128 ++ lit_64696420) ++ t2209) ++ lit_20) ++ t2213) ++ lit_20) ++ t2217) ++ lit_20).size + t2221.size ≤ 9223372036854775807 then (if ((((((((s2128 ++ lit_64696420) ++ t2209) ++ lit_20) ++ t2213) ++ lit_20) ++ t2217) ++ lit_20) ++ t2221).size + lit_20.size ≤ 9223372036854775807 then ((isochronref21vleast.f ((nth a1.History x2129).Value)).bind fun t2225 => (if (((((((((s2128 ++ lit_64696420) ++ t2209) ++ lit_20) ++ t2213) ++ lit_20) ++ t2217) ++ lit_20) ++ t2221) ++ lit_20).size + t2225.size ≤ 9223372036854775807 then (if ((((((((((s2128 ++ lit_64696420) ++ t2209) ++ lit_20) ++ t2213) ++ lit_20) ++ t2217) ++ lit_20) ++ t2221) ++ lit_20) ++ t2225).size + lit_0a.size ≤ 9223372036854775807 then some (.inl (((((((((((s2128 ++ lit_64696420) ++ t2209) ++ lit_20) ++ t2213) ++ lit_20) ++ t2217) ++ lit_20) ++ t2221) ++ lit_20) ++ t2225) ++ lit_0a, IntKind.i64.wrap (x2129 + 1))) else none) else none)) else none) else none)) else none) else none)) else none) else none)) else none) else none)) else none) else none) else (Option.map Sum.inr (isochronref21vTold.l8 a1 (s2128, 0))))
def isochronref21vTold.l6 (a1 : api_Result) (s : ByteArray × Int) : Option (ByteArray) := loopR (isochronref21vTold.l6b a1) s
def isochronref21vTold.f (a1 : api_Result) : Option (ByteArray) := isochronref21vTold.l6 a1 (lit_, 0)
theorem isochronref21vTold.ok {a1 : api_Result} {A2 A5 : Option Addr} {c3 c6 : Nat} (hr4 : SlR E_api_Done.rep hf A2 c3 a1.History) (hr7 : SlR E_api_State.rep hf A5 c6 a1.States) {r : ByteArray} (h : isochronref21vTold.f a1 = some r) (hS : St B w (l) hf) :
    Calls prog 7 #[.agg (C_api_Result a1 A2 c3 A5 c6).toArray] w (Ret fun v w => v = .string r ∧ St B w (l) hf) := by
  have h := Holds.of h
  refine en func7 rfl ntmps7 rfl (sr (rr [0, 0] hS ?_))
  refine fun b1930 => it fun w hS => lnsr (pn 1 rfl (ln (RC.seq (sr (pn 1 rfl (RL.nil ?_))))))
  refine RQ.then_n (RC.block (fun a ha => lp h (fun (s : ByteArray × Int) a w => ∃ s2128 x2129, s = (s2128, x2129) ∧ Has 84 [(1, pV b1930), (3, .string s2128), (4, iV x2129)] a ∧ St B w (Cl b1930 (C_api_Result a1 A2 c3 A5 c6) 25 :: l) hf) ⟨_, _, rfl, ha.tE rfl, hS⟩ ?_))
  rintro G2180 _ a w ⟨s2128, x2129, rfl, ha, hS⟩ h
  refine ro ha (RC.seq (sr (rr [0, 0, 1, 0, 0] hS ?_)))
  refine it fun w hS => ln ?_
  refine RC.iteP 12 rfl h (fun hc2182 h => ?_) fun hc2182 h => ?_
  next =>
   refine jt (sk (RC.seq (RC.block (sr (rr [0, 1, 0] hS ?_)))))
   refine it fun w hS => ?_
   obtain ⟨hq2206, h⟩ := h.req
   refine RL.s (Vl.indexAddr underlying22 sizeOf61 rfl rfl ((hr4.2.world hS.sub).adr hq2206 hc2182) hq2206 hc2182 rfl) rfl (RL.s (Vl.loadA isAgg61 sizeOf61 rfl rfl ((hr4.2.world hS.sub).cells hq2206 hc2182)) rfl (rr [0, 1] hS ?_))
   refine fun b2207 => it fun w hS => ln (dr [0, 3, 6, 9, 13, 24, 27, 31, 42, 45, 49, 60, 64, 75, 79, 17, 18, 21, 35, 36, 39, 53, 54, 57, 68, 69, 72, 83, 86, 89, 92] [27, 28, 29, 30] hS fun w hS => pp 1 rfl ?_)
   obtain ⟨hq2208, h⟩ := h.req
   refine RP.s0 1 rfl (fun w => Vl.strAdd hq2208 rfl rfl) rfl (rq [0, 0, 1, 0, 0, 1, 0, 0, 1, 0, 1, 0, 1] hS ?_)
   refine it ?_
   obtain ⟨t2209, hg2210, h⟩ := h.bind
   have hc := isochronref21vleast.ok hg2210 hS
   refine RP.e 5 rfl (OW.callF (ls := [.tmp 24]) rfl call17 hc) rfl rfl ?_
   rintro _ w ⟨rfl, hS⟩
   refine ⟨kp ⟨fun _ => hS, trivial⟩, ?_⟩
   obtain ⟨hq2211, h⟩ := h.req
   refine RP.s0 6 rfl (fun w => Vl.strAdd hq2211 rfl rfl) rfl ?_
   obtain ⟨hq2212, h⟩ := h.req
   refine RP.s0 7 rfl (fun w => Vl.strAdd hq2212 rfl rfl) rfl ?_
   obtain ⟨t2213, hg2214, h⟩ := h.bind
   have hc := isochronref21vleast.ok hg2214 hS
   refine RP.e 11 rfl (OW.callF (ls := [.tmp 30]) rfl call17 hc) rfl rfl ?_
   rintro _ w ⟨rfl, hS⟩
   refine ⟨kp ⟨fun _ => hS, trivial⟩, ?_⟩
   obtain ⟨hq2215, h⟩ := h.req
   refine RP.s0 12 rfl (fun w => Vl.strAdd hq2215 rfl rfl) rfl ?_
   obtain ⟨hq2216, h⟩ := h.req
   refine RP.s0 13 rfl (fun w => Vl.strAdd hq2216 rfl rfl) rfl ?_
   obtain ⟨t2217, hg2218, h⟩ := h.bind
   have hc := isochronref21vleast.ok hg2218 hS
   refine RP.e 17 rfl (OW.callF (ls := [.tmp 36]) rfl call17 hc) rfl rfl ?_
   rintro _ w ⟨rfl, hS⟩
   refine ⟨kp ⟨fun _ => hS, trivial⟩, ?_⟩
   obtain ⟨hq2219, h⟩ := h.req
   refine RP.s0 18 rfl (fun w => Vl.strAdd hq2219 rfl rfl) rfl ?_
   obtain ⟨hq2220, h⟩ := h.req
   refine RP.s0 19 rfl (fun w => Vl.strAdd hq2220 rfl rfl) rfl ?_
   obtain ⟨t2221, hg2222, h⟩ := h.bind
   have hc := isochronref21vleast.ok hg2222 hS
   refine RP.e 22 rfl (OW.callF (ls := [.tmp 41]) rfl call17 hc) rfl rfl ?_
   rintro _ w ⟨rfl, hS⟩
   refine ⟨kp ⟨fun _ => hS, trivial⟩, ?_⟩
   obtain ⟨hq2223, h⟩ := h.req
   refine RP.s0 23 rfl (fun w => Vl.strAdd hq2223 rfl rfl) rfl ?_
   obtain ⟨hq2224, h⟩ := h.req
   refine RP.s0 24 rfl (fun w => Vl.strAdd hq2224 rfl rfl) rfl ?_
   obtain ⟨t2225, hg2226, h⟩ := h.bind
   have hc := isochronref21vleast.ok hg2226 hS
   refine RP.e 27 rfl (OW.callF (ls := [.tmp 46]) rfl call17 hc) rfl rfl ?_
   rintro _ w ⟨rfl, hS⟩
   refine ⟨kp ⟨(by intro hx; cases hx), trivial⟩, ?_⟩
   obtain ⟨hq2227, h⟩ := h.req
   refine RP.v1 28 rfl (Vl.strAdd hq2227 rfl rfl) rfl rfl ?_
   obtain ⟨hq2228, h⟩ := h.req
   refine RP.v1 29 rfl (Vl.strAdd hq2228 rfl rfl) rfl rfl (rq [0] hS ?_)
   refine it (RP.nil (RQ.inB_n (RQ.then_n (RC.region (pn 3 rfl (RL.nil ?_))))))
   exact fun a ha => ⟨_, h.some, _, _, rfl, ha.tE rfl, hS.d0⟩
  refine jf (RC.exit (RQ.exitT ?_))
  have h := h.inr
  refine RQ.exitT (RQ.inB_hit (RQ.then_n (RC.seq (sr (pn 1 rfl (ln (RC.block (fun a ha => lp h (fun (s : ByteArray × Int) a w => ∃ s3302 x3303, s = (s3302, x3303) ∧ Has 84 [(1, pV b1930), (3, .string s3302), (6, iV x3303)] a ∧ St B w (Cl b1930 (C_api_Result a1 A2 c3 A5 c6) 25 :: l) hf) ⟨_, _, rfl, ha.tE rfl, hS⟩ ?_))))))))
  rintro G3576 _ a w ⟨s3302, x3303, rfl, ha, hS⟩ h
  refine ro ha (RC.seq (sr (rr [0, 0, 1, 0, 0] hS ?_)))
  refine it fun w hS => ln ?_
  refine RC.iteP 54 rfl h (fun hc3578 h => ?_) fun hc3578 h => ?_
  next =>
   refine jt (sk (RC.seq (RC.block (sr (pn 1 rfl ?_)))))
   obtain ⟨hq3713, h⟩ := h.req
   refine RL.s (Vl.strAdd hq3713 rfl rfl) rfl (pn 1 rfl (ln (RC.seq (sr (pn 1 rfl (ln (RC.block (RC.unroll (RQ.round (RC.seq (sr ?_)))))))))))
   refine pn 2 rfl (ln (jt (sk (RC.seq (RC.block (RC.region (pn 1 rfl ?_)))))))
   obtain ⟨hq3785, h⟩ := h.req
   refine RL.s (Vl.strAdd hq3785 rfl rfl) rfl (rr [0, 1, 0, 0] hS ?_)
   refine it fun w hS => ?_
   obtain ⟨hq3786, h⟩ := h.req
   refine RL.s (Vl.indexAddr underlying23 sizeOf64 rfl rfl ((hr7.2.world hS.sub).adr hq3786 hc3578) hq3786 hc3578 rfl) rfl (RL.s (Vl.fieldAddr (a'' := (ad A5).add (x3303.toNat * 10 + 0)) underlying64 rfl sizeOf62 rfl (add_add _ _ _)) rfl (RL.s (Vl.indexAddrA (a'' := (ad A5).add (x3303.toNat * 10 + 0)) underlying62 sizeOf2 rfl rfl (by decide) (by decide) (add_add _ _ _)) rfl (RL.s (Vl.load isAgg2 rfl ((hr7.2.world hS.sub).cell (j := 0) hq3786 hc3578 rfl)) rfl (cF (fun _ hg => isochronref21vleast.ok hg hS) call17 h rfl rfl rfl ?_))))
   rintro t3787 h _ w ⟨rfl, hS⟩
   obtain ⟨hq3789, h⟩ := h.req
   refine RL.s (Vl.strAdd hq3789 rfl rfl) rfl (pn 1 rfl (RL.nil (RQ.inB_n (RQ.then_n (RC.region (pn 3 rfl (ln (RQ.round (RC.seq (sr (pn 2 rfl (ln ?_))))))))))))
   refine jt (sk (RC.seq (RC.block (RC.region (pn 1 rfl ?_)))))
   obtain ⟨hq3794, h⟩ := h.req
   refine RL.s (Vl.strAdd hq3794 rfl rfl) rfl (rr [0, 1, 0, 0] hS ?_)
   refine it fun w hS => RL.s (Vl.indexAddr underlying23 sizeOf64 rfl rfl ((hr7.2.world hS.sub).adr hq3786 hc3578) hq3786 hc3578 rfl) rfl (RL.s (Vl.fieldAddr (a'' := (ad A5).add (x3303.toNat * 10 + 0)) underlying64 rfl sizeOf62 rfl (add_add _ _ _)) rfl (RL.s (Vl.indexAddrA (a'' := (ad A5).add (x3303.toNat * 10 + 1)) underlying62 sizeOf2 rfl rfl (by decide) (by decide) (add_add _ _ _)) rfl (RL.s (Vl.load isAgg2 rfl ((hr7.2.world hS.sub).cell (j := 1) hq3786 hc3578 rfl)) rfl (cF (fun _ hg => isochronref21vleast.ok hg hS) call17 h rfl rfl rfl ?_))))
   rintro t3795 h _ w ⟨rfl, hS⟩
   obtain ⟨hq3797, h⟩ := h.req
   refine RL.s (Vl.strAdd hq3797 rfl rfl) rfl (pn 1 rfl (RL.nil (RQ.inB_n (RQ.then_n (RC.region (pn 3 rfl (ln (RQ.round (RC.seq (sr (pn 2 rfl (ln ?_))))))))))))
   refine jt (sk (RC.seq (RC.block (RC.region (pn 1 rfl ?_)))))
   obtain ⟨hq3802, h⟩ := h.req
   refine RL.s (Vl.strAdd hq3802 rfl rfl) rfl (rr [0, 1, 0, 0] hS ?_)
   refine it fun w hS => RL.s (Vl.indexAddr underlying23 sizeOf64 rfl rfl ((hr7.2.world hS.sub).adr hq3786 hc3578) hq3786 hc3578 rfl) rfl (RL.s (Vl.fieldAddr (a'' := (ad A5).add (x3303.toNat * 10 + 0)) underlying64 rfl sizeOf62 rfl (add_add _ _ _)) rfl (RL.s (Vl.indexAddrA (a'' := (ad A5).add (x3303.toNat * 10 + 2)) underlying62 sizeOf2 rfl rfl (by decide) (by decide) (add_add _ _ _)) rfl (RL.s (Vl.load isAgg2 rfl ((hr7.2.world hS.sub).cell (j := 2) hq3786 hc3578 rfl)) rfl (cF (fun _ hg => isochronref21vleast.ok hg hS) call17 h rfl rfl rfl ?_))))
   rintro t3803 h _ w ⟨rfl, hS⟩
   obtain ⟨hq3805, h⟩ := h.req
   refine RL.s (Vl.strAdd hq3805 rfl rfl) rfl (pn 1 rfl (RL.nil (RQ.inB_n (RQ.then_n (RC.region (pn 3 rfl (ln (RQ.round (RC.seq (sr (pn 2 rfl (ln ?_))))))))))))
   refine jt (sk (RC.seq (RC.block (RC.region (pn 1 rfl ?_)))))
   obtain ⟨hq3810, h⟩ := h.req
   refine RL.s (Vl.strAdd hq3810 rfl rfl) rfl (rr [0, 1, 0, 0] hS ?_)
   refine it fun w hS => RL.s (Vl.indexAddr underlying23 sizeOf64 rfl rfl ((hr7.2.world hS.sub).adr hq3786 hc3578) hq3786 hc3578 rfl) rfl (RL.s (Vl.fieldAddr (a'' := (ad A5).add (x3303.toNat * 10 + 0)) underlying64 rfl sizeOf62 rfl (add_add _ _ _)) rfl (RL.s (Vl.indexAddrA (a'' := (ad A5).add (x3303.toNat * 10 + 3)) underlying62 sizeOf2 rfl rfl (by decide) (by decide) (add_add _ _ _)) rfl (RL.s (Vl.load isAgg2 rfl ((hr7.2.world hS.sub).cell (j := 3) hq3786 hc3578 rfl)) rfl (cF (fun _ hg => isochronref21vleast.ok hg hS) call17 h rfl rfl rfl ?_))))
   rintro t3811 h _ w ⟨rfl, hS⟩
   obtain ⟨hq3813, h⟩ := h.req
   refine RL.s (Vl.strAdd hq3813 rfl rfl) rfl (pn 1 rfl (RL.nil (RQ.inB_n (RQ.then_n (RC.region (pn 3 rfl (ln (RQ.round (RC.seq (sr (pn 2 rfl (ln ?_))))))))))))
   refine jt (sk (RC.seq (RC.block (RC.region (pn 1 rfl ?_)))))
   obtain ⟨hq3818, h⟩ := h.req
   refine RL.s (Vl.strAdd hq3818 rfl rfl) rfl (rr [0, 1, 0, 0] hS ?_)
   refine it fun w hS => RL.s (Vl.indexAddr underlying23 sizeOf64 rfl rfl ((hr7.2.world hS.sub).adr hq3786 hc3578) hq3786 hc3578 rfl) rfl (RL.s (Vl.fieldAddr (a'' := (ad A5).add (x3303.toNat * 10 + 0)) underlying64 rfl sizeOf62 rfl (add_add _ _ _)) rfl (RL.s (Vl.indexAddrA (a'' := (ad A5).add (x3303.toNat * 10 + 4)) underlying62 sizeOf2 rfl rfl (by decide) (by decide) (add_add _ _ _)) rfl (RL.s (Vl.load isAgg2 rfl ((hr7.2.world hS.sub).cell (j := 4) hq3786 hc3578 rfl)) rfl (cF (fun _ hg => isochronref21vleast.ok hg hS) call17 h rfl rfl rfl ?_))))
   rintro t3819 h _ w ⟨rfl, hS⟩
   obtain ⟨hq3821, h⟩ := h.req
   refine RL.s (Vl.strAdd hq3821 rfl rfl) rfl (pn 1 rfl (RL.nil (RQ.inB_n (RQ.then_n (RC.region (pn 3 rfl (ln (RQ.round (RC.seq (sr (pn 2 rfl (ln ?_))))))))))))
   refine jt (sk (RC.seq (RC.block (RC.region (pn 1 rfl ?_)))))
   obtain ⟨hq3826, h⟩ := h.req
   refine RL.s (Vl.strAdd hq3826 rfl rfl) rfl (rr [0, 1, 0, 0] hS ?_)
   refine it fun w hS => RL.s (Vl.indexAddr underlying23 sizeOf64 rfl rfl ((hr7.2.world hS.sub).adr hq3786 hc3578) hq3786 hc3578 rfl) rfl (RL.s (Vl.fieldAddr (a'' := (ad A5).add (x3303.toNat * 10 + 0)) underlying64 rfl sizeOf62 rfl (add_add _ _ _)) rfl (RL.s (Vl.indexAddrA (a'' := (ad A5).add (x3303.toNat * 10 + 5)) underlying62 sizeOf2 rfl rfl (by decide) (by decide) (add_add _ _ _)) rfl (RL.s (Vl.load isAgg2 rfl ((hr7.2.world hS.sub).cell (j := 5) hq3786 hc3578 rfl)) rfl (cF (fun _ hg => isochronref21vleast.ok hg hS) call17 h rfl rfl rfl ?_))))
   rintro t3827 h _ w ⟨rfl, hS⟩
   obtain ⟨hq3829, h⟩ := h.req
   refine RL.s (Vl.strAdd hq3829 rfl rfl) rfl (pn 1 rfl (RL.nil (RQ.inB_n (RQ.then_n (RC.region (pn 3 rfl (ln (RQ.round (RC.seq (sr (pn 2 rfl (ln ?_))))))))))))
   refine jt (sk (RC.seq (RC.block (RC.region (pn 1 rfl ?_)))))
   obtain ⟨hq3834, h⟩ := h.req
   refine RL.s (Vl.strAdd hq3834 rfl rfl) rfl (rr [0, 1, 0, 0] hS ?_)
   refine it fun w hS => RL.s (Vl.indexAddr underlying23 sizeOf64 rfl rfl ((hr7.2.world hS.sub).adr hq3786 hc3578) hq3786 hc3578 rfl) rfl (RL.s (Vl.fieldAddr (a'' := (ad A5).add (x3303.toNat * 10 + 0)) underlying64 rfl sizeOf62 rfl (add_add _ _ _)) rfl (RL.s (Vl.indexAddrA (a'' := (ad A5).add (x3303.toNat * 10 + 6)) underlying62 sizeOf2 rfl rfl (by decide) (by decide) (add_add _ _ _)) rfl (RL.s (Vl.load isAgg2 rfl ((hr7.2.world hS.sub).cell (j := 6) hq3786 hc3578 rfl)) rfl (cF (fun _ hg => isochronref21vleast.ok hg hS) call17 h rfl rfl rfl ?_))))
   rintro t3835 h _ w ⟨rfl, hS⟩
   obtain ⟨hq3837, h⟩ := h.req
   refine RL.s (Vl.strAdd hq3837 rfl rfl) rfl (pn 1 rfl (RL.nil (RQ.inB_n (RQ.then_n (RC.region (pn 3 rfl (ln (RQ.round (RC.seq (sr (pn 2 rfl (ln ?_))))))))))))
   refine jt (sk (RC.seq (RC.block (RC.region (pn 1 rfl ?_)))))
   obtain ⟨hq3842, h⟩ := h.req
   refine RL.s (Vl.strAdd hq3842 rfl rfl) rfl (rr [0, 1, 0, 0] hS ?_)
   refine it fun w hS => RL.s (Vl.indexAddr underlying23 sizeOf64 rfl rfl ((hr7.2.world hS.sub).adr hq3786 hc3578) hq3786 hc3578 rfl) rfl (RL.s (Vl.fieldAddr (a'' := (ad A5).add (x3303.toNat * 10 + 0)) underlying64 rfl sizeOf62 rfl (add_add _ _ _)) rfl (RL.s (Vl.indexAddrA (a'' := (ad A5).add (x3303.toNat * 10 + 7)) underlying62 sizeOf2 rfl rfl (by decide) (by decide) (add_add _ _ _)) rfl (RL.s (Vl.load isAgg2 rfl ((hr7.2.world hS.sub).cell (j := 7) hq3786 hc3578 rfl)) rfl (cF (fun _ hg => isochronref21vleast.ok hg hS) call17 h rfl rfl rfl ?_))))
   rintro t3843 h _ w ⟨rfl, hS⟩
   obtain ⟨hq3845, h⟩ := h.req
   refine RL.s (Vl.strAdd hq3845 rfl rfl) rfl (pn 1 rfl (RL.nil (RQ.inB_n (RQ.then_n (RC.region (pn 3 rfl (ln (RQ.round (RC.seq (sr (pn 2 rfl (ln ?_))))))))))))
   refine jf (RC.exit (RQ.exitT (RQ.exitT (RQ.inB_hit (RQ.then_n (RC.region (pn 1 rfl ?_)))))))
   obtain ⟨hq3846, h⟩ := h.req
   refine RL.s (Vl.strAdd hq3846 rfl rfl) rfl (pn 1 rfl (RL.nil (RQ.inB_n (RQ.then_n (RC.region (pn 3 rfl (RL.nil ?_)))))))
   exact fun a ha => ⟨_, h.some, _, _, rfl, ha.tE rfl, hS⟩
  refine jf (RC.exit (RQ.exitT ?_))
  have h := h.inr
  refine RQ.exitT (RQ.inB_hit (tsr (pn 1 rfl ?_)))
  obtain ⟨hq3847, h⟩ := h.req
  refine RL.s (Vl.strAdd hq3847 rfl rfl) rfl (rr [0, 1] hS ?_)
  refine it fun w hS => cF (fun _ hg => isochronref21vleast.ok hg hS) call17 h rfl rfl rfl ?_
  rintro t3848 h _ w ⟨rfl, hS⟩
  obtain ⟨hq3850, h⟩ := h.req
  refine RL.s (Vl.strAdd hq3850 rfl rfl) rfl ?_
  obtain ⟨hq3851, h⟩ := h.req
  refine RL.s (Vl.strAdd hq3851 rfl rfl) rfl (pn 1 rfl (lr ?_))
  cases h.some
  exact rt results7 rfl ⟨rfl, hS.d0⟩
def script_counts.j6 (q29 : Bool) : Option (Int × Bool) := (if q29 = true then some (4, true) else some (0, false))
def script_counts.j5 (a1 : ByteArray) (q26 : Bool) : Option (Int × Bool) := (if q26 = true then some (3, true) else (if a1 = lit_op then script_counts.j6 true else script_counts.j6 (decide (a1 = lit_link))))
def script_counts.j4 (a1 : ByteArray) (q22 : Bool) : Option (Int × Bool) := (if q22 = true then some (1, true) else (if a1 = lit_caps then script_counts.j5 a1 true else (if a1 = lit_start then script_counts.j5 a1 true else script_counts.j5 a1 (decide (a1 = lit_pick)))))
def script_counts.f (a1 : ByteArray) : Option (Int × Bool) := (if a1 = lit_lane then some (0, true) else (if a1 = lit_seed then script_counts.j4 a1 true else (if a1 = lit_end then script_counts.j4 a1 true else script_counts.j4 a1 (decide (a1 = lit_budget)))))
theorem script_counts.ok {a1 : ByteArray} {r : Int × Bool} (h : script_counts.f a1 = some r) (hS : St B w (l) hf) :
    Calls prog 50 #[.string a1] w (Ret fun v w => v = .tuple #[iV r.1, .bool r.2] ∧ St B w (l) hf) := by
  have h := Holds.of h
  refine en func50 rfl ntmps50 rfl (sr (pn 2 rfl (ln (RC.seq (sr (pn 1 rfl (ln (RC.block (sr (RL.s (Vl.strEq rfl rfl) rfl ?_))))))))))
  refine pn 1 rfl (ln ?_)
  refine RC.iteP 5 rfl h (fun hc19 h => ?_) fun hc19 h => ?_
  next =>
   refine jtr (pn 2 rfl (lr (ir ?_)))
   cases h.some
   exact rt results50 rfl ⟨rfl, hS⟩
  refine jf ?_
  refine RC.join (fun (s : Bool) a w => ∃ q22, s = (q22) ∧ Holds (· = r) (script_counts.j4 a1 q22) ∧ Has 18 [(4, .string a1), (7, .bool q22)] a ∧ St B w (l) hf) ?_ ?_
  · rintro q22 a w ⟨_, rfl, h, ha, hS⟩
    refine ro ha ?_
    refine RC.iteB 7 rfl h (fun hc23 h => ?_) fun hc23 h => ?_
    next =>
     refine jtr (pn 2 rfl (lr (ir ?_)))
     cases h.some
     exact rt results50 rfl ⟨rfl, hS⟩
    refine jf ?_
    refine RC.join (fun (s : Bool) a w => ∃ q26, s = (q26) ∧ Holds (· = r) (script_counts.j5 a1 q26) ∧ Has 18 [(4, .string a1), (11, .bool q26)] a ∧ St B w (l) hf) ?_ ?_
    · rintro q26 a w ⟨_, rfl, h, ha, hS⟩
      refine ro ha ?_
      refine RC.iteB 11 rfl h (fun hc27 h => ?_) fun hc27 h => ?_
      next =>
       refine jtr (pn 2 rfl (lr (ir ?_)))
       cases h.some
       exact rt results50 rfl ⟨rfl, hS⟩
      refine jf ?_
      refine RC.join (fun (s : Bool) a w => ∃ q29, s = (q29) ∧ Holds (· = r) (script_counts.j6 q29) ∧ Has 18 [(15, .bool q29)] a ∧ St B w (l) hf) ?_ ?_
      · rintro q29 a w ⟨_, rfl, h, ha, hS⟩
        refine ro ha ?_
        refine RC.iteB 15 rfl h (fun hc30 h => ?_) fun hc30 h => ?_
        next =>
         refine jtr (pn 2 rfl (lr (ir ?_)))
         cases h.some
         exact rt results50 rfl ⟨rfl, hS⟩
        refine jf (RC.skip (RQ.inB_n (tsr (pn 2 rfl (lr ?_)))))
        cases h.some
        exact rt results50 rfl ⟨rfl, hS⟩
      refine sr (RL.s (Vl.strEq rfl rfl) rfl (pn 1 rfl (ln ?_)))
      refine RC.iteP 15 rfl h (fun hc31 h => ?_) fun hc31 h => ?_
      next =>
       refine jt (RC.skip ?_)
       exact fun a ha => ⟨_, _, rfl, h, ha.tE rfl, hS⟩
      refine jf (RC.region (RL.s (Vl.strEq rfl rfl) rfl (pn 1 rfl (RL.nil ?_))))
      exact fun a ha => ⟨_, _, rfl, h, ha.tE rfl, hS⟩
    refine sr (RL.s (Vl.strEq rfl rfl) rfl (pn 1 rfl (ln ?_)))
    refine RC.iteP 11 rfl h (fun hc32 h => ?_) fun hc32 h => ?_
    next =>
     refine jt (RC.skip ?_)
     exact fun a ha => ⟨_, _, rfl, h, ha.tE rfl, hS⟩
    refine jf (sr (RL.s (Vl.strEq rfl rfl) rfl (pn 1 rfl (ln ?_))))
    refine RC.iteP 11 rfl h (fun hc33 h => ?_) fun hc33 h => ?_
    next =>
     refine jt (RC.skip ?_)
     exact fun a ha => ⟨_, _, rfl, h, ha.tE rfl, hS⟩
    refine jf (RC.region (RL.s (Vl.strEq rfl rfl) rfl (pn 1 rfl (RL.nil ?_))))
    exact fun a ha => ⟨_, _, rfl, h, ha.tE rfl, hS⟩
  refine sr (RL.s (Vl.strEq rfl rfl) rfl (pn 1 rfl (ln ?_)))
  refine RC.iteP 7 rfl h (fun hc34 h => ?_) fun hc34 h => ?_
  next =>
   refine jt (RC.skip ?_)
   exact fun a ha => ⟨_, _, rfl, h, ha.tE rfl, hS⟩
  refine jf (sr (RL.s (Vl.strEq rfl rfl) rfl (pn 1 rfl (ln ?_))))
  refine RC.iteP 7 rfl h (fun hc35 h => ?_) fun hc35 h => ?_
  next =>
   refine jt (RC.skip ?_)
   exact fun a ha => ⟨_, _, rfl, h, ha.tE rfl, hS⟩
  refine jf (RC.region (RL.s (Vl.strEq rfl rfl) rfl (pn 1 rfl (RL.nil ?_))))
  exact fun a ha => ⟨_, _, rfl, h, ha.tE rfl, hS⟩
def script_number.l4b (a1 : ByteArray) : Int × Int → Option ((Int × Int) ⊕ (Int × Bool))
  | (x105, x106) => (if x106 < (a1.size : Int) then (if 0 ≤ x106 then (if 48 ≤ itR a1 x106 then (if itR a1 x106 ≤ 57 then some (.inl (IntKind.i64.wrap (x105 + 1), x106 + itS a1 x106)) else (if itR a1 x106 = 45 then (if 0 < x106 then some (.inr (0, false)) else some (.inl (x105, x106 + itS a1 x106))) else some (.inr (0, false)))) else (if itR a1 x106 = 45 then (if 0 < x106 then some (.inr (0, false)) else some (.inl (x105, x106 + itS a1 x106))) else some (.inr (0, false)))) else none) else (Option.map Sum.inr (if a1.size ≤ 9223372036854775806 then (parseN a1).bind fun t127 => (if x105 ≤ 19 then (if (-4611686018427387904) ≤ t127 then (if t127 ≤ 4611686018427387904 then (if -9223372036854775808 ≤ t127 ∧ t127 ≤ 9223372036854775807 then some (t127, (decide ((itoaB t127) = a1))) else none) else some (t127, false)) else some (t127, false)) else some (t127, false)) else none)))
def script_number.l4 (a1 : ByteArray) (s : Int × Int) : Option (Int × Bool) := loopR (script_number.l4b a1) s
def script_number.f (a1 : ByteArray) : Option (Int × Bool) := script_number.l4 a1 (0, 0)
theorem script_number.ok {a1 : ByteArray} (hT : TabH prog hf) {r : Int × Bool} (h : script_number.f a1 = some r) (hS : St B w (l) hf) :
    Calls prog 51 #[.string a1] w (Ret fun v w => v = .tuple #[iV r.1, .bool r.2] ∧ St B w (l) hf) := by
  have h := Holds.of h
  refine en func51 rfl ntmps51 rfl (sr (pn 2 rfl (lnsr (pn 1 rfl (ln (RC.seq (sr (pn 1 rfl (RL.e (OW.rangeStr hS underlying9 rfl) rfl rfl ?_)))))))))
  rintro _ w ⟨b97, rfl, hS⟩
  have hS : St B w (_ :: l) hf := hS
  refine ln (RC.block (fun a ha => lp h (fun (s : Int × Int) a w => ∃ x105 x106, s = (x105, x106) ∧ Has 57 [(0, .string a1), (4, iV x105), (10, pV b97)] a ∧ St B w (It a1 x106 b97 :: l) hf) ⟨_, _, rfl, ha.tE rfl, hS⟩ ?_))
  rintro G117 _ a w ⟨x105, x106, rfl, ha, hS⟩ h
  refine ro ha (sr ?_)
  by_cases hc118 : x106 < (a1.size : Int)
  case pos =>
   have h := h.pos hc118
   obtain ⟨hq119, h⟩ := h.req
   refine RL.e (OW.nextT 0 hS rfl rfl rfl hq119 hc118) rfl rfl ?_
   rintro _ w ⟨rfl, hS⟩
   refine pn 1 rfl (ln (RC.seq (jt (sk (RC.block (sr (pn 4 rfl (ln (RC.block (sr ?_))))))))))
   refine pn 3 rfl ?_
   refine RL.iteP 18 rfl h (fun hc120 h => ?_) fun hc120 h => ?_
   next =>
    refine pn 4 rfl (ln ?_)
    refine RC.iteP 15 rfl h (fun hc121 h => ?_) fun hc121 h => ?_
    next =>
     refine jt (RC.region (pn 3 rfl (RL.nil (RQ.inB_n (RQ.inB_n ?_)))))
     exact fun a ha => ⟨_, h.some, _, _, rfl, ha.tE rfl, hS⟩
    refine jf (sr (pn 3 rfl ?_))
    refine RL.iteN 27 rfl h (fun hc122 h => ?_) fun hc122 h => ?_
    next =>
     refine pn 4 rfl (ln ?_)
     refine RC.iteP 24 rfl h (fun hc123 h => ?_) fun hc123 h => ?_
     next =>
      refine jtr (pn 2 rfl (lr (RQ.inB_ret (RQ.inB_ret ?_))))
      have h := h.inrS
      refine RQ.ret (ir ?_)
      cases h.some
      exact rt results51 rfl ⟨rfl, hS.d0⟩
     refine jf (RC.skip (RQ.inB_n (RQ.inB_n ?_)))
     exact fun a ha => ⟨_, h.some, _, _, rfl, ha.tE rfl, hS⟩
    refine pn 4 rfl (ln (jtr (pn 2 rfl (lr (RQ.inB_ret (RQ.inB_ret ?_))))))
    have h := h.inrS
    refine RQ.ret (ir ?_)
    cases h.some
    exact rt results51 rfl ⟨rfl, hS.d0⟩
   refine pn 4 rfl (ln (jf (sr (pn 3 rfl ?_))))
   refine RL.iteN 27 rfl h (fun hc124 h => ?_) fun hc124 h => ?_
   next =>
    refine pn 4 rfl (ln ?_)
    refine RC.iteP 24 rfl h (fun hc125 h => ?_) fun hc125 h => ?_
    next =>
     refine jtr (pn 2 rfl (lr (RQ.inB_ret (RQ.inB_ret ?_))))
     have h := h.inrS
     refine RQ.ret (ir ?_)
     cases h.some
     exact rt results51 rfl ⟨rfl, hS.d0⟩
    refine jf (RC.skip (RQ.inB_n (RQ.inB_n ?_)))
    exact fun a ha => ⟨_, h.some, _, _, rfl, ha.tE rfl, hS⟩
   refine pn 4 rfl (ln (jtr (pn 2 rfl (lr (RQ.inB_ret (RQ.inB_ret ?_))))))
   have h := h.inrS
   refine RQ.ret (ir ?_)
   cases h.some
   exact rt results51 rfl ⟨rfl, hS.d0⟩
  case neg =>
   have h := h.neg hc118
   refine RL.s (Vl.nextF 0 hS rfl rfl hc118) rfl (pn 1 rfl (ln (RC.seq (jf (RC.exit (RQ.exitT ?_))))))
   have h := h.inr
   refine RQ.exitT (RQ.inB_hit (tsr (pn 1 rfl ?_)))
   obtain ⟨hq126, h⟩ := h.req
   obtain ⟨t127, hg128, h⟩ := h.bind
   refine RL.e (OW.callF (ls := [.tmp 32, .const (iV 10), .const (iV 64)]) rfl call75 (parse_ok (fun s h v e w => strconv_ParseInt_10_at64_ok s h v e w) hg128 hq126 hS)) rfl rfl ?_
   rintro _ w ⟨rfl, hS⟩
   refine pn 5 rfl (lnsr (pn 2 rfl (RL.s (Vl.bn true rfl rfl) rfl (pn 5 rfl ?_))))
   refine RL.iteP 43 rfl h (fun hc129 h => ?_) fun hc129 h => ?_
   next =>
    refine pn 4 rfl ?_
    refine RL.iteP 47 rfl h (fun hc130 h => ?_) fun hc130 h => ?_
    next =>
     refine pn 4 rfl ?_
     refine RL.iteP 51 rfl h (fun hc131 h => ?_) fun hc131 h => ?_
     next =>
      refine pn 1 rfl ?_
      obtain ⟨⟨hq132, hq133⟩, h⟩ := h.req
      refine RL.e (OW.callF (ls := [.tmp 52, .const (iV 10)]) rfl call15 (format_ok strconv_FormatInt_10 t127 hq132 hq133 hT hS)) rfl rfl ?_
      rintro _ w ⟨rfl, hS⟩
      refine pn 1 rfl (RL.sg (Vl.strEq rfl rfl) rfl rfl (pn 3 rfl (lr ?_)))
      cases h.some
      exact rt results51 rfl ⟨rfl, hS.d0⟩
     refine pn 7 rfl (lr ?_)
     cases h.some
     exact rt results51 rfl ⟨rfl, hS.d0⟩
    refine pn 11 rfl (lr ?_)
    cases h.some
    exact rt results51 rfl ⟨rfl, hS.d0⟩
   refine pn 15 rfl (lr ?_)
   cases h.some
   exact rt results51 rfl ⟨rfl, hS.d0⟩
def script_Line.l4b (a1 : ByteArray) : List Int × Int → Option ((List Int × Int) ⊕ (ByteArray × List Int × Int))
  | (l347, x350) => (if x350 < ((subL (splitL a1 32) 1 ((splitL a1 32).length : Int)).length : Int) then (if 0 ≤ x350 then ((script_number.f (nth (subL (splitL a1 32) 1 ((splitL a1 32).length : Int)) x350)).bind fun (y399, y400) => (if y400 = true then (if (l347.length + 1) * 8 ≤ 140737488355328 then some (.inl ((l347 ++ ([y399] : List Int)), IntKind.i64.wrap (x350 + 1))) else none) else some (.inr (lit_, ([] : List Int), 4)))) else none) else some (.inr (nth (splitL a1 32) 0, l347, 0)))
def script_Line.l4 (a1 : ByteArray) (s : List Int × Int) : Option (ByteArray × List Int × Int) := loopR (script_Line.l4b a1) s
def script_Line.f (a1 : ByteArray) : Option (ByteArray × List Int × Int) := (if a1.size < 4294967281 then (if 0 < ((splitL a1 32).length : Int) then ((script_counts.f (nth (splitL a1 32) 0)).bind fun (y217, y218) => (if y218 = true then (if y217 = IntKind.i64.wrap (((splitL a1 32).length : Int) - 1) then (if 1 ≤ ((splitL a1 32).length : Int) then script_Line.l4 a1 ([], 0) else none) else some (lit_, ([] : List Int), 4)) else some (lit_, ([] : List Int), 4))) else none) else none)
theorem script_Line.ok {a1 : ByteArray} (hT : TabH prog hf) {r : ByteArray × List Int × Int} (h : script_Line.f a1 = some r) (hS : St B w (l) hf) :
    Calls prog 33 #[.string a1] w (Ret fun v w => ∃ (A_1 : Option Addr) (c_2 : Nat), v = .tuple #[.string r.1, sV A_1 r.2.1 c_2, iV r.2.2] ∧ St B w (OSf (FI .i64) 2 (sV A_1 r.2.1 c_2) r.2.1 :: l) hf) := by
  have h := Holds.of h
  refine en func33 rfl ntmps33 rfl (sr (pn 3 rfl (lnsr (pn 1 rfl ?_))))
  obtain ⟨hq205, h⟩ := h.req
  refine RL.e (OW.callF (ls := [.tmp 13, .const (.string lit_20)]) rfl call31 (split_ok (fun s x w hs => Any.strings_Split_one lays146 (by kernel_rfl) s x w hs) a1 32 hq205 hS)) rfl rfl ?_
  rintro _ w ⟨b206, rfl, hS⟩
  refine pn 1 rfl (ln (RC.seq (sr (pn 1 rfl ?_))))
  obtain ⟨hq214, h⟩ := h.req
  refine RL.s (Vl.indexOwn 0 hS rfl underlying101 sizeOf9 rfl rfl (by decide) hq214) rfl (RL.s (Vl.load isAgg9 rfl ((hS.slW 0 rfl).2.2.cell (j := 0) (by decide) hq214 rfl)) rfl (cF (fun _ hg => script_counts.ok hg hS) call50 h rfl rfl rfl ?_))
  rintro ⟨y217, y218⟩ h _ w ⟨rfl, hS⟩
  refine pn 5 rfl (lnsr (pn 3 rfl ?_))
  refine RL.iteM 24 rfl h (fun hc219 h => ?_) fun hc219 h => ?_
  next =>
   refine r0 6 rfl (ln ?_)
   refine RC.iteN 30 rfl h (fun hc220 h => ?_) fun hc220 h => ?_
   next =>
    refine jfs (sr (pn 1 rfl (ln (RC.seq (sr (pn 1 rfl ?_))))))
    obtain ⟨hq317, h⟩ := h.req
    obtain ⟨hf, hs315, hS, hr316⟩ := St.promote hS
    have hS : St B w (l) hf := hS
    have hr318 := hr316.sub (lo := 1) (hi := ((splitL a1 32).length : Int)) (m := (splitL a1 32).length) (by decide) hq317 (by omega) (by have := hr316.1; omega)
    refine RL.s (Vl.sliceL underlying101 sizeOf9 rfl rfl (by decide) hq317 hr316.1) rfl (r0 2 rfl (ln (RC.block ?_)))
    have hS := hS.nilSl (FI .i64) 2
    refine fun a ha => lp h (fun (s : List Int × Int) a w => ∃ l347 x350, s = (l347, x350) ∧ ∃ A348 c349, Has 54 [(5, .slice (some ⟨b206, 0, none⟩) (splitL a1 32).length ((splitL a1 32).length)), (8, sV A348 l347 c349), (32, .slice (subA (some ⟨b206, 0, none⟩) ((splitL a1 32).length) (1 : Int).toNat 1) (subL (splitL a1 32) 1 ((splitL a1 32).length : Int)).length (((splitL a1 32).length) - (1 : Int).toNat)), (33, iV ((subL (splitL a1 32) 1 ((splitL a1 32).length : Int)).length : Int)), (34, iV x350)] a ∧ St B w (OSf (FI .i64) 2 (sV A348 l347 c349) l347 :: l) hf) ⟨_, _, rfl, _, _, ha.tE rfl, hS⟩ ?_
    rintro G381 _ a w ⟨l347, x350, rfl, A348, c349, ha, hS⟩ h
    refine ro ha (sr (pn 1 rfl (ln (RC.seq ?_))))
    refine RC.iteP 35 rfl h (fun hc383 h => ?_) fun hc383 h => ?_
    next =>
     refine jt (sk (RC.seq (RC.block (sr ?_))))
     obtain ⟨hq396, h⟩ := h.req
     refine RL.s (Vl.indexAddr underlying101 sizeOf9 rfl rfl ((hr318.2.world hS.sub).adr hq396 hc383) hq396 hc383 rfl) rfl (RL.s (Vl.load isAgg9 rfl ((hr318.2.world hS.sub).cell (j := 0) hq396 hc383 rfl)) rfl (pn 1 rfl (lnsr (pn 1 rfl (cF (fun _ hg => script_number.ok (hT.mono hs315) hg hS) call51 h rfl rfl rfl ?_)))))
     rintro ⟨y399, y400⟩ h _ w ⟨rfl, hS⟩
     refine pn 5 rfl (ln (RC.seq (sr (pn 2 rfl (ln ?_)))))
     refine RC.iteM 44 rfl h (fun hc402 h => ?_) fun hc402 h => ?_
     next =>
      refine jfs (RC.region (pn 2 rfl (RL.e (OW.buildSlice (E := (FI .i64)) (xs := ([y399] : List Int)) (cs := [iV y399]) hS underlying51 zeroValue2 sizeOf2 (parts := [(0, .tmp 46)]) rfl rfl (by decide) (by decide) (by kernel_rfl) rfl) rfl rfl ?_)))
      rintro _ w ⟨b403, rfl, hS⟩
      obtain ⟨hq404, h⟩ := h.req
      refine RL.e (OW.append (E := (FI .i64)) (xs := l347) (ys := ([y399] : List Int)) 1 hS rfl underlying51 type2 rfl rfl rfl rfl (by decide) rfl rfl rfl (hS.slW 0 rfl).2.2.flat (by simp only [maxLen, List.length_cons, List.length_nil] at *; omega) hq404 rfl) rfl rfl ?_
      rintro v407 w hS
      obtain ⟨A405, c406, rfl, _⟩ := hS.osShape 0 rfl
      have hS : St B w (_ :: _ :: l) hf := hS
      refine pn 1 rfl (RL.nil (RQ.inB_n (RQ.then_n (RC.region (pn 2 rfl (RL.nil ?_))))))
      exact fun a ha => ⟨_, h.some, _, _, rfl, _, _, ha.tE rfl, hS.d1⟩
     refine jtr (pn 3 rfl (lr (RQ.ret (ir ?_))))
     have h := h.inrS
     refine RQ.ret (ir ?_)
     have hS := hS.nilSl (FI .i64) 2
     cases h.some
     exact rt results33 rfl ⟨none, 0, rfl, (hS.d1).down hs315⟩
    refine jf (RC.exit (RQ.exitT ?_))
    have h := h.inrS
    refine RQ.exitT (RQ.inB_hit (tsr (pn 1 rfl (RL.s (Vl.indexAddr underlying101 sizeOf9 rfl rfl ((hr316.2.world hS.sub).adr (by decide) hq214) (by decide) hq214 rfl) rfl (RL.s (Vl.load isAgg9 rfl ((hr316.2.world hS.sub).cell (j := 0) (by decide) hq214 rfl)) rfl (pn 4 rfl (lr ?_)))))))
    cases h.some
    exact rt results33 rfl ⟨A348, c349, rfl, (hS).down hs315⟩
   refine jtr (pn 3 rfl (lr (RQ.ret ?_)))
   have hS := hS.nilSl (FI .i64) 2
   cases h.some
   exact rt results33 rfl ⟨none, 0, rfl, hS.d1⟩
  refine pn 6 rfl (ln (jtr (pn 3 rfl (lr (RQ.ret ?_)))))
  have hS := hS.nilSl (FI .i64) 2
  cases h.some
  exact rt results33 rfl ⟨none, 0, rfl, hS.d1⟩
end
end Go.Proofs.Gx
