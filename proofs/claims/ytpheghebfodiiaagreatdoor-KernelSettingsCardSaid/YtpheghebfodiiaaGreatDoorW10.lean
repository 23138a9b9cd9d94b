/-
  The walks of functions, each with what it computes: printed by wip/gx.py.
-/
import Derived.Test.YtpheghebfodiiaaGreatDoorW0
import Derived.Test.YtpheghebfodiiaaGreatDoorW5
import Derived.Test.YtpheghebfodiiaaGreatDoorW7
import Derived.Test.YtpheghebfodiiaaGreatDoorW9
set_option linter.unusedVariables false
set_option linter.unusedSimpArgs false
set_option maxRecDepth 100000
set_option maxHeartbeats 4000000
namespace Go.Proofs.Gx
open Go.Sl Tryz
variable {B : Base} {w : World} {l : List HProp} {hf : Hp}
noncomputable section
def kernel_Kernel_Setting.f (a2 : kernel_Kernel) (a3 : Int) : Option (api_Setting) := ((kernel_Kernel_of.f a2.m.Progs a2.m.Links a2.m.Starts a2.m.Seed a2.m.End a2.m.Budget a2.at_ a2.ways a2.token a2.global a2.window a2.width a2.history a2.stop a3).bind fun t61 => ((lane_Lane_Setting.f ((nth a2.at_ t61).Lane)).bind fun t72 => some t72))
theorem kernel_Kernel_Setting.ok {a2 : kernel_Kernel} {a3 : Int} {b1 : Nat} {r : api_Setting} (h : kernel_Kernel_Setting.f a2 a3 = some r) (hS : St B w (O_kernel_Kernel hf a2 b1 :: l) hf) :
    Calls prog 6 #[pV b1, iV a3] w (Ret fun v w => v = .agg (C_api_Setting r).toArray ∧ St B w (O_kernel_Kernel hf a2 b1 :: l) hf) := by
  have h := Holds.of h
  refine en func6 rfl ntmps6 rfl (sr (rr [0] hS ?_))
  refine fun b40 => it fun w hS => lnsr (pn 2 rfl ?_)
  obtain ⟨A41, c42, A44, c45, A47, c48, A50, c51, bs52, A54, c55, bs56, b58, A59, c60, hr43, hr46, hr49, hS⟩ := O_kernel_Kernel.o hS.p1
  have hl53 := hS.p2.sepLen
  have hl57 := hS.p4.sepLen
  refine cF (fun _ hg => kernel_Kernel_of.ok hr43 hr46 hr49 hl53 hl57 hg hS.p5) call19 h rfl rfl rfl ?_
  rintro t61 h _ w ⟨rfl, hS, hz63, hz64⟩
  refine pn 1 rfl ?_
  have hS := hS.p3.sepTake hz63 hz64
  refine r0 1 rfl ?_
  obtain ⟨b65, b66, b67, A68, c69, b71, hr70, hS⟩ := O_kernel_place.o hS
  refine rr [1] hS ?_
  refine it fun w hS => cF (fun _ hg => lane_Lane_Setting.ok hg hS.p1) call20 h rfl rfl rfl ?_
  rintro t72 h _ w ⟨rfl, hS⟩
  refine rr [13] hS ?_
  refine it fun w hS => lr ?_
  have hS := O_kernel_place.c (x := nth a2.at_ t61) hr70 hS.p1
  have hS := hS.sepPut0 hz63 hz64
  have hS := O_kernel_Kernel.c (x := a2) hr43 hr46 hr49 hS.p5.p5.p2.p5.p5
  obtain rfl := h.some
  refine rz [1] results6 hS ?_
  exact it ⟨rfl, hS.d1⟩
def kernel_Kernel_Window.f (a2 : kernel_Kernel) : Option (Int) := ((kernel_Kernel_none.f a2).bind fun _ => some a2.window)
theorem kernel_Kernel_Window.ok {a2 : kernel_Kernel} {b1 : Nat} {r : Int} (h : kernel_Kernel_Window.f a2 = some r) (hS : St B w (O_kernel_Kernel hf a2 b1 :: l) hf) :
    Calls prog 8 #[pV b1] w (Ret fun v w => v = iV r ∧ St B w (O_kernel_Kernel hf a2 b1 :: l) hf) := by
  have h := Holds.of h
  refine en func8 rfl ntmps8 rfl (sr (pn 1 rfl (ln (RC.seq (sr (pn 1 rfl (cF (fun _ hg => kernel_Kernel_none.ok hg hS) call21 h rfl rfl rfl ?_)))))))
  rintro _ h _ w ⟨rfl, hS⟩
  refine ln (jfs (sr (r0 3 rfl ?_)))
  obtain ⟨A31, c32, A34, c35, A37, c38, A40, c41, bs42, A44, c45, bs46, b48, A49, c50, hr33, hr36, hr39, hS⟩ := O_kernel_Kernel.o hS
  have hl43 := hS.p2.sepLen
  have hl47 := hS.p4.sepLen
  refine rr [1, 0] hS ?_
  refine it fun w hS => lr ?_
  have hS := O_kernel_Kernel.c (x := a2) hr33 hr36 hr39 hS
  cases h.some
  exact rt results8 rfl ⟨rfl, hS⟩
def kernel_Kernel_Global.f (a2 : kernel_Kernel) : Option (Int) := ((kernel_Kernel_none.f a2).bind fun _ => some a2.global)
theorem kernel_Kernel_Global.ok {a2 : kernel_Kernel} {b1 : Nat} {r : Int} (h : kernel_Kernel_Global.f a2 = some r) (hS : St B w (O_kernel_Kernel hf a2 b1 :: l) hf) :
    Calls prog 9 #[pV b1] w (Ret fun v w => v = iV r ∧ St B w (O_kernel_Kernel hf a2 b1 :: l) hf) := by
  have h := Holds.of h
  refine en func9 rfl ntmps9 rfl (sr (pn 1 rfl (ln (RC.seq (sr (pn 1 rfl (cF (fun _ hg => kernel_Kernel_none.ok hg hS) call21 h rfl rfl rfl ?_)))))))
  rintro _ h _ w ⟨rfl, hS⟩
  refine ln (jfs (sr (r0 3 rfl ?_)))
  obtain ⟨A31, c32, A34, c35, A37, c38, A40, c41, bs42, A44, c45, bs46, b48, A49, c50, hr33, hr36, hr39, hS⟩ := O_kernel_Kernel.o hS
  have hl43 := hS.p2.sepLen
  have hl47 := hS.p4.sepLen
  refine rr [1, 0] hS ?_
  refine it fun w hS => lr ?_
  have hS := O_kernel_Kernel.c (x := a2) hr33 hr36 hr39 hS
  cases h.some
  exact rt results9 rfl ⟨rfl, hS⟩
def isochronlaw18vKernelSettings.f (a1 : api_Model) (a11 : api_Caps) (a12 a13 a14 : Int) : Option (Bool) := ((kernel_New.f a1 a11).bind fun t187 => match t187 with | .inl y189 => (if y189 = 0 then some false else ((isochronlaw18vawake.f).bind fun t194 => some t194)) | .inr ((y196, y197)) => (if y197 = 0 then (if ¬ (a1.Progs.length : Int) = 0 then ((kernel_Kernel_Setting.f y196 (Int.tmod (IntKind.i64.wrap ((Int.tmod a12 (a1.Progs.length : Int)) + (a1.Progs.length : Int))) (a1.Progs.length : Int))).bind fun t207 => ((kernel_Kernel_Do.f y196 (⟨5, Int.tmod (IntKind.i64.wrap ((Int.tmod a12 (a1.Progs.length : Int)) + (a1.Progs.length : Int))) (a1.Progs.length : Int), a13⟩ : api_Pick)).bind fun (y218, y219) => ((kernel_Kernel_Do.f y219 (⟨6, Int.tmod (IntKind.i64.wrap ((Int.tmod a12 (a1.Progs.length : Int)) + (a1.Progs.length : Int))) (a1.Progs.length : Int), a13⟩ : api_Pick)).bind fun (y229, y230) => ((kernel_Kernel_Do.f y230 (⟨7, Int.tmod (IntKind.i64.wrap ((Int.tmod a12 (a1.Progs.length : Int)) + (a1.Progs.length : Int))) (a1.Progs.length : Int), a13⟩ : api_Pick)).bind fun (y240, y241) => ((kernel_Kernel_Do.f y241 (⟨8, Int.tmod (IntKind.i64.wrap ((Int.tmod a12 (a1.Progs.length : Int)) + (a1.Progs.length : Int))) (a1.Progs.length : Int), a13⟩ : api_Pick)).bind fun (y251, y252) => ((kernel_Kernel_Do.f y252 (⟨9, Int.tmod (IntKind.i64.wrap ((Int.tmod a12 (a1.Progs.length : Int)) + (a1.Progs.length : Int))) (a1.Progs.length : Int), a13⟩ : api_Pick)).bind fun (y262, y263) => ((kernel_Kernel_Setting.f y263 (Int.tmod (IntKind.i64.wrap ((Int.tmod a12 (a1.Progs.length : Int)) + (a1.Progs.length : Int))) (a1.Progs.length : Int))).bind fun t309 => (if t309 = (⟨(if 2 < (if a13 < 0 then 0 else a13) then 2 else (if a13 < 0 then 0 else a13)), (if 64 < (if a13 < 1 then 1 else a13) then 64 else (if a13 < 1 then 1 else a13)), (if 1 < (if a13 < 0 then 0 else a13) then 1 else (if a13 < 0 then 0 else a13)), (if 1048576 < (if a13 < 1 then 1 else a13) then 1048576 else (if a13 < 1 then 1 else a13)), (if 2 < (if a13 < 0 then 0 else a13) then 2 else (if a13 < 0 then 0 else a13))⟩ : api_Setting) then ((kernel_Kernel_Window.f y263).bind fun t312 => (if t312 = 64 then ((kernel_Kernel_Do.f y263 (⟨10, a14, 0⟩ : api_Pick)).bind fun (y317, y318) => (if y317 = 0 then ((kernel_Kernel_Window.f y318).bind fun t321 => (if t321 = 64 then ((kernel_Kernel_Do.f y318 (⟨4, 0, 0⟩ : api_Pick)).bind fun (y326, y327) => (if y326 = 0 then ((kernel_Kernel_Window.f y327).bind fun t330 => (if t330 = (if 1048576 < (if a14 < 1 then 1 else a14) then 1048576 else (if a14 < 1 then 1 else a14)) then ((kernel_Kernel_Global.f y327).bind fun t333 => some (decide (t333 = 0))) else some false)) else some false)) else some false)) else some false)) else some false)) else some false)))))))) else none) else some false))
theorem isochronlaw18vKernelSettings.ok {a1 : api_Model} {a11 : api_Caps} {a12 a13 a14 : Int} {A2 A5 A8 : Option Addr} {c3 c6 c9 : Nat} (hr4 : SlR (Rep.sl E_api_Instr.rep) hf A2 c3 a1.Progs) (hr7 : SlR E_api_Link.rep hf A5 c6 a1.Links) (hr10 : SlR E_api_Start.rep hf A8 c9 a1.Starts) (hG0 : GlobAt hf 0 (.iface 192 (.agg #[.pointer (some ⟨1, 85, none⟩)]))) {r : Bool} (h : isochronlaw18vKernelSettings.f a1 a11 a12 a13 a14 = some r) (hS : St B w (l) hf) :
    Calls prog 3 #[.agg (C_api_Model a1 A2 c3 A5 c6 A8 c9).toArray, .agg (C_api_Caps a11).toArray, iV a12, iV a13, iV a14] w (Ret fun v w => v = .bool r ∧ St B w (l) hf) := by
  have h := Holds.of h
  refine en func3 rfl ntmps3 rfl (sr (rr [0, 0, 0] hS ?_))
  refine fun b177 b178 => it fun w hS => lnsr (rr [2, 1] hS ?_)
  refine it fun w hS => ?_
  obtain ⟨t187, hg188, h⟩ := h.bind
  have hc := kernel_New.ok hr4 hr7 hr10 hG0 hg188 hS
  rcases t187 with y189 | ⟨y196, y197⟩
  · refine RL.e (OW.callF (ls := [.tmp 17, .tmp 18]) rfl call4 hc) rfl rfl ?_
    rintro _ w ⟨rfl, hS⟩
    refine pn 5 rfl (ln (RC.seq (sr (pn 1 rfl (RL.s (Vl.bn true rfl rfl) rfl (pn 4 rfl (ln (jtr (pn 1 rfl (RL.s (Vl.bn true rfl rfl) rfl ?_))))))))))
    refine pn 5 rfl ?_
    refine RL.iteN 34 rfl h (fun hc193 h => ?_) fun hc193 h => ?_
    next =>
     refine pn 3 rfl (lr (RQ.ret ?_))
     obtain rfl := h.some
     exact rt results3 rfl ⟨rfl, hS.d0.d0⟩
    refine cF (fun _ hg => isochronlaw18vawake.ok hG0 hg hS) call5 h rfl rfl rfl ?_
    rintro t194 h _ w ⟨rfl, hS⟩
    refine pn 2 rfl (lr (RQ.ret ?_))
    obtain rfl := h.some
    exact rt results3 rfl ⟨rfl, hS.d0.d0⟩
  refine RL.e (OW.callF (ls := [.tmp 17, .tmp 18]) rfl call4 hc) rfl rfl ?_
  rintro _ w ⟨hf, hs199, b198, rfl, hS⟩
  refine pn 5 rfl (ln (RC.seq (sr (pn 1 rfl (RL.s (Vl.bn false rfl rfl) rfl (pn 4 rfl (ln ?_)))))))
  refine RC.iteN 27 rfl h (fun hc201 h => ?_) fun hc201 h => ?_
  next =>
   refine jfs (sr (rr [0, 3, 0, 0] hS ?_))
   refine it fun w hS => lnsr (pn 2 rfl ?_)
   obtain ⟨hq203, h⟩ := h.req
   refine RL.s (Vl.rem rfl rfl hq203) rfl (pn 3 rfl (RL.s (Vl.rem rfl rfl hq203) rfl (pn 1 rfl (lnsr (pn 2 rfl (cF (fun _ hg => kernel_Kernel_Setting.ok hg hS) call6 h rfl rfl rfl ?_))))))
   rintro t207 h _ w ⟨rfl, hS⟩
   refine rr [0, 1] hS ?_
   refine fun b209 => it fun w hS => lnsr (r0 4 rfl (cF (fun _ hg => kernel_Kernel_Do.ok (hG0.mono hs199) hg hS.p1) call7 h rfl rfl rfl ?_))
   rintro ⟨y218, y219⟩ h _ w ⟨hf, hs220, rfl, hS⟩
   refine lnsr (r0 4 rfl (cF (fun _ hg => kernel_Kernel_Do.ok ((hG0.mono hs199).mono hs220) hg hS) call7 h rfl rfl rfl ?_))
   rintro ⟨y229, y230⟩ h _ w ⟨hf, hs231, rfl, hS⟩
   refine lnsr (r0 4 rfl (cF (fun _ hg => kernel_Kernel_Do.ok (((hG0.mono hs199).mono hs220).mono hs231) hg hS) call7 h rfl rfl rfl ?_))
   rintro ⟨y240, y241⟩ h _ w ⟨hf, hs242, rfl, hS⟩
   refine lnsr (r0 4 rfl (cF (fun _ hg => kernel_Kernel_Do.ok ((((hG0.mono hs199).mono hs220).mono hs231).mono hs242) hg hS) call7 h rfl rfl rfl ?_))
   rintro ⟨y251, y252⟩ h _ w ⟨hf, hs253, rfl, hS⟩
   refine lnsr (r0 4 rfl (cF (fun _ hg => kernel_Kernel_Do.ok (((((hG0.mono hs199).mono hs220).mono hs231).mono hs242).mono hs253) hg hS) call7 h rfl rfl rfl ?_))
   rintro ⟨y262, y263⟩ h _ w ⟨hf, hs264, rfl, hS⟩
   refine lnsr (pn 1 rfl (RL.s (Vl.max2 rfl rfl) rfl (RL.s (Vl.min2 rfl rfl) rfl (rr [0, 2] hS ?_))))
   refine it fun w hS => lnsr (pn 1 rfl (RL.s (Vl.max2 rfl rfl) rfl (RL.s (Vl.min2 rfl rfl) rfl (rr [0, 2] hS ?_))))
   refine it fun w hS => ?_
   refine lnsr (pn 1 rfl (RL.s (Vl.max2 rfl rfl) rfl (RL.s (Vl.min2 rfl rfl) rfl (rr [0, 2] hS ?_))))
   refine it fun w hS => lnsr (pn 1 rfl (RL.s (Vl.max2 rfl rfl) rfl (RL.s (Vl.min2 rfl rfl) rfl (rr [0, 2] hS ?_))))
   refine it fun w hS => ?_
   refine lnsr (pn 1 rfl (RL.s (Vl.max2 rfl rfl) rfl (RL.s (Vl.min2 rfl rfl) rfl (rr [0, 2] hS ?_))))
   refine it fun w hS => ln (RC.seq (RC.seq (dk [0, 3, 10, 8, 12, 15, 18, 23, 24, 27, 30, 33, 36, 39, 44, 45, 48, 51, 54, 59, 60, 63, 66, 69, 74, 77, 80, 83] [] hS (fun w hS => hS.d0) fun w hS => rq [0, 0, 1] hS.d0 ?_)))
   refine it ?_
   obtain ⟨t309, hg310, h⟩ := h.bind
   have hc := kernel_Kernel_Setting.ok hg310 hS
   refine RP.e 2 rfl (OW.callF (ls := [.tmp 95, .tmp 96]) rfl call6 hc) rfl rfl ?_
   rintro _ w ⟨rfl, hS⟩
   refine ⟨kp ⟨fun _ => hS.d0, trivial⟩, ?_⟩
   refine RP.s0 4 rfl (fun w => Vl.neqS (run_neq_api_Setting _ _ t309 (⟨(if 2 < (if a13 < 0 then 0 else a13) then 2 else (if a13 < 0 then 0 else a13)), (if 64 < (if a13 < 1 then 1 else a13) then 64 else (if a13 < 1 then 1 else a13)), (if 1 < (if a13 < 0 then 0 else a13) then 1 else (if a13 < 0 then 0 else a13)), (if 1048576 < (if a13 < 1 then 1 else a13) then 1048576 else (if a13 < 1 then 1 else a13)), (if 2 < (if a13 < 0 then 0 else a13) then 2 else (if a13 < 0 then 0 else a13))⟩ : api_Setting)) rfl rfl) rfl (pp 1 rfl ?_)
   refine RP.iteN 100 rfl h (fun hc311 h => ?_) fun hc311 h => ?_
   next =>
    refine pp 1 rfl ?_
    obtain ⟨t312, hg313, h⟩ := h.bind
    have hc := kernel_Kernel_Window.ok hg313 hS
    refine RP.e 7 rfl (OW.callF (ls := [.tmp 101]) rfl call8 hc) rfl rfl ?_
    rintro _ w ⟨rfl, hS⟩
    refine ⟨kp ⟨fun _ => hS.d0, trivial⟩, ?_⟩
    refine pp 3 rfl ?_
    refine RP.iteN 105 rfl h (fun hc314 h => ?_) fun hc314 h => ?_
    next =>
     refine rq [0, 0, 0] hS.d0 ?_
     refine it ?_
     obtain ⟨t315, hg316, h⟩ := h.bind
     have hc := kernel_Kernel_Do.ok ((((((hG0.mono hs199).mono hs220).mono hs231).mono hs242).mono hs253).mono hs264) hg316 hS
     obtain ⟨y317, y318⟩ := t315
     refine RP.e 14 rfl (OW.callF (ls := [.tmp 106, .tmp 108]) rfl call7 hc) rfl rfl ?_
     rintro _ w ⟨hf, hs319, rfl, hS⟩
     refine ⟨kp ⟨fun _ => (St.down hS.d0 hs319), trivial⟩, ?_⟩
     refine pp 3 rfl ?_
     refine RP.iteN 112 rfl h (fun hc320 h => ?_) fun hc320 h => ?_
     next =>
      refine pp 1 rfl ?_
      obtain ⟨t321, hg322, h⟩ := h.bind
      have hc := kernel_Kernel_Window.ok hg322 hS
      refine RP.e 19 rfl (OW.callF (ls := [.tmp 113]) rfl call8 hc) rfl rfl ?_
      rintro _ w ⟨rfl, hS⟩
      refine ⟨kp ⟨fun _ => (St.down hS.d0 hs319), trivial⟩, ?_⟩
      refine pp 3 rfl ?_
      refine RP.iteN 117 rfl h (fun hc323 h => ?_) fun hc323 h => ?_
      next =>
       refine rq [0, 0] (St.down hS.d0 hs319) ?_
       refine it ?_
       obtain ⟨t324, hg325, h⟩ := h.bind
       have hc := kernel_Kernel_Do.ok (((((((hG0.mono hs199).mono hs220).mono hs231).mono hs242).mono hs253).mono hs264).mono hs319) hg325 hS
       obtain ⟨y326, y327⟩ := t324
       refine RP.e 25 rfl (OW.callF (ls := [.tmp 118, .tmp 119]) rfl call7 hc) rfl rfl ?_
       rintro _ w ⟨hf, hs328, rfl, hS⟩
       refine ⟨kp ⟨fun _ => (St.down hS.d0 (hs319.trans hs328)), trivial⟩, ?_⟩
       refine rq [0, 0] (St.down hS.d0 (hs319.trans hs328)) ?_
       refine it (RP.nil (RQ.then_n ?_))
       refine RC.iteN 122 rfl h (fun hc329 h => ?_) fun hc329 h => ?_
       next =>
        refine jfs (sr (pn 1 rfl (cF (fun _ hg => kernel_Kernel_Window.ok hg hS) call8 h rfl rfl rfl ?_)))
        rintro t330 h _ w ⟨rfl, hS⟩
        refine pn 1 rfl (RL.s (Vl.max2 rfl rfl) rfl (RL.s (Vl.min2 rfl rfl) rfl (pn 2 rfl ?_)))
        refine RL.iteP 129 rfl h (fun hc332 h => ?_) fun hc332 h => ?_
        next =>
         refine pn 1 rfl (cF (fun _ hg => kernel_Kernel_Global.ok hg hS) call9 h rfl rfl rfl ?_)
         rintro t333 h _ w ⟨rfl, hS⟩
         refine pn 3 rfl (lr ?_)
         cases h.some
         exact rt results3 rfl ⟨rfl, (hS.d0.d0.d0.d0).down (((((((hs199.trans hs220).trans hs231).trans hs242).trans hs253).trans hs264).trans hs319).trans hs328)⟩
        refine pn 5 rfl (lr ?_)
        obtain rfl := h.some
        exact rt results3 rfl ⟨rfl, (hS.d0.d0.d0.d0).down (((((((hs199.trans hs220).trans hs231).trans hs242).trans hs253).trans hs264).trans hs319).trans hs328)⟩
       refine jtr (pn 1 rfl (lr (RQ.ret ?_)))
       obtain rfl := h.some
       exact rt results3 rfl ⟨rfl, (hS.d0.d0.d0.d0).down (((((((hs199.trans hs220).trans hs231).trans hs242).trans hs253).trans hs264).trans hs319).trans hs328)⟩
      refine rq [0, 0, 0, 0, 0] (St.down hS.d0 hs319) ?_
      refine it (RP.nil (RQ.then_n (jtr (pn 1 rfl (lr (RQ.ret ?_))))))
      obtain rfl := h.some
      exact rt results3 rfl ⟨rfl, (hS.d0.d0.d0.d0).down ((((((hs199.trans hs220).trans hs231).trans hs242).trans hs253).trans hs264).trans hs319)⟩
     refine rq [0, 0, 0, 0, 0, 0, 0, 0, 0, 0] (St.down hS.d0 hs319) ?_
     refine it (RP.nil (RQ.then_n (jtr (pn 1 rfl (lr (RQ.ret ?_))))))
     obtain rfl := h.some
     exact rt results3 rfl ⟨rfl, (hS.d0.d0.d0.d0).down ((((((hs199.trans hs220).trans hs231).trans hs242).trans hs253).trans hs264).trans hs319)⟩
    refine rq [0, 0, 0, 0, 0, 0, 0, 0, 0, 0, 0, 0, 0, 0, 0, 0, 0] hS.d0 ?_
    refine it (RP.nil (RQ.then_n (jtr (pn 1 rfl (lr (RQ.ret ?_))))))
    obtain rfl := h.some
    exact rt results3 rfl ⟨rfl, (hS.d0.d0.d0.d0).down (((((hs199.trans hs220).trans hs231).trans hs242).trans hs253).trans hs264)⟩
   refine rq [0, 0, 0, 0, 0, 0, 0, 0, 0, 0, 0, 0, 0, 0, 0, 0, 0, 0, 0, 0, 0, 0] hS.d0 ?_
   refine it (RP.nil (RQ.then_n (jtr (pn 1 rfl (lr (RQ.ret ?_))))))
   obtain rfl := h.some
   exact rt results3 rfl ⟨rfl, (hS.d0.d0.d0.d0).down (((((hs199.trans hs220).trans hs231).trans hs242).trans hs253).trans hs264)⟩
  refine jtr (pn 1 rfl (RL.s (Vl.bn false rfl rfl) rfl (pn 8 rfl (lr (RQ.ret ?_)))))
  obtain rfl := h.some
  exact rt results3 rfl ⟨rfl, (hS.d0.d0.d0).down hs199⟩
end
end Go.Proofs.Gx
