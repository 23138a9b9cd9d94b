/-
  The walks of functions, each with what it computes: printed by wip/gx.py.
-/
import Derived.Test.YtnhbcleiibogmaaGreatDoorW0
import Derived.Test.YtnhbcleiibogmaaGreatDoorW4
import Derived.Test.YtnhbcleiibogmaaGreatDoorW5
set_option linter.unusedVariables false
set_option linter.unusedSimpArgs false
set_option maxRecDepth 100000
set_option maxHeartbeats 4000000
namespace Go.Proofs.Gx
open Go.Sl Tryz
variable {B : Base} {w : World} {l : List HProp} {hf : Hp}
noncomputable section
def errors_As_4.f (a1 a3 : kernel_halt) : Option (Bool × kernel_halt) := ((errors_as_4.f a1 a3).bind fun (y14, y15) => some (y14, y15))
theorem errors_As_4.ok {a1 a3 : kernel_halt} {b2 : Nat} (hG0 : GlobAt hf 0 (.iface 255 (.agg #[.pointer (some ⟨1, 138, none⟩)]))) {r : Bool × kernel_halt} (h : errors_As_4.f a1 a3 = some r) (hS : St B w (Cl b2 [iV a3.stop, iV a3.why] 212 :: l) hf) :
    Calls prog 59 #[.iface 212 (.agg #[iV a1.stop, iV a1.why]), .iface 214 (pV b2)] w (Ret fun v w => v = .bool r.1 ∧ St B w (Cl b2 [iV r.2.stop, iV r.2.why] 212 :: l) hf) := by
  have h := Holds.of h
  refine en func59 rfl ntmps59 rfl (sr (pn 1 rfl (ln (RC.seq (sr (pn 1 rfl (RL.s (Vl.bn false rfl rfl) rfl (ln (jfs ?_)))))))))
  refine RC.seq (sr (pn 1 rfl (RL.s (Vl.bn false rfl rfl) rfl (ln (jfs (sr (pn 1 rfl (RL.e (OW.externNew (ls := [.tmp 13]) (cs := [pV b2]) (T := 214) (v := fun b => .agg #[.pointer (some ⟨1, 214, none⟩), pV b, .int .u64 150]) hS rfl func99 (by kernel_rfl) (by kernel_rfl) (by kernel_rfl) (e := fun args => Extern.ReflectliteValue.unpack (args.getD 0 (.tuple #[]))) (by kernel_rfl) (fun w => by kernel_rfl)) rfl rfl ?_))))))))
  rintro _ w ⟨b10, rfl, hS⟩
  refine rr [0, 1] hS ?_
  refine fun b11 => it fun w hS => lnsr (rr [1] hS ?_)
  refine it fun w hS => RL.s (Vl.eX [.tmp 15] (.iface 255 (.agg #[.pointer (some ⟨1, 214, none⟩)])) Ex3 func100 rfl) rfl (pn 1 rfl (ln (RC.seq (sr (pn 1 rfl (RL.s (Vl.iX [] (.int .u8 22) (.pointer (some ⟨1, 214, none⟩)) Ex4 func278 rfl rfl) rfl (rr [0, 0, 1] hS ?_)))))))
  refine it fun w hS => ?_
  refine RL.sg (Vl.externAt (ls := [.tmp 21]) (v := .bool false) rfl func101 (by kernel_rfl) (by kernel_rfl) (by kernel_rfl) (e := Extern.ReflectliteValue.method (Extern.ReflectliteValue.valueError "reflectlite.Value.IsNil" 0) Extern.ReflectliteValue.isNil) (by kernel_rfl) (run_isNil (n := 150) (a := ⟨b10, 0, none⟩) (fun w => by kernel_rfl) underlying214 rfl (hS.cell 1 rfl rfl))) rfl rfl (pn 1 rfl (ln (jfs (sr (pn 1 rfl (RL.s (Vl.iX [] (.iface 255 (.agg #[.pointer (some ⟨1, 212, none⟩)])) (.agg #[.pointer (some ⟨1, 214, none⟩)]) Ex5 func296 rfl rfl) rfl (pn 1 rfl (ln (RC.seq (RC.seq ?_))))))))))
  refine RC.region (pn 1 rfl (RL.s (Vl.iX [] (.int .u8 25) (.pointer (some ⟨1, 212, none⟩)) Ex4 func278 rfl rfl) rfl (pn 3 rfl (RL.sg (Vl.load isAgg191 rfl (cellH_world hS.sub hG0)) rfl rfl (RL.sg (Vl.iX [.tmp 32] (.bool true) (.agg #[.pointer (some ⟨1, 212, none⟩)]) Ex6 func297 rfl rfl) rfl rfl (pn 2 rfl (ln (jfs (sr (rr [0, 0, 1, 0] hS ?_))))))))))
  refine it fun w hS => cF (fun _ hg => errors_as_4.ok hg hS.p1.p2) call102 h rfl rfl rfl ?_
  rintro ⟨y14, y15⟩ h _ w ⟨rfl, hS⟩
  refine pn 1 rfl (lr ?_)
  cases h.some
  exact rt results59 rfl ⟨rfl, hS.d1.d1⟩
def errors_As_5.f (a2 : kernel_halt) : Option (Bool) := some false
theorem errors_As_5.ok {a2 : kernel_halt} {b1 : Nat} {r : Bool} (h : errors_As_5.f a2 = some r) (hS : St B w (Cl b1 [iV a2.stop, iV a2.why] 212 :: l) hf) :
    Calls prog 59 #[.nilIface, .iface 214 (pV b1)] w (Ret fun v w => v = .bool r ∧ St B w (Cl b1 [iV a2.stop, iV a2.why] 212 :: l) hf) := by
  have h := Holds.of h
  refine en func59 rfl ntmps59 rfl (sr (pn 1 rfl (ln (RC.seq (sr (pn 1 rfl (RL.s (Vl.bn true rfl rfl) rfl (ln (jtr ?_)))))))))
  refine pn 1 rfl (lr (RQ.ret ?_))
  obtain rfl := h.some
  exact rt results59 rfl ⟨rfl, hS⟩
def kernel_Kernel_visit.f (a2 : kernel_Kernel) (a3 : api_Pick) : Option (Int × kernel_Kernel) := ((colour_Token_At.f a2.token).bind fun t236 => (if 0 ≤ t236 ∧ t236 < (a2.at_.length : Int) then ((lane_Lane_Local.f ((nth a2.at_ t236).Lane)).bind fun t299 => ((colour_Token_Visit.f a2.token ((nth a2.at_ t236).tally) t299).bind fun (y303, y304, y305, y306, y307) => (if y304 = true then ((kernel_Kernel_commit.f ({ a2 with at_ := (setL a2.at_ t236 (⟨(nth a2.at_ t236).Lane, y307, (nth a2.at_ t236).clocks, (nth a2.at_ t236).ways, (nth a2.at_ t236).into⟩ : kernel_place)), token := y306, global := (if a2.global < y303 then y303 else a2.global) } : kernel_Kernel)).bind fun t321 => match t321 with | .inl (y323, y324) => ((errors_As_4.f y323 (⟨0, 0⟩ : kernel_halt)).bind fun (y328, y329) => (if y328 = true then some (0, ({ y324 with stop := y329.stop } : kernel_Kernel)) else some (0, y324))) | .inr (y351) => ((errors_As_5.f (⟨0, 0⟩ : kernel_halt)).bind fun t353 => (if t353 = true then some (0, ({ y351 with stop := 0 } : kernel_Kernel)) else some (0, y351)))) else some (0, ({ a2 with at_ := (setL a2.at_ t236 (⟨(nth a2.at_ t236).Lane, y307, (nth a2.at_ t236).clocks, (nth a2.at_ t236).ways, (nth a2.at_ t236).into⟩ : kernel_place)), token := y306 } : kernel_Kernel))))) else none))
theorem kernel_Kernel_visit.ok {a2 : kernel_Kernel} {a3 : api_Pick} {b1 : Nat} (hG0 : GlobAt hf 0 (.iface 255 (.agg #[.pointer (some ⟨1, 138, none⟩)]))) {r : Int × kernel_Kernel} (h : kernel_Kernel_visit.f a2 a3 = some r) (hS : St B w (O_kernel_Kernel hf a2 b1 :: l) hf) :
    Calls prog 63 #[pV b1, .agg (C_api_Pick a3).toArray] w (Ret fun v w => ∃ hf_ : Hp, Sub hf hf_ ∧ v = iV r.1 ∧ St B w (O_kernel_Kernel hf_ r.2 b1 :: l) hf_) := by
  have h := Holds.of h
  refine en func63 rfl ntmps63 rfl (sr (rr [0, 0] hS ?_))
  refine fun b191 => it fun w hS => ln (RC.seq ?_)
  obtain ⟨A216, c217, A219, c220, A222, c223, A225, c226, bs227, A229, c230, bs231, b233, A234, c235, hr218, hr221, hr224, hS⟩ := O_kernel_Kernel.o hS.p1
  have hl228 := hS.p2.sepLen
  have hl232 := hS.p4.sepLen
  refine dr [0, 3, 6, 10, 14, 17, 20, 23, 26, 29, 32, 35] [9, 10, 11] hS fun w hS => rq [0, 0, 0, 1, 0, 0, 0, 1] hS ?_
  refine it ?_
  obtain ⟨t236, hg237, h⟩ := h.bind
  have hc := colour_Token_At.ok hg237 hS.p5
  refine RP.e 8 rfl (OW.callF (ls := [.tmp 18]) rfl call115 hc) rfl rfl ?_
  rintro _ w ⟨rfl, hS⟩
  refine ⟨kp ⟨fun _ => hS.p5.p5.p5.p5.p5, trivial⟩, ?_⟩
  obtain ⟨⟨hq238, hq239⟩, h⟩ := h.req
  refine RP.v1 9 rfl (Vl.indexOwn 2 hS rfl underlying31 sizeOf95 rfl rfl hq238 (lt_len hl228 hq239)) rfl rfl (RP.v1 10 rfl (Vl.load isAgg95 rfl ((hS.slW 2 rfl).2.2.cell (j := 0) hq238 (lt_len hl228 hq239) rfl)) rfl rfl (rq [0] hS.p5.p5.p5.p5.p5 ?_))
  refine it (RP.nil (RQ.then_n (RC.seq ?_)))
  have hS := hS.p3.sepTake hq238 hq239
  obtain ⟨b274, b275, b276, A277, c278, b280, hr279, hS⟩ := O_kernel_place.o hS
  refine dk [0, 3, 6, 10, 12, 15, 18, 22, 24, 27, 30, 34, 38, 41, 42, 45, 48, 51, 56, 59, 62] [18, 19, 20] hS (fun w hS => hS.d2.d5) fun w hS => rq [0, 0, 0, 6, 0, 0, 0, 1, 0, 0, 0, 1] hS.d2.d5 ?_
  refine it ?_
  obtain ⟨t299, hg300, h⟩ := h.bind
  have hc := lane_Lane_Local.ok hg300 hS.p1
  refine RP.e 12 rfl (OW.callF (ls := [.tmp 34]) rfl call38 hc) rfl rfl ?_
  rintro _ w ⟨rfl, hS⟩
  refine ⟨kp ⟨fun _ => hS.d2.d5.p1, trivial⟩, ?_⟩
  obtain ⟨t301, hg302, h⟩ := h.bind
  have hc := colour_Token_Visit.ok hg302 hS.p2.p6
  obtain ⟨y303, y304, y305, y306, y307⟩ := t301
  refine RP.e 13 rfl (OW.callF (ls := [.tmp 26, .tmp 30, .tmp 35]) rfl call116 hc) rfl rfl ?_
  rintro _ w ⟨rfl, hS⟩
  refine ⟨kp ⟨fun _ => hS.d0.d0.p1, trivial⟩, ?_⟩
  refine rq [0, 0, 0, 0, 0, 0, 0] hS.d0.d0.p1 ?_
  refine it (RP.nil (RQ.then_n (RC.seq (sr (pn 2 rfl (ln ?_))))))
  refine RC.iteM 41 rfl h (fun hc309 h => ?_) fun hc309 h => ?_
  next =>
   refine jfs (sr (rr [0, 0, 0, 0, 8, 0] hS ?_))
   refine it fun w hS => RL.s (Vl.max2 rfl rfl) rfl (rr [0, 0, 8] hS ?_)
   refine it fun w hS => lnsr (rr [0] hS ?_)
   refine fun b311 => it fun w hS => ln (RC.seq ?_)
   refine sr (pn 1 rfl ?_)
   have hS := O_kernel_place.c (x := (⟨(nth a2.at_ t236).Lane, y307, (nth a2.at_ t236).clocks, (nth a2.at_ t236).ways, (nth a2.at_ t236).into⟩ : kernel_place)) hr279 hS.p6.p6.p4.p5.p6
   have hS := hS.p3.p1.sepPut hq238 hq239
   have hS := O_kernel_Kernel.c (x := ({ a2 with at_ := (setL a2.at_ t236 (⟨(nth a2.at_ t236).Lane, y307, (nth a2.at_ t236).clocks, (nth a2.at_ t236).ways, (nth a2.at_ t236).into⟩ : kernel_place)), token := y306, global := (if a2.global < y303 then y303 else a2.global) } : kernel_Kernel)) hr218 hr221 hr224 hS.p7.p3.p7.p7.p4.p7.p7
   obtain ⟨t321, hg322, h⟩ := h.bind
   have hc := kernel_Kernel_commit.ok hg322 hS
   rcases t321 with ⟨y323, y324⟩ | y351
   · refine RL.e (OW.callF (ls := [.tmp 51]) rfl call117 hc) rfl rfl ?_
     rintro _ w ⟨hf, hs325, rfl, hS⟩
     refine pn 1 rfl (lnsr (r0 2 rfl (cF (fun _ hg => errors_As_4.ok (hG0.mono hs325) hg hS.p1) call59 h rfl rfl rfl ?_)))
     rintro ⟨y328, y329⟩ h _ w ⟨rfl, hS⟩
     refine ln ?_
     refine RC.iteB 55 rfl h (fun hc330 h => ?_) fun hc330 h => ?_
     next =>
      refine jt (RC.region (rr [0, 0, 1, 0, 0] hS ?_))
      refine it fun w hS => ?_
      obtain ⟨A331, c332, A334, c335, A337, c338, A340, c341, bs342, A344, c345, bs346, b348, A349, c350, hr333, hr336, hr339, hS⟩ := O_kernel_Kernel.o hS.p1
      have hl343 := hS.p2.sepLen
      have hl347 := hS.p4.sepLen
      refine rr [1] hS ?_
      refine it fun w hS => lnsr (pn 1 rfl (lr ?_))
      have hS := O_kernel_Kernel.c (x := ({ y324 with stop := y329.stop } : kernel_Kernel)) hr333 hr336 hr339 hS
      cases h.some
      exact rt results63 rfl ⟨_, hs325, rfl, hS.d1.d1⟩
     refine jfs (sr (pn 1 rfl (lr ?_)))
     cases h.some
     exact rt results63 rfl ⟨_, hs325, rfl, hS.d0.d1⟩
   refine RL.e (OW.callF (ls := [.tmp 51]) rfl call117 hc) rfl rfl ?_
   rintro _ w ⟨hf, hs352, rfl, hS⟩
   refine pn 1 rfl (lnsr (r0 2 rfl (cF (fun _ hg => errors_As_5.ok hg hS.p1) call59 h rfl rfl rfl ?_)))
   rintro t353 h _ w ⟨rfl, hS⟩
   refine ln ?_
   refine RC.iteB 55 rfl h (fun hc355 h => ?_) fun hc355 h => ?_
   next =>
    refine jt (RC.region (rr [0, 0, 1, 0, 0] hS ?_))
    refine it fun w hS => ?_
    obtain ⟨A356, c357, A359, c360, A362, c363, A365, c366, bs367, A369, c370, bs371, b373, A374, c375, hr358, hr361, hr364, hS⟩ := O_kernel_Kernel.o hS.p1
    have hl368 := hS.p2.sepLen
    have hl372 := hS.p4.sepLen
    refine rr [1] hS ?_
    refine it fun w hS => lnsr (pn 1 rfl (lr ?_))
    have hS := O_kernel_Kernel.c (x := ({ y351 with stop := 0 } : kernel_Kernel)) hr358 hr361 hr364 hS
    cases h.some
    exact rt results63 rfl ⟨_, hs352, rfl, hS.d1.d1⟩
   refine jfs (sr (pn 1 rfl (lr ?_)))
   cases h.some
   exact rt results63 rfl ⟨_, hs352, rfl, hS.d0.d1⟩
  refine jtr (pn 1 rfl (lr (RQ.ret ?_)))
  have hS := O_kernel_place.c (x := (⟨(nth a2.at_ t236).Lane, y307, (nth a2.at_ t236).clocks, (nth a2.at_ t236).ways, (nth a2.at_ t236).into⟩ : kernel_place)) hr279 hS.p5.p5.p3.p4.p5
  have hS := hS.p2.p1.sepPut hq238 hq239
  have hS := O_kernel_Kernel.c (x := ({ a2 with at_ := (setL a2.at_ t236 (⟨(nth a2.at_ t236).Lane, y307, (nth a2.at_ t236).clocks, (nth a2.at_ t236).ways, (nth a2.at_ t236).into⟩ : kernel_place)), token := y306 } : kernel_Kernel)) hr218 hr221 hr224 hS.p5.p5.p2.p5.p5
  cases h.some
  exact rt results63 rfl ⟨_, (Sub.refl _), rfl, hS.d1⟩
def kernel_Kernel_promise.f (a2 : kernel_Kernel) (a3 : api_Pick) : Option (Int) := ((kernel_Kernel_who.f a2 a3.A).bind fun t56 => (if t56 = 0 then none else some t56))
theorem kernel_Kernel_promise.ok {a2 : kernel_Kernel} {a3 : api_Pick} {b1 : Nat} {r : Int} (h : kernel_Kernel_promise.f a2 a3 = some r) (hS : St B w (O_kernel_Kernel hf a2 b1 :: l) hf) :
    Calls prog 64 #[pV b1, .agg (C_api_Pick a3).toArray] w (Ret fun v w => v = iV r ∧ St B w (O_kernel_Kernel hf a2 b1 :: l) hf) := by
  have h := Holds.of h
  refine en func64 rfl ntmps64 rfl (sr (rr [0, 0] hS ?_))
  refine fun b53 => it fun w hS => lnsr (rr [0, 0, 1] hS ?_)
  refine it fun w hS => cF (fun _ hg => kernel_Kernel_who.ok hg hS.p1) call105 h rfl rfl rfl ?_
  rintro t56 h _ w ⟨rfl, hS⟩
  refine pn 5 rfl (ln (RC.seq (sr (pn 2 rfl (ln ?_)))))
  refine RC.iteN 21 rfl h (fun hc59 h => ?_) fun hc59 h => ?_
  next =>
   refine jfs (RC.seq ?_)
   obtain ⟨A80, c81, A83, c84, A86, c87, A89, c90, bs91, A93, c94, bs95, b97, A98, c99, hr82, hr85, hr88, hS⟩ := O_kernel_Kernel.o hS
   have hl92 := hS.p2.sepLen
   have hl96 := hS.p4.sepLen
   refine dr [0, 3, 6, 10, 12, 15, 18, 22, 26, 29] [9] hS fun w hS => rq [0, 0, 0, 1, 0, 0, 0, 1, 0, 0] hS ?_
   refine it (RP.nil (RQ.then_n (RC.seq (sr (pn 1 rfl ?_)))))
   exact h.none
  refine jtr (pn 2 rfl (lr (RQ.ret ?_)))
  obtain rfl := h.some
  exact rt results64 rfl ⟨rfl, hS.d1⟩
def vtime_Reach.f (a1 a2 : Int) : Option (Int) := some (IntKind.i64.wrap ((if 4611686018427387904 < (if a1 < 0 then 0 else a1) then 4611686018427387904 else (if a1 < 0 then 0 else a1)) + (if IntKind.i64.wrap (4611686018427387904 - (if 4611686018427387904 < (if a1 < 0 then 0 else a1) then 4611686018427387904 else (if a1 < 0 then 0 else a1))) < (if a2 < 0 then 0 else a2) then IntKind.i64.wrap (4611686018427387904 - (if 4611686018427387904 < (if a1 < 0 then 0 else a1) then 4611686018427387904 else (if a1 < 0 then 0 else a1))) else (if a2 < 0 then 0 else a2))))
theorem vtime_Reach.ok {a1 a2 r : Int} (h : vtime_Reach.f a1 a2 = some r) (hS : St B w (l) hf) :
    Calls prog 120 #[iV a1, iV a2] w (Ret fun v w => v = iV r ∧ St B w (l) hf) := by
  have h := Holds.of h
  refine en func120 rfl ntmps120 rfl (sr (pn 1 rfl (lnsr (pn 1 rfl (RL.s (Vl.max2 rfl rfl) rfl (RL.s (Vl.min2 rfl rfl) rfl (pn 1 rfl (RL.s (Vl.max2 rfl rfl) rfl (pn 2 rfl (ln ?_))))))))))
  refine sr (pn 4 rfl (RL.s (Vl.min2 rfl rfl) rfl (pn 2 rfl (lr ?_))))
  cases h.some
  exact rt results120 rfl ⟨rfl, hS⟩
def kernel_Kernel_round.f (a2 : kernel_Kernel) (a3 : api_Pick) : Option (Int × kernel_Kernel) := ((vtime_Reach.f a2.global a2.width).bind fun t50 => some (0, ({ a2 with window := t50 } : kernel_Kernel)))
theorem kernel_Kernel_round.ok {a2 : kernel_Kernel} {a3 : api_Pick} {b1 : Nat} {r : Int × kernel_Kernel} (h : kernel_Kernel_round.f a2 a3 = some r) (hS : St B w (O_kernel_Kernel hf a2 b1 :: l) hf) :
    Calls prog 65 #[pV b1, .agg (C_api_Pick a3).toArray] w (Ret fun v w => v = iV r.1 ∧ St B w (O_kernel_Kernel hf r.2 b1 :: l) hf) := by
  have h := Holds.of h
  refine en func65 rfl ntmps65 rfl (sr (rr [0, 0] hS ?_))
  refine fun b29 => it fun w hS => ln (RC.seq ?_)
  obtain ⟨A30, c31, A33, c34, A36, c37, A39, c40, bs41, A43, c44, bs45, b47, A48, c49, hr32, hr35, hr38, hS⟩ := O_kernel_Kernel.o hS.p1
  have hl42 := hS.p2.sepLen
  have hl46 := hS.p4.sepLen
  refine dr [0, 3, 6, 9, 13, 17, 20, 23, 26, 29, 32, 35, 38] [9, 10, 11, 12] hS fun w hS => rq [0, 0, 0, 0, 1, 0, 0, 0, 1] hS ?_
  refine it ?_
  obtain ⟨t50, hg51, h⟩ := h.bind
  have hc := vtime_Reach.ok hg51 hS
  refine RP.e 9 rfl (OW.callF (ls := [.tmp 9, .tmp 13]) rfl call120 hc) rfl rfl ?_
  rintro _ w ⟨rfl, hS⟩
  refine ⟨kp ⟨(by intro hx; cases hx), trivial⟩, ?_⟩
  refine rq [0, 0] hS ?_
  refine it (RP.e0 12 rfl (OW.store (vs := [iV t50]) 0 hS rfl rfl rfl rfl sizeOf2 rfl rfl rfl rfl) rfl ?_)
  rintro _ w ⟨rfl, hS⟩
  have hS : St B w (Cl _ [_, _, _, _, _, _, _, _, _, _, _, _, _, _] _ :: _ :: _ :: _ :: _ :: _ :: _ :: _ :: l) hf := hS
  refine ⟨kp ⟨(by intro hx; cases hx), trivial⟩, ?_⟩
  refine RP.nil (tsr (pn 1 rfl (lr ?_)))
  have hS := O_kernel_Kernel.c (x := ({ a2 with window := t50 } : kernel_Kernel)) hr32 hr35 hr38 hS
  cases h.some
  exact rt results65 rfl ⟨rfl, hS.d1⟩
def kernel_Kernel_widen.f (a2 : kernel_Kernel) (a3 : api_Pick) : Option (Int × kernel_Kernel) := some (0, ({ a2 with width := (if 1048576 < (if a3.A < 1 then 1 else a3.A) then 1048576 else (if a3.A < 1 then 1 else a3.A)) } : kernel_Kernel))
theorem kernel_Kernel_widen.ok {a2 : kernel_Kernel} {a3 : api_Pick} {b1 : Nat} {r : Int × kernel_Kernel} (h : kernel_Kernel_widen.f a2 a3 = some r) (hS : St B w (O_kernel_Kernel hf a2 b1 :: l) hf) :
    Calls prog 66 #[pV b1, .agg (C_api_Pick a3).toArray] w (Ret fun v w => v = iV r.1 ∧ St B w (O_kernel_Kernel hf r.2 b1 :: l) hf) := by
  have h := Holds.of h
  refine en func66 rfl ntmps66 rfl (sr (rr [0, 0] hS ?_))
  refine fun b27 => it fun w hS => lnsr (rr [0, 0, 1] hS ?_)
  refine it fun w hS => RL.s (Vl.max2 rfl rfl) rfl (RL.s (Vl.min2 rfl rfl) rfl (r0 2 rfl ?_))
  obtain ⟨A28, c29, A31, c32, A34, c35, A37, c38, bs39, A41, c42, bs43, b45, A46, c47, hr30, hr33, hr36, hS⟩ := O_kernel_Kernel.o hS.p1
  have hl40 := hS.p2.sepLen
  have hl44 := hS.p4.sepLen
  refine rr [1] hS ?_
  refine it fun w hS => lnsr (pn 1 rfl (lr ?_))
  have hS := O_kernel_Kernel.c (x := ({ a2 with width := (if 1048576 < (if a3.A < 1 then 1 else a3.A) then 1048576 else (if a3.A < 1 then 1 else a3.A)) } : kernel_Kernel)) hr30 hr33 hr36 hS
  cases h.some
  exact rt results66 rfl ⟨rfl, hS.d1⟩
def kernel_Kernel_set.f (a2 : kernel_Kernel) (a3 : api_Pick) : Option (Int) := ((kernel_Kernel_who.f a2 a3.A).bind fun t16 => (if t16 = 0 then none else some t16))
theorem kernel_Kernel_set.ok {a2 : kernel_Kernel} {a3 : api_Pick} {b1 : Nat} {r : Int} (h : kernel_Kernel_set.f a2 a3 = some r) (hS : St B w (O_kernel_Kernel hf a2 b1 :: l) hf) :
    Calls prog 67 #[pV b1, .agg (C_api_Pick a3).toArray] w (Ret fun v w => v = iV r ∧ St B w (O_kernel_Kernel hf a2 b1 :: l) hf) := by
  have h := Holds.of h
  refine en func67 rfl ntmps67 rfl (sr (rr [0, 0] hS ?_))
  refine fun b13 => it fun w hS => lnsr (rr [0, 0, 1] hS ?_)
  refine it fun w hS => cF (fun _ hg => kernel_Kernel_who.ok hg hS.p1) call105 h rfl rfl rfl ?_
  rintro t16 h _ w ⟨rfl, hS⟩
  refine pn 5 rfl (ln (RC.seq (sr (pn 2 rfl (ln ?_)))))
  refine RC.iteN 16 rfl h (fun hc19 h => ?_) fun hc19 h => ?_
  next =>
   refine jfs (sr (pn 1 rfl ?_))
   exact h.none
  refine jtr (pn 2 rfl (lr (RQ.ret ?_)))
  obtain rfl := h.some
  exact rt results67 rfl ⟨rfl, hS.d1⟩
def kernel_Kernel_Do.f (a2 : kernel_Kernel) (a3 : api_Pick) : Option (Int × kernel_Kernel) := ((kernel_Kernel_none.f a2).bind fun _ => (if a2.stop = 0 then ((kernel_Kernel_picks.f a2).bind fun _ => (if a3.What = 0 then ((kernel_Kernel_step.f a2 a3).bind fun t200 => some (t200, a2)) else (if a3.What = 1 then ((kernel_Kernel_deliver.f a2 a3).bind fun t203 => some (t203, a2)) else (if a3.What = 2 then ((kernel_Kernel_visit.f a2 a3).bind fun (y208, y209) => some (y208, y209)) else (if a3.What = 3 then ((kernel_Kernel_promise.f a2 a3).bind fun t212 => some (t212, a2)) else (if a3.What = 4 then ((kernel_Kernel_round.f a2 a3).bind fun (y217, y218) => some (y217, y218)) else (if a3.What = 10 then ((kernel_Kernel_widen.f a2 a3).bind fun (y222, y223) => some (y222, y223)) else (if a3.What = 5 then ((kernel_Kernel_set.f a2 a3).bind fun t225 => some (t225, a2)) else (if a3.What = 6 then ((kernel_Kernel_set.f a2 a3).bind fun t228 => some (t228, a2)) else (if a3.What = 7 then ((kernel_Kernel_set.f a2 a3).bind fun t231 => some (t231, a2)) else (if a3.What = 8 then ((kernel_Kernel_set.f a2 a3).bind fun t234 => some (t234, a2)) else (if a3.What = 9 then ((kernel_Kernel_set.f a2 a3).bind fun t237 => some (t237, a2)) else (if a3.What = 11 then ((kernel_Kernel_set.f a2 a3).bind fun t240 => some (t240, a2)) else some (1, a2)))))))))))))) else some (5, a2)))
theorem kernel_Kernel_Do.ok {a2 : kernel_Kernel} {a3 : api_Pick} {b1 : Nat} (hG0 : GlobAt hf 0 (.iface 255 (.agg #[.pointer (some ⟨1, 138, none⟩)]))) {r : Int × kernel_Kernel} (h : kernel_Kernel_Do.f a2 a3 = some r) (hS : St B w (O_kernel_Kernel hf a2 b1 :: l) hf) :
    Calls prog 14 #[pV b1, .agg (C_api_Pick a3).toArray] w (Ret fun v w => ∃ hf_ : Hp, Sub hf hf_ ∧ v = iV r.1 ∧ St B w (O_kernel_Kernel hf_ r.2 b1 :: l) hf_) := by
  have h := Holds.of h
  refine en func14 rfl ntmps14 rfl (sr (rr [0, 0] hS ?_))
  refine fun b124 => it fun w hS => ln (RC.seq (RC.block (sr (pn 1 rfl (cF (fun _ hg => kernel_Kernel_none.ok hg hS.p1) call35 h rfl rfl rfl ?_)))))
  rintro _ h _ w ⟨rfl, hS⟩
  refine pn 1 rfl (ln (jf (sr (r0 3 rfl ?_))))
  obtain ⟨A154, c155, A157, c158, A160, c161, A163, c164, bs165, A167, c168, bs169, b171, A172, c173, hr156, hr159, hr162, hS⟩ := O_kernel_Kernel.o hS
  have hl166 := hS.p2.sepLen
  have hl170 := hS.p4.sepLen
  refine rr [1, 0, 0] hS ?_
  refine it fun w hS => ln ?_
  refine RC.iteN 10 rfl h (fun hc174 h => ?_) fun hc174 h => ?_
  next =>
   refine jf (RC.skip (RQ.inB_n (RQ.then_n (RC.seq (dk [0, 6, 10, 5, 14, 15, 18, 21, 26, 29] [8, 9] hS (fun w hS => hS.d0.d0.d0.d0.d0.d0.d0) fun w hS => rq [0, 0, 1] hS.d0.d0.d0.d0.d0.d0.d0 ?_)))))
   refine it ?_
   have hS := O_kernel_Kernel.c (x := a2) hr156 hr159 hr162 hS
   obtain ⟨t196, hg197, h⟩ := h.bind
   have hc := kernel_Kernel_picks.ok hg197 hS
   refine RP.e 1 rfl (OW.callF (ls := [.tmp 17]) rfl call36 hc) rfl rfl ?_
   rintro _ w ⟨b198, rfl, hS⟩
   refine ⟨kp ⟨fun _ => hS.d0.d0, trivial⟩, ?_⟩
   by_cases hc199 : a3.What = 0
   case pos =>
    have h := h.pos hc199
    refine RP.v1 4 rfl (Vl.lookupC (n' := 0) (j := 0) (v := .func (.func 61) #[pV b1] #[]) 0 hS rfl underlying92 underlying3 rfl rfl hc199 rfl) rfl rfl (rq [0, 0, 0, 0, 0] hS.d0.d0 ?_)
    refine it (RP.nil (RQ.then_n (RC.seq (sr (pn 2 rfl (ln (jfs (sr (rr [0, 3] hS ?_)))))))))
    refine it fun w hS => ?_
    obtain ⟨t200, hg201, h⟩ := h.bind
    have hc := kernel_Kernel_step.ok hg201 hS.p1
    refine RL.e (OW.call (ls := [.tmp 27]) rfl rfl call61 rfl hc) rfl rfl ?_
    rintro _ w ⟨rfl, hS⟩
    refine pn 1 rfl (lr ?_)
    cases h.some
    exact rt results14 rfl ⟨_, (Sub.refl _), rfl, hS.d1.d1⟩
   have h := h.neg hc199
   by_cases hc202 : a3.What = 1
   case pos =>
    have h := h.pos hc202
    refine RP.v1 4 rfl (Vl.lookupC (n' := 1) (j := 1) (v := .func (.func 62) #[pV b1] #[]) 0 hS rfl underlying92 underlying3 rfl rfl hc202 rfl) rfl rfl (rq [0, 0, 0, 0, 0] hS.d0.d0 ?_)
    refine it (RP.nil (RQ.then_n (RC.seq (sr (pn 2 rfl (ln (jfs (sr (rr [0, 3] hS ?_)))))))))
    refine it fun w hS => ?_
    obtain ⟨t203, hg204, h⟩ := h.bind
    have hc := kernel_Kernel_deliver.ok hg204 hS.p1
    refine RL.e (OW.call (ls := [.tmp 27]) rfl rfl call62 rfl hc) rfl rfl ?_
    rintro _ w ⟨rfl, hS⟩
    refine pn 1 rfl (lr ?_)
    cases h.some
    exact rt results14 rfl ⟨_, (Sub.refl _), rfl, hS.d1.d1⟩
   have h := h.neg hc202
   by_cases hc205 : a3.What = 2
   case pos =>
    have h := h.pos hc205
    refine RP.v1 4 rfl (Vl.lookupC (n' := 2) (j := 2) (v := .func (.func 63) #[pV b1] #[]) 0 hS rfl underlying92 underlying3 rfl rfl hc205 rfl) rfl rfl (rq [0, 0, 0, 0, 0] hS.d0.d0 ?_)
    refine it (RP.nil (RQ.then_n (RC.seq (sr (pn 2 rfl (ln (jfs (sr (rr [0, 3] hS ?_)))))))))
    refine it fun w hS => ?_
    obtain ⟨t206, hg207, h⟩ := h.bind
    have hc := kernel_Kernel_visit.ok hG0 hg207 hS.p1
    obtain ⟨y208, y209⟩ := t206
    refine RL.e (OW.call (ls := [.tmp 27]) rfl rfl call63 rfl hc) rfl rfl ?_
    rintro _ w ⟨hf, hs210, rfl, hS⟩
    refine pn 1 rfl (lr ?_)
    cases h.some
    exact rt results14 rfl ⟨_, hs210, rfl, hS.d1.d1⟩
   have h := h.neg hc205
   by_cases hc211 : a3.What = 3
   case pos =>
    have h := h.pos hc211
    refine RP.v1 4 rfl (Vl.lookupC (n' := 3) (j := 3) (v := .func (.func 64) #[pV b1] #[]) 0 hS rfl underlying92 underlying3 rfl rfl hc211 rfl) rfl rfl (rq [0, 0, 0, 0, 0] hS.d0.d0 ?_)
    refine it (RP.nil (RQ.then_n (RC.seq (sr (pn 2 rfl (ln (jfs (sr (rr [0, 3] hS ?_)))))))))
    refine it fun w hS => ?_
    obtain ⟨t212, hg213, h⟩ := h.bind
    have hc := kernel_Kernel_promise.ok hg213 hS.p1
    refine RL.e (OW.call (ls := [.tmp 27]) rfl rfl call64 rfl hc) rfl rfl ?_
    rintro _ w ⟨rfl, hS⟩
    refine pn 1 rfl (lr ?_)
    cases h.some
    exact rt results14 rfl ⟨_, (Sub.refl _), rfl, hS.d1.d1⟩
   have h := h.neg hc211
   by_cases hc214 : a3.What = 4
   case pos =>
    have h := h.pos hc214
    refine RP.v1 4 rfl (Vl.lookupC (n' := 4) (j := 4) (v := .func (.func 65) #[pV b1] #[]) 0 hS rfl underlying92 underlying3 rfl rfl hc214 rfl) rfl rfl (rq [0, 0, 0, 0, 0] hS.d0.d0 ?_)
    refine it (RP.nil (RQ.then_n (RC.seq (sr (pn 2 rfl (ln (jfs (sr (rr [0, 3] hS ?_)))))))))
    refine it fun w hS => ?_
    obtain ⟨t215, hg216, h⟩ := h.bind
    have hc := kernel_Kernel_round.ok hg216 hS.p1
    obtain ⟨y217, y218⟩ := t215
    refine RL.e (OW.call (ls := [.tmp 27]) rfl rfl call65 rfl hc) rfl rfl ?_
    rintro _ w ⟨rfl, hS⟩
    refine pn 1 rfl (lr ?_)
    cases h.some
    exact rt results14 rfl ⟨_, (Sub.refl _), rfl, hS.d1.d1⟩
   have h := h.neg hc214
   by_cases hc219 : a3.What = 10
   case pos =>
    have h := h.pos hc219
    refine RP.v1 4 rfl (Vl.lookupC (n' := 10) (j := 5) (v := .func (.func 66) #[pV b1] #[]) 0 hS rfl underlying92 underlying3 rfl rfl hc219 rfl) rfl rfl (rq [0, 0, 0, 0, 0] hS.d0.d0 ?_)
    refine it (RP.nil (RQ.then_n (RC.seq (sr (pn 2 rfl (ln (jfs (sr (rr [0, 3] hS ?_)))))))))
    refine it fun w hS => ?_
    obtain ⟨t220, hg221, h⟩ := h.bind
    have hc := kernel_Kernel_widen.ok hg221 hS.p1
    obtain ⟨y222, y223⟩ := t220
    refine RL.e (OW.call (ls := [.tmp 27]) rfl rfl call66 rfl hc) rfl rfl ?_
    rintro _ w ⟨rfl, hS⟩
    refine pn 1 rfl (lr ?_)
    cases h.some
    exact rt results14 rfl ⟨_, (Sub.refl _), rfl, hS.d1.d1⟩
   have h := h.neg hc219
   by_cases hc224 : a3.What = 5
   case pos =>
    have h := h.pos hc224
    refine RP.v1 4 rfl (Vl.lookupC (n' := 5) (j := 6) (v := .func (.func 67) #[pV b1] #[]) 0 hS rfl underlying92 underlying3 rfl rfl hc224 rfl) rfl rfl (rq [0, 0, 0, 0, 0] hS.d0.d0 ?_)
    refine it (RP.nil (RQ.then_n (RC.seq (sr (pn 2 rfl (ln (jfs (sr (rr [0, 3] hS ?_)))))))))
    refine it fun w hS => ?_
    obtain ⟨t225, hg226, h⟩ := h.bind
    have hc := kernel_Kernel_set.ok hg226 hS.p1
    refine RL.e (OW.call (ls := [.tmp 27]) rfl rfl call67 rfl hc) rfl rfl ?_
    rintro _ w ⟨rfl, hS⟩
    refine pn 1 rfl (lr ?_)
    cases h.some
    exact rt results14 rfl ⟨_, (Sub.refl _), rfl, hS.d1.d1⟩
   have h := h.neg hc224
   by_cases hc227 : a3.What = 6
   case pos =>
    have h := h.pos hc227
    refine RP.v1 4 rfl (Vl.lookupC (n' := 6) (j := 7) (v := .func (.func 67) #[pV b1] #[]) 0 hS rfl underlying92 underlying3 rfl rfl hc227 rfl) rfl rfl (rq [0, 0, 0, 0, 0] hS.d0.d0 ?_)
    refine it (RP.nil (RQ.then_n (RC.seq (sr (pn 2 rfl (ln (jfs (sr (rr [0, 3] hS ?_)))))))))
    refine it fun w hS => ?_
    obtain ⟨t228, hg229, h⟩ := h.bind
    have hc := kernel_Kernel_set.ok hg229 hS.p1
    refine RL.e (OW.call (ls := [.tmp 27]) rfl rfl call67 rfl hc) rfl rfl ?_
    rintro _ w ⟨rfl, hS⟩
    refine pn 1 rfl (lr ?_)
    cases h.some
    exact rt results14 rfl ⟨_, (Sub.refl _), rfl, hS.d1.d1⟩
   have h := h.neg hc227
   by_cases hc230 : a3.What = 7
   case pos =>
    have h := h.pos hc230
    refine RP.v1 4 rfl (Vl.lookupC (n' := 7) (j := 8) (v := .func (.func 67) #[pV b1] #[]) 0 hS rfl underlying92 underlying3 rfl rfl hc230 rfl) rfl rfl (rq [0, 0, 0, 0, 0] hS.d0.d0 ?_)
    refine it (RP.nil (RQ.then_n (RC.seq (sr (pn 2 rfl (ln (jfs (sr (rr [0, 3] hS ?_)))))))))
    refine it fun w hS => ?_
    obtain ⟨t231, hg232, h⟩ := h.bind
    have hc := kernel_Kernel_set.ok hg232 hS.p1
    refine RL.e (OW.call (ls := [.tmp 27]) rfl rfl call67 rfl hc) rfl rfl ?_
    rintro _ w ⟨rfl, hS⟩
    refine pn 1 rfl (lr ?_)
    cases h.some
    exact rt results14 rfl ⟨_, (Sub.refl _), rfl, hS.d1.d1⟩
   have h := h.neg hc230
   by_cases hc233 : a3.What = 8
   case pos =>
    have h := h.pos hc233
    refine RP.v1 4 rfl (Vl.lookupC (n' := 8) (j := 9) (v := .func (.func 67) #[pV b1] #[]) 0 hS rfl underlying92 underlying3 rfl rfl hc233 rfl) rfl rfl (rq [0, 0, 0, 0, 0] hS.d0.d0 ?_)
    refine it (RP.nil (RQ.then_n (RC.seq (sr (pn 2 rfl (ln (jfs (sr (rr [0, 3] hS ?_)))))))))
    refine it fun w hS => ?_
    obtain ⟨t234, hg235, h⟩ := h.bind
    have hc := kernel_Kernel_set.ok hg235 hS.p1
    refine RL.e (OW.call (ls := [.tmp 27]) rfl rfl call67 rfl hc) rfl rfl ?_
    rintro _ w ⟨rfl, hS⟩
    refine pn 1 rfl (lr ?_)
    cases h.some
    exact rt results14 rfl ⟨_, (Sub.refl _), rfl, hS.d1.d1⟩
   have h := h.neg hc233
   by_cases hc236 : a3.What = 9
   case pos =>
    have h := h.pos hc236
    refine RP.v1 4 rfl (Vl.lookupC (n' := 9) (j := 10) (v := .func (.func 67) #[pV b1] #[]) 0 hS rfl underlying92 underlying3 rfl rfl hc236 rfl) rfl rfl (rq [0, 0, 0, 0, 0] hS.d0.d0 ?_)
    refine it (RP.nil (RQ.then_n (RC.seq (sr (pn 2 rfl (ln (jfs (sr (rr [0, 3] hS ?_)))))))))
    refine it fun w hS => ?_
    obtain ⟨t237, hg238, h⟩ := h.bind
    have hc := kernel_Kernel_set.ok hg238 hS.p1
    refine RL.e (OW.call (ls := [.tmp 27]) rfl rfl call67 rfl hc) rfl rfl ?_
    rintro _ w ⟨rfl, hS⟩
    refine pn 1 rfl (lr ?_)
    cases h.some
    exact rt results14 rfl ⟨_, (Sub.refl _), rfl, hS.d1.d1⟩
   have h := h.neg hc236
   by_cases hc239 : a3.What = 11
   case pos =>
    have h := h.pos hc239
    refine RP.v1 4 rfl (Vl.lookupC (n' := 11) (j := 11) (v := .func (.func 67) #[pV b1] #[]) 0 hS rfl underlying92 underlying3 rfl rfl hc239 rfl) rfl rfl (rq [0, 0, 0, 0, 0] hS.d0.d0 ?_)
    refine it (RP.nil (RQ.then_n (RC.seq (sr (pn 2 rfl (ln (jfs (sr (rr [0, 3] hS ?_)))))))))
    refine it fun w hS => ?_
    obtain ⟨t240, hg241, h⟩ := h.bind
    have hc := kernel_Kernel_set.ok hg241 hS.p1
    refine RL.e (OW.call (ls := [.tmp 27]) rfl rfl call67 rfl hc) rfl rfl ?_
    rintro _ w ⟨rfl, hS⟩
    refine pn 1 rfl (lr ?_)
    cases h.some
    exact rt results14 rfl ⟨_, (Sub.refl _), rfl, hS.d1.d1⟩
   have h := h.neg hc239
   refine RP.v1 4 rfl (Vl.lookupN 0 hS rfl underlying92 underlying3 zeroValue38 rfl rfl ⟨⟨_, rfl, hc199⟩, ⟨_, rfl, hc202⟩, ⟨_, rfl, hc205⟩, ⟨_, rfl, hc211⟩, ⟨_, rfl, hc214⟩, ⟨_, rfl, hc219⟩, ⟨_, rfl, hc224⟩, ⟨_, rfl, hc227⟩, ⟨_, rfl, hc230⟩, ⟨_, rfl, hc233⟩, ⟨_, rfl, hc236⟩, ⟨_, rfl, hc239⟩, trivial⟩) rfl rfl (rq [0, 0, 0, 0, 0] hS.d0.d0 ?_)
   refine it (RP.nil (RQ.then_n (RC.seq (sr (pn 2 rfl (ln (jtr (pn 1 rfl (ln ?_)))))))))
   refine RC.ret (RQ.ret ?_)
   cases h.some
   exact rt results14 rfl ⟨_, (Sub.refl _), rfl, hS.d0.d1⟩
  refine jtr (pn 1 rfl (lr (ir ?_)))
  have hS := O_kernel_Kernel.c (x := a2) hr156 hr159 hr162 hS
  cases h.some
  exact rt results14 rfl ⟨_, (Sub.refl _), rfl, hS.d1⟩
def kernel_Kernel_Stop.f (a2 : kernel_Kernel) : Option (Int) := ((kernel_Kernel_none.f a2).bind fun _ => some a2.stop)
theorem kernel_Kernel_Stop.ok {a2 : kernel_Kernel} {b1 : Nat} {r : Int} (h : kernel_Kernel_Stop.f a2 = some r) (hS : St B w (O_kernel_Kernel hf a2 b1 :: l) hf) :
    Calls prog 16 #[pV b1] w (Ret fun v w => v = iV r ∧ St B w (O_kernel_Kernel hf a2 b1 :: l) hf) := by
  have h := Holds.of h
  refine en func16 rfl ntmps16 rfl (sr (pn 1 rfl (ln (RC.seq (sr (pn 1 rfl (cF (fun _ hg => kernel_Kernel_none.ok hg hS) call35 h rfl rfl rfl ?_)))))))
  rintro _ h _ w ⟨rfl, hS⟩
  refine ln (jfs (sr (r0 3 rfl ?_)))
  obtain ⟨A31, c32, A34, c35, A37, c38, A40, c41, bs42, A44, c45, bs46, b48, A49, c50, hr33, hr36, hr39, hS⟩ := O_kernel_Kernel.o hS
  have hl43 := hS.p2.sepLen
  have hl47 := hS.p4.sepLen
  refine rr [1, 0] hS ?_
  refine it fun w hS => lr ?_
  have hS := O_kernel_Kernel.c (x := a2) hr33 hr36 hr39 hS
  cases h.some
  exact rt results16 rfl ⟨rfl, hS⟩
def isochronlaw18vawake.f  : Option (Bool) := ((kernel_New.f (⟨[([] : List api_Instr)], [], [], 0, 0, 0⟩ : api_Model) (⟨1, 1, 1⟩ : api_Caps)).bind fun t54 => match t54 with | .inl y56 => some false | .inr ((y57, y58)) => (if y58 = 0 then ((kernel_Kernel_Do.f y57 (⟨2, 0, 0⟩ : api_Pick)).bind fun (y65, y66) => ((kernel_Kernel_Do.f y66 (⟨2, 0, 0⟩ : api_Pick)).bind fun (y70, y71) => ((kernel_Kernel_Stop.f y71).bind fun t73 => some (decide (t73 = 1))))) else some false))
theorem isochronlaw18vawake.ok (hG0 : GlobAt hf 0 (.iface 255 (.agg #[.pointer (some ⟨1, 138, none⟩)]))) {r : Bool} (h : isochronlaw18vawake.f = some r) (hS : St B w (l) hf) :
    Calls prog 30 #[] w (Ret fun v w => v = .bool r ∧ St B w (l) hf) := by
  have h := Holds.of h
  refine en func30 rfl ntmps30 rfl (sr (pn 1 rfl (lnsr ?_)))
  have hx51 : RepL (Rep.sl E_api_Instr.rep) hf [.slice none 0 0] [([] : List api_Instr)] := (RepL.cons (c := [.slice none 0 0]) (r := []) ⟨none, 0, rfl, SlR.nil⟩ RepL.nil)
  refine RL.e (OW.buildSliceR (sz := 1) (cs := [.slice none 0 0]) hS underlying25 zeroValue162 sizeOf162 (parts := [(0, .const (.slice none 0 0))]) rfl rfl (by decide) (by decide) (by kernel_rfl)) rfl rfl ?_
  rintro _ w ⟨b50, rfl, hS⟩
  refine r0 2 rfl ?_
  obtain ⟨hf, hs52, hS, hr53⟩ := St.promoteR (Rep.sl_ok E_api_Instr.rep) hS rfl hx51
  obtain ⟨t54, hg55, h⟩ := h.bind
  have hc := kernel_New.ok (a1 := (⟨[([] : List api_Instr)], [], [], 0, 0, 0⟩ : api_Model)) hr53 (SlR.nil (A := none) (c := 0)) (SlR.nil (A := none) (c := 0)) (hG0.mono hs52) hg55 hS
  rcases t54 with y56 | ⟨y57, y58⟩
  · refine RL.e (OW.callF (ls := [.tmp 5, .tmp 6]) rfl call29 hc) rfl rfl ?_
    rintro _ w ⟨rfl, hS⟩
    refine pn 5 rfl (ln (RC.seq (sr (pn 1 rfl (RL.s (Vl.bn true rfl rfl) rfl (pn 4 rfl (ln (jtr (pn 1 rfl (RL.nil ?_))))))))))
    refine tr (RQ.ret ?_)
    obtain rfl := h.some
    exact rt results30 rfl ⟨rfl, (hS).down hs52⟩
  refine RL.e (OW.callF (ls := [.tmp 5, .tmp 6]) rfl call29 hc) rfl rfl ?_
  rintro _ w ⟨hf, hs60, b59, rfl, hS⟩
  refine pn 5 rfl (ln (RC.seq (sr (pn 1 rfl (RL.s (Vl.bn false rfl rfl) rfl (pn 4 rfl (ln ?_)))))))
  refine RC.iteN 15 rfl h (fun hc62 h => ?_) fun hc62 h => ?_
  next =>
   refine jfs (sr (r0 2 rfl (cF (fun _ hg => kernel_Kernel_Do.ok ((hG0.mono hs52).mono hs60) hg hS) call14 h rfl rfl rfl ?_)))
   rintro ⟨y65, y66⟩ h _ w ⟨hf, hs67, rfl, hS⟩
   refine lnsr (r0 2 rfl (cF (fun _ hg => kernel_Kernel_Do.ok (((hG0.mono hs52).mono hs60).mono hs67) hg hS) call14 h rfl rfl rfl ?_))
   rintro ⟨y70, y71⟩ h _ w ⟨hf, hs72, rfl, hS⟩
   refine lnsr (pn 1 rfl (cF (fun _ hg => kernel_Kernel_Stop.ok hg hS) call16 h rfl rfl rfl ?_))
   rintro t73 h _ w ⟨rfl, hS⟩
   refine pn 2 rfl (lr ?_)
   cases h.some
   exact rt results30 rfl ⟨rfl, (hS.d0).down (((hs52.trans hs60).trans hs67).trans hs72)⟩
  refine jtr (pn 1 rfl (lr (RQ.ret ?_)))
  obtain rfl := h.some
  exact rt results30 rfl ⟨rfl, (hS.d0).down (hs52.trans hs60)⟩
def link_Way_none.f (a2 : link_Way) : Option (Bool) := some (decide (a2.most = 0))
theorem link_Way_none.ok {a2 : link_Way} {b1 : Nat} {r : Bool} (h : link_Way_none.f a2 = some r) (hS : St B w (O_link_Way hf a2 b1 :: l) hf) :
    Calls prog 75 #[pV b1] w (Ret fun v w => v = .bool r ∧ St B w (O_link_Way hf a2 b1 :: l) hf) := by
  have h := Holds.of h
  refine en func75 rfl ntmps75 rfl (sr (pn 1 rfl (lnsr (pn 1 rfl (RL.s (Vl.bn false rfl rfl) rfl (r0 4 rfl ?_))))))
  obtain ⟨A5, c6, hS⟩ := O_link_Way.o hS
  refine rr [1, 0, 0, 0] hS ?_
  refine it fun w hS => lr ?_
  have hS := O_link_Way.c (x := a2) hS
  cases h.some
  exact rt results75 rfl ⟨rfl, hS⟩
def link_Way_All.f (a2 : link_Way) : Option (List api_Parcel) := ((link_Way_none.f a2).bind fun t18 => (if t18 = true then some ([] : List api_Parcel) else (if (([] : List api_Parcel).length + a2.l.length) * 64 ≤ 140737488355328 then some (([] : List api_Parcel) ++ a2.l) else none)))
theorem link_Way_All.ok {a2 : link_Way} {b1 : Nat} {r : List api_Parcel} (h : link_Way_All.f a2 = some r) (hS : St B w (O_link_Way hf a2 b1 :: l) hf) :
    Calls prog 46 #[pV b1] w (Ret fun v w => ∃ (A_1 : Option Addr) (c_2 : Nat), v = sV A_1 r c_2 ∧ St B w (OSf E_api_Parcel 90 (sV A_1 r c_2) r :: O_link_Way hf a2 b1 :: l) hf) := by
  have h := Holds.of h
  refine en func46 rfl ntmps46 rfl (sr (pn 1 rfl (ln (RC.seq (sr (pn 1 rfl (cF (fun _ hg => link_Way_none.ok hg hS) call75 h rfl rfl rfl ?_)))))))
  rintro t18 h _ w ⟨rfl, hS⟩
  refine ln ?_
  refine RC.iteB 4 rfl h (fun hc20 h => ?_) fun hc20 h => ?_
  next =>
   refine jtr (pn 1 rfl (lr (RQ.ret ?_)))
   have hS := hS.nilSl E_api_Parcel 90
   cases h.some
   exact rt results46 rfl ⟨none, 0, rfl, hS⟩
  refine jfs (sr (r0 3 rfl ?_))
  obtain ⟨A21, c22, hS⟩ := O_link_Way.o hS
  refine rr [1] hS ?_
  refine it fun w hS => ?_
  obtain ⟨hq23, h⟩ := h.req
  have hS := hS.nilSl E_api_Parcel 90
  refine RL.e (OW.appendV (E := E_api_Parcel) (xs := ([] : List api_Parcel)) (ys := a2.l) 0 hS rfl underlying56 type90 rfl rfl rfl rfl (by decide) (by decide) rfl rfl (hS.slW 2 rfl).2.2 hq23 rfl) rfl rfl ?_
  rintro v26 w hS
  obtain ⟨A24, c25, rfl, _⟩ := hS.osShape 0 rfl
  have hS : St B w (_ :: _ :: _ :: l) hf := hS
  refine pn 1 rfl (lr ?_)
  have hS := O_link_Way.c (x := a2) hS.p2.p2
  cases h.some
  exact rt results46 rfl ⟨A24, c25, rfl, hS.p1⟩
def link_Way_Least.l2b (t98 : List api_Parcel) : Int × Int → Option ((Int × Int) ⊕ (Int))
  | (x124, x125) => (if x125 < (t98.length : Int) then (if 0 ≤ x125 then ((vtime_Least.f ([x124, (((nth t98 x125).M).Key).Time] : List Int)).bind fun t175 => some (.inl (t175, IntKind.i64.wrap (x125 + 1)))) else none) else some (.inr x124))
def link_Way_Least.l2 (t98 : List api_Parcel) (s : Int × Int) : Option (Int) := loopR (link_Way_Least.l2b t98) s
def link_Way_Least.f (a2 : link_Way) : Option (Int) := ((vtime_Least.f ([])).bind fun t92 => ((link_Way_All.f a2).bind fun t98 => link_Way_Least.l2 t98 (t92, 0)))
theorem link_Way_Least.ok {a2 : link_Way} {b1 : Nat} {r : Int} (h : link_Way_Least.f a2 = some r) (hS : St B w (O_link_Way hf a2 b1 :: l) hf) :
    Calls prog 39 #[pV b1] w (Ret fun v w => v = iV r ∧ St B w (O_link_Way hf a2 b1 :: l) hf) := by
  have h := Holds.of h
  refine en func39 rfl ntmps39 rfl (sr (pn 1 rfl (lnsr (cF (fun _ hg => vtime_Least.ok (SlR.nil (A := none) (c := 0)) hg hS) call37 h rfl rfl rfl ?_))))
  rintro t92 h _ w ⟨rfl, hS⟩
  refine pn 1 rfl (ln (RC.seq (sr (pn 1 rfl (cF (fun _ hg => link_Way_All.ok hg hS) call46 h rfl rfl rfl ?_)))))
  rintro t98 h _ w ⟨A100, c101, rfl, hS⟩
  refine r0 2 rfl (ln (RC.block (fun a ha => lp h (fun (s : Int × Int) a w => ∃ x124 x125, s = (x124, x125) ∧ Has 23 [(3, iV x124), (8, sV A100 t98 c101), (9, iV (t98.length : Int)), (10, iV x125)] a ∧ St B w (OSf E_api_Parcel 90 (sV A100 t98 c101) t98 :: O_link_Way hf a2 b1 :: l) hf) ⟨_, _, rfl, ha.tE rfl, hS⟩ ?_)))
  rintro G152 _ a w ⟨x124, x125, rfl, ha, hS⟩ h
  refine ro ha (sr (pn 1 rfl (ln (RC.seq ?_))))
  refine RC.iteP 11 rfl h (fun hc154 h => ?_) fun hc154 h => ?_
  next =>
   refine jt (sk (RC.seq (RC.block (sr ?_))))
   obtain ⟨hq168, h⟩ := h.req
   refine RL.s (Vl.indexOwn 0 hS rfl underlying56 sizeOf90 rfl rfl hq168 hc154) rfl (RL.s (Vl.loadA isAgg90 sizeOf90 rfl rfl ((hS.slW 0 rfl).2.2.cells hq168 hc154)) rfl (rr [0, 1] hS ?_))
   refine fun b169 => it fun w hS => ln (RC.region (rr [0, 0, 0, 0, 1] hS ?_))
   refine it fun w hS => RL.e (OW.buildSlice (E := (FI .i64)) (xs := ([x124, (((nth t98 x125).M).Key).Time] : List Int)) (cs := [iV x124, iV ((((nth t98 x125).M).Key).Time)]) hS underlying142 zeroValue2 sizeOf2 (parts := [(0, .tmp 14), (1, .tmp 18)]) rfl rfl (by decide) (by decide) (by kernel_rfl) rfl) rfl rfl ?_
   rintro _ w ⟨b170, rfl, hS⟩
   obtain ⟨hf174, hs172, hS, hr171, hb173⟩ := St.lendSl hS
   obtain ⟨t175, hg176, h⟩ := h.bind
   have hc := vtime_Least.ok hr171 hg176 hS
   refine RL.e (OW.callF (ls := [.tmp 19]) rfl call37 hc) rfl rfl ?_
   rintro _ w ⟨rfl, hS⟩
   have hS := hb173 _ _ hS
   have hS : St B w (_ :: _ :: _ :: _ :: l) hf := hS
   refine pn 1 rfl (RL.nil (RQ.inB_n (RQ.then_n (RC.region (pn 2 rfl (RL.nil ?_))))))
   exact fun a ha => ⟨_, h.some, _, _, rfl, ha.tE rfl, hS.d0.d0⟩
  refine jf (RC.exit (RQ.exitT ?_))
  have h := h.inrS
  refine RQ.exitT (RQ.inB_hit (tsr (pn 2 rfl (lr ?_))))
  obtain rfl := h.some
  exact rt results39 rfl ⟨rfl, hS.d0⟩
def kernel_Kernel_Least.l6b (a2 : kernel_Kernel) : Int × Int → Option ((Int × Int) ⊕ (Int))
  | (x740, x741) => (if x741 < (a2.ways.length : Int) then (if 0 ≤ x741 then ((link_Way_Least.f (nth a2.ways x741)).bind fun t780 => ((vtime_Least.f ([x740, t780] : List Int)).bind fun t787 => some (.inl (t787, IntKind.i64.wrap (x741 + 1))))) else none) else some (.inr x740))
def kernel_Kernel_Least.l6 (a2 : kernel_Kernel) (s : Int × Int) : Option (Int) := loopR (kernel_Kernel_Least.l6b a2) s
def kernel_Kernel_Least.l5b (a2 : kernel_Kernel) : Int × Int → Option ((Int × Int) ⊕ (Int))
  | (x637, x638) => (if x638 < (a2.at_.length : Int) then (if 0 ≤ x638 then ((lane_Lane_Local.f ((nth a2.at_ x638).Lane)).bind fun t709 => ((vtime_Least.f ([x637, t709] : List Int)).bind fun t716 => some (.inl (t716, IntKind.i64.wrap (x638 + 1))))) else none) else (Option.map Sum.inr (kernel_Kernel_Least.l6 a2 (x637, 0))))
def kernel_Kernel_Least.l5 (a2 : kernel_Kernel) (s : Int × Int) : Option (Int) := loopR (kernel_Kernel_Least.l5b a2) s
def kernel_Kernel_Least.f (a2 : kernel_Kernel) : Option (Int) := ((kernel_Kernel_none.f a2).bind fun _ => ((vtime_Least.f ([])).bind fun t402 => kernel_Kernel_Least.l5 a2 (t402, 0)))
theorem kernel_Kernel_Least.ok {a2 : kernel_Kernel} {b1 : Nat} {r : Int} (h : kernel_Kernel_Least.f a2 = some r) (hS : St B w (O_kernel_Kernel hf a2 b1 :: l) hf) :
    Calls prog 18 #[pV b1] w (Ret fun v w => v = iV r ∧ St B w (O_kernel_Kernel hf a2 b1 :: l) hf) := by
  have h := Holds.of h
  refine en func18 rfl ntmps18 rfl (sr (pn 1 rfl (ln (RC.seq (sr (pn 1 rfl (cF (fun _ hg => kernel_Kernel_none.ok hg hS) call35 h rfl rfl rfl ?_)))))))
  rintro _ h _ w ⟨rfl, hS⟩
  refine ln (jfs (sr (cF (fun _ hg => vtime_Least.ok (SlR.nil (A := none) (c := 0)) hg hS) call37 h rfl rfl rfl ?_)))
  rintro t402 h _ w ⟨rfl, hS⟩
  refine pn 1 rfl (ln (RC.seq (sr (r0 3 rfl ?_))))
  obtain ⟨A581, c582, A584, c585, A587, c588, A590, c591, bs592, A594, c595, bs596, b598, A599, c600, hr583, hr586, hr589, hS⟩ := O_kernel_Kernel.o hS
  have hl593 := hS.p2.sepLen
  have hl597 := hS.p4.sepLen
  refine rr [1] hS ?_
  refine it fun w hS => RL.s (Vl.lenO hl593 underlying31 rfl) rfl (pn 1 rfl (ln (RC.block (fun a ha => lp h (fun (s : Int × Int) a w => ∃ x637 x638, s = (x637, x638) ∧ Has 45 [(0, pV b1), (3, iV x637), (14, sV A590 bs592 c591), (15, iV (a2.at_.length : Int)), (16, iV x638)] a ∧ St B w (OSf FP 95 (sV A590 bs592 c591) bs592 :: OSf FP 103 (sV A594 bs596 c595) bs596 :: OSf E_api_Done 82 (sV A599 a2.history c600) a2.history :: Cl b1 [sV A581 a2.m.Progs c582, sV A584 a2.m.Links c585, sV A587 a2.m.Starts c588, .int .u64 a2.m.Seed, iV a2.m.End, iV a2.m.Budget, sV A590 bs592 c591, sV A594 bs596 c595, pV b598, iV a2.global, iV a2.window, iV a2.width, sV A599 a2.history c600, iV a2.stop] 36 :: SepL (O_kernel_place hf) a2.at_ bs592 :: SepL (O_link_Way hf) a2.ways bs596 :: O_colour_Token hf a2.token b598 :: l) hf) ⟨_, _, rfl, ha.tE rfl, hS.p6.p4.p3⟩ ?_))))
  rintro G679 _ a w ⟨x637, x638, rfl, ha, hS⟩ h
  refine ro ha (sr (pn 1 rfl (ln (RC.seq ?_))))
  refine RC.iteP 17 rfl h (fun hc681 h => ?_) fun hc681 h => ?_
  next =>
   refine jt (sk (RC.seq (RC.block (sr ?_))))
   obtain ⟨hq701, h⟩ := h.req
   refine RL.s (Vl.indexOwn 0 hS rfl underlying31 sizeOf95 rfl rfl hq701 (lt_len hl593 hc681)) rfl (RL.s (Vl.load isAgg95 rfl ((hS.slW 0 rfl).2.2.cell (j := 0) hq701 (lt_len hl593 hc681) rfl)) rfl (pn 1 rfl (ln (RC.region (pn 3 rfl ?_)))))
   have hS := hS.p4.sepTake hq701 hc681
   refine r0 1 rfl ?_
   obtain ⟨b702, b703, b704, A705, c706, b708, hr707, hS⟩ := O_kernel_place.o hS
   refine rr [1] hS ?_
   refine it fun w hS => cF (fun _ hg => lane_Lane_Local.ok hg hS.p1) call38 h rfl rfl rfl ?_
   rintro t709 h _ w ⟨rfl, hS⟩
   refine RL.e (OW.buildSlice (E := (FI .i64)) (xs := ([x637, t709] : List Int)) (cs := [iV x637, iV t709]) hS underlying142 zeroValue2 sizeOf2 (parts := [(0, .tmp 20), (1, .tmp 25)]) rfl rfl (by decide) (by decide) (by kernel_rfl) rfl) rfl rfl ?_
   rintro _ w ⟨b711, rfl, hS⟩
   obtain ⟨hf715, hs713, hS, hr712, hb714⟩ := St.lendSl hS
   obtain ⟨t716, hg717, h⟩ := h.bind
   have hc := vtime_Least.ok hr712 hg717 hS
   refine RL.e (OW.callF (ls := [.tmp 26]) rfl call37 hc) rfl rfl ?_
   rintro _ w ⟨rfl, hS⟩
   have hS := hb714 _ _ hS
   have hS : St B w (_ :: _ :: _ :: _ :: _ :: _ :: _ :: _ :: _ :: _ :: _ :: _ :: _ :: l) hf := hS
   refine pn 1 rfl (RL.nil (RQ.inB_n (RQ.then_n (RC.region (pn 2 rfl (RL.nil ?_))))))
   have hS := O_kernel_place.c (x := nth a2.at_ x638) hr707 hS.p5.p5.p5.p4.p5
   have hS := hS.p2.p1.sepPut0 hq701 hc681
   exact fun a ha => ⟨_, h.some, _, _, rfl, ha.tE rfl, hS.d1.p4.p4.p4.p4⟩
  refine jf (RC.exit (RQ.exitT ?_))
  have h := h.inr
  refine RQ.exitT (RQ.inB_hit (RQ.then_n (RC.seq (sr (rr [0, 0, 0, 4] hS ?_)))))
  refine it fun w hS => RL.s (Vl.lenO hl597 underlying32 rfl) rfl (pn 1 rfl (ln (RC.block (fun a ha => lp h (fun (s : Int × Int) a w => ∃ x740 x741, s = (x740, x741) ∧ Has 45 [(3, iV x740), (32, sV A594 bs596 c595), (33, iV (a2.ways.length : Int)), (34, iV x741)] a ∧ St B w (OSf FP 103 (sV A594 bs596 c595) bs596 :: OSf FP 95 (sV A590 bs592 c591) bs592 :: OSf E_api_Done 82 (sV A599 a2.history c600) a2.history :: Cl b1 [sV A581 a2.m.Progs c582, sV A584 a2.m.Links c585, sV A587 a2.m.Starts c588, .int .u64 a2.m.Seed, iV a2.m.End, iV a2.m.Budget, sV A590 bs592 c591, sV A594 bs596 c595, pV b598, iV a2.global, iV a2.window, iV a2.width, sV A599 a2.history c600, iV a2.stop] 36 :: SepL (O_kernel_place hf) a2.at_ bs592 :: SepL (O_link_Way hf) a2.ways bs596 :: O_colour_Token hf a2.token b598 :: l) hf) ⟨_, _, rfl, ha.tE rfl, hS.p1⟩ ?_))))
  rintro G766 _ a w ⟨x740, x741, rfl, ha, hS⟩ h
  refine ro ha (sr (pn 1 rfl (ln (RC.seq ?_))))
  refine RC.iteP 35 rfl h (fun hc768 h => ?_) fun hc768 h => ?_
  next =>
   refine jt (sk (RC.seq (RC.block (sr ?_))))
   obtain ⟨hq779, h⟩ := h.req
   refine RL.s (Vl.indexOwn 0 hS rfl underlying32 sizeOf103 rfl rfl hq779 (lt_len hl597 hc768)) rfl (RL.s (Vl.load isAgg103 rfl ((hS.slW 0 rfl).2.2.cell (j := 0) hq779 (lt_len hl597 hc768) rfl)) rfl (pn 1 rfl (ln (RC.region (pn 2 rfl ?_)))))
   have hS := hS.p5.sepTake hq779 hc768
   refine cF (fun _ hg => link_Way_Least.ok hg hS) call39 h rfl rfl rfl ?_
   rintro t780 h _ w ⟨rfl, hS⟩
   refine RL.e (OW.buildSlice (E := (FI .i64)) (xs := ([x740, t780] : List Int)) (cs := [iV x740, iV t780]) hS underlying142 zeroValue2 sizeOf2 (parts := [(0, .tmp 38), (1, .tmp 40)]) rfl rfl (by decide) (by decide) (by kernel_rfl) rfl) rfl rfl ?_
   rintro _ w ⟨b782, rfl, hS⟩
   obtain ⟨hf786, hs784, hS, hr783, hb785⟩ := St.lendSl hS
   obtain ⟨t787, hg788, h⟩ := h.bind
   have hc := vtime_Least.ok hr783 hg788 hS
   refine RL.e (OW.callF (ls := [.tmp 41]) rfl call37 hc) rfl rfl ?_
   rintro _ w ⟨rfl, hS⟩
   have hS := hb785 _ _ hS
   have hS : St B w (_ :: _ :: _ :: _ :: _ :: _ :: _ :: _ :: _ :: l) hf := hS
   refine pn 1 rfl (RL.nil (RQ.inB_n (RQ.then_n (RC.region (pn 2 rfl (RL.nil ?_))))))
   have hS := hS.p2.p2.sepPut0 hq779 hc768
   exact fun a ha => ⟨_, h.some, _, _, rfl, ha.tE rfl, hS.d1.p5.p5.p5.p5.p5⟩
  refine jf (RC.exit (RQ.exitT ?_))
  have h := h.inrS
  refine RQ.exitT (RQ.inB_hit (tsr (pn 2 rfl (lr ?_))))
  have hS := O_kernel_Kernel.c (x := a2) hr583 hr586 hr589 hS.p6.p6.p2.p6.p4.p6
  obtain rfl := h.some
  exact rt results18 rfl ⟨rfl, hS⟩
def kernel_Kernel_Global.f (a2 : kernel_Kernel) : Option (Int) := ((kernel_Kernel_none.f a2).bind fun _ => some a2.global)
theorem kernel_Kernel_Global.ok {a2 : kernel_Kernel} {b1 : Nat} {r : Int} (h : kernel_Kernel_Global.f a2 = some r) (hS : St B w (O_kernel_Kernel hf a2 b1 :: l) hf) :
    Calls prog 17 #[pV b1] w (Ret fun v w => v = iV r ∧ St B w (O_kernel_Kernel hf a2 b1 :: l) hf) := by
  have h := Holds.of h
  refine en func17 rfl ntmps17 rfl (sr (pn 1 rfl (ln (RC.seq (sr (pn 1 rfl (cF (fun _ hg => kernel_Kernel_none.ok hg hS) call35 h rfl rfl rfl ?_)))))))
  rintro _ h _ w ⟨rfl, hS⟩
  refine ln (jfs (sr (r0 3 rfl ?_)))
  obtain ⟨A31, c32, A34, c35, A37, c38, A40, c41, bs42, A44, c45, bs46, b48, A49, c50, hr33, hr36, hr39, hS⟩ := O_kernel_Kernel.o hS
  have hl43 := hS.p2.sepLen
  have hl47 := hS.p4.sepLen
  refine rr [1, 0] hS ?_
  refine it fun w hS => lr ?_
  have hS := O_kernel_Kernel.c (x := a2) hr33 hr36 hr39 hS
  cases h.some
  exact rt results17 rfl ⟨rfl, hS⟩
def kernel_Kernel_History.f (a2 : kernel_Kernel) : Option (List api_Done) := ((kernel_Kernel_none.f a2).bind fun _ => (if (([] : List api_Done).length + a2.history.length) * 40 ≤ 140737488355328 then some (([] : List api_Done) ++ a2.history) else none))
theorem kernel_Kernel_History.ok {a2 : kernel_Kernel} {b1 : Nat} {r : List api_Done} (h : kernel_Kernel_History.f a2 = some r) (hS : St B w (O_kernel_Kernel hf a2 b1 :: l) hf) :
    Calls prog 15 #[pV b1] w (Ret fun v w => ∃ (A_1 : Option Addr) (c_2 : Nat), v = sV A_1 r c_2 ∧ St B w (OSf E_api_Done 82 (sV A_1 r c_2) r :: O_kernel_Kernel hf a2 b1 :: l) hf) := by
  have h := Holds.of h
  refine en func15 rfl ntmps15 rfl (sr (pn 1 rfl (ln (RC.seq (sr (pn 1 rfl (cF (fun _ hg => kernel_Kernel_none.ok hg hS) call35 h rfl rfl rfl ?_)))))))
  rintro _ h _ w ⟨rfl, hS⟩
  refine ln (jfs (sr (r0 3 rfl ?_)))
  obtain ⟨A35, c36, A38, c39, A41, c42, A44, c45, bs46, A48, c49, bs50, b52, A53, c54, hr37, hr40, hr43, hS⟩ := O_kernel_Kernel.o hS
  have hl47 := hS.p2.sepLen
  have hl51 := hS.p4.sepLen
  refine rr [1] hS ?_
  refine it fun w hS => ?_
  obtain ⟨hq55, h⟩ := h.req
  have hS := hS.nilSl E_api_Done 82
  refine RL.e (OW.appendV (E := E_api_Done) (xs := ([] : List api_Done)) (ys := a2.history) 0 hS rfl underlying34 type82 rfl rfl rfl rfl (by decide) (by decide) rfl rfl (hS.slW 7 rfl).2.2 hq55 rfl) rfl rfl ?_
  rintro v58 w hS
  obtain ⟨A56, c57, rfl, _⟩ := hS.osShape 0 rfl
  have hS : St B w (_ :: _ :: _ :: _ :: _ :: _ :: _ :: _ :: l) hf := hS
  refine pn 1 rfl (lr ?_)
  have hS := O_kernel_Kernel.c (x := a2) hr37 hr40 hr43 hS.p7.p7.p7.p7.p7.p7.p7
  cases h.some
  exact rt results15 rfl ⟨A56, c57, rfl, hS.p1⟩
end
end Go.Proofs.Gx
