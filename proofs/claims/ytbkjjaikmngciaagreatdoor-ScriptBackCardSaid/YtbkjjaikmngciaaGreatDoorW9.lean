/-
  The walks of functions, each with what it computes: printed by wip/gx.py.
-/
import Derived.Test.YtbkjjaikmngciaaGreatDoorW0
import Derived.Test.YtbkjjaikmngciaaGreatDoorW3
import Derived.Test.YtbkjjaikmngciaaGreatDoorW6
import Derived.Test.YtbkjjaikmngciaaGreatDoorW7
import Derived.Test.YtbkjjaikmngciaaGreatDoorW8
set_option linter.unusedVariables false
set_option linter.unusedSimpArgs false
set_option maxRecDepth 100000
set_option maxHeartbeats 4000000
namespace Go.Proofs.Gx
open Go.Sl Tryz
variable {B : Base} {w : World} {l : List HProp} {hf : Hp}
noncomputable section
def kernel_Kernel_Do_2.f (a2 : kernel_Kernel) (a3 : api_Pick) : Option (Int × kernel_Kernel) := ((kernel_Kernel_none_2.f a2).bind fun _ => (if a2.stop = 0 then ((kernel_Kernel_picks.f a2).bind fun _ => (if a3.What = 0 then ((kernel_Kernel_step.f a2 a3).bind fun t200 => some (t200, a2)) else (if a3.What = 1 then ((kernel_Kernel_deliver.f a2 a3).bind fun t203 => some (t203, a2)) else (if a3.What = 2 then ((kernel_Kernel_visit.f a2 a3).bind fun (y208, y209) => some (y208, y209)) else (if a3.What = 3 then ((kernel_Kernel_promise.f a2 a3).bind fun t212 => some (t212, a2)) else (if a3.What = 4 then ((kernel_Kernel_round.f a2 a3).bind fun (y217, y218) => some (y217, y218)) else (if a3.What = 10 then ((kernel_Kernel_widen.f a2 a3).bind fun (y222, y223) => some (y222, y223)) else (if a3.What = 5 then ((kernel_Kernel_set.f a2 a3).bind fun t225 => some (t225, a2)) else (if a3.What = 6 then ((kernel_Kernel_set.f a2 a3).bind fun t228 => some (t228, a2)) else (if a3.What = 7 then ((kernel_Kernel_set.f a2 a3).bind fun t231 => some (t231, a2)) else (if a3.What = 8 then ((kernel_Kernel_set.f a2 a3).bind fun t234 => some (t234, a2)) else (if a3.What = 9 then ((kernel_Kernel_set.f a2 a3).bind fun t237 => some (t237, a2)) else (if a3.What = 11 then ((kernel_Kernel_set.f a2 a3).bind fun t240 => some (t240, a2)) else some (1, a2)))))))))))))) else some (5, a2)))
theorem kernel_Kernel_Do_2.ok {a2 : kernel_Kernel} {a3 : api_Pick} {b1 : Nat} (hG0 : GlobAt hf 0 (.iface 144 (.agg #[.pointer (some ⟨9, 53, none⟩)]))) {r : Int × kernel_Kernel} (h : kernel_Kernel_Do_2.f a2 a3 = some r) (hS : St B w (O_kernel_Kernel hf a2 b1 :: l) hf) :
    Calls prog 45 #[pV b1, .agg (C_api_Pick a3).toArray] w (Ret fun v w => ∃ hf_ : Hp, Sub hf hf_ ∧ v = iV r.1 ∧ St B w (O_kernel_Kernel hf_ r.2 b1 :: l) hf_) := by
  have h := Holds.of h
  refine en func45 rfl ntmps45 rfl (sr (rr [0, 0] hS ?_))
  refine fun b124 => it fun w hS => ln (RC.seq (RC.block (sr (pn 1 rfl (cF (fun _ hg => kernel_Kernel_none_2.ok hg hS.p1) call68 h rfl rfl rfl ?_)))))
  rintro _ h _ w ⟨rfl, hS⟩
  refine pn 1 rfl (ln (jf (sr (r0 3 rfl ?_))))
  obtain ⟨A154, c155, A157, c158, A160, c161, A163, c164, bs165, A167, c168, bs169, b171, A172, c173, hr156, hr159, hr162, hS⟩ := O_kernel_Kernel.o hS
  have hl166 := hS.p2.sepLen
  have hl170 := hS.p4.sepLen
  refine rr [1, 0, 0] hS ?_
  refine it fun w hS => ln ?_
  refine RC.iteN 10 rfl h (fun hc174 h => ?_) fun hc174 h => ?_
  next =>
   refine jf (RC.skip (RQ.inB_n (RQ.then_n (RC.seq (dk [0, 6, 10, 5, 14, 15, 18, 21, 26, 29] [8, 9] hS (fun w hS => hS.d0.d0.d0.d0.d0.d0.d0) fun w hS => rq [0, 0, 1] hS.d0.d0.d0.d0.d0.d0.d0 ?_)))))
   refine it ?_
   have hS := O_kernel_Kernel.c (x := a2) hr156 hr159 hr162 hS
   obtain ⟨t196, hg197, h⟩ := h.bind
   have hc := kernel_Kernel_picks.ok hg197 hS
   refine RP.e 1 rfl (OW.callF (ls := [.tmp 17]) rfl call69 hc) rfl rfl ?_
   rintro _ w ⟨b198, rfl, hS⟩
   refine ⟨kp ⟨fun _ => hS.d0.d0, trivial⟩, ?_⟩
   by_cases hc199 : a3.What = 0
   case pos =>
    have h := h.pos hc199
    refine RP.v1 4 rfl (Vl.lookupC (n' := 0) (j := 0) (v := .func (.func 90) #[pV b1] #[]) 0 hS rfl underlying185 underlying3 rfl rfl hc199 rfl) rfl rfl (rq [0, 0, 0, 0, 0] hS.d0.d0 ?_)
    refine it (RP.nil (RQ.then_n (RC.seq (sr (pn 2 rfl (ln (jfs (sr (rr [0, 3] hS ?_)))))))))
    refine it fun w hS => ?_
    obtain ⟨t200, hg201, h⟩ := h.bind
    have hc := kernel_Kernel_step.ok hg201 hS.p1
    refine RL.e (OW.call (ls := [.tmp 27]) rfl rfl call90 rfl hc) rfl rfl ?_
    rintro _ w ⟨rfl, hS⟩
    refine pn 1 rfl (lr ?_)
    cases h.some
    exact rt results45 rfl ⟨_, (Sub.refl _), rfl, hS.d1.d1⟩
   have h := h.neg hc199
   by_cases hc202 : a3.What = 1
   case pos =>
    have h := h.pos hc202
    refine RP.v1 4 rfl (Vl.lookupC (n' := 1) (j := 1) (v := .func (.func 91) #[pV b1] #[]) 0 hS rfl underlying185 underlying3 rfl rfl hc202 rfl) rfl rfl (rq [0, 0, 0, 0, 0] hS.d0.d0 ?_)
    refine it (RP.nil (RQ.then_n (RC.seq (sr (pn 2 rfl (ln (jfs (sr (rr [0, 3] hS ?_)))))))))
    refine it fun w hS => ?_
    obtain ⟨t203, hg204, h⟩ := h.bind
    have hc := kernel_Kernel_deliver.ok hg204 hS.p1
    refine RL.e (OW.call (ls := [.tmp 27]) rfl rfl call91 rfl hc) rfl rfl ?_
    rintro _ w ⟨rfl, hS⟩
    refine pn 1 rfl (lr ?_)
    cases h.some
    exact rt results45 rfl ⟨_, (Sub.refl _), rfl, hS.d1.d1⟩
   have h := h.neg hc202
   by_cases hc205 : a3.What = 2
   case pos =>
    have h := h.pos hc205
    refine RP.v1 4 rfl (Vl.lookupC (n' := 2) (j := 2) (v := .func (.func 92) #[pV b1] #[]) 0 hS rfl underlying185 underlying3 rfl rfl hc205 rfl) rfl rfl (rq [0, 0, 0, 0, 0] hS.d0.d0 ?_)
    refine it (RP.nil (RQ.then_n (RC.seq (sr (pn 2 rfl (ln (jfs (sr (rr [0, 3] hS ?_)))))))))
    refine it fun w hS => ?_
    obtain ⟨t206, hg207, h⟩ := h.bind
    have hc := kernel_Kernel_visit.ok hG0 hg207 hS.p1
    obtain ⟨y208, y209⟩ := t206
    refine RL.e (OW.call (ls := [.tmp 27]) rfl rfl call92 rfl hc) rfl rfl ?_
    rintro _ w ⟨hf, hs210, rfl, hS⟩
    refine pn 1 rfl (lr ?_)
    cases h.some
    exact rt results45 rfl ⟨_, hs210, rfl, hS.d1.d1⟩
   have h := h.neg hc205
   by_cases hc211 : a3.What = 3
   case pos =>
    have h := h.pos hc211
    refine RP.v1 4 rfl (Vl.lookupC (n' := 3) (j := 3) (v := .func (.func 93) #[pV b1] #[]) 0 hS rfl underlying185 underlying3 rfl rfl hc211 rfl) rfl rfl (rq [0, 0, 0, 0, 0] hS.d0.d0 ?_)
    refine it (RP.nil (RQ.then_n (RC.seq (sr (pn 2 rfl (ln (jfs (sr (rr [0, 3] hS ?_)))))))))
    refine it fun w hS => ?_
    obtain ⟨t212, hg213, h⟩ := h.bind
    have hc := kernel_Kernel_promise.ok hg213 hS.p1
    refine RL.e (OW.call (ls := [.tmp 27]) rfl rfl call93 rfl hc) rfl rfl ?_
    rintro _ w ⟨rfl, hS⟩
    refine pn 1 rfl (lr ?_)
    cases h.some
    exact rt results45 rfl ⟨_, (Sub.refl _), rfl, hS.d1.d1⟩
   have h := h.neg hc211
   by_cases hc214 : a3.What = 4
   case pos =>
    have h := h.pos hc214
    refine RP.v1 4 rfl (Vl.lookupC (n' := 4) (j := 4) (v := .func (.func 94) #[pV b1] #[]) 0 hS rfl underlying185 underlying3 rfl rfl hc214 rfl) rfl rfl (rq [0, 0, 0, 0, 0] hS.d0.d0 ?_)
    refine it (RP.nil (RQ.then_n (RC.seq (sr (pn 2 rfl (ln (jfs (sr (rr [0, 3] hS ?_)))))))))
    refine it fun w hS => ?_
    obtain ⟨t215, hg216, h⟩ := h.bind
    have hc := kernel_Kernel_round.ok hg216 hS.p1
    obtain ⟨y217, y218⟩ := t215
    refine RL.e (OW.call (ls := [.tmp 27]) rfl rfl call94 rfl hc) rfl rfl ?_
    rintro _ w ⟨rfl, hS⟩
    refine pn 1 rfl (lr ?_)
    cases h.some
    exact rt results45 rfl ⟨_, (Sub.refl _), rfl, hS.d1.d1⟩
   have h := h.neg hc214
   by_cases hc219 : a3.What = 10
   case pos =>
    have h := h.pos hc219
    refine RP.v1 4 rfl (Vl.lookupC (n' := 10) (j := 5) (v := .func (.func 95) #[pV b1] #[]) 0 hS rfl underlying185 underlying3 rfl rfl hc219 rfl) rfl rfl (rq [0, 0, 0, 0, 0] hS.d0.d0 ?_)
    refine it (RP.nil (RQ.then_n (RC.seq (sr (pn 2 rfl (ln (jfs (sr (rr [0, 3] hS ?_)))))))))
    refine it fun w hS => ?_
    obtain ⟨t220, hg221, h⟩ := h.bind
    have hc := kernel_Kernel_widen.ok hg221 hS.p1
    obtain ⟨y222, y223⟩ := t220
    refine RL.e (OW.call (ls := [.tmp 27]) rfl rfl call95 rfl hc) rfl rfl ?_
    rintro _ w ⟨rfl, hS⟩
    refine pn 1 rfl (lr ?_)
    cases h.some
    exact rt results45 rfl ⟨_, (Sub.refl _), rfl, hS.d1.d1⟩
   have h := h.neg hc219
   by_cases hc224 : a3.What = 5
   case pos =>
    have h := h.pos hc224
    refine RP.v1 4 rfl (Vl.lookupC (n' := 5) (j := 6) (v := .func (.func 96) #[pV b1] #[]) 0 hS rfl underlying185 underlying3 rfl rfl hc224 rfl) rfl rfl (rq [0, 0, 0, 0, 0] hS.d0.d0 ?_)
    refine it (RP.nil (RQ.then_n (RC.seq (sr (pn 2 rfl (ln (jfs (sr (rr [0, 3] hS ?_)))))))))
    refine it fun w hS => ?_
    obtain ⟨t225, hg226, h⟩ := h.bind
    have hc := kernel_Kernel_set.ok hg226 hS.p1
    refine RL.e (OW.call (ls := [.tmp 27]) rfl rfl call96 rfl hc) rfl rfl ?_
    rintro _ w ⟨rfl, hS⟩
    refine pn 1 rfl (lr ?_)
    cases h.some
    exact rt results45 rfl ⟨_, (Sub.refl _), rfl, hS.d1.d1⟩
   have h := h.neg hc224
   by_cases hc227 : a3.What = 6
   case pos =>
    have h := h.pos hc227
    refine RP.v1 4 rfl (Vl.lookupC (n' := 6) (j := 7) (v := .func (.func 96) #[pV b1] #[]) 0 hS rfl underlying185 underlying3 rfl rfl hc227 rfl) rfl rfl (rq [0, 0, 0, 0, 0] hS.d0.d0 ?_)
    refine it (RP.nil (RQ.then_n (RC.seq (sr (pn 2 rfl (ln (jfs (sr (rr [0, 3] hS ?_)))))))))
    refine it fun w hS => ?_
    obtain ⟨t228, hg229, h⟩ := h.bind
    have hc := kernel_Kernel_set.ok hg229 hS.p1
    refine RL.e (OW.call (ls := [.tmp 27]) rfl rfl call96 rfl hc) rfl rfl ?_
    rintro _ w ⟨rfl, hS⟩
    refine pn 1 rfl (lr ?_)
    cases h.some
    exact rt results45 rfl ⟨_, (Sub.refl _), rfl, hS.d1.d1⟩
   have h := h.neg hc227
   by_cases hc230 : a3.What = 7
   case pos =>
    have h := h.pos hc230
    refine RP.v1 4 rfl (Vl.lookupC (n' := 7) (j := 8) (v := .func (.func 96) #[pV b1] #[]) 0 hS rfl underlying185 underlying3 rfl rfl hc230 rfl) rfl rfl (rq [0, 0, 0, 0, 0] hS.d0.d0 ?_)
    refine it (RP.nil (RQ.then_n (RC.seq (sr (pn 2 rfl (ln (jfs (sr (rr [0, 3] hS ?_)))))))))
    refine it fun w hS => ?_
    obtain ⟨t231, hg232, h⟩ := h.bind
    have hc := kernel_Kernel_set.ok hg232 hS.p1
    refine RL.e (OW.call (ls := [.tmp 27]) rfl rfl call96 rfl hc) rfl rfl ?_
    rintro _ w ⟨rfl, hS⟩
    refine pn 1 rfl (lr ?_)
    cases h.some
    exact rt results45 rfl ⟨_, (Sub.refl _), rfl, hS.d1.d1⟩
   have h := h.neg hc230
   by_cases hc233 : a3.What = 8
   case pos =>
    have h := h.pos hc233
    refine RP.v1 4 rfl (Vl.lookupC (n' := 8) (j := 9) (v := .func (.func 96) #[pV b1] #[]) 0 hS rfl underlying185 underlying3 rfl rfl hc233 rfl) rfl rfl (rq [0, 0, 0, 0, 0] hS.d0.d0 ?_)
    refine it (RP.nil (RQ.then_n (RC.seq (sr (pn 2 rfl (ln (jfs (sr (rr [0, 3] hS ?_)))))))))
    refine it fun w hS => ?_
    obtain ⟨t234, hg235, h⟩ := h.bind
    have hc := kernel_Kernel_set.ok hg235 hS.p1
    refine RL.e (OW.call (ls := [.tmp 27]) rfl rfl call96 rfl hc) rfl rfl ?_
    rintro _ w ⟨rfl, hS⟩
    refine pn 1 rfl (lr ?_)
    cases h.some
    exact rt results45 rfl ⟨_, (Sub.refl _), rfl, hS.d1.d1⟩
   have h := h.neg hc233
   by_cases hc236 : a3.What = 9
   case pos =>
    have h := h.pos hc236
    refine RP.v1 4 rfl (Vl.lookupC (n' := 9) (j := 10) (v := .func (.func 96) #[pV b1] #[]) 0 hS rfl underlying185 underlying3 rfl rfl hc236 rfl) rfl rfl (rq [0, 0, 0, 0, 0] hS.d0.d0 ?_)
    refine it (RP.nil (RQ.then_n (RC.seq (sr (pn 2 rfl (ln (jfs (sr (rr [0, 3] hS ?_)))))))))
    refine it fun w hS => ?_
    obtain ⟨t237, hg238, h⟩ := h.bind
    have hc := kernel_Kernel_set.ok hg238 hS.p1
    refine RL.e (OW.call (ls := [.tmp 27]) rfl rfl call96 rfl hc) rfl rfl ?_
    rintro _ w ⟨rfl, hS⟩
    refine pn 1 rfl (lr ?_)
    cases h.some
    exact rt results45 rfl ⟨_, (Sub.refl _), rfl, hS.d1.d1⟩
   have h := h.neg hc236
   by_cases hc239 : a3.What = 11
   case pos =>
    have h := h.pos hc239
    refine RP.v1 4 rfl (Vl.lookupC (n' := 11) (j := 11) (v := .func (.func 96) #[pV b1] #[]) 0 hS rfl underlying185 underlying3 rfl rfl hc239 rfl) rfl rfl (rq [0, 0, 0, 0, 0] hS.d0.d0 ?_)
    refine it (RP.nil (RQ.then_n (RC.seq (sr (pn 2 rfl (ln (jfs (sr (rr [0, 3] hS ?_)))))))))
    refine it fun w hS => ?_
    obtain ⟨t240, hg241, h⟩ := h.bind
    have hc := kernel_Kernel_set.ok hg241 hS.p1
    refine RL.e (OW.call (ls := [.tmp 27]) rfl rfl call96 rfl hc) rfl rfl ?_
    rintro _ w ⟨rfl, hS⟩
    refine pn 1 rfl (lr ?_)
    cases h.some
    exact rt results45 rfl ⟨_, (Sub.refl _), rfl, hS.d1.d1⟩
   have h := h.neg hc239
   refine RP.v1 4 rfl (Vl.lookupN 0 hS rfl underlying185 underlying3 zeroValue129 rfl rfl ⟨⟨_, rfl, hc199⟩, ⟨_, rfl, hc202⟩, ⟨_, rfl, hc205⟩, ⟨_, rfl, hc211⟩, ⟨_, rfl, hc214⟩, ⟨_, rfl, hc219⟩, ⟨_, rfl, hc224⟩, ⟨_, rfl, hc227⟩, ⟨_, rfl, hc230⟩, ⟨_, rfl, hc233⟩, ⟨_, rfl, hc236⟩, ⟨_, rfl, hc239⟩, trivial⟩) rfl rfl (rq [0, 0, 0, 0, 0] hS.d0.d0 ?_)
   refine it (RP.nil (RQ.then_n (RC.seq (sr (pn 2 rfl (ln (jtr (pn 1 rfl (ln ?_)))))))))
   refine RC.ret (RQ.ret ?_)
   cases h.some
   exact rt results45 rfl ⟨_, (Sub.refl _), rfl, hS.d0.d1⟩
  refine jtr (pn 1 rfl (lr (ir ?_)))
  have hS := O_kernel_Kernel.c (x := a2) hr156 hr159 hr162 hS
  cases h.some
  exact rt results45 rfl ⟨_, (Sub.refl _), rfl, hS.d1⟩
def kernel_Kernel_History.f (a2 : kernel_Kernel) : Option (List api_Done) := ((kernel_Kernel_none_2.f a2).bind fun _ => (if (([] : List api_Done).length + a2.history.length) * 40 ≤ 140737488355328 then some (([] : List api_Done) ++ a2.history) else none))
theorem kernel_Kernel_History.ok {a2 : kernel_Kernel} {b1 : Nat} {r : List api_Done} (h : kernel_Kernel_History.f a2 = some r) (hS : St B w (O_kernel_Kernel hf a2 b1 :: l) hf) :
    Calls prog 46 #[pV b1] w (Ret fun v w => ∃ (A_1 : Option Addr) (c_2 : Nat), v = sV A_1 r c_2 ∧ St B w (OSf E_api_Done 61 (sV A_1 r c_2) r :: O_kernel_Kernel hf a2 b1 :: l) hf) := by
  have h := Holds.of h
  refine en func46 rfl ntmps46 rfl (sr (pn 1 rfl (ln (RC.seq (sr (pn 1 rfl (cF (fun _ hg => kernel_Kernel_none_2.ok hg hS) call68 h rfl rfl rfl ?_)))))))
  rintro _ h _ w ⟨rfl, hS⟩
  refine ln (jfs (sr (r0 3 rfl ?_)))
  obtain ⟨A35, c36, A38, c39, A41, c42, A44, c45, bs46, A48, c49, bs50, b52, A53, c54, hr37, hr40, hr43, hS⟩ := O_kernel_Kernel.o hS
  have hl47 := hS.p2.sepLen
  have hl51 := hS.p4.sepLen
  refine rr [1] hS ?_
  refine it fun w hS => ?_
  obtain ⟨hq55, h⟩ := h.req
  have hS := hS.nilSl E_api_Done 61
  refine RL.e (OW.appendV (E := E_api_Done) (xs := ([] : List api_Done)) (ys := a2.history) 0 hS rfl underlying22 type61 rfl rfl rfl rfl (by decide) (by decide) rfl rfl (hS.slW 7 rfl).2.2 hq55 rfl) rfl rfl ?_
  rintro v58 w hS
  obtain ⟨A56, c57, rfl, _⟩ := hS.osShape 0 rfl
  have hS : St B w (_ :: _ :: _ :: _ :: _ :: _ :: _ :: _ :: l) hf := hS
  refine pn 1 rfl (lr ?_)
  have hS := O_kernel_Kernel.c (x := a2) hr37 hr40 hr43 hS.p7.p7.p7.p7.p7.p7.p7
  cases h.some
  exact rt results46 rfl ⟨A56, c57, rfl, hS.p1⟩
def kernel_Kernel_none_3.f (a2 : List (List api_Instr)) (a6 : List api_Link) (a10 : List api_Start) (a14 a15 a16 : Int) (a21 : List kernel_place) (a26 : List link_Way) (a28 : colour_Token) (a29 a30 a31 : Int) (a34 : List api_Done) (a35 : Int) : Option (Unit) := some ()
theorem kernel_Kernel_none_3.ok {a2 : List (List api_Instr)} {a6 : List api_Link} {a10 : List api_Start} {a14 a15 a16 a29 a30 a31 a35 : Int} {a21 : List kernel_place} {a26 : List link_Way} {a28 : colour_Token} {a34 : List api_Done} {b1 c4 c8 c12 c18 c23 b27 c33 : Nat} {A3 A7 A11 A17 A22 A32 : Option Addr} {bs19 bs24 : List Nat} (hr5 : SlR (Rep.sl E_api_Instr.rep) hf A3 c4 a2) (hr9 : SlR E_api_Link.rep hf A7 c8 a6) (hr13 : SlR E_api_Start.rep hf A11 c12 a10) (hl20 : a21.length = bs19.length) (hl25 : a26.length = bs24.length) {r : Unit} (h : kernel_Kernel_none_3.f a2 a6 a10 a14 a15 a16 a21 a26 a28 a29 a30 a31 a34 a35 = some r) (hS : St B w (O_colour_Token hf a28 b27 :: Cl b1 [sV A3 a2 c4, sV A7 a6 c8, sV A11 a10 c12, .int .u64 a14, iV a15, iV a16, sV A17 bs19 c18, sV A22 bs24 c23, pV b27, iV a29, iV a30, iV a31, sV A32 a34 c33, iV a35] 135 :: OSf FP 169 (sV A17 bs19 c18) bs19 :: SepL (O_kernel_place hf) a21 bs19 :: OSf FP 179 (sV A22 bs24 c23) bs24 :: SepL (O_link_Way hf) a26 bs24 :: OSf E_api_Done 61 (sV A32 a34 c33) a34 :: l) hf) :
    Calls prog 68 #[pV b1] w (Ret fun v w => v = .bool false ∧ St B w (O_colour_Token hf a28 b27 :: Cl b1 [sV A3 a2 c4, sV A7 a6 c8, sV A11 a10 c12, .int .u64 a14, iV a15, iV a16, sV A17 bs19 c18, sV A22 bs24 c23, pV b27, iV a29, iV a30, iV a31, sV A32 a34 c33, iV a35] 135 :: OSf FP 169 (sV A17 bs19 c18) bs19 :: SepL (O_kernel_place hf) a21 bs19 :: OSf FP 179 (sV A22 bs24 c23) bs24 :: SepL (O_link_Way hf) a26 bs24 :: OSf E_api_Done 61 (sV A32 a34 c33) a34 :: l) hf) := by
  have h := Holds.of h
  refine en func68 rfl ntmps68 rfl (sr (pn 1 rfl (lnsr (pn 1 rfl (RL.s (Vl.bn false rfl rfl) rfl (rr [0, 0, 0, 0, 2] hS ?_))))))
  refine it fun w hS => RL.sg (Vl.bn false rfl rfl) rfl rfl (pn 2 rfl (lr ?_))
  exact rt results68 rfl ⟨rfl, hS⟩
def kernel_Kernel_of.f (a2 : List (List api_Instr)) (a6 : List api_Link) (a10 : List api_Start) (a14 a15 a16 : Int) (a21 : List kernel_place) (a26 : List link_Way) (a28 : colour_Token) (a29 a30 a31 : Int) (a34 : List api_Done) (a35 a36 : Int) : Option (Int) := ((kernel_Kernel_none_3.f a2 a6 a10 a14 a15 a16 a21 a26 a28 a29 a30 a31 a34 a35).bind fun _ => (if a36 < 0 then none else (if (a21.length : Int) ≤ a36 then none else (if 0 ≤ a36 ∧ a36 < (a21.length : Int) then some a36 else none))))
theorem kernel_Kernel_of.ok {a2 : List (List api_Instr)} {a6 : List api_Link} {a10 : List api_Start} {a14 a15 a16 a29 a30 a31 a35 a36 : Int} {a21 : List kernel_place} {a26 : List link_Way} {a28 : colour_Token} {a34 : List api_Done} {b1 c4 c8 c12 c18 c23 b27 c33 : Nat} {A3 A7 A11 A17 A22 A32 : Option Addr} {bs19 bs24 : List Nat} (hr5 : SlR (Rep.sl E_api_Instr.rep) hf A3 c4 a2) (hr9 : SlR E_api_Link.rep hf A7 c8 a6) (hr13 : SlR E_api_Start.rep hf A11 c12 a10) (hl20 : a21.length = bs19.length) (hl25 : a26.length = bs24.length) {r : Int} (h : kernel_Kernel_of.f a2 a6 a10 a14 a15 a16 a21 a26 a28 a29 a30 a31 a34 a35 a36 = some r) (hS : St B w (O_colour_Token hf a28 b27 :: Cl b1 [sV A3 a2 c4, sV A7 a6 c8, sV A11 a10 c12, .int .u64 a14, iV a15, iV a16, sV A17 bs19 c18, sV A22 bs24 c23, pV b27, iV a29, iV a30, iV a31, sV A32 a34 c33, iV a35] 135 :: OSf FP 169 (sV A17 bs19 c18) bs19 :: SepL (O_kernel_place hf) a21 bs19 :: OSf FP 179 (sV A22 bs24 c23) bs24 :: SepL (O_link_Way hf) a26 bs24 :: OSf E_api_Done 61 (sV A32 a34 c33) a34 :: l) hf) :
    Calls prog 70 #[pV b1, iV a36] w (Ret fun v w => v = .pointer (some ⟨nth bs19 r, 0, none⟩) ∧ St B w (O_colour_Token hf a28 b27 :: Cl b1 [sV A3 a2 c4, sV A7 a6 c8, sV A11 a10 c12, .int .u64 a14, iV a15, iV a16, sV A17 bs19 c18, sV A22 bs24 c23, pV b27, iV a29, iV a30, iV a31, sV A32 a34 c33, iV a35] 135 :: OSf FP 169 (sV A17 bs19 c18) bs19 :: SepL (O_kernel_place hf) a21 bs19 :: OSf FP 179 (sV A22 bs24 c23) bs24 :: SepL (O_link_Way hf) a26 bs24 :: OSf E_api_Done 61 (sV A32 a34 c33) a34 :: l) hf ∧ 0 ≤ r ∧ r < (a21.length : Int)) := by
  have h := Holds.of h
  refine en func70 rfl ntmps70 rfl (sr (pn 1 rfl (ln (RC.seq (sr (pn 1 rfl (cF (fun _ hg => kernel_Kernel_none_3.ok hr5 hr9 hr13 hl20 hl25 hg hS) call68 h rfl rfl rfl ?_)))))))
  rintro _ h _ w ⟨rfl, hS⟩
  refine pn 5 rfl ?_
  refine RL.iteP 11 rfl h (fun hc59 h => ?_) fun hc59 h => ?_
  next =>
   refine pn 8 rfl (ln (jtr (rr [0, 0, 0] hS ?_)))
   refine fun b60 => it fun w hS => lr (RQ.ret ?_)
   exact h.none
  refine rr [0, 0, 0, 0, 2] hS ?_
  refine it fun w hS => RL.sg (Vl.lenO hl20 underlying131 rfl) rfl rfl (pn 2 rfl (ln ?_))
  refine RC.iteP 19 rfl h (fun hc61 h => ?_) fun hc61 h => ?_
  next =>
   refine jtr (rr [0, 0, 0] hS ?_)
   refine fun b62 => it fun w hS => lr (RQ.ret ?_)
   exact h.none
  refine jfs (sr (rr [0, 0, 0, 2, 0] hS ?_))
  refine it fun w hS => ?_
  obtain ⟨⟨hq63, hq64⟩, h⟩ := h.req
  refine RL.s (Vl.indexOwn 2 hS rfl underlying131 sizeOf169 rfl rfl hq63 (lt_len hl20 hq64)) rfl (RL.s (Vl.load isAgg169 rfl ((hS.slW 2 rfl).2.2.cell (j := 0) hq63 (lt_len hl20 hq64) rfl)) rfl (pn 1 rfl (lr ?_)))
  obtain rfl := h.some
  exact rt results70 rfl ⟨rfl, hS, hq63, hq64⟩
def log_Log_State.f (a2 : log_Log) : Option (api_State) := ((log_Log_none.f a2).bind fun t24 => (if t24 = true then some (⟨(⟨0, 0, 0, 0, 0, 0, 0, 0⟩ : Arr8xInti64), 0, 0⟩ : api_State) else some a2.state))
theorem log_Log_State.ok {a2 : log_Log} {b1 : Nat} {r : api_State} (h : log_Log_State.f a2 = some r) (hS : St B w (O_log_Log hf a2 b1 :: l) hf) :
    Calls prog 98 #[pV b1] w (Ret fun v w => v = .agg (C_api_State r).toArray ∧ St B w (O_log_Log hf a2 b1 :: l) hf) := by
  have h := Holds.of h
  refine en func98 rfl ntmps98 rfl (sr (rr [0] hS ?_))
  refine fun b20 => it fun w hS => ln (RC.seq (sr (pn 1 rfl (cF (fun _ hg => log_Log_none.ok hg hS.p1) call138 h rfl rfl rfl ?_))))
  rintro t24 h _ w ⟨rfl, hS⟩
  refine ln ?_
  refine RC.iteB 4 rfl h (fun hc26 h => ?_) fun hc26 h => ?_
  next =>
   refine jtr (rr [0, 2] hS ?_)
   refine it fun w hS => lr (RQ.ret ?_)
   cases h.some
   refine rz [1] results98 hS ?_
   exact it ⟨rfl, hS.d1⟩
  refine jfs (sr (r0 3 rfl ?_))
  obtain ⟨A27, c28, A30, c31, A33, c34, cs35, hr29, hr32, hx36, hS⟩ := O_log_Log.o hS
  refine rr [1, 3] hS ?_
  refine it fun w hS => lr ?_
  have hS := O_log_Log.c (x := a2) hr29 hr32 hx36 hS
  cases h.some
  refine rz [1] results98 hS ?_
  exact it ⟨rfl, hS.d1⟩
def lane_Lane_State.f (a2 : lane_Lane) : Option (api_State) := ((lane_Lane_none.f a2).bind fun _ => ((log_Log_State.f a2.log).bind fun t57 => some t57))
theorem lane_Lane_State.ok {a2 : lane_Lane} {b1 : Nat} {r : api_State} (h : lane_Lane_State.f a2 = some r) (hS : St B w (O_lane_Lane hf a2 b1 :: l) hf) :
    Calls prog 71 #[pV b1] w (Ret fun v w => v = .agg (C_api_State r).toArray ∧ St B w (O_lane_Lane hf a2 b1 :: l) hf) := by
  have h := Holds.of h
  refine en func71 rfl ntmps71 rfl (sr (rr [0] hS ?_))
  refine fun b32 => it fun w hS => ln (RC.seq (sr (pn 1 rfl (cF (fun _ hg => lane_Lane_none.ok hg hS.p1) call97 h rfl rfl rfl ?_))))
  rintro _ h _ w ⟨rfl, hS⟩
  refine ln (jfs (sr (r0 3 rfl ?_)))
  obtain ⟨A37, c38, A40, c41, A43, c44, A46, c47, b49, b50, A51, c52, A53, c54, b55, b56, hr39, hr42, hr45, hr48, hS⟩ := O_lane_Lane.o hS
  refine rr [1] hS ?_
  refine it fun w hS => cF (fun _ hg => log_Log_State.ok hg hS.p1) call98 h rfl rfl rfl ?_
  rintro t57 h _ w ⟨rfl, hS⟩
  refine rr [8] hS ?_
  refine it fun w hS => lr ?_
  have hS := O_lane_Lane.c (x := a2) hr39 hr42 hr45 hr48 hS.p1
  obtain rfl := h.some
  refine rz [1] results71 hS ?_
  exact it ⟨rfl, hS.d1⟩
def kernel_Kernel_State.f (a2 : kernel_Kernel) (a3 : Int) : Option (api_State) := ((kernel_Kernel_of.f a2.m.Progs a2.m.Links a2.m.Starts a2.m.Seed a2.m.End a2.m.Budget a2.at_ a2.ways a2.token a2.global a2.window a2.width a2.history a2.stop a3).bind fun t61 => ((lane_Lane_State.f ((nth a2.at_ t61).Lane)).bind fun t72 => some t72))
theorem kernel_Kernel_State.ok {a2 : kernel_Kernel} {a3 : Int} {b1 : Nat} {r : api_State} (h : kernel_Kernel_State.f a2 a3 = some r) (hS : St B w (O_kernel_Kernel hf a2 b1 :: l) hf) :
    Calls prog 47 #[pV b1, iV a3] w (Ret fun v w => v = .agg (C_api_State r).toArray ∧ St B w (O_kernel_Kernel hf a2 b1 :: l) hf) := by
  have h := Holds.of h
  refine en func47 rfl ntmps47 rfl (sr (rr [0] hS ?_))
  refine fun b40 => it fun w hS => lnsr (pn 2 rfl ?_)
  obtain ⟨A41, c42, A44, c45, A47, c48, A50, c51, bs52, A54, c55, bs56, b58, A59, c60, hr43, hr46, hr49, hS⟩ := O_kernel_Kernel.o hS.p1
  have hl53 := hS.p2.sepLen
  have hl57 := hS.p4.sepLen
  refine cF (fun _ hg => kernel_Kernel_of.ok hr43 hr46 hr49 hl53 hl57 hg hS.p5) call70 h rfl rfl rfl ?_
  rintro t61 h _ w ⟨rfl, hS, hz63, hz64⟩
  refine pn 1 rfl ?_
  have hS := hS.p3.sepTake hz63 hz64
  refine r0 1 rfl ?_
  obtain ⟨b65, b66, b67, A68, c69, b71, hr70, hS⟩ := O_kernel_place.o hS
  refine rr [1] hS ?_
  refine it fun w hS => cF (fun _ hg => lane_Lane_State.ok hg hS.p1) call71 h rfl rfl rfl ?_
  rintro t72 h _ w ⟨rfl, hS⟩
  refine rr [13] hS ?_
  refine it fun w hS => lr ?_
  have hS := O_kernel_place.c (x := nth a2.at_ t61) hr70 hS.p1
  have hS := hS.sepPut0 hz63 hz64
  have hS := O_kernel_Kernel.c (x := a2) hr43 hr46 hr49 hS.p5.p5.p2.p5.p5
  obtain rfl := h.some
  refine rz [1] results47 hS ?_
  exact it ⟨rfl, hS.d1⟩
def kernel_Run.l9b (a12 : List api_Pick) : Int → Option ((Int) ⊕ (api_Result × Int))
  | (x656) => (if x656 < (a12.length : Int) then (if 0 ≤ x656 then ((kernel_Kernel_Do.f (nth a12 x656)).bind fun t677 => some (.inl (IntKind.i64.wrap (x656 + 1)))) else none) else (Option.map Sum.inr none))
def kernel_Run.l9 (a12 : List api_Pick) (s : Int) : Option (api_Result × Int) := loopR (kernel_Run.l9b a12) s
def kernel_Run.l14b (y791 : kernel_Kernel) (l861 : List api_Done) : List api_State × Int → Option ((List api_State × Int) ⊕ (api_Result × Int))
  | (l1105, x1108) => (if x1108 < (y791.at_.length : Int) then ((kernel_Kernel_State.f y791 x1108).bind fun t1139 => (if (l1105.length + 1) * 80 ≤ 140737488355328 then some (.inl ((l1105 ++ ([t1139])), IntKind.i64.wrap (x1108 + 1))) else none)) else some (.inr ((⟨l861, l1105, y791.stop⟩ : api_Result), 0)))
def kernel_Run.l14 (y791 : kernel_Kernel) (l861 : List api_Done) (s : List api_State × Int) : Option (api_Result × Int) := loopR (kernel_Run.l14b y791 l861) s
def kernel_Run.j12 (y791 : kernel_Kernel) (l861 : List api_Done) : Option (api_Result × Int) := kernel_Run.l14 y791 l861 ([], 0)
def kernel_Run.l11b (a12 : List api_Pick) : kernel_Kernel × Int → Option ((kernel_Kernel × Int) ⊕ (api_Result × Int))
  | (y791, x792) => (if x792 < (a12.length : Int) then (if 0 ≤ x792 then ((kernel_Kernel_Do_2.f y791 (nth a12 x792)).bind fun (y827, y828) => some (.inl (y828, IntKind.i64.wrap (x792 + 1)))) else none) else (Option.map Sum.inr ((kernel_Kernel_History.f y791).bind fun t1166 => kernel_Run.j12 y791 t1166)))
def kernel_Run.l11 (a12 : List api_Pick) (s : kernel_Kernel × Int) : Option (api_Result × Int) := loopR (kernel_Run.l11b a12) s
def kernel_Run.f (a1 : api_Model) (a11 : api_Caps) (a12 : List api_Pick) : Option (api_Result × Int) := ((kernel_New.f a1 a11).bind fun t610 => match t610 with | .inl y612 => (if y612 = 0 then kernel_Run.l9 a12 (0) else some ((⟨([] : List api_Done), ([] : List api_State), 0⟩ : api_Result), y612)) | .inr ((y679, y680)) => (if y680 = 0 then kernel_Run.l11 a12 (y679, 0) else some ((⟨([] : List api_Done), ([] : List api_State), 0⟩ : api_Result), y680)))
theorem kernel_Run.ok {a1 : api_Model} {a11 : api_Caps} {a12 : List api_Pick} {A2 A5 A8 A13 : Option Addr} {c3 c6 c9 c14 : Nat} (hr4 : SlR (Rep.sl E_api_Instr.rep) hf A2 c3 a1.Progs) (hr7 : SlR E_api_Link.rep hf A5 c6 a1.Links) (hr10 : SlR E_api_Start.rep hf A8 c9 a1.Starts) (hr15 : SlR E_api_Pick.rep hf A13 c14 a12) (hG0 : GlobAt hf 0 (.iface 144 (.agg #[.pointer (some ⟨9, 53, none⟩)]))) {r : api_Result × Int} (h : kernel_Run.f a1 a11 a12 = some r) (hS : St B w (l) hf) :
    Calls prog 30 #[.agg (C_api_Model a1 A2 c3 A5 c6 A8 c9).toArray, .agg (C_api_Caps a11).toArray, sV A13 a12 c14] w (Ret fun v w => ∃ (A_1 : Option Addr) (c_2 : Nat) (A_3 : Option Addr) (c_4 : Nat), v = .tuple #[.agg (C_api_Result r.1 A_1 c_2 A_3 c_4).toArray, iV r.2] ∧ St B w (OSf E_api_Done 61 (sV A_1 r.1.History c_2) r.1.History :: OSf E_api_State 64 (sV A_3 r.1.States c_4) r.1.States :: l) hf) := by
  have h := Holds.of h
  refine en func30 rfl ntmps30 rfl (sr (rr [0, 0, 0, 0] hS ?_))
  refine fun b599 b600 b601 => it fun w hS => lnsr (rr [3, 2] hS ?_)
  refine it fun w hS => ?_
  obtain ⟨t610, hg611, h⟩ := h.bind
  have hc := kernel_New.ok hr4 hr7 hr10 hG0 hg611 hS
  rcases t610 with y612 | ⟨y679, y680⟩
  · refine RL.e (OW.callF (ls := [.tmp 15, .tmp 16]) rfl call44 hc) rfl rfl ?_
    rintro _ w ⟨rfl, hS⟩
    refine pn 5 rfl (ln (RC.seq (sr (pn 2 rfl (ln ?_)))))
    refine RC.iteN 21 rfl h (fun hc614 h => ?_) fun hc614 h => ?_
    next =>
     refine jfs (RC.seq (sr (r0 3 rfl (ln (RC.block (fun a ha => lp h (fun (s : Int) a w => ∃ x656, s = (x656) ∧ Has 59 [(6, pV b601), (8, .pointer none), (24, sV A13 a12 c14), (25, iV (a12.length : Int)), (26, iV x656)] a ∧ St B w (Cl b601 [.slice none 0 0, .slice none 0 0, iV 0] 25 :: l) hf) ⟨_, rfl, ha.tE rfl, hS.d1.d1⟩ ?_))))))
     rintro G668 x656 a w ⟨_, rfl, ha, hS⟩ h
     refine ro ha (sr (pn 1 rfl (ln (RC.seq ?_))))
     refine RC.iteP 27 rfl h (fun hc670 h => ?_) fun hc670 h => ?_
     next =>
      refine jt (sk (RC.seq (RC.block (sr ?_))))
      obtain ⟨hq675, h⟩ := h.req
      refine RL.s (Vl.indexAddr underlying37 sizeOf80 rfl rfl ((hr15.2.world hS.sub).adr hq675 hc670) hq675 hc670 rfl) rfl (RL.s (Vl.loadA isAgg80 sizeOf80 rfl rfl ((hr15.2.world hS.sub).cells hq675 hc670)) rfl (rr [0, 1] hS ?_))
      refine fun b676 => it fun w hS => ln (RC.region (rr [0, 1] hS ?_))
      refine it fun w hS => cF (fun _ hg => kernel_Kernel_Do.ok hg hS) call45 h rfl rfl rfl ?_
      rintro t677 h _ w ⟨rfl, hS⟩
      refine RL.nil (RQ.inB_n (RQ.then_n (RC.region (pn 2 rfl (RL.nil ?_)))))
      exact fun a ha => ⟨_, h.some, _, rfl, ha.tE rfl, hS.d0⟩
     refine jf (RC.exit (RQ.exitT ?_))
     have h := h.inr
     refine RQ.exitT (RQ.inB_hit (RQ.then_n (RC.seq (RC.planS (.pure 0 (.pure 2 (.pure 3 (.pure 4 (.early 5 0 (.fork 1 7 (.pure 6 (.last 7 (.last 8 .nil))) (.last 1 (.last 6 (.last 8 .nil))))))))) [8] hS (fun w hS => hS) follows rfl (by kernel_rfl) (NoTmp.then NoTmp.body) fun w hS => pp 2 rfl ?_))))
     exact h.none
    refine jtr (rr [0, 0, 1, 0] hS ?_)
    refine it fun w hS => lr (RQ.ret ?_)
    have hS := hS.nilSl E_api_Done 61
    have hS := hS.nilSl E_api_State 64
    cases h.some
    refine rz [2] results30 hS ?_
    exact it ⟨none, 0, none, 0, rfl, hS.d2.d2.d2.p1⟩
  refine RL.e (OW.callF (ls := [.tmp 15, .tmp 16]) rfl call44 hc) rfl rfl ?_
  rintro _ w ⟨hf, hs682, b681, rfl, hS⟩
  refine pn 5 rfl (ln (RC.seq (sr (pn 2 rfl (ln ?_)))))
  refine RC.iteN 21 rfl h (fun hc684 h => ?_) fun hc684 h => ?_
  next =>
   refine jfs (RC.seq (sr (r0 3 rfl (ln (RC.block (fun a ha => lp h (fun (s : kernel_Kernel × Int) a w => ∃ y791 x792, s = (y791, x792) ∧ ∃ hf_, Sub hf hf_ ∧ Has 59 [(6, pV b601), (8, pV b681), (24, sV A13 a12 c14), (25, iV (a12.length : Int)), (26, iV x792)] a ∧ St B w (O_kernel_Kernel hf_ y791 b681 :: Cl b601 [.slice none 0 0, .slice none 0 0, iV 0] 25 :: l) hf_) ⟨_, _, rfl, _, (Sub.refl _), ha.tE rfl, hS.d2.d2⟩ ?_))))))
   rintro G812 _ a w ⟨y791, x792, rfl, hf, hs773, ha, hS⟩ h
   refine ro ha (sr (pn 1 rfl (ln (RC.seq ?_))))
   refine RC.iteP 27 rfl h (fun hc814 h => ?_) fun hc814 h => ?_
   next =>
    refine jt (sk (RC.seq (RC.block (sr ?_))))
    obtain ⟨hq823, h⟩ := h.req
    refine RL.s (Vl.indexAddr underlying37 sizeOf80 rfl rfl ((((hr15.mono hs682).mono hs773).2.world hS.sub).adr hq823 hc814) hq823 hc814 rfl) rfl (RL.s (Vl.loadA isAgg80 sizeOf80 rfl rfl ((((hr15.mono hs682).mono hs773).2.world hS.sub).cells hq823 hc814)) rfl (rr [0, 1] hS ?_))
    refine fun b824 => it fun w hS => ln (RC.region (rr [0, 1] hS ?_))
    refine it fun w hS => cF (fun _ hg => kernel_Kernel_Do_2.ok ((hG0.mono hs682).mono hs773) hg hS.p1) call45 h rfl rfl rfl ?_
    rintro ⟨y827, y828⟩ h _ w ⟨hf, hs829, rfl, hS⟩
    refine RL.nil (RQ.inB_n (RQ.then_n (RC.region (pn 2 rfl (RL.nil ?_)))))
    exact fun a ha => ⟨_, h.some, _, _, rfl, _, (hs773.trans hs829), ha.tE rfl, hS.d1⟩
   refine jf (RC.exit (RQ.exitT ?_))
   have h := h.inr
   refine RQ.exitT (RQ.inB_hit (RQ.then_n ?_))
   refine RC.join (fun (s : List api_Done) a w => ∃ l861, s = (l861) ∧ Holds (· = r) (kernel_Run.j12 y791 l861) ∧ ∃ b860 A862 c863, Has 59 [(6, pV b601), (8, pV b681), (12, pV b860)] a ∧ St B w (OSf E_api_Done 61 (sV A862 l861 c863) l861 :: O_kernel_Kernel hf y791 b681 :: Cl b601 [.slice none 0 0, .slice none 0 0, iV 0] 25 :: Cl b860 [sV A862 l861 c863, .slice none 0 0, iV y791.stop] 25 :: l) hf) ?_ ?_
   · rintro l861 a w ⟨_, rfl, h, b860, A862, c863, ha, hS⟩
     refine ro ha (RC.seq (sr (r0 3 rfl ?_)))
     obtain ⟨A1065, c1066, A1068, c1069, A1071, c1072, A1074, c1075, bs1076, A1078, c1079, bs1080, b1082, A1083, c1084, hr1067, hr1070, hr1073, hS⟩ := O_kernel_Kernel.o hS.p1
     have hl1077 := hS.p2.sepLen
     have hl1081 := hS.p4.sepLen
     refine rr [1] hS ?_
     refine it fun w hS => RL.s (Vl.lenO hl1077 underlying131 rfl) rfl (pn 1 rfl (ln (RC.block ?_)))
     have hS := O_kernel_Kernel.c (x := y791) hr1067 hr1070 hr1073 hS
     have hS := hS.nilSl E_api_State 64
     refine fun a ha => lp h (fun (s : List api_State × Int) a w => ∃ l1105 x1108, s = (l1105, x1108) ∧ ∃ A1106 c1107, Has 59 [(6, pV b601), (8, pV b681), (12, pV b860), (45, iV (y791.at_.length : Int)), (46, iV x1108)] a ∧ St B w (OSf E_api_Done 61 (sV A862 l861 c863) l861 :: OSf E_api_State 64 (sV A1106 l1105 c1107) l1105 :: O_kernel_Kernel hf y791 b681 :: Cl b601 [.slice none 0 0, .slice none 0 0, iV 0] 25 :: Cl b860 [sV A862 l861 c863, sV A1106 l1105 c1107, iV y791.stop] 25 :: l) hf) ⟨_, _, rfl, _, _, ha.tE rfl, hS.p2⟩ ?_
     rintro G1129 _ a w ⟨l1105, x1108, rfl, A1106, c1107, ha, hS⟩ h
     refine ro ha (sr (pn 1 rfl (ln (RC.seq ?_))))
     refine RC.iteP 47 rfl h (fun hc1131 h => ?_) fun hc1131 h => ?_
     next =>
      refine jt (sk (RC.seq (RC.block (sr (pn 2 rfl (ln (dr [0, 4, 6, 11, 14, 17, 20, 23, 26] [6, 7, 8] hS fun w hS => rq [0, 5, 0, 0] hS ?_)))))))
      refine it ?_
      obtain ⟨t1139, hg1140, h⟩ := h.bind
      have hc := kernel_Kernel_State.ok hg1140 hS.p2
      refine RP.e 4 rfl (OW.callF (ls := [.tmp 51, .tmp 52]) rfl call47 hc) rfl rfl ?_
      rintro _ w ⟨rfl, hS⟩
      refine ⟨kp ⟨fun _ => hS.p2.p2, trivial⟩, ?_⟩
      refine RP.e 5 rfl (OW.buildSlice (E := E_api_State) (xs := [t1139]) (cs := (C_api_State t1139)) hS underlying23 zeroValue64 sizeOf64 (parts := [(0, .tmp 53)]) rfl rfl (by decide) (by decide) (by kernel_rfl) rfl) rfl rfl ?_
      rintro _ w ⟨b1141, rfl, hS⟩
      refine ⟨kp ⟨fun _ => hS.d0.p2.p2, trivial⟩, ?_⟩
      obtain ⟨hq1142, h⟩ := h.req
      refine RP.e 6 rfl (OW.append (E := E_api_State) (xs := l1105) (ys := [t1139]) 3 hS rfl underlying23 type64 rfl rfl rfl rfl (by decide) rfl rfl rfl (hS.slW 0 rfl).2.2.flat (by simp only [maxLen, List.length_cons, List.length_nil] at *; omega) hq1142 rfl) rfl rfl ?_
      rintro v1145 w hS
      obtain ⟨A1143, c1144, rfl, _⟩ := hS.osShape 0 rfl
      have hS : St B w (_ :: _ :: _ :: _ :: _ :: _ :: l) hf := hS
      refine ⟨kp ⟨(by intro hx; cases hx), trivial⟩, ?_⟩
      refine RP.v1 7 rfl (Vl.fa 1 underlying25 rfl sizeOf23 rfl rfl) rfl rfl (RP.e0 8 rfl (OW.store (vs := [.slice A1143 (l1105 ++ ([t1139])).length c1144]) 5 hS rfl rfl rfl rfl sizeOf23 rfl rfl rfl rfl) rfl ?_)
      rintro _ w ⟨rfl, hS⟩
      have hS : St B w (_ :: _ :: _ :: _ :: _ :: Cl _ [_, _, _] _ :: l) hf := hS
      refine ⟨kp ⟨(by intro hx; cases hx), trivial⟩, ?_⟩
      refine RP.nil (RQ.inB_n (RQ.then_n (RC.region (pn 2 rfl (RL.nil ?_)))))
      exact fun a ha => ⟨_, h.some, _, _, rfl, _, _, ha.tE rfl, hS.d1.p2⟩
     refine jf (RC.exit (RQ.exitT ?_))
     have h := h.inrS
     refine RQ.exitT (RQ.inB_hit (tsr (rr [5, 4, 0] hS ?_)))
     refine it fun w hS => lr ?_
     cases h.some
     refine rz [3] results30 hS ?_
     exact it ⟨A862, c863, A1106, c1107, rfl, (hS.d2.d2.d2).down (hs682.trans hs773)⟩
   refine RC.planS (.pure 0 (.pure 2 (.pure 3 (.pure 4 (.early 5 0 (.fork 1 7 (.pure 6 (.last 7 (.last 8 .nil))) (.last 1 (.last 6 (.last 8 .nil))))))))) [8] hS (fun w hS => hS) follows rfl (by kernel_rfl) (NoTmp.then NoTmp.body) fun w hS => rq [0, 0, 0, 0] hS ?_
   refine it (RP.s 0 5 rfl rfl hS (fun w hS => by obtain ⟨_, _, _, _, _, _, _, _, _, _, _, _, _, _, _, _, _, _, hS⟩ := O_kernel_Kernel.o (hS.pull 0 rfl rfl); exact Vl.ld 0 hS isAgg3 rfl rfl rfl) rfl ?_)
   refine RP.fork ?_ ?_
   · obtain ⟨t1166, hg1167, h⟩ := h.bind
     have hc := kernel_Kernel_History.ok hg1167 hS
     refine RPW.e 1 rfl (OW.callF (ls := [.tmp 34]) rfl call46 hc) rfl rfl ?_
     rintro _ w ⟨A1168, c1169, rfl, hS⟩
     refine ⟨kp ⟨fun _ => hS.d0, trivial⟩, ?_⟩
     refine rq [0] hS.d0 ?_
     refine it (RP.e 7 rfl (OW.alloc (cs := [.slice none 0 0, .slice none 0 0, iV 0]) hS zeroValue25 rfl) rfl rfl ?_)
     rintro _ w ⟨b1170, rfl, hS⟩
     refine ⟨kp ⟨fun _ => hS.d0.d0, trivial⟩, ?_⟩
     refine RP.e0 8 rfl (OW.store (vs := [sV A1168 t1166 c1169, .slice none 0 0, iV y791.stop]) 0 hS rfl rfl rfl rfl sizeOf25 rfl rfl rfl rfl) rfl ?_
     rintro _ w ⟨rfl, hS⟩
     have hS : St B w (Cl _ [_, _, _] _ :: _ :: _ :: _ :: l) hf := hS
     refine ⟨kp ⟨(by intro hx; cases hx), trivial⟩, ?_⟩
     refine RP.nil ?_
     exact fun a ha => ⟨_, _, rfl, h, _, _, _, ha.tE rfl, hS.p3.p3.p3⟩
   · refine RPW.e 7 rfl (OW.alloc (cs := [.slice none 0 0, .slice none 0 0, iV 0]) hS zeroValue25 rfl) rfl rfl ?_
     rintro _ w ⟨b1171, rfl, hS⟩
     refine ⟨kp ⟨fun _ => hS.d0, trivial⟩, ?_⟩
     obtain ⟨t1172, hg1173, h⟩ := h.bind
     have hc := kernel_Kernel_History.ok hg1173 hS.p1
     refine RP.e 1 rfl (OW.callF (ls := [.tmp 34]) rfl call46 hc) rfl rfl ?_
     rintro _ w ⟨A1174, c1175, rfl, hS⟩
     refine ⟨kp ⟨fun _ => hS.d0.d1, trivial⟩, ?_⟩
     refine rq [0] hS.d0.d1 ?_
     refine it (RP.e0 8 rfl (OW.store (vs := [sV A1174 t1172 c1175, .slice none 0 0, iV y791.stop]) 2 hS rfl rfl rfl rfl sizeOf25 rfl rfl rfl rfl) rfl ?_)
     rintro _ w ⟨rfl, hS⟩
     have hS : St B w (_ :: _ :: Cl _ [_, _, _] _ :: _ :: l) hf := hS
     refine ⟨kp ⟨(by intro hx; cases hx), trivial⟩, ?_⟩
     refine RP.nil ?_
     exact fun a ha => ⟨_, _, rfl, h, _, _, _, ha.tE rfl, hS.p3.p2.p2⟩
  refine jtr (rr [0, 0, 2, 0] hS ?_)
  refine it fun w hS => lr (RQ.ret ?_)
  have hS := hS.nilSl E_api_Done 61
  have hS := hS.nilSl E_api_State 64
  cases h.some
  refine rz [3] results30 hS ?_
  exact it ⟨none, 0, none, 0, rfl, (hS.d2.d2.d2.d2.p1).down hs682⟩
def script_Told_1.l4b (a2 : List Int) : ByteArray × Int → Option ((ByteArray × Int) ⊕ (ByteArray))
  | (s146, x147) => (if x147 < (a2.length : Int) then (if 0 ≤ x147 then (if -9223372036854775808 ≤ nth a2 x147 ∧ nth a2 x147 ≤ 9223372036854775807 then (if lit_20.size + (itoaB (nth a2 x147)).size ≤ 9223372036854775807 then (if s146.size + (lit_20 ++ (itoaB (nth a2 x147))).size ≤ 140737488355328 then some (.inl (s146 ++ (lit_20 ++ (itoaB (nth a2 x147))), IntKind.i64.wrap (x147 + 1))) else none) else none) else none) else none) else (Option.map Sum.inr (if s146.size + lit_0a.size ≤ 140737488355328 then some (s146 ++ lit_0a) else none)))
def script_Told_1.l4 (a2 : List Int) (s : ByteArray × Int) : Option (ByteArray) := loopR (script_Told_1.l4b a2) s
def script_Told_1.f (a1 : ByteArray) (a2 : List Int) (a7 : ByteArray) : Option (ByteArray) := (if a7.size + a1.size ≤ 140737488355328 then script_Told_1.l4 a2 (a7 ++ a1, 0) else none)
theorem script_Told_1.ok {a1 a7 : ByteArray} {a2 : List Int} {A3 : Option Addr} {c4 b6 : Nat} (hr5 : SlR ((FI .i64).rep) hf A3 c4 a2) (hT : TabH prog hf) {r : ByteArray} (h : script_Told_1.f a1 a2 a7 = some r) (hS : St B w (Bd 50 5 [] a7 b6 :: l) hf) :
    Calls prog 13 #[.string a1, sV A3 a2 c4, pV b6] w (Ret fun v w => v = .tuple #[] ∧ St B w (Bd 50 5 [] r b6 :: l) hf) := by
  have h := Holds.of h
  refine en func13 rfl ntmps13 rfl (sr (pn 1 rfl ?_))
  obtain ⟨hq92, h⟩ := h.req
  refine RL.e (OW.callF (ls := [.tmp 2, .tmp 7]) rfl call14 (bld_write a1 bldT50 hq92 hS)) rfl rfl ?_
  rintro _ w ⟨rfl, hS⟩
  refine ln (RC.seq (sr (r0 3 rfl (ln (RC.block (fun a ha => lp h (fun (s : ByteArray × Int) a w => ∃ s146 x147, s = (s146, x147) ∧ Has 21 [(2, pV b6), (9, sV A3 a2 c4), (10, iV (a2.length : Int)), (11, iV x147)] a ∧ St B w (Bd 50 5 [] s146 b6 :: l) hf) ⟨_, _, rfl, ha.tE rfl, hS⟩ ?_))))))
  rintro G162 _ a w ⟨s146, x147, rfl, ha, hS⟩ h
  refine ro ha (sr (pn 1 rfl (ln (RC.seq ?_))))
  refine RC.iteP 12 rfl h (fun hc164 h => ?_) fun hc164 h => ?_
  next =>
   refine jt (sk (RC.seq (RC.block (sr ?_))))
   obtain ⟨hq170, h⟩ := h.req
   refine RL.s (Vl.indexAddr underlying51 sizeOf2 rfl rfl ((hr5.2.world hS.sub).adr hq170 hc164) hq170 hc164 rfl) rfl (RL.s (Vl.load isAgg2 rfl ((hr5.2.world hS.sub).cell (j := 0) hq170 hc164 rfl)) rfl (pn 1 rfl (ln (RC.region (pn 1 rfl ?_)))))
   obtain ⟨⟨hq171, hq172⟩, h⟩ := h.req
   refine RL.e (OW.callF (ls := [.tmp 15, .const (iV 10)]) rfl call15 (format_ok strconv_FormatInt_10 (nth a2 x147) hq171 hq172 hT hS)) rfl rfl ?_
   rintro _ w ⟨rfl, hS⟩
   obtain ⟨hq173, h⟩ := h.req
   refine RL.s (Vl.strAdd hq173 rfl rfl) rfl ?_
   obtain ⟨hq174, h⟩ := h.req
   refine RL.e (OW.callF (ls := [.tmp 2, .tmp 17]) rfl call14 (bld_write (lit_20 ++ (itoaB (nth a2 x147))) bldT50 hq174 hS)) rfl rfl ?_
   rintro _ w ⟨rfl, hS⟩
   refine RL.nil (RQ.inB_n (RQ.then_n (RC.region (pn 2 rfl (RL.nil ?_)))))
   exact fun a ha => ⟨_, h.some, _, _, rfl, ha.tE rfl, hS⟩
  refine jf (RC.exit (RQ.exitT ?_))
  have h := h.inr
  refine RQ.exitT (RQ.inB_hit (RQ.then_n (RC.region ?_)))
  obtain ⟨hq175, h⟩ := h.req
  refine RL.e (OW.callF (ls := [.tmp 2, .const (.string lit_0a)]) rfl call14 (bld_write lit_0a bldT50 hq175 hS)) rfl rfl ?_
  rintro _ w ⟨rfl, hS⟩
  refine RL.nil ?_
  cases h.some
  exact rtE results13 rfl ⟨rfl, hS⟩
def script_Told_1v2.f (a1 : ByteArray) (a3 : api_State) (a5 : ByteArray) : Option (ByteArray) := (if a5.size + a1.size ≤ 140737488355328 then (if -9223372036854775808 ≤ a3.Regs.c0 ∧ a3.Regs.c0 ≤ 9223372036854775807 then (if lit_20.size + (itoaB a3.Regs.c0).size ≤ 9223372036854775807 then (if (a5 ++ a1).size + (lit_20 ++ (itoaB a3.Regs.c0)).size ≤ 140737488355328 then (if -9223372036854775808 ≤ a3.Regs.c1 ∧ a3.Regs.c1 ≤ 9223372036854775807 then (if lit_20.size + (itoaB a3.Regs.c1).size ≤ 9223372036854775807 then (if ((a5 ++ a1) ++ (lit_20 ++ (itoaB a3.Regs.c0))).size + (lit_20 ++ (itoaB a3.Regs.c1)).size ≤ 140737488355328 then (if -9223372036854775808 ≤ a3.Regs.c2 ∧ a3.Regs.c2 ≤ 9223372036854775807 then (if lit_20.size + (itoaB a3.Regs.c2).size ≤ 9223372036854775807 then (if (((a5 ++ a1) ++ (lit_20 ++ (itoaB a3.Regs.c0))) ++ (lit_20 ++ (itoaB a3.Regs.c1))).size + (lit_20 ++ (itoaB a3.Regs.c2)).size ≤ 140737488355328 then (if -9223372036854775808 ≤ a3.Regs.c3 ∧ a3.Regs.c3 ≤ 9223372036854775807 then (if lit_20.size + (itoaB a3.Regs.c3).size ≤ 9223372036854775807 then (if ((((a5 ++ a1) ++ (lit_20 ++ (itoaB a3.Regs.c0))) ++ (lit_20 ++ (itoaB a3.Regs.c1))) ++ (lit_20 ++ (itoaB a3.Regs.c2))).size + (lit_20 ++ (itoaB a3.Regs.c3)).size ≤ 140737488355328 then (if -9223372036854775808 ≤ a3.Regs.c4 ∧ a3.Regs.c4 ≤ 9223372036854775807 then (if lit_20.size + (itoaB a3.Regs.c4).size ≤ 9223372036854775807 then (if (((((a5 ++ a1) ++ (lit_20 ++ (itoaB a3.Regs.c0))) ++ (lit_20 ++ (itoaB a3.Regs.c1))) ++ (lit_20 ++ (itoaB a3.Regs.c2))) ++ (lit_20 ++ (itoaB a3.Regs.c3))).size + (lit_20 ++ (itoaB a3.Regs.c4)).size ≤ 140737488355328 then (if -9223372036854775808 ≤ a3.Regs.c5 ∧ a3.Regs.c5 ≤ 9223372036854775807 then (if lit_20.size + (itoaB a3.Regs.c5).size ≤ 9223372036854775807 then (if ((((((a5 ++ a1) ++ (lit_20 ++ (itoaB a3.Regs.c0))) ++ (lit_20 ++ (itoaB a3.Regs.c1))) ++ (lit_20 ++ (itoaB a3.Regs.c2))) ++ (lit_20 ++ (itoaB a3.Regs.c3))) ++ (lit_20 ++ (itoaB a3.Regs.c4))).size + (lit_20 ++ (itoaB a3.Regs.c5)).size ≤ 140737488355328 then (if -9223372036854775808 ≤ a3.Regs.c6 ∧ a3.Regs.c6 ≤ 9223372036854775807 then (if lit_20.size + (itoaB a3.Regs.c6).size ≤ 9223372036854775807 then (if (((((((a5 ++ a1) ++ (lit_20 ++ (itoaB a3.Regs.c0))) ++ (lit_20 ++ (itoaB a3.Regs.c1))) ++ (lit_20 ++ (itoaB a3.Regs.c2))) ++ (lit_20 ++ (itoaB a3.Regs.c3))) ++ (lit_20 ++ (itoaB a3.Regs.c4))) ++ (lit_20 ++ (itoaB a3.Regs.c5))).size + (lit_20 ++ (itoaB a3.Regs.c6)).size ≤ 140737488355328 then (if -9223372036854775808 ≤ a3.Regs.c7 ∧ a3.Regs.c7 ≤ 9223372036854775807 then (if lit_20.size + (itoaB a3.Regs.c7).size ≤ 9223372036854775807 then (if ((((((((a5 ++ a1) ++ (lit_20 ++ (itoaB a3.Regs.c0))) ++ (lit_20 ++ (itoaB a3.Regs.c1))) ++ (lit_20 ++ (itoaB a3.Regs.c2))) ++ (lit_20 ++ (itoaB a3.Regs.c3))) ++ (lit_20 ++ (itoaB a3.Regs.c4))) ++ (lit_20 ++ (itoaB a3.Regs.c5))) ++ (lit_20 ++ (itoaB a3.Regs.c6))).size + (lit_20 ++ (itoaB a3.Regs.c7)).size ≤ 140737488355328 then (if (((((((((a5 ++ a1) ++ (lit_20 ++ (itoaB a3.Regs.c0))) ++ (lit_20 ++ (itoaB a3.Regs.c1))) ++ (lit_20 ++ (itoaB a3.Regs.c2))) ++ (lit_20 ++ (itoaB a3.Regs.c3))) ++ (lit_20 ++ (itoaB a3.Regs.c4))) ++ (lit_20 ++ (itoaB a3.Regs.c5))) ++ (lit_20 ++ (itoaB a3.Regs.c6))) ++ (lit_20 ++ (itoaB a3.Regs.c7))).size + lit_0a.size ≤ 140737488355328 then some ((((((((((a5 ++ a1) ++ (lit_20 ++ (itoaB a3.Regs.c0))) ++ (lit_20 ++ (itoaB a3.Regs.c1))) ++ (lit_20 ++ (itoaB a3.Regs.c2))) ++ (lit_20 ++ (itoaB a3.Regs.c3))) ++ (lit_20 ++ (itoaB a3.Regs.c4))) ++ (lit_20 ++ (itoaB a3.Regs.c5))) ++ (lit_20 ++ (itoaB a3.Regs.c6))) ++ (lit_20 ++ (itoaB a3.Regs.c7))) ++ lit_0a) else none) else none) else none) else none) else none) else none) else none) else none) else none) else none) else none) else none) else none) else none) else none) else none) else none) else none) else none) else none) else none) else none) else none) else none) else none) else none)
theorem script_Told_1v2.ok {a1 a5 : ByteArray} {a3 : api_State} {b2 b4 : Nat} (hT : TabH prog hf) {r : ByteArray} (h : script_Told_1v2.f a1 a3 a5 = some r) (hS : St B w (Cl b2 (C_api_State a3) 64 :: Bd 50 5 [] a5 b4 :: l) hf) :
    Calls prog 13 #[.string a1, .slice (some ⟨b2, 0, none⟩) 8 8, pV b4] w (Ret fun v w => v = .tuple #[] ∧ St B w (Cl b2 (C_api_State a3) 64 :: Bd 50 5 [] r b4 :: l) hf) := by
  have h := Holds.of h
  refine en func13 rfl ntmps13 rfl (sr (pn 1 rfl ?_))
  obtain ⟨hq136, h⟩ := h.req
  refine RL.e (OW.callF (ls := [.tmp 2, .tmp 7]) rfl call14 (bld_write a1 bldT50 hq136 hS.p1)) rfl rfl ?_
  rintro _ w ⟨rfl, hS⟩
  refine ln (RC.seq (sr (r0 3 rfl (ln (RC.block (RC.unroll (RQ.round (sr (pn 1 rfl (ln ?_))))))))))
  refine RC.seq (jt (sk (RC.seq (RC.block (sr (RL.s (Vl.indexAddr (a'' := ⟨b2, 0, none⟩) underlying51 sizeOf2 rfl rfl rfl (by decide) (by decide) rfl) rfl (rr [2, 0] hS ?_)))))))
  refine it fun w hS => ln (RC.region (pn 1 rfl ?_))
  obtain ⟨⟨hq205, hq206⟩, h⟩ := h.req
  refine RL.e (OW.callF (ls := [.tmp 15, .const (iV 10)]) rfl call15 (format_ok strconv_FormatInt_10 a3.Regs.c0 hq205 hq206 hT hS)) rfl rfl ?_
  rintro _ w ⟨rfl, hS⟩
  obtain ⟨hq207, h⟩ := h.req
  refine RL.s (Vl.strAdd hq207 rfl rfl) rfl ?_
  obtain ⟨hq208, h⟩ := h.req
  refine RL.e (OW.callF (ls := [.tmp 2, .tmp 17]) rfl call14 (bld_write (lit_20 ++ (itoaB a3.Regs.c0)) bldT50 hq208 hS)) rfl rfl ?_
  rintro _ w ⟨rfl, hS⟩
  refine RL.nil (RQ.inB_n (RQ.then_n (RC.region (pn 2 rfl (ln (RQ.round (sr (pn 1 rfl (ln (RC.seq (jt (RC.skip ?_))))))))))))
  refine RQ.then_n (RC.seq (RC.block (sr (RL.s (Vl.indexAddr (a'' := ⟨b2, 1, none⟩) underlying51 sizeOf2 rfl rfl rfl (by decide) (by decide) rfl) rfl (rr [2, 0] hS ?_)))))
  refine it fun w hS => ln (RC.region (pn 1 rfl ?_))
  obtain ⟨⟨hq213, hq214⟩, h⟩ := h.req
  refine RL.e (OW.callF (ls := [.tmp 15, .const (iV 10)]) rfl call15 (format_ok strconv_FormatInt_10 a3.Regs.c1 hq213 hq214 hT hS)) rfl rfl ?_
  rintro _ w ⟨rfl, hS⟩
  obtain ⟨hq215, h⟩ := h.req
  refine RL.s (Vl.strAdd hq215 rfl rfl) rfl ?_
  obtain ⟨hq216, h⟩ := h.req
  refine RL.e (OW.callF (ls := [.tmp 2, .tmp 17]) rfl call14 (bld_write (lit_20 ++ (itoaB a3.Regs.c1)) bldT50 hq216 hS)) rfl rfl ?_
  rintro _ w ⟨rfl, hS⟩
  refine RL.nil (RQ.inB_n (RQ.then_n (RC.region (pn 2 rfl (ln (RQ.round (sr (pn 1 rfl (ln (RC.seq (jt (RC.skip ?_))))))))))))
  refine RQ.then_n (RC.seq (RC.block (sr (RL.s (Vl.indexAddr (a'' := ⟨b2, 2, none⟩) underlying51 sizeOf2 rfl rfl rfl (by decide) (by decide) rfl) rfl (rr [2, 0] hS ?_)))))
  refine it fun w hS => ln (RC.region (pn 1 rfl ?_))
  obtain ⟨⟨hq221, hq222⟩, h⟩ := h.req
  refine RL.e (OW.callF (ls := [.tmp 15, .const (iV 10)]) rfl call15 (format_ok strconv_FormatInt_10 a3.Regs.c2 hq221 hq222 hT hS)) rfl rfl ?_
  rintro _ w ⟨rfl, hS⟩
  obtain ⟨hq223, h⟩ := h.req
  refine RL.s (Vl.strAdd hq223 rfl rfl) rfl ?_
  obtain ⟨hq224, h⟩ := h.req
  refine RL.e (OW.callF (ls := [.tmp 2, .tmp 17]) rfl call14 (bld_write (lit_20 ++ (itoaB a3.Regs.c2)) bldT50 hq224 hS)) rfl rfl ?_
  rintro _ w ⟨rfl, hS⟩
  refine RL.nil (RQ.inB_n (RQ.then_n (RC.region (pn 2 rfl (ln (RQ.round (sr (pn 1 rfl (ln (RC.seq (jt (RC.skip ?_))))))))))))
  refine RQ.then_n (RC.seq (RC.block (sr (RL.s (Vl.indexAddr (a'' := ⟨b2, 3, none⟩) underlying51 sizeOf2 rfl rfl rfl (by decide) (by decide) rfl) rfl (rr [2, 0] hS ?_)))))
  refine it fun w hS => ln (RC.region (pn 1 rfl ?_))
  obtain ⟨⟨hq229, hq230⟩, h⟩ := h.req
  refine RL.e (OW.callF (ls := [.tmp 15, .const (iV 10)]) rfl call15 (format_ok strconv_FormatInt_10 a3.Regs.c3 hq229 hq230 hT hS)) rfl rfl ?_
  rintro _ w ⟨rfl, hS⟩
  obtain ⟨hq231, h⟩ := h.req
  refine RL.s (Vl.strAdd hq231 rfl rfl) rfl ?_
  obtain ⟨hq232, h⟩ := h.req
  refine RL.e (OW.callF (ls := [.tmp 2, .tmp 17]) rfl call14 (bld_write (lit_20 ++ (itoaB a3.Regs.c3)) bldT50 hq232 hS)) rfl rfl ?_
  rintro _ w ⟨rfl, hS⟩
  refine RL.nil (RQ.inB_n (RQ.then_n (RC.region (pn 2 rfl (ln (RQ.round (sr (pn 1 rfl (ln (RC.seq (jt (RC.skip ?_))))))))))))
  refine RQ.then_n (RC.seq (RC.block (sr (RL.s (Vl.indexAddr (a'' := ⟨b2, 4, none⟩) underlying51 sizeOf2 rfl rfl rfl (by decide) (by decide) rfl) rfl (rr [2, 0] hS ?_)))))
  refine it fun w hS => ln (RC.region (pn 1 rfl ?_))
  obtain ⟨⟨hq237, hq238⟩, h⟩ := h.req
  refine RL.e (OW.callF (ls := [.tmp 15, .const (iV 10)]) rfl call15 (format_ok strconv_FormatInt_10 a3.Regs.c4 hq237 hq238 hT hS)) rfl rfl ?_
  rintro _ w ⟨rfl, hS⟩
  obtain ⟨hq239, h⟩ := h.req
  refine RL.s (Vl.strAdd hq239 rfl rfl) rfl ?_
  obtain ⟨hq240, h⟩ := h.req
  refine RL.e (OW.callF (ls := [.tmp 2, .tmp 17]) rfl call14 (bld_write (lit_20 ++ (itoaB a3.Regs.c4)) bldT50 hq240 hS)) rfl rfl ?_
  rintro _ w ⟨rfl, hS⟩
  refine RL.nil (RQ.inB_n (RQ.then_n (RC.region (pn 2 rfl (ln (RQ.round (sr (pn 1 rfl (ln (RC.seq (jt (RC.skip ?_))))))))))))
  refine RQ.then_n (RC.seq (RC.block (sr (RL.s (Vl.indexAddr (a'' := ⟨b2, 5, none⟩) underlying51 sizeOf2 rfl rfl rfl (by decide) (by decide) rfl) rfl (rr [2, 0] hS ?_)))))
  refine it fun w hS => ln (RC.region (pn 1 rfl ?_))
  obtain ⟨⟨hq245, hq246⟩, h⟩ := h.req
  refine RL.e (OW.callF (ls := [.tmp 15, .const (iV 10)]) rfl call15 (format_ok strconv_FormatInt_10 a3.Regs.c5 hq245 hq246 hT hS)) rfl rfl ?_
  rintro _ w ⟨rfl, hS⟩
  obtain ⟨hq247, h⟩ := h.req
  refine RL.s (Vl.strAdd hq247 rfl rfl) rfl ?_
  obtain ⟨hq248, h⟩ := h.req
  refine RL.e (OW.callF (ls := [.tmp 2, .tmp 17]) rfl call14 (bld_write (lit_20 ++ (itoaB a3.Regs.c5)) bldT50 hq248 hS)) rfl rfl ?_
  rintro _ w ⟨rfl, hS⟩
  refine RL.nil (RQ.inB_n (RQ.then_n (RC.region (pn 2 rfl (ln (RQ.round (sr (pn 1 rfl (ln (RC.seq (jt (RC.skip ?_))))))))))))
  refine RQ.then_n (RC.seq (RC.block (sr (RL.s (Vl.indexAddr (a'' := ⟨b2, 6, none⟩) underlying51 sizeOf2 rfl rfl rfl (by decide) (by decide) rfl) rfl (rr [2, 0] hS ?_)))))
  refine it fun w hS => ln (RC.region (pn 1 rfl ?_))
  obtain ⟨⟨hq253, hq254⟩, h⟩ := h.req
  refine RL.e (OW.callF (ls := [.tmp 15, .const (iV 10)]) rfl call15 (format_ok strconv_FormatInt_10 a3.Regs.c6 hq253 hq254 hT hS)) rfl rfl ?_
  rintro _ w ⟨rfl, hS⟩
  obtain ⟨hq255, h⟩ := h.req
  refine RL.s (Vl.strAdd hq255 rfl rfl) rfl ?_
  obtain ⟨hq256, h⟩ := h.req
  refine RL.e (OW.callF (ls := [.tmp 2, .tmp 17]) rfl call14 (bld_write (lit_20 ++ (itoaB a3.Regs.c6)) bldT50 hq256 hS)) rfl rfl ?_
  rintro _ w ⟨rfl, hS⟩
  refine RL.nil (RQ.inB_n (RQ.then_n (RC.region (pn 2 rfl (ln (RQ.round (sr (pn 1 rfl (ln (RC.seq (jt (RC.skip ?_))))))))))))
  refine RQ.then_n (RC.seq (RC.block (sr (RL.s (Vl.indexAddr (a'' := ⟨b2, 7, none⟩) underlying51 sizeOf2 rfl rfl rfl (by decide) (by decide) rfl) rfl (rr [2, 0] hS ?_)))))
  refine it fun w hS => ln (RC.region (pn 1 rfl ?_))
  obtain ⟨⟨hq261, hq262⟩, h⟩ := h.req
  refine RL.e (OW.callF (ls := [.tmp 15, .const (iV 10)]) rfl call15 (format_ok strconv_FormatInt_10 a3.Regs.c7 hq261 hq262 hT hS)) rfl rfl ?_
  rintro _ w ⟨rfl, hS⟩
  obtain ⟨hq263, h⟩ := h.req
  refine RL.s (Vl.strAdd hq263 rfl rfl) rfl ?_
  obtain ⟨hq264, h⟩ := h.req
  refine RL.e (OW.callF (ls := [.tmp 2, .tmp 17]) rfl call14 (bld_write (lit_20 ++ (itoaB a3.Regs.c7)) bldT50 hq264 hS)) rfl rfl ?_
  rintro _ w ⟨rfl, hS⟩
  refine RL.nil (RQ.inB_n (RQ.then_n (RC.region (pn 2 rfl (ln (RQ.round (sr (pn 1 rfl (ln (RC.seq (jf (RC.exit ?_))))))))))))
  refine RQ.exitT (RQ.exitT (RQ.inB_hit (RQ.then_n (RC.region ?_))))
  obtain ⟨hq265, h⟩ := h.req
  refine RL.e (OW.callF (ls := [.tmp 2, .const (.string lit_0a)]) rfl call14 (bld_write lit_0a bldT50 hq265 hS)) rfl rfl ?_
  rintro _ w ⟨rfl, hS⟩
  refine RL.nil ?_
  cases h.some
  exact rtE results13 rfl ⟨rfl, hS.p1⟩
def script_Told.l8b (a1 : api_Result) : ByteArray × Int → Option ((ByteArray × Int) ⊕ (ByteArray))
  | (s394, x395) => (if x395 < (a1.States.length : Int) then (if 0 ≤ x395 then ((script_Told_1v2.f lit_state (nth a1.States x395) s394).bind fun t417 => some (.inl (t417, IntKind.i64.wrap (x395 + 1)))) else none) else (Option.map Sum.inr ((script_Told_1.f lit_stop ([a1.Stop] : List Int) s394).bind fun t424 => some t424)))
def script_Told.l8 (a1 : api_Result) (s : ByteArray × Int) : Option (ByteArray) := loopR (script_Told.l8b a1) s
def script_Told.l6b (a1 : api_Result) : ByteArray × Int → Option ((ByteArray × Int) ⊕ (ByteArray))
  | (s304, x305) => (if x305 < (a1.History.length : Int) then (if 0 ≤ x305 then ((script_Told_1.f lit_did ([((nth a1.History x305).Key).Time, ((nth a1.History x305).Key).From, ((nth a1.History x305).Key).Seq, (nth a1.History x305).To, (nth a1.History x305).Value] : List Int) s304).bind fun t347 => some (.inl (t347, IntKind.i64.wrap (x305 + 1)))) else none) else (Option.map Sum.inr (script_Told.l8 a1 (s304, 0))))
def script_Told.l6 (a1 : api_Result) (s : ByteArray × Int) : Option (ByteArray) := loopR (script_Told.l6b a1) s
def script_Told.f (a1 : api_Result) : Option (ByteArray) := script_Told.l6 a1 (ByteArray.empty, 0)
theorem script_Told.ok {a1 : api_Result} {A2 A5 : Option Addr} {c3 c6 : Nat} (hr4 : SlR E_api_Done.rep hf A2 c3 a1.History) (hr7 : SlR E_api_State.rep hf A5 c6 a1.States) (hT : TabH prog hf) {r : ByteArray} (h : script_Told.f a1 = some r) (hS : St B w (l) hf) :
    Calls prog 6 #[.agg (C_api_Result a1 A2 c3 A5 c6).toArray] w (Ret fun v w => v = .string r ∧ St B w (l) hf) := by
  have h := Holds.of h
  refine en func6 rfl ntmps6 rfl (sr (rr [0, 0] hS ?_))
  refine fun b217 => it fun w hS => lnsr (RL.e (OW.alloc (cs := [.pointer none, .slice none 0 0]) hS zeroValue50 (by rfl)) rfl rfl ?_)
  rintro _ w ⟨b218, rfl, hS⟩
  have hS := Bd.new 5 hS
  have hS : St B w (_ :: _ :: l) hf := hS
  refine lnsr (RL.s (Vl.makeFunc (fi := []) (ca := [.tmp 3]) rfl rfl) rfl (pn 1 rfl (ln (RC.seq (sr (rr [0, 2, 0, 0] hS ?_))))))
  refine it fun w hS => ln (RC.block (fun a ha => lp h (fun (s : ByteArray × Int) a w => ∃ s304 x305, s = (s304, x305) ∧ Has 52 [(1, pV b217), (3, pV b218), (4, .func (.func 13) #[] #[pV b218]), (11, sV A2 a1.History c3), (12, iV (a1.History.length : Int)), (13, iV x305)] a ∧ St B w (Bd 50 5 [] s304 b218 :: Cl b217 (C_api_Result a1 A2 c3 A5 c6) 25 :: l) hf) ⟨_, _, rfl, ha.tE rfl, hS⟩ ?_))
  rintro G328 _ a w ⟨s304, x305, rfl, ha, hS⟩ h
  refine ro ha (sr (pn 1 rfl (ln (RC.seq ?_))))
  refine RC.iteP 14 rfl h (fun hc330 h => ?_) fun hc330 h => ?_
  next =>
   refine jt (sk (RC.seq (RC.block (sr ?_))))
   obtain ⟨hq340, h⟩ := h.req
   refine RL.s (Vl.indexAddr underlying22 sizeOf61 rfl rfl ((hr4.2.world hS.sub).adr hq340 hc330) hq340 hc330 rfl) rfl (RL.s (Vl.loadA isAgg61 sizeOf61 rfl rfl ((hr4.2.world hS.sub).cells hq340 hc330)) rfl (rr [0, 1] hS ?_))
   refine fun b341 => it fun w hS => ln (RC.region (rr [0, 0, 0, 1, 0, 0, 1, 0, 0, 1, 0, 1, 0, 1] hS ?_))
   refine it fun w hS => RL.e (OW.buildSlice (E := (FI .i64)) (xs := ([((nth a1.History x305).Key).Time, ((nth a1.History x305).Key).From, ((nth a1.History x305).Key).Seq, (nth a1.History x305).To, (nth a1.History x305).Value] : List Int)) (cs := (C_api_Done (nth a1.History x305))) hS underlying51 zeroValue2 sizeOf2 (parts := [(0, .tmp 20), (1, .tmp 23), (2, .tmp 26), (3, .tmp 28), (4, .tmp 30)]) rfl rfl (by decide) (by decide) (by kernel_rfl) rfl) rfl rfl ?_
   rintro _ w ⟨b342, rfl, hS⟩
   obtain ⟨hf346, hs344, hS, hr343, hb345⟩ := St.lendSl hS
   obtain ⟨t347, hg348, h⟩ := h.bind
   have hc := script_Told_1.ok hr343 (hT.mono hs344) hg348 hS.p1
   refine RL.e (OW.call (ls := [.const (.string lit_did), .tmp 31]) rfl rfl call13 rfl hc) rfl rfl ?_
   rintro _ w ⟨rfl, hS⟩
   have hS := hb345 _ _ hS
   have hS : St B w (_ :: _ :: _ :: _ :: l) hf := hS
   refine RL.nil (RQ.inB_n (RQ.then_n (RC.region (pn 2 rfl (RL.nil ?_)))))
   exact fun a ha => ⟨_, h.some, _, _, rfl, ha.tE rfl, hS.d0.d1⟩
  refine jf (RC.exit (RQ.exitT ?_))
  have h := h.inr
  refine RQ.exitT (RQ.inB_hit (RQ.then_n (RC.seq (sr (rr [0, 2, 0, 0] hS ?_)))))
  refine it fun w hS => ln (RC.block (fun a ha => lp h (fun (s : ByteArray × Int) a w => ∃ s394 x395, s = (s394, x395) ∧ Has 52 [(1, pV b217), (3, pV b218), (4, .func (.func 13) #[] #[pV b218]), (35, sV A5 a1.States c6), (36, iV (a1.States.length : Int)), (37, iV x395)] a ∧ St B w (Bd 50 5 [] s394 b218 :: Cl b217 (C_api_Result a1 A2 c3 A5 c6) 25 :: l) hf) ⟨_, _, rfl, ha.tE rfl, hS⟩ ?_))
  rintro G408 _ a w ⟨s394, x395, rfl, ha, hS⟩ h
  refine ro ha (sr (pn 1 rfl (ln (RC.seq ?_))))
  refine RC.iteP 38 rfl h (fun hc410 h => ?_) fun hc410 h => ?_
  next =>
   refine jt (sk (RC.seq (RC.block (sr ?_))))
   obtain ⟨hq415, h⟩ := h.req
   refine RL.s (Vl.indexAddr underlying23 sizeOf64 rfl rfl ((hr7.2.world hS.sub).adr hq415 hc410) hq415 hc410 rfl) rfl (RL.s (Vl.loadA isAgg64 sizeOf64 rfl rfl ((hr7.2.world hS.sub).cells hq415 hc410)) rfl (rr [0, 1] hS ?_))
   refine fun b416 => it fun w hS => ln (RC.region (r0 2 rfl (RL.s (Vl.sliceArr underlying62 sizeOf2 rfl) rfl ?_)))
   obtain ⟨t417, hg418, h⟩ := h.bind
   have hc := script_Told_1v2.ok hT hg418 hS
   refine RL.e (OW.call (ls := [.const (.string lit_state), .tmp 43]) rfl rfl call13 rfl hc) rfl rfl ?_
   rintro _ w ⟨rfl, hS⟩
   refine RL.nil (RQ.inB_n (RQ.then_n (RC.region (pn 2 rfl (RL.nil ?_)))))
   exact fun a ha => ⟨_, h.some, _, _, rfl, ha.tE rfl, hS.d0⟩
  refine jf (RC.exit (RQ.exitT ?_))
  have h := h.inr
  refine RQ.exitT (RQ.inB_hit (tsr (rr [0, 0, 2] hS ?_)))
  refine it fun w hS => RL.e (OW.buildSlice (E := (FI .i64)) (xs := ([a1.Stop] : List Int)) (cs := [iV a1.Stop]) hS underlying51 zeroValue2 sizeOf2 (parts := [(0, .tmp 48)]) rfl rfl (by decide) (by decide) (by kernel_rfl) rfl) rfl rfl ?_
  rintro _ w ⟨b419, rfl, hS⟩
  obtain ⟨hf423, hs421, hS, hr420, hb422⟩ := St.lendSl hS
  obtain ⟨t424, hg425, h⟩ := h.bind
  have hc := script_Told_1.ok hr420 (hT.mono hs421) hg425 hS
  refine RL.e (OW.call (ls := [.const (.string lit_stop), .tmp 49]) rfl rfl call13 rfl hc) rfl rfl ?_
  rintro _ w ⟨rfl, hS⟩
  have hS := hb422 _ _ hS
  have hS : St B w (_ :: _ :: _ :: l) hf := hS
  refine lnsr (RL.e (OW.callF (ls := [.tmp 3]) rfl call16 (bld_string hS.p1)) rfl rfl ?_)
  rintro _ w ⟨rfl, hS⟩
  refine pn 1 rfl (lr ?_)
  obtain rfl := h.some
  exact rt results6 rfl ⟨rfl, hS.d0.d0⟩
def script_Play.f (a1 : ByteArray) : Option (ByteArray × Int) := ((script_Parse.f a1).bind fun (y58, y59, y60, y61, y62) => (if y62 = 0 then ((kernel_Run.f y58 y59 y60).bind fun (y91, y92) => (if y92 = 0 then ((script_Told.f y91).bind fun t108 => some (t108, 0)) else some (lit_, y92))) else some (lit_, y62)))
theorem script_Play.ok {a1 : ByteArray} (hT : TabH prog hf) (hG0 : GlobAt hf 0 (.iface 144 (.agg #[.pointer (some ⟨9, 53, none⟩)]))) {r : ByteArray × Int} (h : script_Play.f a1 = some r) (hS : St B w (l) hf) :
    Calls prog 18 #[.string a1] w (Ret fun v w => v = .tuple #[.string r.1, iV r.2] ∧ St B w (l) hf) := by
  have h := Holds.of h
  refine en func18 rfl ntmps18 rfl (sr (pn 2 rfl (lnsr (pn 1 rfl (cF (fun _ hg => script_Parse.ok hT hg hS) call11 h rfl rfl rfl ?_)))))
  rintro ⟨y58, y59, y60, y61, y62⟩ h _ w ⟨hf, hs72, A63, c64, A66, c67, A68, c69, A70, c71, rfl, hS, hr65⟩
  refine rr [0, 0, 0, 0, 0, 0, 0, 0, 2, 1, 0, 0, 0] hS ?_
  refine fun b73 b74 => it fun w hS => ln (RC.seq (sr (pn 2 rfl (ln ?_))))
  refine RC.iteN 19 rfl h (fun hc76 h => ?_) fun hc76 h => ?_
  next =>
   refine jfs (sr (rr [2, 1, 0] hS ?_))
   refine it fun w hS => ?_
   obtain ⟨hf80, hs78, hS, hr77, hb79⟩ := St.lendSl hS.p4.p4.p4
   obtain ⟨hf84, hs82, hS, hr81, hb83⟩ := St.lendSl hS
   obtain ⟨hf88, hs86, hS, hr85, hb87⟩ := St.lendSl hS
   obtain ⟨t89, hg90, h⟩ := h.bind
   have hc := kernel_Run.ok (((hr65.mono hs78).mono hs82).mono hs86) ((hr77.mono hs82).mono hs86) (hr81.mono hs86) hr85 ((((hG0.mono hs72).mono hs78).mono hs82).mono hs86) hg90 hS
   obtain ⟨y91, y92⟩ := t89
   refine RL.e (OW.callF (ls := [.tmp 22, .tmp 23, .tmp 24]) rfl call30 hc) rfl rfl ?_
   rintro _ w ⟨A93, c94, A95, c96, rfl, hS⟩
   have hS := hb87 _ _ hS
   have hS := hb83 _ _ hS
   have hS := hb79 _ _ hS
   have hS : St B w (_ :: _ :: _ :: _ :: _ :: _ :: _ :: l) hf := hS
   refine rr [0, 0, 0, 0, 1, 0] hS ?_
   refine fun b97 => it fun w hS => ln (RC.seq (sr (pn 2 rfl (ln ?_))))
   refine RC.iteN 29 rfl h (fun hc99 h => ?_) fun hc99 h => ?_
   next =>
    refine jfs (sr (rr [1] hS ?_))
    refine it fun w hS => ?_
    obtain ⟨hf103, hs101, hS, hr100, hb102⟩ := St.lendSl hS.p5.p5
    obtain ⟨hf107, hs105, hS, hr104, hb106⟩ := St.lendSl hS
    obtain ⟨t108, hg109, h⟩ := h.bind
    have hc := script_Told.ok (hr100.mono hs105) hr104 (((hT.mono hs72).mono hs101).mono hs105) hg109 hS
    refine RL.e (OW.callF (ls := [.tmp 31]) rfl call6 hc) rfl rfl ?_
    rintro _ w ⟨rfl, hS⟩
    have hS := hb106 _ _ hS
    have hS := hb102 _ _ hS
    have hS : St B w (_ :: _ :: _ :: _ :: _ :: _ :: _ :: _ :: l) hf := hS
    refine pn 2 rfl (lr ?_)
    cases h.some
    exact rt results18 rfl ⟨rfl, (hS.d0.d0.d0.d0.d0.d0.d0.d0).down hs72⟩
   refine jtr (pn 3 rfl (lr (RQ.ret ?_)))
   cases h.some
   exact rt results18 rfl ⟨rfl, (hS.d0.d0.d0.d0.d0.d0.d0.d0).down hs72⟩
  refine jtr (pn 3 rfl (lr (RQ.ret ?_)))
  cases h.some
  exact rt results18 rfl ⟨rfl, (hS.d0.d0.d0.d0.d0).down hs72⟩
def isochronlaw21vawake.f  : Option (Bool) := ((script_Play.f lit_6c616e650a7069636b2032203020300a7069636b203220302030).bind fun (y8, y9) => (if y9 = 0 then some (decide (y8 = lit_7374617465203020302030203020302030203020300a73746f7020310a)) else some false))
theorem isochronlaw21vawake.ok (hT : TabH prog hf) (hG0 : GlobAt hf 0 (.iface 144 (.agg #[.pointer (some ⟨9, 53, none⟩)]))) {r : Bool} (h : isochronlaw21vawake.f = some r) (hS : St B w (l) hf) :
    Calls prog 8 #[] w (Ret fun v w => v = .bool r ∧ St B w (l) hf) := by
  have h := Holds.of h
  refine en func8 rfl ntmps8 rfl (sr (pn 1 rfl (lnsr (cF (fun _ hg => script_Play.ok hT hG0 hg hS) call18 h rfl rfl rfl ?_))))
  rintro ⟨y8, y9⟩ h _ w ⟨rfl, hS⟩
  refine pn 5 rfl (lnsr (pn 3 rfl ?_))
  refine RL.iteP 9 rfl h (fun hc10 h => ?_) fun hc10 h => ?_
  next =>
   refine pn 1 rfl (RL.sg (Vl.strEq rfl rfl) rfl rfl (pn 2 rfl (lr ?_)))
   cases h.some
   exact rt results8 rfl ⟨rfl, hS⟩
  refine pn 4 rfl (lr ?_)
  obtain rfl := h.some
  exact rt results8 rfl ⟨rfl, hS⟩
end
end Go.Proofs.Gx
