/-
  The walks of functions, each with what it computes: printed by wip/gx.py.
-/
import Derived.Test.YtbkjjaikmngciaaGreatDoorW0
import Derived.Test.YtbkjjaikmngciaaGreatDoorW1
set_option linter.unusedVariables false
set_option linter.unusedSimpArgs false
set_option maxRecDepth 100000
set_option maxHeartbeats 4000000
namespace Go.Proofs.Gx
open Go.Sl Tryz
variable {B : Base} {w : World} {l : List HProp} {hf : Hp}
noncomputable section
def isochronref21vPrint.j56 (s3178 : ByteArray) (x3179 : Int) : Option (ByteArray × Int) := (if 65536 < (s3178.size : Int) then some (lit_, 2) else some (s3178, 0))
def isochronref21vPrint.l57b (a12 : List api_Pick) : ByteArray × Int × Int → Option ((ByteArray × Int × Int) ⊕ (ByteArray × Int))
  | (s3203, x3204, x3205) => (if x3205 < (a12.length : Int) then (if (s3203.size : Int) ≤ 65536 then (if 0 ≤ x3205 then ((isochronref21vtext_line.f (⟨s3203, x3204⟩ : isochronref21vtext) lit_pick ([(nth a12 x3205).What, (nth a12 x3205).A, (nth a12 x3205).B] : List Int)).bind fun t3248 => some (.inl (t3248.s, t3248.e, IntKind.i64.wrap (x3205 + 1)))) else none) else (Option.map Sum.inr (isochronref21vPrint.j56 s3203 x3204))) else (Option.map Sum.inr (isochronref21vPrint.j56 s3203 x3204)))
def isochronref21vPrint.l57 (a12 : List api_Pick) (s : ByteArray × Int × Int) : Option (ByteArray × Int) := loopR (isochronref21vPrint.l57b a12) s
def isochronref21vPrint.j54 (a12 : List api_Pick) (s3108 : ByteArray) (x3109 : Int) : Option (ByteArray × Int) := isochronref21vPrint.l57 a12 (s3108, x3109, 0)
def isochronref21vPrint.l58b (a1 : api_Model) (a12 : List api_Pick) : ByteArray × Int × Int → Option ((ByteArray × Int × Int) ⊕ (ByteArray × Int))
  | (s3271, x3272, x3273) => (if x3273 < (a1.Starts.length : Int) then (if (s3271.size : Int) ≤ 65536 then (if 0 ≤ x3273 then ((isochronref21vtext_line.f (⟨s3271, x3272⟩ : isochronref21vtext) lit_start ([(nth a1.Starts x3273).To, (nth a1.Starts x3273).Time, (nth a1.Starts x3273).Value] : List Int)).bind fun t3316 => some (.inl (t3316.s, t3316.e, IntKind.i64.wrap (x3273 + 1)))) else none) else (Option.map Sum.inr (isochronref21vPrint.j54 a12 s3271 x3272))) else (Option.map Sum.inr (isochronref21vPrint.j54 a12 s3271 x3272)))
def isochronref21vPrint.l58 (a1 : api_Model) (a12 : List api_Pick) (s : ByteArray × Int × Int) : Option (ByteArray × Int) := loopR (isochronref21vPrint.l58b a1 a12) s
def isochronref21vPrint.j52 (a1 : api_Model) (a12 : List api_Pick) (s3038 : ByteArray) (x3039 : Int) : Option (ByteArray × Int) := isochronref21vPrint.l58 a1 a12 (s3038, x3039, 0)
def isochronref21vPrint.j65 (a1 : api_Model) (s3347 : ByteArray) (x3348 x3349 x3401 : Int) : Option ((ByteArray × Int × Int) ⊕ (ByteArray × Int)) := ((isochronref21vtext_line.f (⟨s3347, x3348⟩ : isochronref21vtext) lit_link ([(nth a1.Links x3349).From, (nth a1.Links x3349).To, (nth a1.Links x3349).Look, x3401] : List Int)).bind fun t3407 => some (.inl (t3407.s, t3407.e, IntKind.i64.wrap (x3349 + 1))))
def isochronref21vPrint.l63b (a1 : api_Model) (a12 : List api_Pick) : ByteArray × Int × Int → Option ((ByteArray × Int × Int) ⊕ (ByteArray × Int))
  | (s3347, x3348, x3349) => (if x3349 < (a1.Links.length : Int) then (if (s3347.size : Int) ≤ 65536 then (if 0 ≤ x3349 then (if (nth a1.Links x3349).Loose = true then isochronref21vPrint.j65 a1 s3347 x3348 x3349 1 else isochronref21vPrint.j65 a1 s3347 x3348 x3349 0) else none) else (Option.map Sum.inr (isochronref21vPrint.j52 a1 a12 s3347 x3348))) else (Option.map Sum.inr (isochronref21vPrint.j52 a1 a12 s3347 x3348)))
def isochronref21vPrint.l63 (a1 : api_Model) (a12 : List api_Pick) (s : ByteArray × Int × Int) : Option (ByteArray × Int) := loopR (isochronref21vPrint.l63b a1 a12) s
def isochronref21vPrint.j44 (a1 : api_Model) (a12 : List api_Pick) (s2944 : ByteArray) (x2945 : Int) : Option (ByteArray × Int) := isochronref21vPrint.l63 a1 a12 (s2944, x2945, 0)
def isochronref21vPrint.l72b (a1 : api_Model) (x3669 : Int) : ByteArray × Int × Int → Option ((ByteArray × Int × Int) ⊕ ((ByteArray × Int × Int) ⊕ (ByteArray × Int)))
  | (s4119, x4120, x4121) => (if 0 ≤ x3669 then (if x4121 < ((nth a1.Progs x3669).length : Int) then (if (s4119.size : Int) ≤ 65536 then (if 0 ≤ x4121 then ((isochronref21vtext_line.f (⟨s4119, x4120⟩ : isochronref21vtext) lit_op ([(nth (nth a1.Progs x3669) x4121).Op, (nth (nth a1.Progs x3669) x4121).A, (nth (nth a1.Progs x3669) x4121).B, (nth (nth a1.Progs x3669) x4121).C] : List Int)).bind fun t4204 => some (.inl (t4204.s, t4204.e, IntKind.i64.wrap (x4121 + 1)))) else none) else some (.inr (.inl (s4119, x4120, IntKind.i64.wrap (x3669 + 1))))) else some (.inr (.inl (s4119, x4120, IntKind.i64.wrap (x3669 + 1))))) else none)
def isochronref21vPrint.l72 (a1 : api_Model) (x3669 : Int) (s : ByteArray × Int × Int) : Option ((ByteArray × Int × Int) ⊕ (ByteArray × Int)) := loopR (isochronref21vPrint.l72b a1 x3669) s
def isochronref21vPrint.l70b (a1 : api_Model) (a12 : List api_Pick) : ByteArray × Int × Int → Option ((ByteArray × Int × Int) ⊕ (ByteArray × Int))
  | (s3667, x3668, x3669) => (if x3669 < (a1.Progs.length : Int) then (if (s3667.size : Int) ≤ 65536 then ((isochronref21vtext_line.f (⟨s3667, x3668⟩ : isochronref21vtext) lit_lane ([])).bind fun t4076 => isochronref21vPrint.l72 a1 x3669 (t4076.s, t4076.e, 0)) else (Option.map Sum.inr (isochronref21vPrint.j44 a1 a12 s3667 x3668))) else (Option.map Sum.inr (isochronref21vPrint.j44 a1 a12 s3667 x3668)))
def isochronref21vPrint.l70 (a1 : api_Model) (a12 : List api_Pick) (s : ByteArray × Int × Int) : Option (ByteArray × Int) := loopR (isochronref21vPrint.l70b a1 a12) s
def isochronref21vPrint.f (a1 : api_Model) (a11 : api_Caps) (a12 : List api_Pick) : Option (ByteArray × Int) := ((isochronref21vright.f a1 a11 a12).bind fun t2116 => (if t2116 = true then ((isochronref21vtext_line.f (⟨lit_, 0⟩ : isochronref21vtext) lit_seed ([IntKind.i64.wrap a1.Seed] : List Int)).bind fun t2125 => ((isochronref21vtext_line.f t2125 lit_end ([a1.End] : List Int)).bind fun t2132 => ((isochronref21vtext_line.f t2132 lit_budget ([a1.Budget] : List Int)).bind fun t2139 => ((isochronref21vtext_line.f t2139 lit_caps ([a11.Link, a11.Wait, a11.Log] : List Int)).bind fun t2146 => isochronref21vPrint.l70 a1 a12 (t2146.s, t2146.e, 0))))) else some (lit_, 1)))
theorem isochronref21vPrint.ok {a1 : api_Model} {a11 : api_Caps} {a12 : List api_Pick} {A2 A5 A8 A13 : Option Addr} {c3 c6 c9 c14 : Nat} (hr4 : SlR (Rep.sl E_api_Instr.rep) hf A2 c3 a1.Progs) (hr7 : SlR E_api_Link.rep hf A5 c6 a1.Links) (hr10 : SlR E_api_Start.rep hf A8 c9 a1.Starts) (hr15 : SlR E_api_Pick.rep hf A13 c14 a12) {r : ByteArray × Int} (h : isochronref21vPrint.f a1 a11 a12 = some r) (hS : St B w (l) hf) :
    Calls prog 10 #[.agg (C_api_Model a1 A2 c3 A5 c6 A8 c9).toArray, .agg (C_api_Caps a11).toArray, sV A13 a12 c14] w (Ret fun v w => v = .tuple #[.string r.1, iV r.2] ∧ St B w (l) hf) := by
  have h := Holds.of h
  refine en func10 rfl ntmps10 rfl (sr (rr [0, 0, 0, 0] hS ?_))
  refine fun b2111 b2112 => it fun w hS => ln (RC.seq (sr (rr [2, 1, 0] hS ?_)))
  refine it fun w hS => cF (fun _ hg => isochronref21vright.ok hr4 hr7 hr10 hr15 hg hS) call22 h rfl rfl rfl ?_
  rintro t2116 h _ w ⟨rfl, hS⟩
  refine pn 1 rfl (ln ?_)
  refine RC.iteM 21 rfl h (fun hc2118 h => ?_) fun hc2118 h => ?_
  next =>
   refine jfs (sr (rr [0, 0, 0] hS ?_))
   refine fun b2119 => it fun w hS => lnsr (rr [0, 0, 3, 0] hS ?_)
   refine it fun w hS => RL.e (OW.buildSlice (E := (FI .i64)) (xs := ([IntKind.i64.wrap a1.Seed] : List Int)) (cs := [iV (IntKind.i64.wrap a1.Seed)]) hS underlying51 zeroValue2 sizeOf2 (parts := [(0, .tmp 27)]) rfl rfl (by decide) (by decide) (by kernel_rfl) rfl) rfl rfl ?_
   rintro _ w ⟨b2120, rfl, hS⟩
   obtain ⟨hf2124, hs2122, hS, hr2121, hb2123⟩ := St.lendSl hS
   obtain ⟨t2125, hg2126, h⟩ := h.bind
   have hc := isochronref21vtext_line.ok hr2121 hg2126 hS
   refine RL.e (OW.callF (ls := [.tmp 24, .const (.string lit_seed), .tmp 28]) rfl call23 hc) rfl rfl ?_
   rintro _ w ⟨rfl, hS⟩
   have hS := hb2123 _ _ hS
   have hS : St B w (_ :: _ :: _ :: _ :: l) hf := hS
   refine lnsr (rr [0, 0, 4] hS ?_)
   refine it fun w hS => RL.e (OW.buildSlice (E := (FI .i64)) (xs := ([a1.End] : List Int)) (cs := [iV a1.End]) hS underlying51 zeroValue2 sizeOf2 (parts := [(0, .tmp 32)]) rfl rfl (by decide) (by decide) (by kernel_rfl) rfl) rfl rfl ?_
   rintro _ w ⟨b2127, rfl, hS⟩
   obtain ⟨hf2131, hs2129, hS, hr2128, hb2130⟩ := St.lendSl hS
   obtain ⟨t2132, hg2133, h⟩ := h.bind
   have hc := isochronref21vtext_line.ok hr2128 hg2133 hS.p1
   refine RL.e (OW.callF (ls := [.tmp 30, .const (.string lit_end), .tmp 33]) rfl call23 hc) rfl rfl ?_
   rintro _ w ⟨rfl, hS⟩
   have hS := hb2130 _ _ hS
   have hS : St B w (_ :: _ :: _ :: _ :: _ :: l) hf := hS
   refine lnsr (rr [0, 0, 5] hS ?_)
   refine it fun w hS => RL.e (OW.buildSlice (E := (FI .i64)) (xs := ([a1.Budget] : List Int)) (cs := [iV a1.Budget]) hS underlying51 zeroValue2 sizeOf2 (parts := [(0, .tmp 37)]) rfl rfl (by decide) (by decide) (by kernel_rfl) rfl) rfl rfl ?_
   rintro _ w ⟨b2134, rfl, hS⟩
   obtain ⟨hf2138, hs2136, hS, hr2135, hb2137⟩ := St.lendSl hS
   obtain ⟨t2139, hg2140, h⟩ := h.bind
   have hc := isochronref21vtext_line.ok hr2135 hg2140 hS.p1
   refine RL.e (OW.callF (ls := [.tmp 35, .const (.string lit_budget), .tmp 38]) rfl call23 hc) rfl rfl ?_
   rintro _ w ⟨rfl, hS⟩
   have hS := hb2137 _ _ hS
   have hS : St B w (_ :: _ :: _ :: _ :: _ :: _ :: l) hf := hS
   refine lnsr (rr [0, 0, 5, 0, 5, 0, 5] hS ?_)
   refine it fun w hS => RL.e (OW.buildSlice (E := (FI .i64)) (xs := ([a11.Link, a11.Wait, a11.Log] : List Int)) (cs := (C_api_Caps a11)) hS underlying51 zeroValue2 sizeOf2 (parts := [(0, .tmp 42), (1, .tmp 44), (2, .tmp 46)]) rfl rfl (by decide) (by decide) (by kernel_rfl) rfl) rfl rfl ?_
   rintro _ w ⟨b2141, rfl, hS⟩
   obtain ⟨hf2145, hs2143, hS, hr2142, hb2144⟩ := St.lendSl hS
   obtain ⟨t2146, hg2147, h⟩ := h.bind
   have hc := isochronref21vtext_line.ok hr2142 hg2147 hS.p1
   refine RL.e (OW.callF (ls := [.tmp 40, .const (.string lit_caps), .tmp 47]) rfl call23 hc) rfl rfl ?_
   rintro _ w ⟨rfl, hS⟩
   have hS := hb2144 _ _ hS
   have hS : St B w (_ :: _ :: _ :: _ :: _ :: _ :: _ :: l) hf := hS
   refine ln ?_
   refine RC.join (fun (s : ByteArray × Int) a w => ∃ s2944 x2945, s = (s2944, x2945) ∧ Holds (· = r) (isochronref21vPrint.j44 a1 a12 s2944 x2945) ∧ Has 213 [(2, sV A13 a12 c14), (3, pV b2111), (8, pV b2119)] a ∧ St B w (Cl b2119 [.string s2944, iV x2945] 84 :: Cl b2111 (C_api_Model a1 A2 c3 A5 c6 A8 c9) 34 :: l) hf) ?_ ?_
   · rintro _ a w ⟨s2944, x2945, rfl, h, ha, hS⟩
     refine ro ha ?_
     refine RC.join (fun (s : ByteArray × Int) a w => ∃ s3038 x3039, s = (s3038, x3039) ∧ Holds (· = r) (isochronref21vPrint.j52 a1 a12 s3038 x3039) ∧ Has 213 [(2, sV A13 a12 c14), (3, pV b2111), (8, pV b2119)] a ∧ St B w (Cl b2119 [.string s3038, iV x3039] 84 :: Cl b2111 (C_api_Model a1 A2 c3 A5 c6 A8 c9) 34 :: l) hf) ?_ ?_
     · rintro _ a w ⟨s3038, x3039, rfl, h, ha, hS⟩
       refine ro ha ?_
       refine RC.join (fun (s : ByteArray × Int) a w => ∃ s3108 x3109, s = (s3108, x3109) ∧ Holds (· = r) (isochronref21vPrint.j54 a12 s3108 x3109) ∧ Has 213 [(2, sV A13 a12 c14), (8, pV b2119)] a ∧ St B w (Cl b2119 [.string s3108, iV x3109] 84 :: l) hf) ?_ ?_
       · rintro _ a w ⟨s3108, x3109, rfl, h, ha, hS⟩
         refine ro ha ?_
         refine RC.join (fun (s : ByteArray × Int) a w => ∃ s3178 x3179, s = (s3178, x3179) ∧ Holds (· = r) (isochronref21vPrint.j56 s3178 x3179) ∧ Has 213 [(8, pV b2119)] a ∧ St B w (Cl b2119 [.string s3178, iV x3179] 84 :: l) hf) ?_ ?_
         · rintro _ a w ⟨s3178, x3179, rfl, h, ha, hS⟩
           refine ro ha (RC.seq (sr (rr [0, 0, 0, 1, 0, 0] hS ?_)))
           refine it fun w hS => ln ?_
           refine RC.iteP 208 rfl h (fun hc3181 h => ?_) fun hc3181 h => ?_
           next =>
            refine jtr (pn 2 rfl (lr (RQ.ret ?_)))
            cases h.some
            exact rt results10 rfl ⟨rfl, hS.d0⟩
           refine jfs (sr (rr [0, 0, 0, 1, 0, 0] hS ?_))
           refine it fun w hS => lr ?_
           cases h.some
           exact rt results10 rfl ⟨rfl, hS.d0⟩
         refine sr (pn 1 rfl (ln (RC.block (fun a ha => lp h (fun (s : ByteArray × Int × Int) a w => ∃ s3203 x3204 x3205, s = (s3203, x3204, x3205) ∧ Has 213 [(2, sV A13 a12 c14), (8, pV b2119), (16, iV x3205)] a ∧ St B w (Cl b2119 [.string s3203, iV x3204] 84 :: l) hf) ⟨_, _, _, rfl, ha.tE rfl, hS⟩ ?_))))
         rintro G3229 _ a w ⟨s3203, x3204, x3205, rfl, ha, hS⟩ h
         refine ro ha (RC.seq (sr (r0 5 rfl ?_)))
         refine RL.iteP 175 rfl h (fun hc3232 h => ?_) fun hc3232 h => ?_
         next =>
          refine rr [0, 0, 0, 1, 0, 0, 0] hS ?_
          refine it fun w hS => ln ?_
          refine RC.iteP 182 rfl h (fun hc3233 h => ?_) fun hc3233 h => ?_
          next =>
           refine jt (sk (RC.seq (RC.block (dr [0, 3, 6, 10, 12, 16, 18, 21, 25, 27, 31, 33, 38, 41, 44, 47, 50, 53] [16, 17] hS fun w hS => pp 3 rfl ?_))))
           obtain ⟨hq3242, h⟩ := h.req
           refine RP.s 0 3 rfl rfl hS (fun w hS => Vl.indexAddr underlying37 sizeOf80 rfl rfl ((hr15.2.world hS.sub).adr hq3242 hc3232) hq3242 hc3232 rfl) rfl (RP.s0 4 rfl (fun w => Vl.fieldAddr (a'' := (ad A13).add (x3205.toNat * 3 + 0)) underlying80 rfl sizeOf3 rfl (add_add _ _ _)) rfl (RP.s 0 5 rfl rfl hS (fun w hS => Vl.load isAgg3 rfl ((hr15.2.world hS.sub).cell (j := 0) hq3242 hc3232 rfl)) rfl (pp 2 rfl (RP.s 0 8 rfl rfl hS (fun w hS => Vl.indexAddr underlying37 sizeOf80 rfl rfl ((hr15.2.world hS.sub).adr hq3242 hc3232) hq3242 hc3232 rfl) rfl (RP.s0 9 rfl (fun w => Vl.fieldAddr (a'' := (ad A13).add (x3205.toNat * 3 + 1)) underlying80 rfl sizeOf3 rfl (add_add _ _ _)) rfl (RP.s 0 10 rfl rfl hS (fun w hS => Vl.load isAgg3 rfl ((hr15.2.world hS.sub).cell (j := 1) hq3242 hc3232 rfl)) rfl (rq [0, 0] hS ?_)))))))
           refine it (RP.v1 13 rfl (Vl.indexAddr underlying37 sizeOf80 rfl rfl ((hr15.2.world hS.sub).adr hq3242 hc3232) hq3242 hc3232 rfl) rfl rfl (RP.v1 14 rfl (Vl.fieldAddr (a'' := (ad A13).add (x3205.toNat * 3 + 2)) underlying80 rfl sizeOf3 rfl (add_add _ _ _)) rfl rfl (RP.v1 15 rfl (Vl.load isAgg3 rfl ((hr15.2.world hS.sub).cell (j := 2) hq3242 hc3232 rfl)) rfl rfl (RP.e 16 rfl (OW.buildSlice (E := (FI .i64)) (xs := ([(nth a12 x3205).What, (nth a12 x3205).A, (nth a12 x3205).B] : List Int)) (cs := (C_api_Pick (nth a12 x3205))) hS underlying51 zeroValue2 sizeOf2 (parts := [(0, .tmp 190), (1, .tmp 195), (2, .tmp 200)]) rfl rfl (by decide) (by decide) (by kernel_rfl) rfl) rfl rfl ?_))))
           rintro _ w ⟨b3243, rfl, hS⟩
           refine ⟨kp ⟨(by intro hx; cases hx), trivial⟩, ?_⟩
           obtain ⟨hf3247, hs3245, hS, hr3244, hb3246⟩ := St.lendSl hS
           obtain ⟨t3248, hg3249, h⟩ := h.bind
           have hc := isochronref21vtext_line.ok hr3244 hg3249 hS
           refine RP.e 17 rfl (OW.callF (ls := [.tmp 185, .const (.string lit_pick), .tmp 201]) rfl call23 hc) rfl rfl ?_
           rintro _ w ⟨rfl, hS⟩
           have hS := hb3246 _ _ hS
           have hS : St B w (_ :: _ :: l) hf := hS
           refine ⟨kp ⟨(by intro hx; cases hx), trivial⟩, ?_⟩
           refine RP.nil (RQ.inB_n (RQ.then_n (RC.region (pn 3 rfl (RL.nil ?_)))))
           exact fun a ha => ⟨_, h.some, _, _, _, rfl, ha.tE rfl, hS.d0⟩
          refine jf (RC.exit (RQ.exitT ?_))
          have h := h.inr
          refine RQ.exitT (RQ.inB_hit ?_)
          exact fun a ha => ⟨_, _, _, rfl, h, ha.tE rfl, hS⟩
         refine pn 7 rfl (ln (jf (RC.exit (RQ.exitT ?_))))
         have h := h.inr
         refine RQ.exitT (RQ.inB_hit ?_)
         exact fun a ha => ⟨_, _, _, rfl, h, ha.tE rfl, hS⟩
       refine sr (pn 1 rfl (ln (RC.block (fun a ha => lp h (fun (s : ByteArray × Int × Int) a w => ∃ s3271 x3272 x3273, s = (s3271, x3272, x3273) ∧ Has 213 [(2, sV A13 a12 c14), (3, pV b2111), (8, pV b2119), (15, iV x3273)] a ∧ St B w (Cl b2119 [.string s3271, iV x3272] 84 :: Cl b2111 (C_api_Model a1 A2 c3 A5 c6 A8 c9) 34 :: l) hf) ⟨_, _, _, rfl, ha.tE rfl, hS⟩ ?_))))
       rintro G3297 _ a w ⟨s3271, x3272, x3273, rfl, ha, hS⟩ h
       refine ro ha (RC.seq (sr (rr [0, 0, 2, 0, 0, 0] hS ?_)))
       refine it fun w hS => RL.iteP 140 rfl h (fun hc3300 h => ?_) fun hc3300 h => ?_
       next =>
        refine rr [0, 0, 0, 1, 0, 0, 0] hS ?_
        refine it fun w hS => ln ?_
        refine RC.iteP 147 rfl h (fun hc3301 h => ?_) fun hc3301 h => ?_
        next =>
         refine jt (sk (RC.seq (RC.block (dr [0, 3, 7, 9, 13, 15, 19, 21, 25, 27, 31, 33, 37, 39, 43, 47, 50, 53, 56, 59, 62] [19, 20] hS fun w hS => rq [0, 0, 2, 0] hS ?_))))
         refine it ?_
         obtain ⟨hq3310, h⟩ := h.req
         refine RP.s 0 4 rfl rfl hS (fun w hS => Vl.indexAddr underlying31 sizeOf78 rfl rfl ((hr10.2.world hS.sub).adr hq3310 hc3300) hq3310 hc3300 rfl) rfl (RP.s0 5 rfl (fun w => Vl.fieldAddr (a'' := (ad A8).add (x3273.toNat * 3 + 0)) underlying78 rfl sizeOf3 rfl (add_add _ _ _)) rfl (RP.s 0 6 rfl rfl hS (fun w hS => Vl.load isAgg3 rfl ((hr10.2.world hS.sub).cell (j := 0) hq3310 hc3300 rfl)) rfl (rq [0, 2, 0] hS ?_)))
         refine it (RP.s 0 10 rfl rfl hS (fun w hS => Vl.indexAddr underlying31 sizeOf78 rfl rfl ((hr10.2.world hS.sub).adr hq3310 hc3300) hq3310 hc3300 rfl) rfl (RP.s0 11 rfl (fun w => Vl.fieldAddr (a'' := (ad A8).add (x3273.toNat * 3 + 1)) underlying78 rfl sizeOf2 rfl (add_add _ _ _)) rfl (RP.s 0 12 rfl rfl hS (fun w hS => Vl.load isAgg2 rfl ((hr10.2.world hS.sub).cell (j := 1) hq3310 hc3300 rfl)) rfl (rq [0, 2, 0] hS ?_))))
         refine it (RP.v1 16 rfl (Vl.indexAddr underlying31 sizeOf78 rfl rfl ((hr10.2.world hS.sub).adr hq3310 hc3300) hq3310 hc3300 rfl) rfl rfl (RP.v1 17 rfl (Vl.fieldAddr (a'' := (ad A8).add (x3273.toNat * 3 + 2)) underlying78 rfl sizeOf2 rfl (add_add _ _ _)) rfl rfl (RP.v1 18 rfl (Vl.load isAgg2 rfl ((hr10.2.world hS.sub).cell (j := 2) hq3310 hc3300 rfl)) rfl rfl (RP.e 19 rfl (OW.buildSlice (E := (FI .i64)) (xs := ([(nth a1.Starts x3273).To, (nth a1.Starts x3273).Time, (nth a1.Starts x3273).Value] : List Int)) (cs := (C_api_Start (nth a1.Starts x3273))) hS underlying51 zeroValue2 sizeOf2 (parts := [(0, .tmp 156), (1, .tmp 162), (2, .tmp 168)]) rfl rfl (by decide) (by decide) (by kernel_rfl) rfl) rfl rfl ?_))))
         rintro _ w ⟨b3311, rfl, hS⟩
         refine ⟨kp ⟨(by intro hx; cases hx), trivial⟩, ?_⟩
         obtain ⟨hf3315, hs3313, hS, hr3312, hb3314⟩ := St.lendSl hS
         obtain ⟨t3316, hg3317, h⟩ := h.bind
         have hc := isochronref21vtext_line.ok hr3312 hg3317 hS
         refine RP.e 20 rfl (OW.callF (ls := [.tmp 150, .const (.string lit_start), .tmp 169]) rfl call23 hc) rfl rfl ?_
         rintro _ w ⟨rfl, hS⟩
         have hS := hb3314 _ _ hS
         have hS : St B w (_ :: _ :: _ :: l) hf := hS
         refine ⟨kp ⟨(by intro hx; cases hx), trivial⟩, ?_⟩
         refine RP.nil (RQ.inB_n (RQ.then_n (RC.region (pn 3 rfl (RL.nil ?_)))))
         exact fun a ha => ⟨_, h.some, _, _, _, rfl, ha.tE rfl, hS.d0⟩
        refine jf (RC.exit (RQ.exitT ?_))
        have h := h.inr
        refine RQ.exitT (RQ.inB_hit ?_)
        exact fun a ha => ⟨_, _, _, rfl, h, ha.tE rfl, hS.d1⟩
       refine pn 7 rfl (ln (jf (RC.exit (RQ.exitT ?_))))
       have h := h.inr
       refine RQ.exitT (RQ.inB_hit ?_)
       exact fun a ha => ⟨_, _, _, rfl, h, ha.tE rfl, hS.d1⟩
     refine sr (pn 1 rfl (ln (RC.block (fun a ha => lp h (fun (s : ByteArray × Int × Int) a w => ∃ s3347 x3348 x3349, s = (s3347, x3348, x3349) ∧ Has 213 [(2, sV A13 a12 c14), (3, pV b2111), (8, pV b2119), (12, iV x3349)] a ∧ St B w (Cl b2119 [.string s3347, iV x3348] 84 :: Cl b2111 (C_api_Model a1 A2 c3 A5 c6 A8 c9) 34 :: l) hf) ⟨_, _, _, rfl, ha.tE rfl, hS⟩ ?_))))
     rintro G3381 _ a w ⟨s3347, x3348, x3349, rfl, ha, hS⟩ h
     refine ro ha (RC.seq (sr (rr [0, 0, 2, 0, 0, 0] hS ?_)))
     refine it fun w hS => RL.iteP 108 rfl h (fun hc3384 h => ?_) fun hc3384 h => ?_
     next =>
      refine rr [0, 0, 0, 1, 0, 0, 0] hS ?_
      refine it fun w hS => ln ?_
      refine RC.iteP 115 rfl h (fun hc3385 h => ?_) fun hc3385 h => ?_
      next =>
       refine jt (sk (RC.seq (RC.block (sr (rr [0, 2, 0] hS ?_)))))
       refine it fun w hS => ?_
       obtain ⟨hq3398, h⟩ := h.req
       refine RL.s (Vl.indexAddr underlying30 sizeOf76 rfl rfl ((hr7.2.world hS.sub).adr hq3398 hc3384) hq3398 hc3384 rfl) rfl (RL.s (Vl.loadA isAgg76 sizeOf76 rfl rfl ((hr7.2.world hS.sub).cells hq3398 hc3384)) rfl (rr [0, 1] hS ?_))
       refine fun b3399 => it fun w hS => lnsr (pn 1 rfl (ln ?_))
       refine RC.join (fun (s : Int) a w => ∃ x3401, s = (x3401) ∧ Holds (Sum.elim G3381 (· = r)) (isochronref21vPrint.j65 a1 s3347 x3348 x3349 x3401) ∧ Has 213 [(2, sV A13 a12 c14), (3, pV b2111), (8, pV b2119), (12, iV x3349), (13, pV b3399), (14, iV x3401), (109, pV b2119), (110, pV b2119), (111, pV b2119), (112, .string s3347), (113, iV (s3347.size : Int)), (114, .bool (decide ((s3347.size : Int) ≤ 65536)))] a ∧ St B w (Cl b3399 (C_api_Link (nth a1.Links x3349)) 76 :: Cl b2119 [.string s3347, iV x3348] 84 :: Cl b2111 (C_api_Model a1 A2 c3 A5 c6 A8 c9) 34 :: l) hf) ?_ ?_
       · rintro x3401 a w ⟨_, rfl, h, ha, hS⟩
         refine ro ha (RC.region (rr [0, 0, 1, 0, 1, 0, 1, 0] hS ?_))
         refine it fun w hS => RL.e (OW.buildSlice (E := (FI .i64)) (xs := ([(nth a1.Links x3349).From, (nth a1.Links x3349).To, (nth a1.Links x3349).Look, x3401] : List Int)) (cs := [iV ((nth a1.Links x3349).From), iV ((nth a1.Links x3349).To), iV ((nth a1.Links x3349).Look), iV x3401]) hS underlying51 zeroValue2 sizeOf2 (parts := [(0, .tmp 127), (1, .tmp 129), (2, .tmp 131), (3, .tmp 132)]) rfl rfl (by decide) (by decide) (by kernel_rfl) rfl) rfl rfl ?_
         rintro _ w ⟨b3402, rfl, hS⟩
         obtain ⟨hf3406, hs3404, hS, hr3403, hb3405⟩ := St.lendSl hS
         obtain ⟨t3407, hg3408, h⟩ := h.bind
         have hc := isochronref21vtext_line.ok hr3403 hg3408 hS.p1
         refine RL.e (OW.callF (ls := [.tmp 125, .const (.string lit_link), .tmp 133]) rfl call23 hc) rfl rfl ?_
         rintro _ w ⟨rfl, hS⟩
         have hS := hb3405 _ _ hS
         have hS : St B w (_ :: _ :: _ :: _ :: l) hf := hS
         refine RL.nil (RQ.inB_n (RQ.then_n (RC.region (pn 3 rfl (RL.nil ?_)))))
         exact fun a ha => ⟨_, h.some, _, _, _, rfl, ha.tE rfl, hS.d0.d1⟩
       refine sr (rr [0, 1] hS ?_)
       refine it fun w hS => ln ?_
       refine RC.iteB 124 rfl h (fun hc3409 h => ?_) fun hc3409 h => ?_
       next =>
        refine jt (RC.region (pn 1 rfl (RL.nil ?_)))
        exact fun a ha => ⟨_, _, rfl, h, ha.tE rfl, hS⟩
       refine jf (RC.skip ?_)
       exact fun a ha => ⟨_, _, rfl, h, ha.tE rfl, hS⟩
      refine jf (RC.exit (RQ.exitT ?_))
      have h := h.inr
      refine RQ.exitT (RQ.inB_hit ?_)
      exact fun a ha => ⟨_, _, _, rfl, h, ha.tE rfl, hS⟩
     refine pn 7 rfl (ln (jf (RC.exit (RQ.exitT ?_))))
     have h := h.inr
     refine RQ.exitT (RQ.inB_hit ?_)
     exact fun a ha => ⟨_, _, _, rfl, h, ha.tE rfl, hS⟩
   refine sr (pn 1 rfl (ln (RC.block (fun a ha => lp h (fun (s : ByteArray × Int × Int) a w => ∃ s3667 x3668 x3669, s = (s3667, x3668, x3669) ∧ Has 213 [(2, sV A13 a12 c14), (3, pV b2111), (8, pV b2119), (9, iV x3669)] a ∧ St B w (Cl b2119 [.string s3667, iV x3668] 84 :: Cl b2111 (C_api_Model a1 A2 c3 A5 c6 A8 c9) 34 :: l) hf) ⟨_, _, _, rfl, ha.tE rfl, hS.d0.d1.d1.d1.d1⟩ ?_))))
   rintro G3939 _ a w ⟨s3667, x3668, x3669, rfl, ha, hS⟩ h
   refine ro ha (RC.seq (sr (rr [0, 0, 2, 0, 0, 0] hS ?_)))
   refine it fun w hS => RL.iteP 54 rfl h (fun hc3942 h => ?_) fun hc3942 h => ?_
   next =>
    refine rr [0, 0, 0, 1, 0, 0, 0] hS ?_
    refine it fun w hS => ln ?_
    refine RC.iteP 61 rfl h (fun hc3943 h => ?_) fun hc3943 h => ?_
    next =>
     refine jt (sk (RC.seq (RC.block (sr (pn 1 rfl (cF (fun _ hg => isochronref21vtext_line.ok (SlR.nil (A := none) (c := 0)) hg hS) call23 h rfl rfl rfl ?_))))))
     rintro t4076 h _ w ⟨rfl, hS⟩
     refine lnsr (pn 1 rfl (ln (RC.block (fun a ha => lp h (fun (s : ByteArray × Int × Int) a w => ∃ s4119 x4120 x4121, s = (s4119, x4120, x4121) ∧ Has 213 [(2, sV A13 a12 c14), (3, pV b2111), (8, pV b2119), (9, iV x3669), (10, iV x4121), (55, pV b2119), (56, pV b2119), (57, pV b2119), (58, .string s3667), (59, iV (s3667.size : Int)), (60, .bool (decide ((s3667.size : Int) ≤ 65536)))] a ∧ St B w (Cl b2119 [.string s4119, iV x4120] 84 :: Cl b2111 (C_api_Model a1 A2 c3 A5 c6 A8 c9) 34 :: l) hf) ⟨_, _, _, rfl, ha.tE rfl, hS⟩ ?_))))
     rintro G4165 _ a w ⟨s4119, x4120, x4121, rfl, ha, hS⟩ h
     refine ro ha (RC.seq (sr (rr [0, 0, 2, 0] hS ?_)))
     refine it fun w hS => ?_
     obtain ⟨hq4173, h⟩ := h.req
     refine RL.s (Vl.indexAddr underlying29 sizeOf72 rfl rfl (hr4.2.adr hq4173 hc3942) hq4173 hc3942 rfl) rfl ?_
     obtain ⟨_, _, ⟨A4174, c4175, rfl, hr4176⟩, hl4177⟩ := hr4.2.elem hq4173 hc3942
     refine RL.s (Vl.load isAgg72 rfl (cellH_world hS.sub (hl4177 0 _ rfl))) rfl (r0 3 rfl ?_)
     refine RL.iteP 74 rfl h (fun hc4178 h => ?_) fun hc4178 h => ?_
     next =>
      refine rr [0, 0, 0, 1, 0, 0, 0] hS ?_
      refine it fun w hS => ln ?_
      refine RC.iteP 81 rfl h (fun hc4179 h => ?_) fun hc4179 h => ?_
      next =>
       refine jt (sk (RC.seq (RC.block (sr (rr [0, 2, 0] hS ?_)))))
       refine it fun w hS => RL.s (Vl.indexAddr underlying29 sizeOf72 rfl rfl (hr4.2.adr hq4173 hc3942) hq4173 hc3942 rfl) rfl ?_
       obtain ⟨_, _, ⟨A4193, c4194, rfl, hr4195⟩, hl4196⟩ := hr4.2.elem hq4173 hc3942
       refine RL.s (Vl.load isAgg72 rfl (cellH_world hS.sub (hl4196 0 _ rfl))) rfl (pn 1 rfl ?_)
       obtain ⟨hq4197, h⟩ := h.req
       refine RL.s (Vl.indexAddr underlying72 sizeOf74 rfl rfl ((hr4195.2.world hS.sub).adr hq4197 hc4178) hq4197 hc4178 rfl) rfl (RL.s (Vl.loadA isAgg74 sizeOf74 rfl rfl ((hr4195.2.world hS.sub).cells hq4197 hc4178)) rfl (rr [0, 1] hS ?_))
       refine fun b4198 => it fun w hS => ln (RC.region (rr [0, 0, 1, 0, 1, 0, 1, 0, 1] hS ?_))
       refine it fun w hS => RL.e (OW.buildSlice (E := (FI .i64)) (xs := ([(nth (nth a1.Progs x3669) x4121).Op, (nth (nth a1.Progs x3669) x4121).A, (nth (nth a1.Progs x3669) x4121).B, (nth (nth a1.Progs x3669) x4121).C] : List Int)) (cs := (C_api_Instr (nth (nth a1.Progs x3669) x4121))) hS underlying51 zeroValue2 sizeOf2 (parts := [(0, .tmp 94), (1, .tmp 96), (2, .tmp 98), (3, .tmp 100)]) rfl rfl (by decide) (by decide) (by kernel_rfl) rfl) rfl rfl ?_
       rintro _ w ⟨b4199, rfl, hS⟩
       obtain ⟨hf4203, hs4201, hS, hr4200, hb4202⟩ := St.lendSl hS
       obtain ⟨t4204, hg4205, h⟩ := h.bind
       have hc := isochronref21vtext_line.ok hr4200 hg4205 hS.p1
       refine RL.e (OW.callF (ls := [.tmp 92, .const (.string lit_op), .tmp 101]) rfl call23 hc) rfl rfl ?_
       rintro _ w ⟨rfl, hS⟩
       have hS := hb4202 _ _ hS
       have hS : St B w (_ :: _ :: _ :: _ :: l) hf := hS
       refine RL.nil (RQ.inB_n (RQ.then_n (RC.region (pn 3 rfl (RL.nil ?_)))))
       exact fun a ha => ⟨_, h.some, _, _, _, rfl, ha.tE rfl, hS.d0.d1⟩
      refine jf (RC.exit (RQ.exitT ?_))
      have h := h.inrS
      refine RQ.exitT (RQ.inB_hit (RQ.inB_n (RQ.then_n (RC.region (pn 3 rfl (RL.nil ?_))))))
      exact fun a ha => ⟨_, h.some, _, _, _, rfl, ha.tE rfl, hS⟩
     refine pn 7 rfl (ln (jf (RC.exit (RQ.exitT ?_))))
     have h := h.inrS
     refine RQ.exitT (RQ.inB_hit (RQ.inB_n (RQ.then_n (RC.region (pn 3 rfl (RL.nil ?_))))))
     exact fun a ha => ⟨_, h.some, _, _, _, rfl, ha.tE rfl, hS⟩
    refine jf (RC.exit (RQ.exitT ?_))
    have h := h.inr
    refine RQ.exitT (RQ.inB_hit ?_)
    exact fun a ha => ⟨_, _, _, rfl, h, ha.tE rfl, hS⟩
   refine pn 7 rfl (ln (jf (RC.exit (RQ.exitT ?_))))
   have h := h.inr
   refine RQ.exitT (RQ.inB_hit ?_)
   exact fun a ha => ⟨_, _, _, rfl, h, ha.tE rfl, hS⟩
  refine jtr (pn 2 rfl (lr (RQ.ret ?_)))
  cases h.some
  exact rt results10 rfl ⟨rfl, hS.d0.d0⟩
def script_counts.j6 (q29 : Bool) : Option (Int × Bool) := (if q29 = true then some (4, true) else some (0, false))
def script_counts.j5 (a1 : ByteArray) (q26 : Bool) : Option (Int × Bool) := (if q26 = true then some (3, true) else (if a1 = lit_op then script_counts.j6 true else script_counts.j6 (decide (a1 = lit_link))))
def script_counts.j4 (a1 : ByteArray) (q22 : Bool) : Option (Int × Bool) := (if q22 = true then some (1, true) else (if a1 = lit_caps then script_counts.j5 a1 true else (if a1 = lit_start then script_counts.j5 a1 true else script_counts.j5 a1 (decide (a1 = lit_pick)))))
def script_counts.f (a1 : ByteArray) : Option (Int × Bool) := (if a1 = lit_lane then some (0, true) else (if a1 = lit_seed then script_counts.j4 a1 true else (if a1 = lit_end then script_counts.j4 a1 true else script_counts.j4 a1 (decide (a1 = lit_budget)))))
theorem script_counts.ok {a1 : ByteArray} {r : Int × Bool} (h : script_counts.f a1 = some r) (hS : St B w (l) hf) :
    Calls prog 50 #[.string a1] w (Ret fun v w => v = .tuple #[iV r.1, .bool r.2] ∧ St B w (l) hf) := by
  have h := Holds.of h
  refine en func50 rfl ntmps50 rfl (sr (pn 2 rfl (ln (RC.seq (sr (pn 1 rfl (ln (RC.block (sr (RL.s (Vl.strEq rfl rfl) rfl ?_))))))))))
  refine pn 1 rfl (ln ?_)
  refine RC.iteP 5 rfl h (fun hc19 h => ?_) fun hc19 h => ?_
  next =>
   refine jtr (pn 2 rfl (lr (ir ?_)))
   cases h.some
   exact rt results50 rfl ⟨rfl, hS⟩
  refine jf ?_
  refine RC.join (fun (s : Bool) a w => ∃ q22, s = (q22) ∧ Holds (· = r) (script_counts.j4 a1 q22) ∧ Has 18 [(4, .string a1), (7, .bool q22)] a ∧ St B w (l) hf) ?_ ?_
  · rintro q22 a w ⟨_, rfl, h, ha, hS⟩
    refine ro ha ?_
    refine RC.iteB 7 rfl h (fun hc23 h => ?_) fun hc23 h => ?_
    next =>
     refine jtr (pn 2 rfl (lr (ir ?_)))
     cases h.some
     exact rt results50 rfl ⟨rfl, hS⟩
    refine jf ?_
    refine RC.join (fun (s : Bool) a w => ∃ q26, s = (q26) ∧ Holds (· = r) (script_counts.j5 a1 q26) ∧ Has 18 [(4, .string a1), (11, .bool q26)] a ∧ St B w (l) hf) ?_ ?_
    · rintro q26 a w ⟨_, rfl, h, ha, hS⟩
      refine ro ha ?_
      refine RC.iteB 11 rfl h (fun hc27 h => ?_) fun hc27 h => ?_
      next =>
       refine jtr (pn 2 rfl (lr (ir ?_)))
       cases h.some
       exact rt results50 rfl ⟨rfl, hS⟩
      refine jf ?_
      refine RC.join (fun (s : Bool) a w => ∃ q29, s = (q29) ∧ Holds (· = r) (script_counts.j6 q29) ∧ Has 18 [(15, .bool q29)] a ∧ St B w (l) hf) ?_ ?_
      · rintro q29 a w ⟨_, rfl, h, ha, hS⟩
        refine ro ha ?_
        refine RC.iteB 15 rfl h (fun hc30 h => ?_) fun hc30 h => ?_
        next =>
         refine jtr (pn 2 rfl (lr (ir ?_)))
         cases h.some
         exact rt results50 rfl ⟨rfl, hS⟩
        refine jf (RC.skip (RQ.inB_n (tsr (pn 2 rfl (lr ?_)))))
        cases h.some
        exact rt results50 rfl ⟨rfl, hS⟩
      refine sr (RL.s (Vl.strEq rfl rfl) rfl (pn 1 rfl (ln ?_)))
      refine RC.iteP 15 rfl h (fun hc31 h => ?_) fun hc31 h => ?_
      next =>
       refine jt (RC.skip ?_)
       exact fun a ha => ⟨_, _, rfl, h, ha.tE rfl, hS⟩
      refine jf (RC.region (RL.s (Vl.strEq rfl rfl) rfl (pn 1 rfl (RL.nil ?_))))
      exact fun a ha => ⟨_, _, rfl, h, ha.tE rfl, hS⟩
    refine sr (RL.s (Vl.strEq rfl rfl) rfl (pn 1 rfl (ln ?_)))
    refine RC.iteP 11 rfl h (fun hc32 h => ?_) fun hc32 h => ?_
    next =>
     refine jt (RC.skip ?_)
     exact fun a ha => ⟨_, _, rfl, h, ha.tE rfl, hS⟩
    refine jf (sr (RL.s (Vl.strEq rfl rfl) rfl (pn 1 rfl (ln ?_))))
    refine RC.iteP 11 rfl h (fun hc33 h => ?_) fun hc33 h => ?_
    next =>
     refine jt (RC.skip ?_)
     exact fun a ha => ⟨_, _, rfl, h, ha.tE rfl, hS⟩
    refine jf (RC.region (RL.s (Vl.strEq rfl rfl) rfl (pn 1 rfl (RL.nil ?_))))
    exact fun a ha => ⟨_, _, rfl, h, ha.tE rfl, hS⟩
  refine sr (RL.s (Vl.strEq rfl rfl) rfl (pn 1 rfl (ln ?_)))
  refine RC.iteP 7 rfl h (fun hc34 h => ?_) fun hc34 h => ?_
  next =>
   refine jt (RC.skip ?_)
   exact fun a ha => ⟨_, _, rfl, h, ha.tE rfl, hS⟩
  refine jf (sr (RL.s (Vl.strEq rfl rfl) rfl (pn 1 rfl (ln ?_))))
  refine RC.iteP 7 rfl h (fun hc35 h => ?_) fun hc35 h => ?_
  next =>
   refine jt (RC.skip ?_)
   exact fun a ha => ⟨_, _, rfl, h, ha.tE rfl, hS⟩
  refine jf (RC.region (RL.s (Vl.strEq rfl rfl) rfl (pn 1 rfl (RL.nil ?_))))
  exact fun a ha => ⟨_, _, rfl, h, ha.tE rfl, hS⟩
def script_number.l4b (a1 : ByteArray) : Int × Int → Option ((Int × Int) ⊕ (Int × Bool))
  | (x105, x106) => (if x106 < (a1.size : Int) then (if 0 ≤ x106 then (if 48 ≤ itR a1 x106 then (if itR a1 x106 ≤ 57 then some (.inl (IntKind.i64.wrap (x105 + 1), x106 + itS a1 x106)) else (if itR a1 x106 = 45 then (if 0 < x106 then some (.inr (0, false)) else some (.inl (x105, x106 + itS a1 x106))) else some (.inr (0, false)))) else (if itR a1 x106 = 45 then (if 0 < x106 then some (.inr (0, false)) else some (.inl (x105, x106 + itS a1 x106))) else some (.inr (0, false)))) else none) else (Option.map Sum.inr (if a1.size ≤ 9223372036854775806 then (parseN a1).bind fun t127 => (if x105 ≤ 19 then (if (-4611686018427387904) ≤ t127 then (if t127 ≤ 4611686018427387904 then (if -9223372036854775808 ≤ t127 ∧ t127 ≤ 9223372036854775807 then some (t127, (decide ((itoaB t127) = a1))) else none) else some (t127, false)) else some (t127, false)) else some (t127, false)) else none)))
def script_number.l4 (a1 : ByteArray) (s : Int × Int) : Option (Int × Bool) := loopR (script_number.l4b a1) s
def script_number.f (a1 : ByteArray) : Option (Int × Bool) := script_number.l4 a1 (0, 0)
theorem script_number.ok {a1 : ByteArray} (hT : TabH prog hf) {r : Int × Bool} (h : script_number.f a1 = some r) (hS : St B w (l) hf) :
    Calls prog 51 #[.string a1] w (Ret fun v w => v = .tuple #[iV r.1, .bool r.2] ∧ St B w (l) hf) := by
  have h := Holds.of h
  refine en func51 rfl ntmps51 rfl (sr (pn 2 rfl (lnsr (pn 1 rfl (ln (RC.seq (sr (pn 1 rfl (RL.e (OW.rangeStr hS underlying9 rfl) rfl rfl ?_)))))))))
  rintro _ w ⟨b97, rfl, hS⟩
  have hS : St B w (_ :: l) hf := hS
  refine ln (RC.block (fun a ha => lp h (fun (s : Int × Int) a w => ∃ x105 x106, s = (x105, x106) ∧ Has 57 [(0, .string a1), (4, iV x105), (10, pV b97)] a ∧ St B w (It a1 x106 b97 :: l) hf) ⟨_, _, rfl, ha.tE rfl, hS⟩ ?_))
  rintro G117 _ a w ⟨x105, x106, rfl, ha, hS⟩ h
  refine ro ha (sr ?_)
  by_cases hc118 : x106 < (a1.size : Int)
  case pos =>
   have h := h.pos hc118
   obtain ⟨hq119, h⟩ := h.req
   refine RL.e (OW.nextT 0 hS rfl rfl rfl hq119 hc118) rfl rfl ?_
   rintro _ w ⟨rfl, hS⟩
   refine pn 1 rfl (ln (RC.seq (jt (sk (RC.block (sr (pn 4 rfl (ln (RC.block (sr ?_))))))))))
   refine pn 3 rfl ?_
   refine RL.iteP 18 rfl h (fun hc120 h => ?_) fun hc120 h => ?_
   next =>
    refine pn 4 rfl (ln ?_)
    refine RC.iteP 15 rfl h (fun hc121 h => ?_) fun hc121 h => ?_
    next =>
     refine jt (RC.region (pn 3 rfl (RL.nil (RQ.inB_n (RQ.inB_n ?_)))))
     exact fun a ha => ⟨_, h.some, _, _, rfl, ha.tE rfl, hS⟩
    refine jf (sr (pn 3 rfl ?_))
    refine RL.iteN 27 rfl h (fun hc122 h => ?_) fun hc122 h => ?_
    next =>
     refine pn 4 rfl (ln ?_)
     refine RC.iteP 24 rfl h (fun hc123 h => ?_) fun hc123 h => ?_
     next =>
      refine jtr (pn 2 rfl (lr (RQ.inB_ret (RQ.inB_ret ?_))))
      have h := h.inrS
      refine RQ.ret (ir ?_)
      cases h.some
      exact rt results51 rfl ⟨rfl, hS.d0⟩
     refine jf (RC.skip (RQ.inB_n (RQ.inB_n ?_)))
     exact fun a ha => ⟨_, h.some, _, _, rfl, ha.tE rfl, hS⟩
    refine pn 4 rfl (ln (jtr (pn 2 rfl (lr (RQ.inB_ret (RQ.inB_ret ?_))))))
    have h := h.inrS
    refine RQ.ret (ir ?_)
    cases h.some
    exact rt results51 rfl ⟨rfl, hS.d0⟩
   refine pn 4 rfl (ln (jf (sr (pn 3 rfl ?_))))
   refine RL.iteN 27 rfl h (fun hc124 h => ?_) fun hc124 h => ?_
   next =>
    refine pn 4 rfl (ln ?_)
    refine RC.iteP 24 rfl h (fun hc125 h => ?_) fun hc125 h => ?_
    next =>
     refine jtr (pn 2 rfl (lr (RQ.inB_ret (RQ.inB_ret ?_))))
     have h := h.inrS
     refine RQ.ret (ir ?_)
     cases h.some
     exact rt results51 rfl ⟨rfl, hS.d0⟩
    refine jf (RC.skip (RQ.inB_n (RQ.inB_n ?_)))
    exact fun a ha => ⟨_, h.some, _, _, rfl, ha.tE rfl, hS⟩
   refine pn 4 rfl (ln (jtr (pn 2 rfl (lr (RQ.inB_ret (RQ.inB_ret ?_))))))
   have h := h.inrS
   refine RQ.ret (ir ?_)
   cases h.some
   exact rt results51 rfl ⟨rfl, hS.d0⟩
  case neg =>
   have h := h.neg hc118
   refine RL.s (Vl.nextF 0 hS rfl rfl hc118) rfl (pn 1 rfl (ln (RC.seq (jf (RC.exit (RQ.exitT ?_))))))
   have h := h.inr
   refine RQ.exitT (RQ.inB_hit (tsr (pn 1 rfl ?_)))
   obtain ⟨hq126, h⟩ := h.req
   obtain ⟨t127, hg128, h⟩ := h.bind
   refine RL.e (OW.callF (ls := [.tmp 32, .const (iV 10), .const (iV 64)]) rfl call75 (parse_ok (fun s h v e w => strconv_ParseInt_10_at64_ok s h v e w) hg128 hq126 hS)) rfl rfl ?_
   rintro _ w ⟨rfl, hS⟩
   refine pn 5 rfl (lnsr (pn 2 rfl (RL.s (Vl.bn true rfl rfl) rfl (pn 5 rfl ?_))))
   refine RL.iteP 43 rfl h (fun hc129 h => ?_) fun hc129 h => ?_
   next =>
    refine pn 4 rfl ?_
    refine RL.iteP 47 rfl h (fun hc130 h => ?_) fun hc130 h => ?_
    next =>
     refine pn 4 rfl ?_
     refine RL.iteP 51 rfl h (fun hc131 h => ?_) fun hc131 h => ?_
     next =>
      refine pn 1 rfl ?_
      obtain ⟨⟨hq132, hq133⟩, h⟩ := h.req
      refine RL.e (OW.callF (ls := [.tmp 52, .const (iV 10)]) rfl call15 (format_ok strconv_FormatInt_10 t127 hq132 hq133 hT hS)) rfl rfl ?_
      rintro _ w ⟨rfl, hS⟩
      refine pn 1 rfl (RL.sg (Vl.strEq rfl rfl) rfl rfl (pn 3 rfl (lr ?_)))
      cases h.some
      exact rt results51 rfl ⟨rfl, hS.d0⟩
     refine pn 7 rfl (lr ?_)
     cases h.some
     exact rt results51 rfl ⟨rfl, hS.d0⟩
    refine pn 11 rfl (lr ?_)
    cases h.some
    exact rt results51 rfl ⟨rfl, hS.d0⟩
   refine pn 15 rfl (lr ?_)
   cases h.some
   exact rt results51 rfl ⟨rfl, hS.d0⟩
def script_Line.l4b (a1 : ByteArray) : List Int × Int → Option ((List Int × Int) ⊕ (ByteArray × List Int × Int))
  | (l347, x350) => (if x350 < ((subL (splitL a1 32) 1 ((splitL a1 32).length : Int)).length : Int) then (if 0 ≤ x350 then ((script_number.f (nth (subL (splitL a1 32) 1 ((splitL a1 32).length : Int)) x350)).bind fun (y399, y400) => (if y400 = true then (if (l347.length + 1) * 8 ≤ 140737488355328 then some (.inl ((l347 ++ ([y399] : List Int)), IntKind.i64.wrap (x350 + 1))) else none) else some (.inr (lit_, ([] : List Int), 4)))) else none) else some (.inr (nth (splitL a1 32) 0, l347, 0)))
def script_Line.l4 (a1 : ByteArray) (s : List Int × Int) : Option (ByteArray × List Int × Int) := loopR (script_Line.l4b a1) s
def script_Line.f (a1 : ByteArray) : Option (ByteArray × List Int × Int) := (if a1.size < 4294967281 then (if 0 < ((splitL a1 32).length : Int) then ((script_counts.f (nth (splitL a1 32) 0)).bind fun (y217, y218) => (if y218 = true then (if y217 = IntKind.i64.wrap (((splitL a1 32).length : Int) - 1) then (if 1 ≤ ((splitL a1 32).length : Int) then script_Line.l4 a1 ([], 0) else none) else some (lit_, ([] : List Int), 4)) else some (lit_, ([] : List Int), 4))) else none) else none)
theorem script_Line.ok {a1 : ByteArray} (hT : TabH prog hf) {r : ByteArray × List Int × Int} (h : script_Line.f a1 = some r) (hS : St B w (l) hf) :
    Calls prog 33 #[.string a1] w (Ret fun v w => ∃ (A_1 : Option Addr) (c_2 : Nat), v = .tuple #[.string r.1, sV A_1 r.2.1 c_2, iV r.2.2] ∧ St B w (OSf (FI .i64) 2 (sV A_1 r.2.1 c_2) r.2.1 :: l) hf) := by
  have h := Holds.of h
  refine en func33 rfl ntmps33 rfl (sr (pn 3 rfl (lnsr (pn 1 rfl ?_))))
  obtain ⟨hq205, h⟩ := h.req
  refine RL.e (OW.callF (ls := [.tmp 13, .const (.string lit_20)]) rfl call31 (split_ok (fun s x w hs => Any.strings_Split_one lays146 (by kernel_rfl) s x w hs) a1 32 hq205 hS)) rfl rfl ?_
  rintro _ w ⟨b206, rfl, hS⟩
  refine pn 1 rfl (ln (RC.seq (sr (pn 1 rfl ?_))))
  obtain ⟨hq214, h⟩ := h.req
  refine RL.s (Vl.indexOwn 0 hS rfl underlying101 sizeOf9 rfl rfl (by decide) hq214) rfl (RL.s (Vl.load isAgg9 rfl ((hS.slW 0 rfl).2.2.cell (j := 0) (by decide) hq214 rfl)) rfl (cF (fun _ hg => script_counts.ok hg hS) call50 h rfl rfl rfl ?_))
  rintro ⟨y217, y218⟩ h _ w ⟨rfl, hS⟩
  refine pn 5 rfl (lnsr (pn 3 rfl ?_))
  refine RL.iteM 24 rfl h (fun hc219 h => ?_) fun hc219 h => ?_
  next =>
   refine r0 6 rfl (ln ?_)
   refine RC.iteN 30 rfl h (fun hc220 h => ?_) fun hc220 h => ?_
   next =>
    refine jfs (sr (pn 1 rfl (ln (RC.seq (sr (pn 1 rfl ?_))))))
    obtain ⟨hq317, h⟩ := h.req
    obtain ⟨hf, hs315, hS, hr316⟩ := St.promote hS
    have hS : St B w (l) hf := hS
    have hr318 := hr316.sub (lo := 1) (hi := ((splitL a1 32).length : Int)) (m := (splitL a1 32).length) (by decide) hq317 (by omega) (by have := hr316.1; omega)
    refine RL.s (Vl.sliceL underlying101 sizeOf9 rfl rfl (by decide) hq317 hr316.1) rfl (r0 2 rfl (ln (RC.block ?_)))
    have hS := hS.nilSl (FI .i64) 2
    refine fun a ha => lp h (fun (s : List Int × Int) a w => ∃ l347 x350, s = (l347, x350) ∧ ∃ A348 c349, Has 54 [(5, .slice (some ⟨b206, 0, none⟩) (splitL a1 32).length ((splitL a1 32).length)), (8, sV A348 l347 c349), (32, .slice (subA (some ⟨b206, 0, none⟩) ((splitL a1 32).length) (1 : Int).toNat 1) (subL (splitL a1 32) 1 ((splitL a1 32).length : Int)).length (((splitL a1 32).length) - (1 : Int).toNat)), (33, iV ((subL (splitL a1 32) 1 ((splitL a1 32).length : Int)).length : Int)), (34, iV x350)] a ∧ St B w (OSf (FI .i64) 2 (sV A348 l347 c349) l347 :: l) hf) ⟨_, _, rfl, _, _, ha.tE rfl, hS⟩ ?_
    rintro G381 _ a w ⟨l347, x350, rfl, A348, c349, ha, hS⟩ h
    refine ro ha (sr (pn 1 rfl (ln (RC.seq ?_))))
    refine RC.iteP 35 rfl h (fun hc383 h => ?_) fun hc383 h => ?_
    next =>
     refine jt (sk (RC.seq (RC.block (sr ?_))))
     obtain ⟨hq396, h⟩ := h.req
     refine RL.s (Vl.indexAddr underlying101 sizeOf9 rfl rfl ((hr318.2.world hS.sub).adr hq396 hc383) hq396 hc383 rfl) rfl (RL.s (Vl.load isAgg9 rfl ((hr318.2.world hS.sub).cell (j := 0) hq396 hc383 rfl)) rfl (pn 1 rfl (lnsr (pn 1 rfl (cF (fun _ hg => script_number.ok (hT.mono hs315) hg hS) call51 h rfl rfl rfl ?_)))))
     rintro ⟨y399, y400⟩ h _ w ⟨rfl, hS⟩
     refine pn 5 rfl (ln (RC.seq (sr (pn 2 rfl (ln ?_)))))
     refine RC.iteM 44 rfl h (fun hc402 h => ?_) fun hc402 h => ?_
     next =>
      refine jfs (RC.region (pn 2 rfl (RL.e (OW.buildSlice (E := (FI .i64)) (xs := ([y399] : List Int)) (cs := [iV y399]) hS underlying51 zeroValue2 sizeOf2 (parts := [(0, .tmp 46)]) rfl rfl (by decide) (by decide) (by kernel_rfl) rfl) rfl rfl ?_)))
      rintro _ w ⟨b403, rfl, hS⟩
      obtain ⟨hq404, h⟩ := h.req
      refine RL.e (OW.append (E := (FI .i64)) (xs := l347) (ys := ([y399] : List Int)) 1 hS rfl underlying51 type2 rfl rfl rfl rfl (by decide) rfl rfl rfl (hS.slW 0 rfl).2.2.flat (by simp only [maxLen, List.length_cons, List.length_nil] at *; omega) hq404 rfl) rfl rfl ?_
      rintro v407 w hS
      obtain ⟨A405, c406, rfl, _⟩ := hS.osShape 0 rfl
      have hS : St B w (_ :: _ :: l) hf := hS
      refine pn 1 rfl (RL.nil (RQ.inB_n (RQ.then_n (RC.region (pn 2 rfl (RL.nil ?_))))))
      exact fun a ha => ⟨_, h.some, _, _, rfl, _, _, ha.tE rfl, hS.d1⟩
     refine jtr (pn 3 rfl (lr (RQ.ret (ir ?_))))
     have h := h.inrS
     refine RQ.ret (ir ?_)
     have hS := hS.nilSl (FI .i64) 2
     cases h.some
     exact rt results33 rfl ⟨none, 0, rfl, (hS.d1).down hs315⟩
    refine jf (RC.exit (RQ.exitT ?_))
    have h := h.inrS
    refine RQ.exitT (RQ.inB_hit (tsr (pn 1 rfl (RL.s (Vl.indexAddr underlying101 sizeOf9 rfl rfl ((hr316.2.world hS.sub).adr (by decide) hq214) (by decide) hq214 rfl) rfl (RL.s (Vl.load isAgg9 rfl ((hr316.2.world hS.sub).cell (j := 0) (by decide) hq214 rfl)) rfl (pn 4 rfl (lr ?_)))))))
    cases h.some
    exact rt results33 rfl ⟨A348, c349, rfl, (hS).down hs315⟩
   refine jtr (pn 3 rfl (lr (RQ.ret ?_)))
   have hS := hS.nilSl (FI .i64) 2
   cases h.some
   exact rt results33 rfl ⟨none, 0, rfl, hS.d1⟩
  refine pn 6 rfl (ln (jtr (pn 3 rfl (lr (RQ.ret ?_)))))
  have hS := hS.nilSl (FI .i64) 2
  cases h.some
  exact rt results33 rfl ⟨none, 0, rfl, hS.d1⟩
end
end Go.Proofs.Gx
