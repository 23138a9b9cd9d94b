/-
  The walks of functions, each with what it computes: printed by wip/gx.py.
-/
import Derived.Test.YtbkjjaikmngciaaGreatDoorW0
set_option linter.unusedVariables false
set_option linter.unusedSimpArgs false
set_option maxRecDepth 100000
set_option maxHeartbeats 4000000
namespace Go.Proofs.Gx
open Go.Sl Tryz
variable {B : Base} {w : World} {l : List HProp} {hf : Hp}
noncomputable section
def script_writer_line.l8b (a5 : List Int) (q202 : Bool) : ByteArray × Int → Option ((ByteArray × Int) ⊕ (ByteArray × Bool))
  | (s283, x284) => (if x284 < (a5.length : Int) then (if 0 ≤ x284 then (if -9223372036854775808 ≤ nth a5 x284 ∧ nth a5 x284 ≤ 9223372036854775807 then (if lit_20.size + (itoaB (nth a5 x284)).size ≤ 9223372036854775807 then (if s283.size + (lit_20 ++ (itoaB (nth a5 x284))).size ≤ 140737488355328 then some (.inl (s283 ++ (lit_20 ++ (itoaB (nth a5 x284))), IntKind.i64.wrap (x284 + 1))) else none) else none) else none) else none) else (Option.map Sum.inr (if s283.size + lit_0a.size ≤ 140737488355328 then some (s283 ++ lit_0a, q202) else none)))
def script_writer_line.l8 (a5 : List Int) (q202 : Bool) (s : ByteArray × Int) : Option (ByteArray × Bool) := loopR (script_writer_line.l8b a5 q202) s
def script_writer_line.l6b (a2 a4 : ByteArray) (a5 : List Int) : Bool × Int → Option ((Bool × Int) ⊕ (ByteArray × Bool))
  | (q202, x203) => (if x203 < (a5.length : Int) then (if 0 ≤ x203 then (if q202 = true then some (.inl (true, IntKind.i64.wrap (x203 + 1))) else (if nth a5 x203 < (-4611686018427387904) then some (.inl (true, IntKind.i64.wrap (x203 + 1))) else some (.inl ((decide (4611686018427387904 < nth a5 x203)), IntKind.i64.wrap (x203 + 1))))) else none) else (Option.map Sum.inr (if q202 = true then some (a2, q202) else (if 65536 < (a2.size : Int) then some (a2, q202) else (if a2.size + a4.size ≤ 140737488355328 then script_writer_line.l8 a5 q202 (a2 ++ a4, 0) else none)))))
def script_writer_line.l6 (a2 a4 : ByteArray) (a5 : List Int) (s : Bool × Int) : Option (ByteArray × Bool) := loopR (script_writer_line.l6b a2 a4 a5) s
def script_writer_line.f (a2 : ByteArray) (a3 : Bool) (a4 : ByteArray) (a5 : List Int) : Option (ByteArray × Bool) := script_writer_line.l6 a2 a4 a5 (a3, 0)
theorem script_writer_line.ok {a2 a4 : ByteArray} {a3 : Bool} {a5 : List Int} {b1 c7 : Nat} {A6 : Option Addr} (hr8 : SlR ((FI .i64).rep) hf A6 c7 a5) (hT : TabH prog hf) {r : ByteArray × Bool} (h : script_writer_line.f a2 a3 a4 a5 = some r) (hS : St B w (Bd 70 5 [.bool a3] a2 b1 :: l) hf) :
    Calls prog 19 #[pV b1, .string a4, sV A6 a5 c7] w (Ret fun v w => v = .tuple #[] ∧ St B w (Bd 70 5 [.bool r.2] r.1 b1 :: l) hf) := by
  have h := Holds.of h
  refine en func19 rfl ntmps19 rfl (RC.seq (sr (r0 3 rfl (ln (RC.block (fun a ha => lp h (fun (s : Bool × Int) a w => ∃ q202 x203, s = (q202, x203) ∧ Has 66 [(0, pV b1), (1, .string a4), (2, sV A6 a5 c7), (10, sV A6 a5 c7), (11, iV (a5.length : Int)), (12, iV x203)] a ∧ St B w (Bd 70 5 [.bool q202] a2 b1 :: l) hf) ⟨_, _, rfl, ha.tE rfl, hS⟩ ?_))))))
  rintro G215 _ a w ⟨q202, x203, rfl, ha, hS⟩ h
  refine ro ha (sr (pn 1 rfl (ln (RC.seq ?_))))
  refine RC.iteP 13 rfl h (fun hc217 h => ?_) fun hc217 h => ?_
  next =>
   refine jt (sk (RC.seq (RC.block (sr ?_))))
   obtain ⟨hq222, h⟩ := h.req
   refine RL.s (Vl.indexAddr underlying51 sizeOf2 rfl rfl ((hr8.2.world hS.sub).adr hq222 hc217) hq222 hc217 rfl) rfl (RL.s (Vl.load isAgg2 rfl ((hr8.2.world hS.sub).cell (j := 0) hq222 hc217 rfl)) rfl (pn 1 rfl (ln (RC.region (r0 4 rfl (RL.s (Vl.ldB (k := 0) 0 hS isAgg4 rfl rfl rfl) rfl (pn 1 rfl ?_)))))))
   refine RL.iteB 21 rfl h (fun hc223 h => ?_) fun hc223 h => ?_
   next =>
    refine r0 9 rfl (RL.e0 (OW.stB (k := 0) (v := .bool true) 0 hS rfl rfl rfl rfl rfl sizeOf4 rfl (Nat.le_of_ble_eq_true rfl)) rfl ?_)
    rintro _ w ⟨rfl, hS⟩
    have hS : St B w (_ :: l) hf := hS
    refine RL.nil (RQ.inB_n (RQ.then_n (RC.region (pn 2 rfl (RL.nil ?_)))))
    exact fun a ha => ⟨_, h.some, _, _, rfl, ha.tE rfl, hS⟩
   refine pn 4 rfl ?_
   refine RL.iteP 25 rfl h (fun hc224 h => ?_) fun hc224 h => ?_
   next =>
    refine r0 5 rfl (RL.e0 (OW.stB (k := 0) (v := .bool true) 0 hS rfl rfl rfl rfl rfl sizeOf4 rfl (Nat.le_of_ble_eq_true rfl)) rfl ?_)
    rintro _ w ⟨rfl, hS⟩
    have hS : St B w (_ :: l) hf := hS
    refine RL.nil (RQ.inB_n (RQ.then_n (RC.region (pn 2 rfl (RL.nil ?_)))))
    exact fun a ha => ⟨_, h.some, _, _, rfl, ha.tE rfl, hS⟩
   refine r0 5 rfl (RL.e0 (OW.stB (k := 0) (v := .bool (decide (4611686018427387904 < nth a5 x203))) 0 hS rfl rfl rfl rfl rfl sizeOf4 rfl (Nat.le_of_ble_eq_true rfl)) rfl ?_)
   rintro _ w ⟨rfl, hS⟩
   have hS : St B w (_ :: l) hf := hS
   refine RL.nil (RQ.inB_n (RQ.then_n (RC.region (pn 2 rfl (RL.nil ?_)))))
   exact fun a ha => ⟨_, h.some, _, _, rfl, ha.tE rfl, hS⟩
  refine jf (RC.exit (RQ.exitT ?_))
  have h := h.inr
  refine RQ.exitT (RQ.inB_hit (RQ.then_n (RC.seq (sr (r0 3 rfl (RL.s (Vl.ldB (k := 0) 0 hS isAgg4 rfl rfl rfl) rfl (pn 1 rfl ?_)))))))
  refine RL.iteB 36 rfl h (fun hc227 h => ?_) fun hc227 h => ?_
  next =>
   refine pn 6 rfl (ln (jt (RC.ret (RQ.ret ?_))))
   cases h.some
   exact rt results19 rfl ⟨rfl, hS⟩
  refine r0 3 rfl (RL.e (OW.callF (ls := [.tmp 39]) rfl call21 (bld_len hS)) rfl rfl ?_)
  rintro _ w ⟨rfl, hS⟩
  refine pn 2 rfl (ln ?_)
  refine RC.iteP 42 rfl h (fun hc228 h => ?_) fun hc228 h => ?_
  next =>
   refine jt (RC.ret (RQ.ret ?_))
   cases h.some
   exact rt results19 rfl ⟨rfl, hS⟩
  refine jfs (sr (r0 4 rfl ?_))
  obtain ⟨hq229, h⟩ := h.req
  refine RL.e (OW.callF (ls := [.tmp 45, .tmp 46]) rfl call14 (bld_write a4 bldT70 hq229 hS)) rfl rfl ?_
  rintro _ w ⟨rfl, hS⟩
  refine ln (RC.seq (sr (r0 3 rfl (ln (RC.block (fun a ha => lp h (fun (s : ByteArray × Int) a w => ∃ s283 x284, s = (s283, x284) ∧ Has 66 [(0, pV b1), (48, sV A6 a5 c7), (49, iV (a5.length : Int)), (50, iV x284)] a ∧ St B w (Bd 70 5 [.bool q202] s283 b1 :: l) hf) ⟨_, _, rfl, ha.tE rfl, hS⟩ ?_))))))
  rintro G299 _ a w ⟨s283, x284, rfl, ha, hS⟩ h
  refine ro ha (sr (pn 1 rfl (ln (RC.seq ?_))))
  refine RC.iteP 51 rfl h (fun hc301 h => ?_) fun hc301 h => ?_
  next =>
   refine jt (sk (RC.seq (RC.block (sr ?_))))
   obtain ⟨hq307, h⟩ := h.req
   refine RL.s (Vl.indexAddr underlying51 sizeOf2 rfl rfl ((hr8.2.world hS.sub).adr hq307 hc301) hq307 hc301 rfl) rfl (RL.s (Vl.load isAgg2 rfl ((hr8.2.world hS.sub).cell (j := 0) hq307 hc301 rfl)) rfl (pn 1 rfl (ln (dr [0, 3, 6, 11, 14, 17, 20] [3, 4, 5, 6] hS fun w hS => rq [0, 0, 0, 0] hS ?_))))
   refine it ?_
   obtain ⟨⟨hq308, hq309⟩, h⟩ := h.req
   refine RP.e 4 rfl (OW.callF (ls := [.tmp 57, .const (iV 10)]) rfl call15 (format_ok strconv_FormatInt_10 (nth a5 x284) hq308 hq309 hT hS)) rfl rfl ?_
   rintro _ w ⟨rfl, hS⟩
   refine ⟨kp ⟨(by intro hx; cases hx), trivial⟩, ?_⟩
   obtain ⟨hq310, h⟩ := h.req
   refine RP.v1 5 rfl (Vl.strAdd hq310 rfl rfl) rfl rfl ?_
   obtain ⟨hq311, h⟩ := h.req
   refine RP.e 6 rfl (OW.callF (ls := [.tmp 56, .tmp 59]) rfl call14 (bld_write (lit_20 ++ (itoaB (nth a5 x284))) bldT70 hq311 hS)) rfl rfl ?_
   rintro _ w ⟨rfl, hS⟩
   refine ⟨kp ⟨(by intro hx; cases hx), trivial⟩, ?_⟩
   refine RP.nil (RQ.inB_n (RQ.then_n (RC.region (pn 2 rfl (RL.nil ?_)))))
   exact fun a ha => ⟨_, h.some, _, _, rfl, ha.tE rfl, hS⟩
  refine jf (RC.exit (RQ.exitT ?_))
  have h := h.inr
  refine RQ.exitT (RQ.inB_hit (RQ.then_n (RC.region (r0 3 rfl ?_))))
  obtain ⟨hq312, h⟩ := h.req
  refine RL.e (OW.callF (ls := [.tmp 64, .const (.string lit_0a)]) rfl call14 (bld_write lit_0a bldT70 hq312 hS)) rfl rfl ?_
  rintro _ w ⟨rfl, hS⟩
  refine RL.nil ?_
  cases h.some
  exact rtE results19 rfl ⟨rfl, hS⟩
def script_many.l2b (a1 : List Int) : List Int × Int → Option ((List Int × Int) ⊕ (List Int))
  | (l74, x77) => (if x77 < (a1.length : Int) then (if 0 ≤ x77 then (if (l74.length + 1) * 8 ≤ 140737488355328 then some (.inl ((l74 ++ ([nth a1 x77] : List Int)), IntKind.i64.wrap (x77 + 1))) else none) else none) else some (.inr l74))
def script_many.l2 (a1 : List Int) (s : List Int × Int) : Option (List Int) := loopR (script_many.l2b a1) s
def script_many.f (a1 : List Int) : Option (List Int) := script_many.l2 a1 ([], 0)
theorem script_many.ok {a1 : List Int} {A2 : Option Addr} {c3 : Nat} (hr4 : SlR ((FI .i64).rep) hf A2 c3 a1) {r : List Int} (h : script_many.f a1 = some r) (hS : St B w (l) hf) :
    Calls prog 20 #[sV A2 a1 c3] w (Ret fun v w => ∃ (A_1 : Option Addr) (c_2 : Nat), v = sV A_1 r c_2 ∧ St B w (OSf (FI .i64) 2 (sV A_1 r c_2) r :: l) hf) := by
  have h := Holds.of h
  refine en func20 rfl ntmps20 rfl (sr (pn 1 rfl (lnsr (pn 1 rfl (ln (RC.seq (sr (r0 3 rfl (RL.nil ?_)))))))))
  refine RQ.then_n (RC.block ?_)
  have hS := hS.nilSl (FI .i64) 2
  refine fun a ha => lp h (fun (s : List Int × Int) a w => ∃ l74 x77, s = (l74, x77) ∧ ∃ A75 c76, Has 18 [(3, sV A75 l74 c76), (6, sV A2 a1 c3), (7, iV (a1.length : Int)), (8, iV x77)] a ∧ St B w (OSf (FI .i64) 2 (sV A75 l74 c76) l74 :: l) hf) ⟨_, _, rfl, _, _, ha.tE rfl, hS⟩ ?_
  rintro G96 _ a w ⟨l74, x77, rfl, A75, c76, ha, hS⟩ h
  refine ro ha (sr (pn 1 rfl (ln (RC.seq ?_))))
  refine RC.iteP 9 rfl h (fun hc98 h => ?_) fun hc98 h => ?_
  next =>
   refine jt (sk (RC.seq (RC.block (sr ?_))))
   obtain ⟨hq105, h⟩ := h.req
   refine RL.s (Vl.indexAddr underlying100 sizeOf3 rfl rfl ((hr4.2.world hS.sub).adr hq105 hc98) hq105 hc98 rfl) rfl (RL.s (Vl.load isAgg3 rfl ((hr4.2.world hS.sub).cell (j := 0) hq105 hc98 rfl)) rfl (pn 1 rfl (ln (RC.region (pn 2 rfl (RL.e (OW.buildSlice (E := (FI .i64)) (xs := ([nth a1 x77] : List Int)) (cs := [iV (nth a1 x77)]) hS underlying51 zeroValue2 sizeOf2 (parts := [(0, .tmp 13)]) rfl rfl (by decide) (by decide) (by kernel_rfl) rfl) rfl rfl ?_))))))
   rintro _ w ⟨b106, rfl, hS⟩
   obtain ⟨hq107, h⟩ := h.req
   refine RL.e (OW.append (E := (FI .i64)) (xs := l74) (ys := ([nth a1 x77] : List Int)) 1 hS rfl underlying51 type2 rfl rfl rfl rfl (by decide) rfl rfl rfl (hS.slW 0 rfl).2.2.flat (by simp only [maxLen, List.length_cons, List.length_nil] at *; omega) hq107 rfl) rfl rfl ?_
   rintro v110 w hS
   obtain ⟨A108, c109, rfl, _⟩ := hS.osShape 0 rfl
   have hS : St B w (_ :: _ :: l) hf := hS
   refine pn 1 rfl (RL.nil (RQ.inB_n (RQ.then_n (RC.region (pn 2 rfl (RL.nil ?_))))))
   exact fun a ha => ⟨_, h.some, _, _, rfl, _, _, ha.tE rfl, hS.d1⟩
  refine jf (RC.exit (RQ.exitT ?_))
  have h := h.inrS
  refine RQ.exitT (RQ.inB_hit (tsr (pn 2 rfl (lr ?_))))
  obtain rfl := h.some
  exact rt results20 rfl ⟨A75, c76, rfl, hS⟩
def script_Print.l46b (a1 : api_Model) (x3513 : Int) : ByteArray × Bool × Int → Option ((ByteArray × Bool × Int) ⊕ ((ByteArray × Bool × Int) ⊕ (ByteArray × Int)))
  | (s3983, q3984, x3985) => (if x3985 < ((nth a1.Progs x3513).length : Int) then (if 0 ≤ x3985 then ((script_many.f ([(nth (nth a1.Progs x3513) x3985).Op, (nth (nth a1.Progs x3513) x3985).A, (nth (nth a1.Progs x3513) x3985).B, (nth (nth a1.Progs x3513) x3985).C] : List Int)).bind fun t4058 => ((script_writer_line.f s3983 q3984 lit_op t4058).bind fun (y4068, y4069) => some (.inl (y4068, y4069, IntKind.i64.wrap (x3985 + 1))))) else none) else some (.inr (.inl (s3983, q3984, IntKind.i64.wrap (x3513 + 1)))))
def script_Print.l46 (a1 : api_Model) (x3513 : Int) (s : ByteArray × Bool × Int) : Option ((ByteArray × Bool × Int) ⊕ (ByteArray × Int)) := loopR (script_Print.l46b a1 x3513) s
def script_Print.j60 (a1 : api_Model) (s4199 : ByteArray) (q4200 : Bool) (x4201 x4255 : Int) : Option ((ByteArray × Bool × Int) ⊕ (ByteArray × Int)) := ((script_writer_line.f s4199 q4200 lit_link ([(nth a1.Links x4201).From, (nth a1.Links x4201).To, (nth a1.Links x4201).Look, x4255] : List Int)).bind fun (y4263, y4264) => some (.inl (y4263, y4264, IntKind.i64.wrap (x4201 + 1))))
def script_Print.l64b (a12 : List api_Pick) : ByteArray × Bool × Int → Option ((ByteArray × Bool × Int) ⊕ (ByteArray × Int))
  | (s4595, q4596, x4597) => (if x4597 < (a12.length : Int) then (if 0 ≤ x4597 then ((script_many.f ([(nth a12 x4597).What, (nth a12 x4597).A, (nth a12 x4597).B] : List Int)).bind fun t4670 => ((script_writer_line.f s4595 q4596 lit_pick t4670).bind fun (y4680, y4681) => some (.inl (y4680, y4681, IntKind.i64.wrap (x4597 + 1))))) else none) else (Option.map Sum.inr (if q4596 = true then some (lit_, 1) else (if 65536 < (s4595.size : Int) then some (lit_, 2) else some (s4595, 0)))))
def script_Print.l64 (a12 : List api_Pick) (s : ByteArray × Bool × Int) : Option (ByteArray × Int) := loopR (script_Print.l64b a12) s
def script_Print.l62b (a1 : api_Model) (a12 : List api_Pick) : ByteArray × Bool × Int → Option ((ByteArray × Bool × Int) ⊕ (ByteArray × Int))
  | (s4371, q4372, x4373) => (if x4373 < (a1.Starts.length : Int) then (if 0 ≤ x4373 then ((script_writer_line.f s4371 q4372 lit_start ([(nth a1.Starts x4373).To, (nth a1.Starts x4373).Time, (nth a1.Starts x4373).Value] : List Int)).bind fun (y4424, y4425) => some (.inl (y4424, y4425, IntKind.i64.wrap (x4373 + 1)))) else none) else (Option.map Sum.inr (script_Print.l64 a12 (s4371, q4372, 0))))
def script_Print.l62 (a1 : api_Model) (a12 : List api_Pick) (s : ByteArray × Bool × Int) : Option (ByteArray × Int) := loopR (script_Print.l62b a1 a12) s
def script_Print.l58b (a1 : api_Model) (a12 : List api_Pick) : ByteArray × Bool × Int → Option ((ByteArray × Bool × Int) ⊕ (ByteArray × Int))
  | (s4199, q4200, x4201) => (if x4201 < (a1.Links.length : Int) then (if 0 ≤ x4201 then (if (nth a1.Links x4201).Loose = true then script_Print.j60 a1 s4199 q4200 x4201 1 else script_Print.j60 a1 s4199 q4200 x4201 0) else none) else (Option.map Sum.inr (script_Print.l62 a1 a12 (s4199, q4200, 0))))
def script_Print.l58 (a1 : api_Model) (a12 : List api_Pick) (s : ByteArray × Bool × Int) : Option (ByteArray × Int) := loopR (script_Print.l58b a1 a12) s
def script_Print.l44b (a1 : api_Model) (a12 : List api_Pick) : ByteArray × Bool × Int → Option ((ByteArray × Bool × Int) ⊕ (ByteArray × Int))
  | (s3511, q3512, x3513) => (if x3513 < (a1.Progs.length : Int) then (if 0 ≤ x3513 then ((script_writer_line.f s3511 q3512 lit_lane ([])).bind fun (y3940, y3941) => script_Print.l46 a1 x3513 (y3940, y3941, 0)) else none) else (Option.map Sum.inr (script_Print.l58 a1 a12 (s3511, q3512, 0))))
def script_Print.l44 (a1 : api_Model) (a12 : List api_Pick) (s : ByteArray × Bool × Int) : Option (ByteArray × Int) := loopR (script_Print.l44b a1 a12) s
def script_Print.f (a1 : api_Model) (a11 : api_Caps) (a12 : List api_Pick) : Option (ByteArray × Int) := ((script_writer_line.f ByteArray.empty (decide (4611686018427387904 < a1.Seed)) lit_seed ([IntKind.i64.wrap (IntKind.u64.wrap (BitVec.ofInt IntKind.u64.bits a1.Seed &&& ~~~ BitVec.ofInt IntKind.u64.bits 9223372036854775808).toNat)] : List Int)).bind fun (y2361, y2362) => ((script_writer_line.f y2361 y2362 lit_end ([a1.End] : List Int)).bind fun (y2370, y2371) => ((script_writer_line.f y2370 y2371 lit_budget ([a1.Budget] : List Int)).bind fun (y2379, y2380) => ((script_many.f ([a11.Link, a11.Wait, a11.Log] : List Int)).bind fun t2386 => ((script_writer_line.f y2379 y2380 lit_caps t2386).bind fun (y2396, y2397) => script_Print.l44 a1 a12 (y2396, y2397, 0))))))
theorem script_Print.ok {a1 : api_Model} {a11 : api_Caps} {a12 : List api_Pick} {A2 A5 A8 A13 : Option Addr} {c3 c6 c9 c14 : Nat} (hr4 : SlR (Rep.sl E_api_Instr.rep) hf A2 c3 a1.Progs) (hr7 : SlR E_api_Link.rep hf A5 c6 a1.Links) (hr10 : SlR E_api_Start.rep hf A8 c9 a1.Starts) (hr15 : SlR E_api_Pick.rep hf A13 c14 a12) (hT : TabH prog hf) {r : ByteArray × Int} (h : script_Print.f a1 a11 a12 = some r) (hS : St B w (l) hf) :
    Calls prog 9 #[.agg (C_api_Model a1 A2 c3 A5 c6 A8 c9).toArray, .agg (C_api_Caps a11).toArray, sV A13 a12 c14] w (Ret fun v w => v = .tuple #[.string r.1, iV r.2] ∧ St B w (l) hf) := by
  have h := Holds.of h
  refine en func9 rfl ntmps9 rfl (sr (rr [0, 0, 0, 0] hS ?_))
  refine fun b2351 b2352 => it fun w hS => lnsr (rr [0, 2, 0, 0] hS ?_)
  refine it fun w hS => RL.e (OW.box (cs := [.pointer none, .slice none 0 0, .bool (decide (4611686018427387904 < a1.Seed))]) hS rfl (by rfl)) rfl rfl ?_
  rintro _ w ⟨b2353, rfl, hS⟩
  have hS := Bd.new 5 hS
  have hS : St B w (_ :: _ :: _ :: l) hf := hS
  refine pn 1 rfl (lnsr (rr [0, 0, 3, 0, 0] hS ?_))
  refine it fun w hS => RL.e (OW.buildSlice (E := (FI .i64)) (xs := ([IntKind.i64.wrap (IntKind.u64.wrap (BitVec.ofInt IntKind.u64.bits a1.Seed &&& ~~~ BitVec.ofInt IntKind.u64.bits 9223372036854775808).toNat)] : List Int)) (cs := [iV (IntKind.i64.wrap (IntKind.u64.wrap (BitVec.ofInt IntKind.u64.bits a1.Seed &&& ~~~ BitVec.ofInt IntKind.u64.bits 9223372036854775808).toNat))]) hS underlying51 zeroValue2 sizeOf2 (parts := [(0, .tmp 29)]) rfl rfl (by decide) (by decide) (by kernel_rfl) rfl) rfl rfl ?_
  rintro _ w ⟨b2354, rfl, hS⟩
  obtain ⟨hf2358, hs2356, hS, hr2355, hb2357⟩ := St.lendSl hS
  obtain ⟨t2359, hg2360, h⟩ := h.bind
  have hc := script_writer_line.ok hr2355 (hT.mono hs2356) hg2360 hS
  obtain ⟨y2361, y2362⟩ := t2359
  refine RL.e (OW.callF (ls := [.tmp 25, .const (.string lit_seed), .tmp 30]) rfl call19 hc) rfl rfl ?_
  rintro _ w ⟨rfl, hS⟩
  have hS := hb2357 _ _ hS
  have hS : St B w (_ :: _ :: _ :: _ :: l) hf := hS
  refine lnsr (rr [0, 0, 4] hS ?_)
  refine it fun w hS => RL.e (OW.buildSlice (E := (FI .i64)) (xs := ([a1.End] : List Int)) (cs := [iV a1.End]) hS underlying51 zeroValue2 sizeOf2 (parts := [(0, .tmp 34)]) rfl rfl (by decide) (by decide) (by kernel_rfl) rfl) rfl rfl ?_
  rintro _ w ⟨b2363, rfl, hS⟩
  obtain ⟨hf2367, hs2365, hS, hr2364, hb2366⟩ := St.lendSl hS
  obtain ⟨t2368, hg2369, h⟩ := h.bind
  have hc := script_writer_line.ok hr2364 (hT.mono hs2365) hg2369 hS.p1
  obtain ⟨y2370, y2371⟩ := t2368
  refine RL.e (OW.callF (ls := [.tmp 32, .const (.string lit_end), .tmp 35]) rfl call19 hc) rfl rfl ?_
  rintro _ w ⟨rfl, hS⟩
  have hS := hb2366 _ _ hS
  have hS : St B w (_ :: _ :: _ :: _ :: _ :: l) hf := hS
  refine lnsr (rr [0, 0, 5] hS ?_)
  refine it fun w hS => RL.e (OW.buildSlice (E := (FI .i64)) (xs := ([a1.Budget] : List Int)) (cs := [iV a1.Budget]) hS underlying51 zeroValue2 sizeOf2 (parts := [(0, .tmp 39)]) rfl rfl (by decide) (by decide) (by kernel_rfl) rfl) rfl rfl ?_
  rintro _ w ⟨b2372, rfl, hS⟩
  obtain ⟨hf2376, hs2374, hS, hr2373, hb2375⟩ := St.lendSl hS
  obtain ⟨t2377, hg2378, h⟩ := h.bind
  have hc := script_writer_line.ok hr2373 (hT.mono hs2374) hg2378 hS.p1
  obtain ⟨y2379, y2380⟩ := t2377
  refine RL.e (OW.callF (ls := [.tmp 37, .const (.string lit_budget), .tmp 40]) rfl call19 hc) rfl rfl ?_
  rintro _ w ⟨rfl, hS⟩
  have hS := hb2375 _ _ hS
  have hS : St B w (_ :: _ :: _ :: _ :: _ :: _ :: l) hf := hS
  refine lnsr (rr [0, 0, 5, 0, 5, 0, 5] hS ?_)
  refine it fun w hS => RL.e (OW.buildSlice (E := (FI .i64)) (xs := ([a11.Link, a11.Wait, a11.Log] : List Int)) (cs := (C_api_Caps a11)) hS underlying100 zeroValue3 sizeOf3 (parts := [(0, .tmp 44), (1, .tmp 46), (2, .tmp 48)]) rfl rfl (by decide) (by decide) (by kernel_rfl) rfl) rfl rfl ?_
  rintro _ w ⟨b2381, rfl, hS⟩
  obtain ⟨hf2385, hs2383, hS, hr2382, hb2384⟩ := St.lendSl hS
  obtain ⟨t2386, hg2387, h⟩ := h.bind
  have hc := script_many.ok hr2382 hg2387 hS
  refine RL.e (OW.callF (ls := [.tmp 49]) rfl call20 hc) rfl rfl ?_
  rintro _ w ⟨A2388, c2389, rfl, hS⟩
  have hS := hb2384 _ _ hS
  have hS : St B w (_ :: _ :: _ :: _ :: _ :: _ :: _ :: _ :: l) hf := hS
  obtain ⟨hf2393, hs2391, hS, hr2390, hb2392⟩ := St.lendSl hS.p1
  obtain ⟨t2394, hg2395, h⟩ := h.bind
  have hc := script_writer_line.ok hr2390 (hT.mono hs2391) hg2395 hS.p2
  obtain ⟨y2396, y2397⟩ := t2394
  refine RL.e (OW.callF (ls := [.tmp 42, .const (.string lit_caps), .tmp 50]) rfl call19 hc) rfl rfl ?_
  rintro _ w ⟨rfl, hS⟩
  have hS := hb2392 _ _ hS
  have hS : St B w (_ :: _ :: _ :: _ :: _ :: _ :: _ :: _ :: l) hf := hS
  refine ln (RC.seq (sr (rr [0, 8, 0, 0] hS ?_)))
  refine it fun w hS => ln (RC.block (fun a ha => lp h (fun (s : ByteArray × Bool × Int) a w => ∃ s3511 q3512 x3513, s = (s3511, q3512, x3513) ∧ Has 150 [(2, sV A13 a12 c14), (3, pV b2351), (8, pV b2353), (53, sV A2 a1.Progs c3), (54, iV (a1.Progs.length : Int)), (55, iV x3513)] a ∧ St B w (Bd 70 5 [.bool q3512] s3511 b2353 :: Cl b2351 (C_api_Model a1 A2 c3 A5 c6 A8 c9) 34 :: l) hf) ⟨_, _, _, rfl, ha.tE rfl, hS.d0.d1.d1.d1.d1.d1⟩ ?_))
  rintro G3793 _ a w ⟨s3511, q3512, x3513, rfl, ha, hS⟩ h
  refine ro ha (sr (pn 1 rfl (ln (RC.seq ?_))))
  refine RC.iteP 56 rfl h (fun hc3795 h => ?_) fun hc3795 h => ?_
  next =>
   refine jt (sk (RC.seq (RC.block (sr ?_))))
   obtain ⟨hq3933, h⟩ := h.req
   refine RL.s (Vl.indexAddr underlying29 sizeOf72 rfl rfl (hr4.2.adr hq3933 hc3795) hq3933 hc3795 rfl) rfl ?_
   obtain ⟨_, _, ⟨A3934, c3935, rfl, hr3936⟩, hl3937⟩ := hr4.2.elem hq3933 hc3795
   refine RL.s (Vl.load isAgg72 rfl (cellH_world hS.sub (hl3937 0 _ rfl))) rfl (pn 1 rfl (lnsr (pn 1 rfl (cF (fun _ hg => script_writer_line.ok (SlR.nil (A := none) (c := 0)) hT hg hS) call19 h rfl rfl rfl ?_))))
   rintro ⟨y3940, y3941⟩ h _ w ⟨rfl, hS⟩
   refine lnsr (r0 3 rfl (ln (RC.block (fun a ha => lp h (fun (s : ByteArray × Bool × Int) a w => ∃ s3983 q3984 x3985, s = (s3983, q3984, x3985) ∧ Has 150 [(2, sV A13 a12 c14), (3, pV b2351), (8, pV b2353), (53, sV A2 a1.Progs c3), (54, iV (a1.Progs.length : Int)), (55, iV x3513), (61, .slice A3934 (nth a1.Progs x3513).length c3935), (62, iV ((nth a1.Progs x3513).length : Int)), (63, iV x3985)] a ∧ St B w (Bd 70 5 [.bool q3984] s3983 b2353 :: Cl b2351 (C_api_Model a1 A2 c3 A5 c6 A8 c9) 34 :: l) hf) ⟨_, _, _, rfl, ha.tE rfl, hS⟩ ?_))))
   rintro G4029 _ a w ⟨s3983, q3984, x3985, rfl, ha, hS⟩ h
   refine ro ha (sr (pn 1 rfl (ln (RC.seq ?_))))
   refine RC.iteP 64 rfl h (fun hc4031 h => ?_) fun hc4031 h => ?_
   next =>
    refine jt (sk (RC.seq (RC.block (sr ?_))))
    obtain ⟨hq4051, h⟩ := h.req
    refine RL.s (Vl.indexAddr underlying72 sizeOf74 rfl rfl ((hr3936.2.world hS.sub).adr hq4051 hc4031) hq4051 hc4031 rfl) rfl (RL.s (Vl.loadA isAgg74 sizeOf74 rfl rfl ((hr3936.2.world hS.sub).cells hq4051 hc4031)) rfl (rr [0, 1] hS ?_))
    refine fun b4052 => it fun w hS => ln (RC.region (rr [0, 0, 1, 0, 1, 0, 1, 0, 1] hS ?_))
    refine it fun w hS => RL.e (OW.buildSlice (E := (FI .i64)) (xs := ([(nth (nth a1.Progs x3513) x3985).Op, (nth (nth a1.Progs x3513) x3985).A, (nth (nth a1.Progs x3513) x3985).B, (nth (nth a1.Progs x3513) x3985).C] : List Int)) (cs := (C_api_Instr (nth (nth a1.Progs x3513) x3985))) hS underlying100 zeroValue3 sizeOf3 (parts := [(0, .tmp 69), (1, .tmp 71), (2, .tmp 73), (3, .tmp 75)]) rfl rfl (by decide) (by decide) (by kernel_rfl) rfl) rfl rfl ?_
    rintro _ w ⟨b4053, rfl, hS⟩
    obtain ⟨hf4057, hs4055, hS, hr4054, hb4056⟩ := St.lendSl hS
    obtain ⟨t4058, hg4059, h⟩ := h.bind
    have hc := script_many.ok hr4054 hg4059 hS
    refine RL.e (OW.callF (ls := [.tmp 76]) rfl call20 hc) rfl rfl ?_
    rintro _ w ⟨A4060, c4061, rfl, hS⟩
    have hS := hb4056 _ _ hS
    have hS : St B w (_ :: _ :: _ :: _ :: _ :: l) hf := hS
    obtain ⟨hf4065, hs4063, hS, hr4062, hb4064⟩ := St.lendSl hS.p1
    obtain ⟨t4066, hg4067, h⟩ := h.bind
    have hc := script_writer_line.ok hr4062 (hT.mono hs4063) hg4067 hS.p2
    obtain ⟨y4068, y4069⟩ := t4066
    refine RL.e (OW.callF (ls := [.tmp 67, .const (.string lit_op), .tmp 77]) rfl call19 hc) rfl rfl ?_
    rintro _ w ⟨rfl, hS⟩
    have hS := hb4064 _ _ hS
    have hS : St B w (_ :: _ :: _ :: _ :: _ :: l) hf := hS
    refine RL.nil (RQ.inB_n (RQ.then_n (RC.region (pn 2 rfl (RL.nil ?_)))))
    exact fun a ha => ⟨_, h.some, _, _, _, rfl, ha.tE rfl, hS.d0.d1.d1⟩
   refine jf (RC.exit (RQ.exitT ?_))
   have h := h.inrS
   refine RQ.exitT (RQ.inB_hit (RQ.inB_n (RQ.then_n (RC.region (pn 2 rfl (RL.nil ?_))))))
   exact fun a ha => ⟨_, h.some, _, _, _, rfl, ha.tE rfl, hS⟩
  refine jf (RC.exit (RQ.exitT ?_))
  have h := h.inr
  refine RQ.exitT (RQ.inB_hit (RQ.then_n (RC.seq (sr (rr [0, 2, 0, 0] hS ?_)))))
  refine it fun w hS => ln (RC.block (fun a ha => lp h (fun (s : ByteArray × Bool × Int) a w => ∃ s4199 q4200 x4201, s = (s4199, q4200, x4201) ∧ Has 150 [(2, sV A13 a12 c14), (3, pV b2351), (8, pV b2353), (82, sV A5 a1.Links c6), (83, iV (a1.Links.length : Int)), (84, iV x4201)] a ∧ St B w (Bd 70 5 [.bool q4200] s4199 b2353 :: Cl b2351 (C_api_Model a1 A2 c3 A5 c6 A8 c9) 34 :: l) hf) ⟨_, _, _, rfl, ha.tE rfl, hS⟩ ?_))
  rintro G4235 _ a w ⟨s4199, q4200, x4201, rfl, ha, hS⟩ h
  refine ro ha (sr (pn 1 rfl (ln (RC.seq ?_))))
  refine RC.iteP 85 rfl h (fun hc4237 h => ?_) fun hc4237 h => ?_
  next =>
   refine jt (sk (RC.seq (RC.block (sr ?_))))
   obtain ⟨hq4252, h⟩ := h.req
   refine RL.s (Vl.indexAddr underlying30 sizeOf76 rfl rfl ((hr7.2.world hS.sub).adr hq4252 hc4237) hq4252 hc4237 rfl) rfl (RL.s (Vl.loadA isAgg76 sizeOf76 rfl rfl ((hr7.2.world hS.sub).cells hq4252 hc4237)) rfl (rr [0, 1] hS ?_))
   refine fun b4253 => it fun w hS => lnsr (pn 1 rfl (ln ?_))
   refine RC.join (fun (s : Int) a w => ∃ x4255, s = (x4255) ∧ Holds (Sum.elim G4235 (· = r)) (script_Print.j60 a1 s4199 q4200 x4201 x4255) ∧ Has 150 [(2, sV A13 a12 c14), (3, pV b2351), (8, pV b2353), (14, pV b4253), (15, iV x4255), (82, sV A5 a1.Links c6), (83, iV (a1.Links.length : Int)), (84, iV x4201)] a ∧ St B w (Cl b4253 (C_api_Link (nth a1.Links x4201)) 76 :: Bd 70 5 [.bool q4200] s4199 b2353 :: Cl b2351 (C_api_Model a1 A2 c3 A5 c6 A8 c9) 34 :: l) hf) ?_ ?_
   · rintro x4255 a w ⟨_, rfl, h, ha, hS⟩
     refine ro ha (RC.region (rr [0, 0, 1, 0, 1, 0, 1, 0] hS ?_))
     refine it fun w hS => RL.e (OW.buildSlice (E := (FI .i64)) (xs := ([(nth a1.Links x4201).From, (nth a1.Links x4201).To, (nth a1.Links x4201).Look, x4255] : List Int)) (cs := [iV ((nth a1.Links x4201).From), iV ((nth a1.Links x4201).To), iV ((nth a1.Links x4201).Look), iV x4255]) hS underlying51 zeroValue2 sizeOf2 (parts := [(0, .tmp 92), (1, .tmp 94), (2, .tmp 96), (3, .tmp 97)]) rfl rfl (by decide) (by decide) (by kernel_rfl) rfl) rfl rfl ?_
     rintro _ w ⟨b4256, rfl, hS⟩
     obtain ⟨hf4260, hs4258, hS, hr4257, hb4259⟩ := St.lendSl hS
     obtain ⟨t4261, hg4262, h⟩ := h.bind
     have hc := script_writer_line.ok hr4257 (hT.mono hs4258) hg4262 hS.p1
     obtain ⟨y4263, y4264⟩ := t4261
     refine RL.e (OW.callF (ls := [.tmp 90, .const (.string lit_link), .tmp 98]) rfl call19 hc) rfl rfl ?_
     rintro _ w ⟨rfl, hS⟩
     have hS := hb4259 _ _ hS
     have hS : St B w (_ :: _ :: _ :: _ :: l) hf := hS
     refine RL.nil (RQ.inB_n (RQ.then_n (RC.region (pn 2 rfl (RL.nil ?_)))))
     exact fun a ha => ⟨_, h.some, _, _, _, rfl, ha.tE rfl, hS.d0.d1⟩
   refine sr (rr [0, 1] hS ?_)
   refine it fun w hS => ln ?_
   refine RC.iteB 89 rfl h (fun hc4265 h => ?_) fun hc4265 h => ?_
   next =>
    refine jt (RC.region (pn 1 rfl (RL.nil ?_)))
    exact fun a ha => ⟨_, _, rfl, h, ha.tE rfl, hS⟩
   refine jf (RC.skip ?_)
   exact fun a ha => ⟨_, _, rfl, h, ha.tE rfl, hS⟩
  refine jf (RC.exit (RQ.exitT ?_))
  have h := h.inr
  refine RQ.exitT (RQ.inB_hit (RQ.then_n (RC.seq (sr (rr [0, 2, 0, 0] hS ?_)))))
  refine it fun w hS => ln (RC.block (fun a ha => lp h (fun (s : ByteArray × Bool × Int) a w => ∃ s4371 q4372 x4373, s = (s4371, q4372, x4373) ∧ Has 150 [(2, sV A13 a12 c14), (8, pV b2353), (102, sV A8 a1.Starts c9), (103, iV (a1.Starts.length : Int)), (104, iV x4373)] a ∧ St B w (Bd 70 5 [.bool q4372] s4371 b2353 :: l) hf) ⟨_, _, _, rfl, ha.tE rfl, hS.d1⟩ ?_))
  rintro G4401 _ a w ⟨s4371, q4372, x4373, rfl, ha, hS⟩ h
  refine ro ha (sr (pn 1 rfl (ln (RC.seq ?_))))
  refine RC.iteP 105 rfl h (fun hc4403 h => ?_) fun hc4403 h => ?_
  next =>
   refine jt (sk (RC.seq (RC.block (sr ?_))))
   obtain ⟨hq4415, h⟩ := h.req
   refine RL.s (Vl.indexAddr underlying31 sizeOf78 rfl rfl ((hr10.2.world hS.sub).adr hq4415 hc4403) hq4415 hc4403 rfl) rfl (RL.s (Vl.loadA isAgg78 sizeOf78 rfl rfl ((hr10.2.world hS.sub).cells hq4415 hc4403)) rfl (rr [0, 1] hS ?_))
   refine fun b4416 => it fun w hS => ln (RC.region (rr [0, 0, 1, 0, 1, 0, 1] hS ?_))
   refine it fun w hS => RL.e (OW.buildSlice (E := (FI .i64)) (xs := ([(nth a1.Starts x4373).To, (nth a1.Starts x4373).Time, (nth a1.Starts x4373).Value] : List Int)) (cs := (C_api_Start (nth a1.Starts x4373))) hS underlying51 zeroValue2 sizeOf2 (parts := [(0, .tmp 110), (1, .tmp 112), (2, .tmp 114)]) rfl rfl (by decide) (by decide) (by kernel_rfl) rfl) rfl rfl ?_
   rintro _ w ⟨b4417, rfl, hS⟩
   obtain ⟨hf4421, hs4419, hS, hr4418, hb4420⟩ := St.lendSl hS
   obtain ⟨t4422, hg4423, h⟩ := h.bind
   have hc := script_writer_line.ok hr4418 (hT.mono hs4419) hg4423 hS.p1
   obtain ⟨y4424, y4425⟩ := t4422
   refine RL.e (OW.callF (ls := [.tmp 108, .const (.string lit_start), .tmp 115]) rfl call19 hc) rfl rfl ?_
   rintro _ w ⟨rfl, hS⟩
   have hS := hb4420 _ _ hS
   have hS : St B w (_ :: _ :: _ :: l) hf := hS
   refine RL.nil (RQ.inB_n (RQ.then_n (RC.region (pn 2 rfl (RL.nil ?_)))))
   exact fun a ha => ⟨_, h.some, _, _, _, rfl, ha.tE rfl, hS.d0.d1⟩
  refine jf (RC.exit (RQ.exitT ?_))
  have h := h.inr
  refine RQ.exitT (RQ.inB_hit (RQ.then_n (RC.seq (sr (r0 3 rfl (ln (RC.block (fun a ha => lp h (fun (s : ByteArray × Bool × Int) a w => ∃ s4595 q4596 x4597, s = (s4595, q4596, x4597) ∧ Has 150 [(8, pV b2353), (118, sV A13 a12 c14), (119, iV (a12.length : Int)), (120, iV x4597)] a ∧ St B w (Bd 70 5 [.bool q4596] s4595 b2353 :: l) hf) ⟨_, _, _, rfl, ha.tE rfl, hS⟩ ?_))))))))
  rintro G4641 _ a w ⟨s4595, q4596, x4597, rfl, ha, hS⟩ h
  refine ro ha (sr (pn 1 rfl (ln (RC.seq ?_))))
  refine RC.iteP 121 rfl h (fun hc4643 h => ?_) fun hc4643 h => ?_
  next =>
   refine jt (sk (RC.seq (RC.block (sr ?_))))
   obtain ⟨hq4663, h⟩ := h.req
   refine RL.s (Vl.indexAddr underlying37 sizeOf80 rfl rfl ((hr15.2.world hS.sub).adr hq4663 hc4643) hq4663 hc4643 rfl) rfl (RL.s (Vl.loadA isAgg80 sizeOf80 rfl rfl ((hr15.2.world hS.sub).cells hq4663 hc4643)) rfl (rr [0, 1] hS ?_))
   refine fun b4664 => it fun w hS => ln (RC.region (rr [0, 0, 1, 0, 1, 0, 1] hS ?_))
   refine it fun w hS => RL.e (OW.buildSlice (E := (FI .i64)) (xs := ([(nth a12 x4597).What, (nth a12 x4597).A, (nth a12 x4597).B] : List Int)) (cs := (C_api_Pick (nth a12 x4597))) hS underlying100 zeroValue3 sizeOf3 (parts := [(0, .tmp 126), (1, .tmp 128), (2, .tmp 130)]) rfl rfl (by decide) (by decide) (by kernel_rfl) rfl) rfl rfl ?_
   rintro _ w ⟨b4665, rfl, hS⟩
   obtain ⟨hf4669, hs4667, hS, hr4666, hb4668⟩ := St.lendSl hS
   obtain ⟨t4670, hg4671, h⟩ := h.bind
   have hc := script_many.ok hr4666 hg4671 hS
   refine RL.e (OW.callF (ls := [.tmp 131]) rfl call20 hc) rfl rfl ?_
   rintro _ w ⟨A4672, c4673, rfl, hS⟩
   have hS := hb4668 _ _ hS
   have hS : St B w (_ :: _ :: _ :: _ :: l) hf := hS
   obtain ⟨hf4677, hs4675, hS, hr4674, hb4676⟩ := St.lendSl hS.p1
   obtain ⟨t4678, hg4679, h⟩ := h.bind
   have hc := script_writer_line.ok hr4674 (hT.mono hs4675) hg4679 hS.p2
   obtain ⟨y4680, y4681⟩ := t4678
   refine RL.e (OW.callF (ls := [.tmp 124, .const (.string lit_pick), .tmp 132]) rfl call19 hc) rfl rfl ?_
   rintro _ w ⟨rfl, hS⟩
   have hS := hb4676 _ _ hS
   have hS : St B w (_ :: _ :: _ :: _ :: l) hf := hS
   refine RL.nil (RQ.inB_n (RQ.then_n (RC.region (pn 2 rfl (RL.nil ?_)))))
   exact fun a ha => ⟨_, h.some, _, _, _, rfl, ha.tE rfl, hS.d0.d1.d1⟩
  refine jf (RC.exit (RQ.exitT ?_))
  have h := h.inr
  refine RQ.exitT (RQ.inB_hit (RQ.then_n (RC.seq (RC.block (sr (r0 3 rfl (RL.s (Vl.ldB (k := 0) 0 hS isAgg4 rfl rfl rfl) rfl (pn 1 rfl (ln ?_)))))))))
  refine RC.iteB 135 rfl h (fun hc4684 h => ?_) fun hc4684 h => ?_
  next =>
   refine jtr (pn 2 rfl (lr (ir ?_)))
   cases h.some
   exact rt results9 rfl ⟨rfl, hS.d0⟩
  refine jf (sr (r0 3 rfl (RL.e (OW.callF (ls := [.tmp 143]) rfl call21 (bld_len hS)) rfl rfl ?_)))
  rintro _ w ⟨rfl, hS⟩
  refine pn 2 rfl (ln ?_)
  refine RC.iteP 140 rfl h (fun hc4685 h => ?_) fun hc4685 h => ?_
  next =>
   refine jtr (pn 2 rfl (lr (ir ?_)))
   cases h.some
   exact rt results9 rfl ⟨rfl, hS.d0⟩
  refine jf (RC.skip (RQ.inB_n (tsr (r0 3 rfl (RL.e (OW.callF (ls := [.tmp 148]) rfl call16 (bld_string hS)) rfl rfl ?_)))))
  rintro _ w ⟨rfl, hS⟩
  refine pn 2 rfl (lr ?_)
  cases h.some
  exact rt results9 rfl ⟨rfl, hS⟩
def isochronref21vright.l36b (a1 : api_Model) (x2670 : Int) : List Int × Int → Option ((List Int × Int) ⊕ ((List Int × Int) ⊕ (Bool)))
  | (l3055, x3058) => (if 0 ≤ x2670 then (if x3058 < ((nth a1.Progs x2670).length : Int) then (if 0 ≤ x3058 then (if (l3055.length + 4) * 8 ≤ 140737488355328 then some (.inl ((l3055 ++ ([(nth (nth a1.Progs x2670) x3058).Op, (nth (nth a1.Progs x2670) x3058).A, (nth (nth a1.Progs x2670) x3058).B, (nth (nth a1.Progs x2670) x3058).C] : List Int)), IntKind.i64.wrap (x3058 + 1))) else none) else none) else some (.inr (.inl (l3055, IntKind.i64.wrap (x2670 + 1))))) else none)
def isochronref21vright.l36 (a1 : api_Model) (x2670 : Int) (s : List Int × Int) : Option ((List Int × Int) ⊕ (Bool)) := loopR (isochronref21vright.l36b a1 x2670) s
def isochronref21vright.l44b (a1 : api_Model) (l3413 : List Int) : Int → Option ((Int) ⊕ (Bool))
  | (x3483) => (if x3483 < (l3413.length : Int) then (if 0 ≤ x3483 then (if nth l3413 x3483 < (-4611686018427387904) then some (.inr false) else (if 4611686018427387904 < nth l3413 x3483 then some (.inr false) else some (.inl (IntKind.i64.wrap (x3483 + 1))))) else none) else some (.inr (decide (a1.Seed ≤ 4611686018427387904))))
def isochronref21vright.l44 (a1 : api_Model) (l3413 : List Int) (s : Int) : Option (Bool) := loopR (isochronref21vright.l44b a1 l3413) s
def isochronref21vright.l42b (a1 : api_Model) (a12 : List api_Pick) : List Int × Int → Option ((List Int × Int) ⊕ (Bool))
  | (l3413, x3416) => (if x3416 < (a12.length : Int) then (if 0 ≤ x3416 then (if (l3413.length + 3) * 8 ≤ 140737488355328 then some (.inl ((l3413 ++ ([(nth a12 x3416).What, (nth a12 x3416).A, (nth a12 x3416).B] : List Int)), IntKind.i64.wrap (x3416 + 1))) else none) else none) else (Option.map Sum.inr (isochronref21vright.l44 a1 l3413 (0))))
def isochronref21vright.l42 (a1 : api_Model) (a12 : List api_Pick) (s : List Int × Int) : Option (Bool) := loopR (isochronref21vright.l42b a1 a12) s
def isochronref21vright.l40b (a1 : api_Model) (a12 : List api_Pick) : List Int × Int → Option ((List Int × Int) ⊕ (Bool))
  | (l3307, x3310) => (if x3310 < (a1.Starts.length : Int) then (if 0 ≤ x3310 then (if (l3307.length + 3) * 8 ≤ 140737488355328 then some (.inl ((l3307 ++ ([(nth a1.Starts x3310).To, (nth a1.Starts x3310).Time, (nth a1.Starts x3310).Value] : List Int)), IntKind.i64.wrap (x3310 + 1))) else none) else none) else (Option.map Sum.inr (isochronref21vright.l42 a1 a12 (l3307, 0))))
def isochronref21vright.l40 (a1 : api_Model) (a12 : List api_Pick) (s : List Int × Int) : Option (Bool) := loopR (isochronref21vright.l40b a1 a12) s
def isochronref21vright.l38b (a1 : api_Model) (a12 : List api_Pick) : List Int × Int → Option ((List Int × Int) ⊕ (Bool))
  | (l3201, x3204) => (if x3204 < (a1.Links.length : Int) then (if 0 ≤ x3204 then (if (l3201.length + 3) * 8 ≤ 140737488355328 then some (.inl ((l3201 ++ ([(nth a1.Links x3204).From, (nth a1.Links x3204).To, (nth a1.Links x3204).Look] : List Int)), IntKind.i64.wrap (x3204 + 1))) else none) else none) else (Option.map Sum.inr (isochronref21vright.l40 a1 a12 (l3201, 0))))
def isochronref21vright.l38 (a1 : api_Model) (a12 : List api_Pick) (s : List Int × Int) : Option (Bool) := loopR (isochronref21vright.l38b a1 a12) s
def isochronref21vright.l34b (a1 : api_Model) (a12 : List api_Pick) : List Int × Int → Option ((List Int × Int) ⊕ (Bool))
  | (l2667, x2670) => (if x2670 < (a1.Progs.length : Int) then isochronref21vright.l36 a1 x2670 (l2667, 0) else (Option.map Sum.inr (isochronref21vright.l38 a1 a12 (l2667, 0))))
def isochronref21vright.l34 (a1 : api_Model) (a12 : List api_Pick) (s : List Int × Int) : Option (Bool) := loopR (isochronref21vright.l34b a1 a12) s
def isochronref21vright.f (a1 : api_Model) (a11 : api_Caps) (a12 : List api_Pick) : Option (Bool) := isochronref21vright.l34 a1 a12 (([a1.End, a1.Budget, a11.Link, a11.Wait, a11.Log] : List Int), 0)
theorem isochronref21vright.ok {a1 : api_Model} {a11 : api_Caps} {a12 : List api_Pick} {A2 A5 A8 A13 : Option Addr} {c3 c6 c9 c14 : Nat} (hr4 : SlR (Rep.sl E_api_Instr.rep) hf A2 c3 a1.Progs) (hr7 : SlR E_api_Link.rep hf A5 c6 a1.Links) (hr10 : SlR E_api_Start.rep hf A8 c9 a1.Starts) (hr15 : SlR E_api_Pick.rep hf A13 c14 a12) {r : Bool} (h : isochronref21vright.f a1 a11 a12 = some r) (hS : St B w (l) hf) :
    Calls prog 22 #[.agg (C_api_Model a1 A2 c3 A5 c6 A8 c9).toArray, .agg (C_api_Caps a11).toArray, sV A13 a12 c14] w (Ret fun v w => v = .bool r ∧ St B w (l) hf) := by
  have h := Holds.of h
  refine en func22 rfl ntmps22 rfl (sr (rr [0, 0, 0] hS ?_))
  refine fun b1759 b1760 => it fun w hS => lnsr (rr [0, 2, 0, 2, 0, 1, 0, 1, 0, 1] hS ?_)
  refine it fun w hS => RL.e (OW.buildSlice (E := (FI .i64)) (xs := ([a1.End, a1.Budget, a11.Link, a11.Wait, a11.Log] : List Int)) (cs := [iV a1.End, iV a1.Budget, iV a11.Link, iV a11.Wait, iV a11.Log]) hS underlying51 zeroValue2 sizeOf2 (parts := [(0, .tmp 16), (1, .tmp 18), (2, .tmp 20), (3, .tmp 22), (4, .tmp 24)]) rfl rfl (by decide) (by decide) (by kernel_rfl) rfl) rfl rfl ?_
  rintro _ w ⟨b1761, rfl, hS⟩
  refine pn 1 rfl (ln (RC.seq (sr (pn 1 rfl (ln (RC.block (fun a ha => lp h (fun (s : List Int × Int) a w => ∃ l2667 x2670, s = (l2667, x2670) ∧ ∃ A2668 c2669, Has 163 [(2, sV A13 a12 c14), (3, pV b1759), (7, sV A2668 l2667 c2669), (8, iV x2670)] a ∧ St B w (OSf (FI .i64) 2 (sV A2668 l2667 c2669) l2667 :: Cl b1759 (C_api_Model a1 A2 c3 A5 c6 A8 c9) 34 :: l) hf) ⟨_, _, rfl, _, _, ha.tE rfl, hS.d1⟩ ?_)))))))
  rintro G2903 _ a w ⟨l2667, x2670, rfl, A2668, c2669, ha, hS⟩ h
  refine ro ha (RC.seq (sr (rr [0, 0, 2, 0, 0] hS ?_)))
  refine it fun w hS => ln ?_
  refine RC.iteP 30 rfl h (fun hc2905 h => ?_) fun hc2905 h => ?_
  next =>
   refine jt (sk (RC.seq (RC.block (sr (pn 1 rfl (ln (RC.block (fun a ha => lp h (fun (s : List Int × Int) a w => ∃ l3055 x3058, s = (l3055, x3058) ∧ ∃ A3056 c3057, Has 163 [(2, sV A13 a12 c14), (3, pV b1759), (7, sV A3056 l3055 c3057), (8, iV x2670), (9, iV x3058)] a ∧ St B w (OSf (FI .i64) 2 (sV A3056 l3055 c3057) l3055 :: Cl b1759 (C_api_Model a1 A2 c3 A5 c6 A8 c9) 34 :: l) hf) ⟨_, _, rfl, _, _, ha.tE rfl, hS⟩ ?_))))))))
   rintro G3097 _ a w ⟨l3055, x3058, rfl, A3056, c3057, ha, hS⟩ h
   refine ro ha (RC.seq (sr (rr [0, 0, 2, 0] hS ?_)))
   refine it fun w hS => ?_
   obtain ⟨hq3104, h⟩ := h.req
   refine RL.s (Vl.indexAddr underlying29 sizeOf72 rfl rfl (hr4.2.adr hq3104 hc2905) hq3104 hc2905 rfl) rfl ?_
   obtain ⟨_, _, ⟨A3105, c3106, rfl, hr3107⟩, hl3108⟩ := hr4.2.elem hq3104 hc2905
   refine RL.s (Vl.load isAgg72 rfl (cellH_world hS.sub (hl3108 0 _ rfl))) rfl (r0 2 rfl (ln ?_))
   refine RC.iteP 40 rfl h (fun hc3109 h => ?_) fun hc3109 h => ?_
   next =>
    refine jt (sk (RC.seq (RC.block (sr (rr [0, 2, 0] hS ?_)))))
    refine it fun w hS => RL.s (Vl.indexAddr underlying29 sizeOf72 rfl rfl (hr4.2.adr hq3104 hc2905) hq3104 hc2905 rfl) rfl ?_
    obtain ⟨_, _, ⟨A3121, c3122, rfl, hr3123⟩, hl3124⟩ := hr4.2.elem hq3104 hc2905
    refine RL.s (Vl.load isAgg72 rfl (cellH_world hS.sub (hl3124 0 _ rfl))) rfl (pn 1 rfl ?_)
    obtain ⟨hq3125, h⟩ := h.req
    refine RL.s (Vl.indexAddr underlying72 sizeOf74 rfl rfl ((hr3123.2.world hS.sub).adr hq3125 hc3109) hq3125 hc3109 rfl) rfl (RL.s (Vl.loadA isAgg74 sizeOf74 rfl rfl ((hr3123.2.world hS.sub).cells hq3125 hc3109)) rfl (rr [0, 1] hS ?_))
    refine fun b3126 => it fun w hS => ln (RC.region (rr [0, 0, 1, 0, 1, 0, 1, 0, 1] hS ?_))
    refine it fun w hS => RL.e (OW.buildSlice (E := (FI .i64)) (xs := ([(nth (nth a1.Progs x2670) x3058).Op, (nth (nth a1.Progs x2670) x3058).A, (nth (nth a1.Progs x2670) x3058).B, (nth (nth a1.Progs x2670) x3058).C] : List Int)) (cs := (C_api_Instr (nth (nth a1.Progs x2670) x3058))) hS underlying51 zeroValue2 sizeOf2 (parts := [(0, .tmp 53), (1, .tmp 55), (2, .tmp 57), (3, .tmp 59)]) rfl rfl (by decide) (by decide) (by kernel_rfl) rfl) rfl rfl ?_
    rintro _ w ⟨b3127, rfl, hS⟩
    obtain ⟨hq3128, h⟩ := h.req
    refine RL.e (OW.append (E := (FI .i64)) (xs := l3055) (ys := ([(nth (nth a1.Progs x2670) x3058).Op, (nth (nth a1.Progs x2670) x3058).A, (nth (nth a1.Progs x2670) x3058).B, (nth (nth a1.Progs x2670) x3058).C] : List Int)) 2 hS rfl underlying51 type2 rfl rfl rfl rfl (by decide) rfl rfl rfl (hS.slW 0 rfl).2.2.flat (by simp only [maxLen, List.length_cons, List.length_nil] at *; omega) hq3128 rfl) rfl rfl ?_
    rintro v3131 w hS
    obtain ⟨A3129, c3130, rfl, _⟩ := hS.osShape 0 rfl
    have hS : St B w (_ :: _ :: _ :: _ :: l) hf := hS
    refine pn 1 rfl (RL.nil (RQ.inB_n (RQ.then_n (RC.region (pn 3 rfl (RL.nil ?_))))))
    exact fun a ha => ⟨_, h.some, _, _, rfl, _, _, ha.tE rfl, hS.d1.d1⟩
   refine jf (RC.exit (RQ.exitT ?_))
   have h := h.inrS
   refine RQ.exitT (RQ.inB_hit (RQ.inB_n (RQ.then_n (RC.region (pn 3 rfl (RL.nil ?_))))))
   exact fun a ha => ⟨_, h.some, _, _, rfl, _, _, ha.tE rfl, hS⟩
  refine jf (RC.exit (RQ.exitT ?_))
  have h := h.inr
  refine RQ.exitT (RQ.inB_hit (RQ.then_n (RC.seq (sr (pn 1 rfl (ln (RC.block (fun a ha => lp h (fun (s : List Int × Int) a w => ∃ l3201 x3204, s = (l3201, x3204) ∧ ∃ A3202 c3203, Has 163 [(2, sV A13 a12 c14), (3, pV b1759), (7, sV A3202 l3201 c3203), (11, iV x3204)] a ∧ St B w (OSf (FI .i64) 2 (sV A3202 l3201 c3203) l3201 :: Cl b1759 (C_api_Model a1 A2 c3 A5 c6 A8 c9) 34 :: l) hf) ⟨_, _, rfl, _, _, ha.tE rfl, hS⟩ ?_))))))))
  rintro G3223 _ a w ⟨l3201, x3204, rfl, A3202, c3203, ha, hS⟩ h
  refine ro ha (RC.seq (sr (rr [0, 0, 2, 0, 0] hS ?_)))
  refine it fun w hS => ln ?_
  refine RC.iteP 66 rfl h (fun hc3225 h => ?_) fun hc3225 h => ?_
  next =>
   refine jt (sk (RC.seq (RC.block (dr [0, 3, 7, 9, 13, 15, 19, 21, 25, 27, 31, 33, 37, 39, 43, 47, 50, 53, 56, 59, 62, 65] [19, 20, 21] hS fun w hS => rq [0, 0, 2, 0] hS ?_))))
   refine it ?_
   obtain ⟨hq3232, h⟩ := h.req
   refine RP.s 0 4 rfl rfl hS (fun w hS => Vl.indexAddr underlying30 sizeOf76 rfl rfl ((hr7.2.world hS.sub).adr hq3232 hc3225) hq3232 hc3225 rfl) rfl (RP.s0 5 rfl (fun w => Vl.fieldAddr (a'' := (ad A5).add (x3204.toNat * 4 + 0)) underlying76 rfl sizeOf3 rfl (add_add _ _ _)) rfl (RP.s 0 6 rfl rfl hS (fun w hS => Vl.load isAgg3 rfl ((hr7.2.world hS.sub).cell (j := 0) hq3232 hc3225 rfl)) rfl (rq [0, 2, 0] hS ?_)))
   refine it (RP.s 0 10 rfl rfl hS (fun w hS => Vl.indexAddr underlying30 sizeOf76 rfl rfl ((hr7.2.world hS.sub).adr hq3232 hc3225) hq3232 hc3225 rfl) rfl (RP.s0 11 rfl (fun w => Vl.fieldAddr (a'' := (ad A5).add (x3204.toNat * 4 + 1)) underlying76 rfl sizeOf3 rfl (add_add _ _ _)) rfl (RP.s 0 12 rfl rfl hS (fun w hS => Vl.load isAgg3 rfl ((hr7.2.world hS.sub).cell (j := 1) hq3232 hc3225 rfl)) rfl (rq [0, 2, 0] hS ?_))))
   refine it (RP.v1 16 rfl (Vl.indexAddr underlying30 sizeOf76 rfl rfl ((hr7.2.world hS.sub).adr hq3232 hc3225) hq3232 hc3225 rfl) rfl rfl (RP.v1 17 rfl (Vl.fieldAddr (a'' := (ad A5).add (x3204.toNat * 4 + 2)) underlying76 rfl sizeOf2 rfl (add_add _ _ _)) rfl rfl (RP.v1 18 rfl (Vl.load isAgg2 rfl ((hr7.2.world hS.sub).cell (j := 2) hq3232 hc3225 rfl)) rfl rfl (RP.e 19 rfl (OW.buildSlice (E := (FI .i64)) (xs := ([(nth a1.Links x3204).From, (nth a1.Links x3204).To, (nth a1.Links x3204).Look] : List Int)) (cs := [iV ((nth a1.Links x3204).From), iV ((nth a1.Links x3204).To), iV ((nth a1.Links x3204).Look)]) hS underlying51 zeroValue2 sizeOf2 (parts := [(0, .tmp 75), (1, .tmp 81), (2, .tmp 87)]) rfl rfl (by decide) (by decide) (by kernel_rfl) rfl) rfl rfl ?_))))
   rintro _ w ⟨b3233, rfl, hS⟩
   refine ⟨kp ⟨(by intro hx; cases hx), trivial⟩, ?_⟩
   obtain ⟨hq3234, h⟩ := h.req
   refine RP.e 20 rfl (OW.append (E := (FI .i64)) (xs := l3201) (ys := ([(nth a1.Links x3204).From, (nth a1.Links x3204).To, (nth a1.Links x3204).Look] : List Int)) 1 hS rfl underlying51 type2 rfl rfl rfl rfl (by decide) rfl rfl rfl (hS.slW 0 rfl).2.2.flat (by simp only [maxLen, List.length_cons, List.length_nil] at *; omega) hq3234 rfl) rfl rfl ?_
   rintro v3237 w hS
   obtain ⟨A3235, c3236, rfl, _⟩ := hS.osShape 0 rfl
   have hS : St B w (_ :: _ :: _ :: l) hf := hS
   refine ⟨kp ⟨(by intro hx; cases hx), trivial⟩, ?_⟩
   refine RP.v1 21 rfl (Vl.assign rfl) rfl rfl (RP.nil (RQ.inB_n (RQ.then_n (RC.region (pn 3 rfl (RL.nil ?_))))))
   exact fun a ha => ⟨_, h.some, _, _, rfl, _, _, ha.tE rfl, hS.d1⟩
  refine jf (RC.exit (RQ.exitT ?_))
  have h := h.inr
  refine RQ.exitT (RQ.inB_hit (RQ.then_n (RC.seq (sr (pn 1 rfl (ln (RC.block (fun a ha => lp h (fun (s : List Int × Int) a w => ∃ l3307 x3310, s = (l3307, x3310) ∧ ∃ A3308 c3309, Has 163 [(2, sV A13 a12 c14), (3, pV b1759), (7, sV A3308 l3307 c3309), (12, iV x3310)] a ∧ St B w (OSf (FI .i64) 2 (sV A3308 l3307 c3309) l3307 :: Cl b1759 (C_api_Model a1 A2 c3 A5 c6 A8 c9) 34 :: l) hf) ⟨_, _, rfl, _, _, ha.tE rfl, hS⟩ ?_))))))))
  rintro G3329 _ a w ⟨l3307, x3310, rfl, A3308, c3309, ha, hS⟩ h
  refine ro ha (RC.seq (sr (rr [0, 0, 2, 0, 0] hS ?_)))
  refine it fun w hS => ln ?_
  refine RC.iteP 94 rfl h (fun hc3331 h => ?_) fun hc3331 h => ?_
  next =>
   refine jt (sk (RC.seq (RC.block (dr [0, 3, 7, 9, 13, 15, 19, 21, 25, 27, 31, 33, 37, 39, 43, 47, 50, 53, 56, 59, 62, 65] [19, 20, 21] hS fun w hS => rq [0, 0, 2, 0] hS ?_))))
   refine it ?_
   obtain ⟨hq3338, h⟩ := h.req
   refine RP.s 0 4 rfl rfl hS (fun w hS => Vl.indexAddr underlying31 sizeOf78 rfl rfl ((hr10.2.world hS.sub).adr hq3338 hc3331) hq3338 hc3331 rfl) rfl (RP.s0 5 rfl (fun w => Vl.fieldAddr (a'' := (ad A8).add (x3310.toNat * 3 + 0)) underlying78 rfl sizeOf3 rfl (add_add _ _ _)) rfl (RP.s 0 6 rfl rfl hS (fun w hS => Vl.load isAgg3 rfl ((hr10.2.world hS.sub).cell (j := 0) hq3338 hc3331 rfl)) rfl (rq [0, 2, 0] hS ?_)))
   refine it (RP.s 0 10 rfl rfl hS (fun w hS => Vl.indexAddr underlying31 sizeOf78 rfl rfl ((hr10.2.world hS.sub).adr hq3338 hc3331) hq3338 hc3331 rfl) rfl (RP.s0 11 rfl (fun w => Vl.fieldAddr (a'' := (ad A8).add (x3310.toNat * 3 + 1)) underlying78 rfl sizeOf2 rfl (add_add _ _ _)) rfl (RP.s 0 12 rfl rfl hS (fun w hS => Vl.load isAgg2 rfl ((hr10.2.world hS.sub).cell (j := 1) hq3338 hc3331 rfl)) rfl (rq [0, 2, 0] hS ?_))))
   refine it (RP.v1 16 rfl (Vl.indexAddr underlying31 sizeOf78 rfl rfl ((hr10.2.world hS.sub).adr hq3338 hc3331) hq3338 hc3331 rfl) rfl rfl (RP.v1 17 rfl (Vl.fieldAddr (a'' := (ad A8).add (x3310.toNat * 3 + 2)) underlying78 rfl sizeOf2 rfl (add_add _ _ _)) rfl rfl (RP.v1 18 rfl (Vl.load isAgg2 rfl ((hr10.2.world hS.sub).cell (j := 2) hq3338 hc3331 rfl)) rfl rfl (RP.e 19 rfl (OW.buildSlice (E := (FI .i64)) (xs := ([(nth a1.Starts x3310).To, (nth a1.Starts x3310).Time, (nth a1.Starts x3310).Value] : List Int)) (cs := (C_api_Start (nth a1.Starts x3310))) hS underlying51 zeroValue2 sizeOf2 (parts := [(0, .tmp 103), (1, .tmp 109), (2, .tmp 115)]) rfl rfl (by decide) (by decide) (by kernel_rfl) rfl) rfl rfl ?_))))
   rintro _ w ⟨b3339, rfl, hS⟩
   refine ⟨kp ⟨(by intro hx; cases hx), trivial⟩, ?_⟩
   obtain ⟨hq3340, h⟩ := h.req
   refine RP.e 20 rfl (OW.append (E := (FI .i64)) (xs := l3307) (ys := ([(nth a1.Starts x3310).To, (nth a1.Starts x3310).Time, (nth a1.Starts x3310).Value] : List Int)) 1 hS rfl underlying51 type2 rfl rfl rfl rfl (by decide) rfl rfl rfl (hS.slW 0 rfl).2.2.flat (by simp only [maxLen, List.length_cons, List.length_nil] at *; omega) hq3340 rfl) rfl rfl ?_
   rintro v3343 w hS
   obtain ⟨A3341, c3342, rfl, _⟩ := hS.osShape 0 rfl
   have hS : St B w (_ :: _ :: _ :: l) hf := hS
   refine ⟨kp ⟨(by intro hx; cases hx), trivial⟩, ?_⟩
   refine RP.v1 21 rfl (Vl.assign rfl) rfl rfl (RP.nil (RQ.inB_n (RQ.then_n (RC.region (pn 3 rfl (RL.nil ?_))))))
   exact fun a ha => ⟨_, h.some, _, _, rfl, _, _, ha.tE rfl, hS.d1⟩
  refine jf (RC.exit (RQ.exitT ?_))
  have h := h.inr
  refine RQ.exitT (RQ.inB_hit (RQ.then_n (RC.seq (sr (pn 1 rfl (ln (RC.block (fun a ha => lp h (fun (s : List Int × Int) a w => ∃ l3413 x3416, s = (l3413, x3416) ∧ ∃ A3414 c3415, Has 163 [(2, sV A13 a12 c14), (3, pV b1759), (7, sV A3414 l3413 c3415), (13, iV x3416)] a ∧ St B w (OSf (FI .i64) 2 (sV A3414 l3413 c3415) l3413 :: Cl b1759 (C_api_Model a1 A2 c3 A5 c6 A8 c9) 34 :: l) hf) ⟨_, _, rfl, _, _, ha.tE rfl, hS⟩ ?_))))))))
  rintro G3435 _ a w ⟨l3413, x3416, rfl, A3414, c3415, ha, hS⟩ h
  refine ro ha (RC.seq (sr (r0 4 rfl (ln ?_))))
  refine RC.iteP 121 rfl h (fun hc3437 h => ?_) fun hc3437 h => ?_
  next =>
   refine jt (sk (RC.seq (RC.block (dr [0, 3, 6, 10, 12, 16, 18, 21, 25, 27, 31, 33, 38, 41, 44, 47, 50, 53, 56] [16, 17, 18] hS fun w hS => pp 3 rfl ?_))))
   obtain ⟨hq3444, h⟩ := h.req
   refine RP.s 0 3 rfl rfl hS (fun w hS => Vl.indexAddr underlying37 sizeOf80 rfl rfl ((hr15.2.world hS.sub).adr hq3444 hc3437) hq3444 hc3437 rfl) rfl (RP.s0 4 rfl (fun w => Vl.fieldAddr (a'' := (ad A13).add (x3416.toNat * 3 + 0)) underlying80 rfl sizeOf3 rfl (add_add _ _ _)) rfl (RP.s 0 5 rfl rfl hS (fun w hS => Vl.load isAgg3 rfl ((hr15.2.world hS.sub).cell (j := 0) hq3444 hc3437 rfl)) rfl (pp 2 rfl (RP.s 0 8 rfl rfl hS (fun w hS => Vl.indexAddr underlying37 sizeOf80 rfl rfl ((hr15.2.world hS.sub).adr hq3444 hc3437) hq3444 hc3437 rfl) rfl (RP.s0 9 rfl (fun w => Vl.fieldAddr (a'' := (ad A13).add (x3416.toNat * 3 + 1)) underlying80 rfl sizeOf3 rfl (add_add _ _ _)) rfl (RP.s 0 10 rfl rfl hS (fun w hS => Vl.load isAgg3 rfl ((hr15.2.world hS.sub).cell (j := 1) hq3444 hc3437 rfl)) rfl (rq [0, 0] hS ?_)))))))
   refine it (RP.v1 13 rfl (Vl.indexAddr underlying37 sizeOf80 rfl rfl ((hr15.2.world hS.sub).adr hq3444 hc3437) hq3444 hc3437 rfl) rfl rfl (RP.v1 14 rfl (Vl.fieldAddr (a'' := (ad A13).add (x3416.toNat * 3 + 2)) underlying80 rfl sizeOf3 rfl (add_add _ _ _)) rfl rfl (RP.v1 15 rfl (Vl.load isAgg3 rfl ((hr15.2.world hS.sub).cell (j := 2) hq3444 hc3437 rfl)) rfl rfl (RP.e 16 rfl (OW.buildSlice (E := (FI .i64)) (xs := ([(nth a12 x3416).What, (nth a12 x3416).A, (nth a12 x3416).B] : List Int)) (cs := (C_api_Pick (nth a12 x3416))) hS underlying51 zeroValue2 sizeOf2 (parts := [(0, .tmp 129), (1, .tmp 134), (2, .tmp 139)]) rfl rfl (by decide) (by decide) (by kernel_rfl) rfl) rfl rfl ?_))))
   rintro _ w ⟨b3445, rfl, hS⟩
   refine ⟨kp ⟨(by intro hx; cases hx), trivial⟩, ?_⟩
   obtain ⟨hq3446, h⟩ := h.req
   refine RP.e 17 rfl (OW.append (E := (FI .i64)) (xs := l3413) (ys := ([(nth a12 x3416).What, (nth a12 x3416).A, (nth a12 x3416).B] : List Int)) 1 hS rfl underlying51 type2 rfl rfl rfl rfl (by decide) rfl rfl rfl (hS.slW 0 rfl).2.2.flat (by simp only [maxLen, List.length_cons, List.length_nil] at *; omega) hq3446 rfl) rfl rfl ?_
   rintro v3449 w hS
   obtain ⟨A3447, c3448, rfl, _⟩ := hS.osShape 0 rfl
   have hS : St B w (_ :: _ :: _ :: l) hf := hS
   refine ⟨kp ⟨(by intro hx; cases hx), trivial⟩, ?_⟩
   refine RP.v1 18 rfl (Vl.assign rfl) rfl rfl (RP.nil (RQ.inB_n (RQ.then_n (RC.region (pn 3 rfl (RL.nil ?_))))))
   exact fun a ha => ⟨_, h.some, _, _, rfl, _, _, ha.tE rfl, hS.d1⟩
  refine jf (RC.exit (RQ.exitT ?_))
  have h := h.inr
  refine RQ.exitT (RQ.inB_hit (RQ.then_n (RC.seq (sr (pn 1 rfl (ln (RC.block (fun a ha => lp h (fun (s : Int) a w => ∃ x3483, s = (x3483) ∧ Has 163 [(3, pV b1759), (7, sV A3414 l3413 c3415), (14, iV x3483)] a ∧ St B w (OSf (FI .i64) 2 (sV A3414 l3413 c3415) l3413 :: Cl b1759 (C_api_Model a1 A2 c3 A5 c6 A8 c9) 34 :: l) hf) ⟨_, rfl, ha.tE rfl, hS⟩ ?_))))))))
  rintro G3493 x3483 a w ⟨_, rfl, ha, hS⟩ h
  refine ro ha (RC.seq (sr (r0 4 rfl (ln ?_))))
  refine RC.iteP 145 rfl h (fun hc3495 h => ?_) fun hc3495 h => ?_
  next =>
   refine jt (sk (RC.seq (RC.block (sr (pn 2 rfl ?_)))))
   obtain ⟨hq3499, h⟩ := h.req
   refine RL.s (Vl.indexOwn 0 hS rfl underlying51 sizeOf2 rfl rfl hq3499 hc3495) rfl (RL.s (Vl.load isAgg2 rfl ((hS.slW 0 rfl).2.2.cell (j := 0) hq3499 hc3495 rfl)) rfl (pn 2 rfl ?_))
   refine RL.iteP 153 rfl h (fun hc3500 h => ?_) fun hc3500 h => ?_
   next =>
    refine pn 6 rfl (ln (jtr (pn 1 rfl (lr (ir ?_)))))
    have h := h.inrS
    refine RQ.ret (ir ?_)
    obtain rfl := h.some
    exact rt results22 rfl ⟨rfl, hS.d0.d0⟩
   refine pn 2 rfl (RL.sg (Vl.indexOwn 0 hS rfl underlying51 sizeOf2 rfl rfl hq3499 hc3495) rfl rfl (RL.sg (Vl.load isAgg2 rfl ((hS.slW 0 rfl).2.2.cell (j := 0) hq3499 hc3495 rfl)) rfl rfl (pn 2 rfl (ln ?_))))
   refine RC.iteP 159 rfl h (fun hc3501 h => ?_) fun hc3501 h => ?_
   next =>
    refine jtr (pn 1 rfl (lr (ir ?_)))
    have h := h.inrS
    refine RQ.ret (ir ?_)
    obtain rfl := h.some
    exact rt results22 rfl ⟨rfl, hS.d0.d0⟩
   refine jf (RC.skip (RQ.inB_n (RQ.then_n (RC.region (pn 3 rfl (RL.nil ?_))))))
   exact fun a ha => ⟨_, h.some, _, rfl, ha.tE rfl, hS⟩
  refine jf (RC.exit (RQ.exitT ?_))
  have h := h.inrS
  refine RQ.exitT (RQ.inB_hit (tsr (rr [0, 2, 0, 0] hS ?_)))
  refine it fun w hS => lr ?_
  cases h.some
  exact rt results22 rfl ⟨rfl, hS.d0.d0⟩
def isochronref21vtold.f (a1 : Int) : Option (ByteArray) := (if a1 < 0 then (if numM (IntKind.i64.wrap (0 - a1)) < numM a1 ∧ -9223372036854775807 ≤ IntKind.i64.wrap (0 - a1) ∧ IntKind.i64.wrap (0 - a1) ≤ 9223372036854775807 then (if lit_2d.size + (itoaB (IntKind.i64.wrap (0 - a1))).size ≤ 9223372036854775807 then some (lit_2d ++ (itoaB (IntKind.i64.wrap (0 - a1)))) else none) else none) else (if 10 ≤ a1 then (if numM (IntKind.i64.wrap (Int.tdiv a1 10)) < numM a1 ∧ -9223372036854775807 ≤ IntKind.i64.wrap (Int.tdiv a1 10) ∧ IntKind.i64.wrap (Int.tdiv a1 10) ≤ 9223372036854775807 then (if (itoaB (IntKind.i64.wrap (Int.tdiv a1 10))).size + (strOf ([IntKind.u8.wrap (IntKind.i64.wrap (48 + (Int.tmod a1 10)))] : List Int)).size ≤ 9223372036854775807 then some ((itoaB (IntKind.i64.wrap (Int.tdiv a1 10))) ++ (strOf ([IntKind.u8.wrap (IntKind.i64.wrap (48 + (Int.tmod a1 10)))] : List Int))) else none) else none) else some (strOf ([IntKind.u8.wrap (IntKind.i64.wrap (48 + (Int.tmod a1 10)))] : List Int))))
theorem isochronref21vtold.ok {a1 : Int} (ih : ∀ (m : Int), numM m < numM a1 → -9223372036854775807 ≤ m → m ≤ 9223372036854775807 → ∀ {B : Base} {w : World} {l : List HProp} {hf : Hp}, St B w l hf → Calls prog 29 #[iV m] w (Ret fun v w => v = .string (itoaB m) ∧ St B w l hf)) {r : ByteArray} (h : isochronref21vtold.f a1 = some r) (hS : St B w (l) hf) :
    Calls prog 29 #[iV a1] w (Ret fun v w => v = .string r ∧ St B w (l) hf) := by
  have h := Holds.of h
  refine en func29 rfl ntmps29 rfl (sr (pn 1 rfl (ln (RC.seq (sr (pn 2 rfl (ln ?_)))))))
  refine RC.iteP 5 rfl h (fun hc23 h => ?_) fun hc23 h => ?_
  next =>
   refine jtr (pn 1 rfl (RL.s (Vl.neg rfl) rfl ?_))
   obtain ⟨⟨hq24, hq25, hq26⟩, h⟩ := h.req
   refine RL.e (OW.callF (ls := [.tmp 7]) rfl call29 (ih (IntKind.i64.wrap (0 - a1)) hq24 hq25 hq26 hS)) rfl rfl ?_
   rintro _ w ⟨rfl, hS⟩
   obtain ⟨hq27, h⟩ := h.req
   refine RL.s (Vl.strAdd hq27 rfl rfl) rfl (pn 1 rfl (lr (RQ.ret ?_)))
   cases h.some
   exact rt results29 rfl ⟨rfl, hS⟩
  refine jfs (sr (pn 1 rfl (RL.s (Vl.rem rfl rfl (by decide)) rfl (r0 2 rfl (RL.e (OW.buildSlice (E := (FI .u8)) (xs := ([IntKind.u8.wrap (IntKind.i64.wrap (48 + (Int.tmod a1 10)))] : List Int)) (cs := [.int .u8 (IntKind.u8.wrap (IntKind.i64.wrap (48 + (Int.tmod a1 10))))]) hS underlying48 zeroValue5 sizeOf5 (parts := [(0, .tmp 13)]) rfl rfl (by decide) (by decide) (by kernel_rfl) rfl) rfl rfl ?_)))))
  rintro _ w ⟨b28, rfl, hS⟩
  refine RL.s (Vl.bytesStr underlying48 underlying5 underlying9 rfl (hS.slW 0 rfl).2.2) rfl (pn 1 rfl (ln (RC.seq (sr (pn 2 rfl (ln ?_))))))
  refine RC.iteP 17 rfl h (fun hc29 h => ?_) fun hc29 h => ?_
  next =>
   refine jtr (pn 1 rfl (RL.s (Vl.quo rfl rfl (by decide)) rfl ?_))
   obtain ⟨⟨hq30, hq31, hq32⟩, h⟩ := h.req
   refine RL.e (OW.callF (ls := [.tmp 19]) rfl call29 (ih (IntKind.i64.wrap (Int.tdiv a1 10)) hq30 hq31 hq32 hS)) rfl rfl ?_
   rintro _ w ⟨rfl, hS⟩
   refine pn 1 rfl ?_
   obtain ⟨hq33, h⟩ := h.req
   refine RL.s (Vl.strAdd hq33 rfl rfl) rfl (pn 1 rfl (lr (RQ.ret ?_)))
   cases h.some
   exact rt results29 rfl ⟨rfl, hS.d0⟩
  refine jfs (sr (pn 2 rfl (lr ?_)))
  cases h.some
  exact rt results29 rfl ⟨rfl, hS.d0⟩
theorem isochronref21vtold.eq (n : Int) (h0 : -9223372036854775807 ≤ n) (h1 : n ≤ 9223372036854775807) : isochronref21vtold.f n = some (itoaB n) := by
  unfold isochronref21vtold.f
  have l1 : lit_2d = ⟨[45].toArray⟩ := rfl
  have ls : lit_2d.size = 1 := rfl
  rcases Int.lt_or_le n 0 with hn | hn
  · rw [if_pos hn, w64 (x := 0 - n) (by omega) (by omega)]
    have s1 := itoa_size (n := 0 - n) (by omega) (by omega)
    rw [if_pos ⟨by unfold numM; rw [if_pos hn, if_neg (by omega)]; omega, by omega, by omega⟩, if_pos (by omega), itoa_nonneg (n := 0 - n) (by omega), itoa_neg hn, l1, ba_append, show (0 - n).toNat = n.natAbs by omega]
    rfl
  · rw [if_neg (by omega), tdiv_pos' hn 10, tmod_pos' hn 10, w64 (x := 48 + n % 10) (by omega) (by omega), wu8 (x := 48 + n % 10) (by omega) (by omega), strOf_one]
    by_cases h10 : 10 ≤ n
    · have s1 := itoa_size (n := n / 10) (by omega) (by omega)
      have sz : ∀ x : UInt8, (⟨[x].toArray⟩ : ByteArray).size = 1 := fun _ => rfl
      rw [if_pos h10, w64 (x := n / 10) (by omega) (by omega), if_pos ⟨by unfold numM; rw [if_neg (by omega), if_neg (by omega)]; omega, by omega, by omega⟩, if_pos (by rw [sz]; omega), itoa_nonneg (n := n / 10) (by omega), itoa_nonneg hn, ba_append, dec_big (u := n.toNat) (by omega)]
      rw [show (n / 10).toNat = n.toNat / 10 by omega, show (48 + n % 10).toNat = 48 + n.toNat % 10 by omega]
    · rw [if_neg h10, itoa_nonneg hn, dec_small (by omega), show (48 + n % 10).toNat = 48 + n.toNat by omega]
theorem isochronref21vtold.ok' (n : Int) (h0 : -9223372036854775807 ≤ n) (h1 : n ≤ 9223372036854775807) {B : Base} {w : World} {l : List HProp} {hf : Hp} (hS : St B w l hf) :
    Calls prog 29 #[iV n] w (Ret fun v w => v = .string (itoaB n) ∧ St B w l hf) := by
  have key : ∀ (k : Nat) (n : Int), numM n = k → -9223372036854775807 ≤ n → n ≤ 9223372036854775807 → ∀ {B : Base} {w : World} {l : List HProp} {hf : Hp}, St B w l hf → Calls prog 29 #[iV n] w (Ret fun v w => v = .string (itoaB n) ∧ St B w l hf) := by
    intro k
    induction k using Nat.strongRecOn with
    | _ k ih =>
      intro n e h0 h1 B w l hf hS
      exact isochronref21vtold.ok (fun m hm a b => ih (numM m) (e ▸ hm) m rfl a b) (isochronref21vtold.eq n h0 h1) hS
  exact key _ n rfl h0 h1 hS
def isochronref21vtext_line.l4b (a2 : isochronref21vtext) (a4 : List Int) : ByteArray × Int → Option ((ByteArray × Int) ⊕ (isochronref21vtext))
  | (s241, x242) => (if x242 < (a4.length : Int) then (if 0 ≤ x242 then (if nth a4 x242 < (-4611686018427387904) then some (.inr (⟨a2.s, 1⟩ : isochronref21vtext)) else (if 4611686018427387904 < nth a4 x242 then some (.inr (⟨a2.s, 1⟩ : isochronref21vtext)) else (if s241.size + lit_20.size ≤ 9223372036854775807 then (if -9223372036854775807 ≤ nth a4 x242 ∧ nth a4 x242 ≤ 9223372036854775807 then (if (s241 ++ lit_20).size + (itoaB (nth a4 x242)).size ≤ 9223372036854775807 then some (.inl ((s241 ++ lit_20) ++ (itoaB (nth a4 x242)), IntKind.i64.wrap (x242 + 1))) else none) else none) else none))) else none) else (Option.map Sum.inr (if a2.s.size + s241.size ≤ 9223372036854775807 then (if (a2.s ++ s241).size + lit_0a.size ≤ 9223372036854775807 then some (⟨(a2.s ++ s241) ++ lit_0a, a2.e⟩ : isochronref21vtext) else none) else none)))
def isochronref21vtext_line.l4 (a2 : isochronref21vtext) (a4 : List Int) (s : ByteArray × Int) : Option (isochronref21vtext) := loopR (isochronref21vtext_line.l4b a2 a4) s
def isochronref21vtext_line.f (a2 : isochronref21vtext) (a3 : ByteArray) (a4 : List Int) : Option (isochronref21vtext) := (if a2.e = 0 then isochronref21vtext_line.l4 a2 a4 (a3, 0) else some a2)
theorem isochronref21vtext_line.ok {a2 : isochronref21vtext} {a3 : ByteArray} {a4 : List Int} {b1 c6 : Nat} {A5 : Option Addr} (hr7 : SlR ((FI .i64).rep) hf A5 c6 a4) {r : isochronref21vtext} (h : isochronref21vtext_line.f a2 a3 a4 = some r) (hS : St B w (Cl b1 [.string a2.s, iV a2.e] 84 :: l) hf) :
    Calls prog 23 #[pV b1, .string a3, sV A5 a4 c6] w (Ret fun v w => v = .tuple #[] ∧ St B w (Cl b1 [.string r.s, iV r.e] 84 :: l) hf) := by
  have h := Holds.of h
  refine en func23 rfl ntmps23 rfl (RC.seq (sr (rr [0, 0, 0, 1, 0] hS ?_)))
  refine it fun w hS => ln ?_
  refine RC.iteN 12 rfl h (fun hc151 h => ?_) fun hc151 h => ?_
  next =>
   refine jfs (sr (pn 2 rfl (ln (RC.seq (sr (pn 1 rfl (ln (RC.block (fun a ha => lp h (fun (s : ByteArray × Int) a w => ∃ s241 x242, s = (s241, x242) ∧ Has 53 [(0, pV b1), (2, sV A5 a4 c6), (6, .string s241), (7, iV x242)] a ∧ St B w (Cl b1 [.string a2.s, iV a2.e] 84 :: l) hf) ⟨_, _, rfl, ha.tE rfl, hS⟩ ?_)))))))))
   rintro G267 _ a w ⟨s241, x242, rfl, ha, hS⟩ h
   refine ro ha (RC.seq (sr (r0 4 rfl (ln ?_))))
   refine RC.iteP 17 rfl h (fun hc269 h => ?_) fun hc269 h => ?_
   next =>
    refine jt (sk (RC.seq (RC.block (RC.seq (sr (pn 2 rfl ?_))))))
    obtain ⟨hq283, h⟩ := h.req
    refine RL.s (Vl.indexAddr underlying51 sizeOf2 rfl rfl ((hr7.2.world hS.sub).adr hq283 hc269) hq283 hc269 rfl) rfl (RL.s (Vl.load isAgg2 rfl ((hr7.2.world hS.sub).cell (j := 0) hq283 hc269 rfl)) rfl (pn 2 rfl ?_))
    refine RL.iteP 25 rfl h (fun hc284 h => ?_) fun hc284 h => ?_
    next =>
     refine pn 6 rfl (ln (jtr (rr [0, 0, 0, 1] hS ?_)))
     refine it fun w hS => lr (RQ.ret (ir ?_))
     have h := h.inrS
     refine RQ.ret (ir ?_)
     cases h.some
     exact rt results23 rfl ⟨rfl, hS⟩
    refine pn 2 rfl (RL.sg (Vl.indexAddr underlying51 sizeOf2 rfl rfl ((hr7.2.world hS.sub).adr hq283 hc269) hq283 hc269 rfl) rfl rfl (RL.sg (Vl.load isAgg2 rfl ((hr7.2.world hS.sub).cell (j := 0) hq283 hc269 rfl)) rfl rfl (pn 2 rfl (ln ?_))))
    refine RC.iteP 31 rfl h (fun hc285 h => ?_) fun hc285 h => ?_
    next =>
     refine jtr (rr [0, 0, 0, 1] hS ?_)
     refine it fun w hS => lr (RQ.ret (ir ?_))
     have h := h.inrS
     refine RQ.ret (ir ?_)
     cases h.some
     exact rt results23 rfl ⟨rfl, hS⟩
    refine jfs (RC.region (pn 1 rfl ?_))
    obtain ⟨hq286, h⟩ := h.req
    refine RL.s (Vl.strAdd hq286 rfl rfl) rfl (pn 2 rfl (RL.s (Vl.indexAddr underlying51 sizeOf2 rfl rfl ((hr7.2.world hS.sub).adr hq283 hc269) hq283 hc269 rfl) rfl (RL.s (Vl.load isAgg2 rfl ((hr7.2.world hS.sub).cell (j := 0) hq283 hc269 rfl)) rfl ?_)))
    obtain ⟨⟨hq287, hq288⟩, h⟩ := h.req
    refine RL.e (OW.callF (ls := [.tmp 40]) rfl call29 (isochronref21vtold.ok' (nth a4 x242) hq287 hq288 hS)) rfl rfl ?_
    rintro _ w ⟨rfl, hS⟩
    obtain ⟨hq289, h⟩ := h.req
    refine RL.s (Vl.strAdd hq289 rfl rfl) rfl (pn 1 rfl (RL.nil (RQ.inB_n (RQ.then_n (RC.region (pn 3 rfl (RL.nil ?_)))))))
    exact fun a ha => ⟨_, h.some, _, _, rfl, ha.tE rfl, hS⟩
   refine jf (RC.exit (RQ.exitT ?_))
   have h := h.inr
   refine RQ.exitT (RQ.inB_hit (RQ.then_n (RC.region (rr [0, 0, 0, 0, 1, 0] hS ?_))))
   refine it fun w hS => ?_
   obtain ⟨hq290, h⟩ := h.req
   refine RL.s (Vl.strAdd hq290 rfl rfl) rfl ?_
   obtain ⟨hq291, h⟩ := h.req
   refine RL.s (Vl.strAdd hq291 rfl rfl) rfl (rr [0, 0, 1] hS ?_)
   refine it fun w hS => RL.nil ?_
   cases h.some
   exact rtE results23 rfl ⟨rfl, hS⟩
  refine jt (RC.ret (RQ.ret ?_))
  obtain rfl := h.some
  exact rt results23 rfl ⟨rfl, hS⟩
end
end Go.Proofs.Gx
