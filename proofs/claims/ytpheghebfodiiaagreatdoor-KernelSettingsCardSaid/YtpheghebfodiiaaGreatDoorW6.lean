/-
  The walks of functions, each with what it computes: printed by wip/gx.py.
-/
import Derived.Test.YtpheghebfodiiaaGreatDoorW0
import Derived.Test.YtpheghebfodiiaaGreatDoorW2
import Derived.Test.YtpheghebfodiiaaGreatDoorW3
import Derived.Test.YtpheghebfodiiaaGreatDoorW5
set_option linter.unusedVariables false
set_option linter.unusedSimpArgs false
set_option maxRecDepth 100000
set_option maxHeartbeats 4000000
namespace Go.Proofs.Gx
open Go.Sl Tryz
variable {B : Base} {w : World} {l : List HProp} {hf : Hp}
noncomputable section
def kernel_Kernel_step.f (a2 : kernel_Kernel) (a3 : api_Pick) : Option (Int) := ((kernel_Kernel_who.f a2.m.Progs a2.m.Links a2.m.Starts a2.m.Seed a2.m.End a2.m.Budget a2.at_ a2.ways a2.token a2.global a2.window a2.width a2.history a2.stop a3.A).bind fun t127 => match t127 with | .inl y129 => (if y129 = 0 then none else some y129) | .inr ((y132, y133)) => (if y133 = 0 then none else some y133))
theorem kernel_Kernel_step.ok {a2 : kernel_Kernel} {a3 : api_Pick} {b1 : Nat} {r : Int} (h : kernel_Kernel_step.f a2 a3 = some r) (hS : St B w (O_kernel_Kernel hf a2 b1 :: l) hf) :
    Calls prog 37 #[pV b1, .agg (C_api_Pick a3).toArray] w (Ret fun v w => v = iV r ∧ St B w (O_kernel_Kernel hf a2 b1 :: l) hf) := by
  have h := Holds.of h
  refine en func37 rfl ntmps37 rfl (sr (rr [0, 0] hS ?_))
  refine fun b79 => it fun w hS => lnsr (rr [0, 0, 1] hS ?_)
  refine it fun w hS => ?_
  obtain ⟨A107, c108, A110, c111, A113, c114, A116, c117, bs118, A120, c121, bs122, b124, A125, c126, hr109, hr112, hr115, hS⟩ := O_kernel_Kernel.o hS.p1
  have hl119 := hS.p2.sepLen
  have hl123 := hS.p4.sepLen
  obtain ⟨t127, hg128, h⟩ := h.bind
  have hc := kernel_Kernel_who.ok hr109 hr112 hr115 hl119 hl123 hg128 hS.p5
  rcases t127 with y129 | ⟨y132, y133⟩
  · refine RL.e (OW.callF (ls := [.tmp 12, .tmp 14]) rfl call59 hc) rfl rfl ?_
    rintro _ w ⟨rfl, hS⟩
    refine pn 5 rfl (ln (RC.seq (sr (pn 2 rfl (ln ?_)))))
    refine RC.iteN 19 rfl h (fun hc131 h => ?_) fun hc131 h => ?_
    next =>
     refine jfs (sr (pn 2 rfl ?_))
     exact h.none
    refine jtr (pn 2 rfl (lr (RQ.ret ?_)))
    have hS := O_kernel_Kernel.c (x := a2) hr109 hr112 hr115 hS.p5.p5.p5.p5.p5
    obtain rfl := h.some
    exact rt results37 rfl ⟨rfl, hS.d1⟩
  refine RL.e (OW.callF (ls := [.tmp 12, .tmp 14]) rfl call59 hc) rfl rfl ?_
  rintro _ w ⟨rfl, hS, hz134, hz135⟩
  refine pn 5 rfl (ln (RC.seq (sr (pn 2 rfl (ln ?_)))))
  refine RC.iteN 19 rfl h (fun hc137 h => ?_) fun hc137 h => ?_
  next =>
   refine jfs (sr (pn 3 rfl ?_))
   have hS := hS.p3.sepTake hz134 hz135
   refine r0 1 rfl ?_
   obtain ⟨b145, b146, b147, A148, c149, b151, hr150, hS⟩ := O_kernel_place.o hS
   refine rr [1] hS ?_
   refine it fun w hS => ?_
   exact h.none
  refine jtr (pn 2 rfl (lr (RQ.ret ?_)))
  have hS := O_kernel_Kernel.c (x := a2) hr109 hr112 hr115 hS.p5.p5.p5.p5.p5
  obtain rfl := h.some
  exact rt results37 rfl ⟨rfl, hS.d1⟩
def kernel_Kernel_deliver.f (a2 : kernel_Kernel) (a3 : api_Pick) : Option (Int) := (if a3.A < 0 then some 1 else (if (a2.ways.length : Int) ≤ a3.A then some 1 else (if 0 ≤ a3.A ∧ a3.A < (a2.ways.length : Int) then (if a3.A < (a2.m.Links.length : Int) then (if 0 ≤ (nth a2.m.Links a3.A).To ∧ (nth a2.m.Links a3.A).To < (a2.at_.length : Int) then none else none) else none) else none)))
theorem kernel_Kernel_deliver.ok {a2 : kernel_Kernel} {a3 : api_Pick} {b1 : Nat} {r : Int} (h : kernel_Kernel_deliver.f a2 a3 = some r) (hS : St B w (O_kernel_Kernel hf a2 b1 :: l) hf) :
    Calls prog 38 #[pV b1, .agg (C_api_Pick a3).toArray] w (Ret fun v w => v = iV r ∧ St B w (O_kernel_Kernel hf a2 b1 :: l) hf) := by
  have h := Holds.of h
  refine en func38 rfl ntmps38 rfl (sr (rr [0, 0] hS ?_))
  refine fun b63 => it fun w hS => ln (RC.seq (RC.seq ?_))
  obtain ⟨A88, c89, A91, c92, A94, c95, A97, c98, bs99, A101, c102, bs103, b105, A106, c107, hr90, hr93, hr96, hS⟩ := O_kernel_Kernel.o hS.p1
  have hl100 := hS.p2.sepLen
  have hl104 := hS.p4.sepLen
  refine dr [0, 4, 6, 9, 12, 16, 20, 23, 26, 29, 32, 35, 38] [11, 12] hS fun w hS => rq [0, 8, 0, 0] hS ?_
  refine it ?_
  refine RP.iteP 13 rfl h (fun hc108 h => ?_) fun hc108 h => ?_
  next =>
   refine rq [0, 0, 0, 0, 0, 0, 0, 0, 0] hS ?_
   refine it (RP.nil (RQ.then_n (jtr (pn 1 rfl (lr (RQ.ret ?_))))))
   have hS := O_kernel_Kernel.c (x := a2) hr90 hr93 hr96 hS
   obtain rfl := h.some
   exact rt results38 rfl ⟨rfl, hS.d1⟩
  refine rq [0, 8, 0, 0, 0, 1] hS ?_
  refine it (RP.v1 10 rfl (Vl.lenO hl104 underlying44 rfl) rfl rfl (rq [0, 0] hS ?_))
  refine it (RP.nil (RQ.then_n ?_))
  refine RC.iteP 22 rfl h (fun hc109 h => ?_) fun hc109 h => ?_
  next =>
   refine jtr (pn 1 rfl (lr (RQ.ret ?_)))
   have hS := O_kernel_Kernel.c (x := a2) hr90 hr93 hr96 hS
   obtain rfl := h.some
   exact rt results38 rfl ⟨rfl, hS.d1⟩
  refine jfs (RC.seq (dr [0, 3, 6, 10, 12, 16, 19, 22, 24, 27, 30, 34, 36, 39, 42, 45, 49, 51, 55, 58, 60, 64, 67, 70, 74, 77] [25] hS fun w hS => rq [0, 0, 0, 1, 0, 8] hS ?_))
  refine it ?_
  obtain ⟨⟨hq115, hq116⟩, h⟩ := h.req
  refine RP.s 0 6 rfl rfl hS (fun w hS => Vl.indexOwn 3 hS rfl underlying44 sizeOf66 rfl rfl hq115 (lt_len hl104 hq116)) rfl (RP.s 0 7 rfl rfl hS (fun w hS => Vl.load isAgg66 rfl ((hS.slW 3 rfl).2.2.cell (j := 0) hq115 (lt_len hl104 hq116) rfl)) rfl (rq [0, 0, 0, 1, 0, 0, 0, 0, 1, 0, 8] hS ?_))
  refine it ?_
  obtain ⟨hq117, h⟩ := h.req
  refine RP.s 0 19 rfl rfl hS (fun w hS => Vl.indexAddr underlying23 sizeOf65 rfl rfl ((hr93.2.world hS.sub).adr hq115 hq117) hq115 hq117 rfl) rfl (RP.s0 20 rfl (fun w => Vl.fieldAddr (a'' := (ad A91).add (a3.A.toNat * 4 + 1)) underlying65 rfl sizeOf3 rfl (add_add _ _ _)) rfl (RP.s 0 21 rfl rfl hS (fun w hS => Vl.load isAgg3 rfl ((hr93.2.world hS.sub).cell (j := 1) hq115 hq117 rfl)) rfl ?_))
  obtain ⟨⟨hq118, hq119⟩, h⟩ := h.req
  refine RP.s 0 22 rfl rfl hS (fun w hS => Vl.indexOwn 1 hS rfl underlying43 sizeOf53 rfl rfl hq118 (lt_len hl100 hq119)) rfl (RP.s 0 23 rfl rfl hS (fun w hS => Vl.load isAgg53 rfl ((hS.slW 1 rfl).2.2.cell (j := 0) hq118 (lt_len hl100 hq119) rfl)) rfl (rq [0, 0] hS ?_))
  refine it (RP.nil (tsr (rr [0, 0, 8] hS ?_)))
  refine it fun w hS => ?_
  exact h.none
def colour_Token_none.f (a2 : colour_Token) : Option (Bool) := some (decide (a2.n = 0))
theorem colour_Token_none.ok {a2 : colour_Token} {b1 : Nat} {r : Bool} (h : colour_Token_none.f a2 = some r) (hS : St B w (O_colour_Token hf a2 b1 :: l) hf) :
    Calls prog 116 #[pV b1] w (Ret fun v w => v = .bool r ∧ St B w (O_colour_Token hf a2 b1 :: l) hf) := by
  have h := Holds.of h
  refine en func116 rfl ntmps116 rfl (sr (pn 1 rfl (lnsr (pn 1 rfl (RL.s (Vl.bn false rfl rfl) rfl (r0 4 rfl ?_))))))
  have hS := O_colour_Token.o hS
  refine rr [1, 0, 0, 0] hS ?_
  refine it fun w hS => lr ?_
  have hS := O_colour_Token.c (x := a2) hS
  cases h.some
  exact rt results116 rfl ⟨rfl, hS⟩
def colour_Token_At.f (a2 : colour_Token) : Option (Int) := ((colour_Token_none.f a2).bind fun t12 => (if t12 = true then some 0 else some a2.at_))
theorem colour_Token_At.ok {a2 : colour_Token} {b1 : Nat} {r : Int} (h : colour_Token_At.f a2 = some r) (hS : St B w (O_colour_Token hf a2 b1 :: l) hf) :
    Calls prog 69 #[pV b1] w (Ret fun v w => v = iV r ∧ St B w (O_colour_Token hf a2 b1 :: l) hf) := by
  have h := Holds.of h
  refine en func69 rfl ntmps69 rfl (sr (pn 1 rfl (ln (RC.seq (sr (pn 1 rfl (cF (fun _ hg => colour_Token_none.ok hg hS) call116 h rfl rfl rfl ?_)))))))
  rintro t12 h _ w ⟨rfl, hS⟩
  refine ln ?_
  refine RC.iteB 4 rfl h (fun hc14 h => ?_) fun hc14 h => ?_
  next =>
   refine jtr (pn 1 rfl (lr (RQ.ret ?_)))
   obtain rfl := h.some
   exact rt results69 rfl ⟨rfl, hS⟩
  refine jfs (sr (r0 3 rfl ?_))
  have hS := O_colour_Token.o hS
  refine rr [1, 0] hS ?_
  refine it fun w hS => lr ?_
  have hS := O_colour_Token.c (x := a2) hS
  cases h.some
  exact rt results69 rfl ⟨rfl, hS⟩
def vtime_Least.l2b (a1 : List Int) : Int × Int → Option ((Int × Int) ⊕ (Int))
  | (x26, x27) => (if x27 < (a1.length : Int) then (if 0 ≤ x27 then some (.inl ((if nth a1 x27 < x26 then nth a1 x27 else x26), IntKind.i64.wrap (x27 + 1))) else none) else some (.inr x26))
def vtime_Least.l2 (a1 : List Int) (s : Int × Int) : Option (Int) := loopR (vtime_Least.l2b a1) s
def vtime_Least.f (a1 : List Int) : Option (Int) := vtime_Least.l2 a1 (4611686018427387904, 0)
theorem vtime_Least.ok {a1 : List Int} {A2 : Option Addr} {c3 : Nat} (hr4 : SlR ((FI .i64).rep) hf A2 c3 a1) {r : Int} (h : vtime_Least.f a1 = some r) (hS : St B w (l) hf) :
    Calls prog 119 #[sV A2 a1 c3] w (Ret fun v w => v = iV r ∧ St B w (l) hf) := by
  have h := Holds.of h
  refine en func119 rfl ntmps119 rfl (sr (pn 1 rfl (lnsr (pn 1 rfl (ln (RC.seq (sr (r0 3 rfl (RL.nil ?_)))))))))
  refine RQ.then_n (RC.block (fun a ha => lp h (fun (s : Int × Int) a w => ∃ x26 x27, s = (x26, x27) ∧ Has 17 [(3, iV x26), (6, sV A2 a1 c3), (7, iV (a1.length : Int)), (8, iV x27)] a ∧ St B w (l) hf) ⟨_, _, rfl, ha.tE rfl, hS⟩ ?_))
  rintro G34 _ a w ⟨x26, x27, rfl, ha, hS⟩ h
  refine ro ha (sr (pn 1 rfl (ln (RC.seq ?_))))
  refine RC.iteP 9 rfl h (fun hc36 h => ?_) fun hc36 h => ?_
  next =>
   refine jt (sk (RC.seq (RC.block (sr ?_))))
   obtain ⟨hq38, h⟩ := h.req
   refine RL.s (Vl.indexAddr underlying122 sizeOf2 rfl rfl ((hr4.2.world hS.sub).adr hq38 hc36) hq38 hc36 rfl) rfl (RL.s (Vl.load isAgg2 rfl ((hr4.2.world hS.sub).cell (j := 0) hq38 hc36 rfl)) rfl (pn 1 rfl (ln (RC.region (pn 2 rfl (RL.s (Vl.min2 rfl rfl) rfl (pn 1 rfl (RL.nil (RQ.inB_n (RQ.then_n (RC.region (pn 2 rfl (RL.nil ?_)))))))))))))
   exact fun a ha => ⟨_, h.some, _, _, rfl, ha.tE rfl, hS⟩
  refine jf (RC.exit (RQ.exitT ?_))
  have h := h.inrS
  refine RQ.exitT (RQ.inB_hit (tsr (pn 2 rfl (lr ?_))))
  obtain rfl := h.some
  exact rt results119 rfl ⟨rfl, hS⟩
def lane_Lane_none.f (a2 : lane_Lane) : Option (Unit) := some ()
theorem lane_Lane_none.ok {a2 : lane_Lane} {b1 : Nat} {r : Unit} (h : lane_Lane_none.f a2 = some r) (hS : St B w (O_lane_Lane hf a2 b1 :: l) hf) :
    Calls prog 36 #[pV b1] w (Ret fun v w => v = .bool false ∧ St B w (O_lane_Lane hf a2 b1 :: l) hf) := by
  have h := Holds.of h
  refine en func36 rfl ntmps36 rfl (sr (pn 1 rfl (lnsr (pn 1 rfl (RL.s (Vl.bn false rfl rfl) rfl (r0 4 rfl ?_))))))
  obtain ⟨A23, c24, A26, c27, A29, c30, A32, c33, b35, b36, A37, c38, A39, c40, b41, b42, hr25, hr28, hr31, hr34, hS⟩ := O_lane_Lane.o hS
  refine rr [1] hS ?_
  refine it fun w hS => RL.sg (Vl.bn false rfl rfl) rfl rfl (pn 2 rfl (lr ?_))
  have hS := O_lane_Lane.c (x := a2) hr25 hr28 hr31 hr34 hS
  exact rt results36 rfl ⟨rfl, hS⟩
def heap_Heap_First.f (a2 : heap_Heap) : Option (api_Message × Int) := ((heap_Heap_none.f a2).bind fun _ => (if (a2.p_l.length : Int) = 0 then some ((⟨(⟨0, 0, 0⟩ : api_Key), 0, 0, 0, false⟩ : api_Message), 6) else (if 0 < (a2.p_l.length : Int) then some (nth a2.p_l 0, 0) else none)))
theorem heap_Heap_First.ok {a2 : heap_Heap} {b1 : Nat} {r : api_Message × Int} (h : heap_Heap_First.f a2 = some r) (hS : St B w (O_heap_Heap hf a2 b1 :: l) hf) :
    Calls prog 251 #[pV b1] w (Ret fun v w => v = .tuple #[.agg (C_api_Message r.1).toArray, iV r.2] ∧ St B w (O_heap_Heap hf a2 b1 :: l) hf) := by
  have h := Holds.of h
  refine en func251 rfl ntmps251 rfl (sr (rr [0, 0] hS ?_))
  refine fun b21 => it fun w hS => ln (RC.seq (RC.block (sr (pn 1 rfl (cF (fun _ hg => heap_Heap_none.ok hg hS.p1) call255 h rfl rfl rfl ?_)))))
  rintro _ h _ w ⟨rfl, hS⟩
  refine pn 1 rfl (ln (jf (sr (r0 4 rfl ?_))))
  obtain ⟨A33, c34, hS⟩ := O_heap_Heap.o hS
  refine rr [1, 0, 0, 0] hS ?_
  refine it fun w hS => ln ?_
  refine RC.iteP 8 rfl h (fun hc35 h => ?_) fun hc35 h => ?_
  next =>
   refine jtr (rr [0, 3, 0] hS ?_)
   refine it fun w hS => lr (ir ?_)
   have hS := O_heap_Heap.c (x := a2) hS
   cases h.some
   refine rz [1] results251 hS ?_
   exact it ⟨rfl, hS.d1⟩
  refine jf (RC.skip (RQ.inB_n (tsr (rr [0, 0, 0, 0, 1] hS ?_))))
  refine it fun w hS => ?_
  obtain ⟨hq36, h⟩ := h.req
  refine RL.s (Vl.indexOwn 1 hS rfl underlying99 sizeOf115 rfl rfl (by decide) hq36) rfl (RL.s (Vl.loadA isAgg115 sizeOf115 rfl rfl ((hS.slW 1 rfl).2.2.cells (by decide) hq36)) rfl (rr [3, 0] hS ?_))
  refine it fun w hS => lr ?_
  have hS := O_heap_Heap.c (x := a2) hS
  cases h.some
  refine rz [1] results251 hS ?_
  exact it ⟨rfl, hS.d1⟩
def pend_Pend_First.f (a2 : pend_Pend) : Option (api_Message × Int) := ((pend_Pend_none.f a2).bind fun _ => (a2.q.on (fun y27 => ((heap_Heap_First.f y27).bind fun (y33, y34) => some (y33, y34))) (fun y28 => none) (fun y29 => none)))
theorem pend_Pend_First.ok {a2 : pend_Pend} {b1 : Nat} {r : api_Message × Int} (h : pend_Pend_First.f a2 = some r) (hS : St B w (O_pend_Pend hf a2 b1 :: l) hf) :
    Calls prog 94 #[pV b1] w (Ret fun v w => v = .tuple #[.agg (C_api_Message r.1).toArray, iV r.2] ∧ St B w (O_pend_Pend hf a2 b1 :: l) hf) := by
  have h := Holds.of h
  refine en func94 rfl ntmps94 rfl (sr (rr [0, 0] hS ?_))
  refine fun b21 => it fun w hS => ln (RC.seq (sr (pn 1 rfl (cF (fun _ hg => pend_Pend_none.ok hg hS.p1) call90 h rfl rfl rfl ?_))))
  rintro _ h _ w ⟨rfl, hS⟩
  refine ln (jfs (sr (r0 3 rfl ?_)))
  rcases hx26 : a2.q with y27 | y28 | y29
  next =>
   have h := Q_pend_Pend.h0 hx26 h
   obtain ⟨b30, hS⟩ := O_pend_Pend.o0 hx26 hS
   refine rr [1] hS ?_
   refine it fun w hS => ?_
   obtain ⟨t31, hg32, h⟩ := h.bind
   have hc := heap_Heap_First.ok hg32 hS.p1
   obtain ⟨y33, y34⟩ := t31
   refine RL.e (OW.invoke (F := 251) (u' := pV b30) (ls := []) rfl rfl (fun w => by kernel_rfl) call251 rfl hc) rfl rfl ?_
   rintro _ w ⟨rfl, hS⟩
   refine rr [0, 0, 3, 0] hS ?_
   refine it fun w hS => lr ?_
   have hS := O_pend_Pend.c0 (x := a2) hx26 hS.p1
   cases h.some
   refine rz [1] results94 hS ?_
   exact it ⟨rfl, hS.d1⟩
  next =>
   have h := Q_pend_Pend.h1 hx26 h
   obtain ⟨b35, hS⟩ := O_pend_Pend.o1 hx26 hS
   refine rr [1] hS ?_
   refine it fun w hS => ?_
   exact h.none
  have h := Q_pend_Pend.h2 hx26 h
  obtain ⟨b36, hS⟩ := O_pend_Pend.o2 hx26 hS
  refine rr [1] hS ?_
  refine it fun w hS => ?_
  exact h.none
def log_Log_none.f (a2 : log_Log) : Option (Bool) := some (!a2.made)
theorem log_Log_none.ok {a2 : log_Log} {b1 : Nat} {r : Bool} (h : log_Log_none.f a2 = some r) (hS : St B w (O_log_Log hf a2 b1 :: l) hf) :
    Calls prog 136 #[pV b1] w (Ret fun v w => v = .bool r ∧ St B w (O_log_Log hf a2 b1 :: l) hf) := by
  have h := Holds.of h
  refine en func136 rfl ntmps136 rfl (sr (pn 1 rfl (lnsr (pn 1 rfl (RL.s (Vl.bn false rfl rfl) rfl (r0 4 rfl ?_))))))
  obtain ⟨A13, c14, A16, c17, A19, c20, cs21, hr15, hr18, hx22, hS⟩ := O_log_Log.o hS
  refine rr [1, 0, 0, 0] hS ?_
  refine it fun w hS => lr ?_
  have hS := O_log_Log.c (x := a2) hr15 hr18 hx22 hS
  cases h.some
  exact rt results136 rfl ⟨rfl, hS⟩
def log_Log_Stuck.f (a2 : log_Log) : Option (Bool) := ((log_Log_none.f a2).bind fun t16 => (if t16 = true then some false else some a2.stuck))
theorem log_Log_Stuck.ok {a2 : log_Log} {b1 : Nat} {r : Bool} (h : log_Log_Stuck.f a2 = some r) (hS : St B w (O_log_Log hf a2 b1 :: l) hf) :
    Calls prog 120 #[pV b1] w (Ret fun v w => v = .bool r ∧ St B w (O_log_Log hf a2 b1 :: l) hf) := by
  have h := Holds.of h
  refine en func120 rfl ntmps120 rfl (sr (pn 1 rfl (lnsr (pn 1 rfl (cF (fun _ hg => log_Log_none.ok hg hS) call136 h rfl rfl rfl ?_)))))
  rintro t16 h _ w ⟨rfl, hS⟩
  refine pn 2 rfl ?_
  refine RL.iteM 6 rfl h (fun hc18 h => ?_) fun hc18 h => ?_
  next =>
   refine pn 6 rfl (lr ?_)
   obtain rfl := h.some
   exact rt results120 rfl ⟨rfl, hS⟩
  refine r0 3 rfl ?_
  obtain ⟨A19, c20, A22, c23, A25, c26, cs27, hr21, hr24, hx28, hS⟩ := O_log_Log.o hS
  refine rr [1, 0, 0] hS ?_
  refine it fun w hS => lr ?_
  have hS := O_log_Log.c (x := a2) hr21 hr24 hx28 hS
  cases h.some
  exact rt results120 rfl ⟨rfl, hS⟩
def lane_Lane_Local.l4b (a2 : lane_Lane) : Int × Int → Option ((Int × Int) ⊕ (Int))
  | (x381, x382) => (if x382 < (a2.open_.length : Int) then (if 0 ≤ x382 then ((vtime_Least.f ([x381, (((nth a2.open_ x382).m).Key).Time] : List Int)).bind fun t432 => some (.inl (t432, IntKind.i64.wrap (x382 + 1)))) else none) else some (.inr x381))
def lane_Lane_Local.l4 (a2 : lane_Lane) (s : Int × Int) : Option (Int) := loopR (lane_Lane_Local.l4b a2) s
def lane_Lane_Local.j3 (a2 : lane_Lane) (x318 : Int) : Option (Int) := lane_Lane_Local.l4 a2 (x318, 0)
def lane_Lane_Local.f (a2 : lane_Lane) : Option (Int) := ((vtime_Least.f ([])).bind fun t251 => ((lane_Lane_none.f a2).bind fun _ => ((pend_Pend_First.f a2.wait).bind fun (y481, y482) => (if y482 = 0 then ((log_Log_Stuck.f a2.log).bind fun t485 => (if t485 = true then lane_Lane_Local.j3 a2 t251 else ((vtime_Least.f ([y481.Key.Time] : List Int)).bind fun t493 => lane_Lane_Local.j3 a2 t493))) else lane_Lane_Local.j3 a2 t251))))
theorem lane_Lane_Local.ok {a2 : lane_Lane} {b1 : Nat} {r : Int} (h : lane_Lane_Local.f a2 = some r) (hS : St B w (O_lane_Lane hf a2 b1 :: l) hf) :
    Calls prog 71 #[pV b1] w (Ret fun v w => v = iV r ∧ St B w (O_lane_Lane hf a2 b1 :: l) hf) := by
  have h := Holds.of h
  refine en func71 rfl ntmps71 rfl (sr (pn 1 rfl (lnsr (cF (fun _ hg => vtime_Least.ok (SlR.nil (A := none) (c := 0)) hg hS) call119 h rfl rfl rfl ?_))))
  rintro t251 h _ w ⟨rfl, hS⟩
  refine pn 1 rfl (ln (RC.seq (sr (pn 1 rfl (cF (fun _ hg => lane_Lane_none.ok hg hS) call36 h rfl rfl rfl ?_)))))
  rintro _ h _ w ⟨rfl, hS⟩
  refine ln (jfs ?_)
  refine RC.join (fun (s : Int) a w => ∃ x318, s = (x318) ∧ Holds (· = r) (lane_Lane_Local.j3 a2 x318) ∧ Has 53 [(0, pV b1), (3, iV x318)] a ∧ St B w (O_lane_Lane hf a2 b1 :: l) hf) ?_ ?_
  · rintro x318 a w ⟨_, rfl, h, ha, hS⟩
    refine ro ha (RC.seq (sr (r0 3 rfl ?_)))
    obtain ⟨A339, c340, A342, c343, A345, c346, A348, c349, b351, b352, A353, c354, A355, c356, b357, b358, hr341, hr344, hr347, hr350, hS⟩ := O_lane_Lane.o hS
    refine rr [1, 0, 0] hS ?_
    refine it fun w hS => ln (RC.block (fun a ha => lp h (fun (s : Int × Int) a w => ∃ x381 x382, s = (x381, x382) ∧ Has 53 [(3, iV x381), (38, sV A353 a2.open_ c354), (39, iV (a2.open_.length : Int)), (40, iV x382)] a ∧ St B w (OSf E_lane_open 221 (sV A353 a2.open_ c354) a2.open_ :: OSf E_api_Message 115 (sV A355 a2.orphans c356) a2.orphans :: Cl b1 (C_lane_Lane a2 A339 c340 A342 c343 A345 c346 A348 c349 b351 b352 A353 c354 A355 c356 b357 b358) 103 :: O_log_Log hf a2.log b351 :: O_pend_Pend hf a2.wait b352 :: MapF kv_lane_sending (Value.int .i64) b357 a2.early :: MapF kv_lane_sending Value.bool b358 a2.held :: l) hf) ⟨_, _, rfl, ha.tE rfl, hS.p4.p4⟩ ?_))
    rintro G409 _ a w ⟨x381, x382, rfl, ha, hS⟩ h
    refine ro ha (sr (pn 1 rfl (ln (RC.seq ?_))))
    refine RC.iteP 41 rfl h (fun hc411 h => ?_) fun hc411 h => ?_
    next =>
     refine jt (sk (RC.seq (RC.block (sr ?_))))
     obtain ⟨hq425, h⟩ := h.req
     refine RL.s (Vl.indexOwn 0 hS rfl underlying98 sizeOf221 rfl rfl hq425 hc411) rfl (RL.s (Vl.loadA isAgg221 sizeOf221 rfl rfl ((hS.slW 0 rfl).2.2.cells hq425 hc411)) rfl (rr [0, 1] hS ?_))
     refine fun b426 => it fun w hS => ln (RC.region (rr [0, 0, 0, 0, 1] hS ?_))
     refine it fun w hS => RL.e (OW.buildSlice (E := (FI .i64)) (xs := ([x381, (((nth a2.open_ x382).m).Key).Time] : List Int)) (cs := [iV x381, iV ((((nth a2.open_ x382).m).Key).Time)]) hS underlying122 zeroValue2 sizeOf2 (parts := [(0, .tmp 44), (1, .tmp 48)]) rfl rfl (by decide) (by decide) (by kernel_rfl) rfl) rfl rfl ?_
     rintro _ w ⟨b427, rfl, hS⟩
     obtain ⟨hf431, hs429, hS, hr428, hb430⟩ := St.lendSl hS
     obtain ⟨t432, hg433, h⟩ := h.bind
     have hc := vtime_Least.ok hr428 hg433 hS
     refine RL.e (OW.callF (ls := [.tmp 49]) rfl call119 hc) rfl rfl ?_
     rintro _ w ⟨rfl, hS⟩
     have hS := hb430 _ _ hS
     have hS : St B w (_ :: _ :: _ :: _ :: _ :: _ :: _ :: _ :: _ :: l) hf := hS
     refine pn 1 rfl (RL.nil (RQ.inB_n (RQ.then_n (RC.region (pn 2 rfl (RL.nil ?_))))))
     exact fun a ha => ⟨_, h.some, _, _, rfl, ha.tE rfl, hS.d0.d0⟩
    refine jf (RC.exit (RQ.exitT ?_))
    have h := h.inrS
    refine RQ.exitT (RQ.inB_hit (tsr (pn 2 rfl (lr ?_))))
    have hS := O_lane_Lane.c (x := a2) hr341 hr344 hr347 hr350 hS.p4.p4.p4
    obtain rfl := h.some
    exact rt results71 rfl ⟨rfl, hS⟩
  refine sr (r0 3 rfl ?_)
  obtain ⟨A459, c460, A462, c463, A465, c466, A468, c469, b471, b472, A473, c474, A475, c476, b477, b478, hr461, hr464, hr467, hr470, hS⟩ := O_lane_Lane.o hS
  refine rr [1] hS ?_
  refine it fun w hS => cF (fun _ hg => pend_Pend_First.ok hg hS.p2) call94 h rfl rfl rfl ?_
  rintro ⟨y481, y482⟩ h _ w ⟨rfl, hS⟩
  refine rr [0, 0, 0, 0, 1, 0] hS ?_
  refine fun b483 => it fun w hS => lnsr (pn 3 rfl ?_)
  refine RL.iteP 22 rfl h (fun hc484 h => ?_) fun hc484 h => ?_
  next =>
   refine rr [0, 0, 0, 3] hS ?_
   refine it fun w hS => cF (fun _ hg => log_Log_Stuck.ok hg hS.p3) call120 h rfl rfl rfl ?_
   rintro t485 h _ w ⟨rfl, hS⟩
   refine pn 2 rfl (ln ?_)
   refine RC.iteM 29 rfl h (fun hc487 h => ?_) fun hc487 h => ?_
   next =>
    refine jf (RC.skip ?_)
    have hS := O_lane_Lane.c (x := a2) hr461 hr464 hr467 hr470 hS.p7.p7.p7.p7.p6.p5.p7
    exact fun a ha => ⟨_, _, rfl, h, ha.tE rfl, hS.d1⟩
   refine jt (RC.region (rr [0, 0, 2] hS ?_))
   refine it fun w hS => RL.e (OW.buildSlice (E := (FI .i64)) (xs := ([y481.Key.Time] : List Int)) (cs := [iV y481.Key.Time]) hS underlying122 zeroValue2 sizeOf2 (parts := [(0, .tmp 32)]) rfl rfl (by decide) (by decide) (by kernel_rfl) rfl) rfl rfl ?_
   rintro _ w ⟨b488, rfl, hS⟩
   obtain ⟨hf492, hs490, hS, hr489, hb491⟩ := St.lendSl hS
   obtain ⟨t493, hg494, h⟩ := h.bind
   have hc := vtime_Least.ok hr489 hg494 hS
   refine RL.e (OW.callF (ls := [.tmp 33]) rfl call119 hc) rfl rfl ?_
   rintro _ w ⟨rfl, hS⟩
   have hS := hb491 _ _ hS
   have hS : St B w (_ :: _ :: _ :: _ :: _ :: _ :: _ :: _ :: _ :: l) hf := hS
   refine pn 1 rfl (RL.nil ?_)
   have hS := O_lane_Lane.c (x := a2) hr461 hr464 hr467 hr470 hS.p8.p8.p8.p8.p7.p6.p8
   exact fun a ha => ⟨_, _, rfl, h, ha.tE rfl, hS.d1.d1⟩
  refine pn 7 rfl (ln (jf (RC.skip ?_)))
  have hS := O_lane_Lane.c (x := a2) hr461 hr464 hr467 hr470 hS.p7.p7.p7.p7.p5.p7.p7
  exact fun a ha => ⟨_, _, rfl, h, ha.tE rfl, hS.d1⟩
def colour_Tally_none.f (a2 : colour_Tally) : Option (Bool) := some (!a2.made)
theorem colour_Tally_none.ok {a2 : colour_Tally} {b1 : Nat} {r : Bool} (h : colour_Tally_none.f a2 = some r) (hS : St B w (O_colour_Tally hf a2 b1 :: l) hf) :
    Calls prog 115 #[pV b1] w (Ret fun v w => v = .bool r ∧ St B w (O_colour_Tally hf a2 b1 :: l) hf) := by
  have h := Holds.of h
  refine en func115 rfl ntmps115 rfl (sr (pn 1 rfl (lnsr (pn 1 rfl (RL.s (Vl.bn false rfl rfl) rfl (r0 4 rfl ?_))))))
  have hS := O_colour_Tally.o hS
  refine rr [1, 0, 0, 0] hS ?_
  refine it fun w hS => lr ?_
  have hS := O_colour_Tally.c (x := a2) hS
  cases h.some
  exact rt results115 rfl ⟨rfl, hS⟩
def colour_Token_count.f (a2 : colour_Token) (a4 : colour_Tally) (a5 : Int) : Option (colour_Token) := (if 0 ≤ IntKind.i64.wrap (BitVec.ofInt IntKind.i64.bits a4.colour ^^^ BitVec.ofInt IntKind.i64.bits 1).toNat ∧ IntKind.i64.wrap (BitVec.ofInt IntKind.i64.bits a4.colour ^^^ BitVec.ofInt IntKind.i64.bits 1).toNat < 2 then ((vtime_Least.f ([a2.least, a5, a4.least] : List Int)).bind fun t26 => some ({ a2 with sum := IntKind.i64.wrap (a2.sum + (nth ([a4.net.c0, a4.net.c1] : List Int) (IntKind.i64.wrap (BitVec.ofInt IntKind.i64.bits a4.colour ^^^ BitVec.ofInt IntKind.i64.bits 1).toNat))), least := t26 } : colour_Token)) else none)
theorem colour_Token_count.ok {a2 r : colour_Token} {a4 : colour_Tally} {a5 : Int} {b1 b3 : Nat} (h : colour_Token_count.f a2 a4 a5 = some r) (hS : St B w (O_colour_Token hf a2 b1 :: O_colour_Tally hf a4 b3 :: l) hf) :
    Calls prog 118 #[pV b1, pV b3, iV a5] w (Ret fun v w => v = .tuple #[] ∧ St B w (O_colour_Token hf r b1 :: O_colour_Tally hf a4 b3 :: l) hf) := by
  have h := Holds.of h
  refine en func118 rfl ntmps118 rfl (RC.seq ?_)
  have hS := O_colour_Token.o hS
  have hS := O_colour_Tally.o hS.p1
  refine dr [0, 3, 6, 10, 12, 15, 18, 21, 25, 27, 32, 35, 38, 41, 44, 47, 50, 53] [14, 15, 16, 17] hS fun w hS => rq [0, 0, 0, 2, 0, 0, 0, 0, 1, 0, 0, 0] hS ?_
  refine it ?_
  obtain ⟨⟨hq19, hq20⟩, h⟩ := h.req
  refine RP.v1 12 rfl (Vl.indexAddrA (a'' := ⟨b3, 2 + (IntKind.i64.wrap (BitVec.ofInt IntKind.i64.bits a4.colour ^^^ BitVec.ofInt IntKind.i64.bits 1).toNat).toNat * 1, none⟩) underlying117 sizeOf3 rfl rfl hq19 hq20 (add_mk _ _ _)) rfl rfl (RP.v1 13 rfl (Vl.load isAgg3 rfl (hS.cell (off := 2 + (IntKind.i64.wrap (BitVec.ofInt IntKind.i64.bits a4.colour ^^^ BitVec.ofInt IntKind.i64.bits 1).toNat).toNat * 1) (cs := [.bool a4.made, iV a4.colour] ++ (([a4.net.c0, a4.net.c1] : List Int).map (Value.int .i64) ++ [iV a4.least])) 0 rfl (mapseg_get rfl hq19 hq20))) rfl rfl (rq [0, 0, 0] hS ?_))
  refine it (RP.e0 17 rfl (OW.store (vs := [iV (IntKind.i64.wrap (a2.sum + (nth ([a4.net.c0, a4.net.c1] : List Int) (IntKind.i64.wrap (BitVec.ofInt IntKind.i64.bits a4.colour ^^^ BitVec.ofInt IntKind.i64.bits 1).toNat))))]) 1 hS rfl rfl rfl rfl sizeOf3 rfl rfl rfl rfl) rfl ?_)
  rintro _ w ⟨rfl, hS⟩
  have hS : St B w (_ :: Cl _ [_, _, _, _, _] _ :: l) hf := hS
  refine ⟨kp ⟨(by intro hx; cases hx), trivial⟩, ?_⟩
  refine RP.nil (RQ.then_n (dr [0, 3, 6, 9, 13, 15, 20, 23, 26, 29, 32, 35, 38, 41, 44] [10, 11, 12, 13, 14] hS fun w hS => rq [0, 0, 0, 0, 2, 0, 0, 0, 0, 1] hS ?_))
  refine it (RP.e 10 rfl (OW.buildSlice (E := (FI .i64)) (xs := ([a2.least, a5, a4.least] : List Int)) (cs := [iV a2.least, iV a5, iV a4.least]) hS underlying122 zeroValue2 sizeOf2 (parts := [(0, .tmp 27), (1, .tmp 28), (2, .tmp 32)]) rfl rfl (by decide) (by decide) (by kernel_rfl) rfl) rfl rfl ?_)
  rintro _ w ⟨b21, rfl, hS⟩
  refine ⟨kp ⟨(by intro hx; cases hx), trivial⟩, ?_⟩
  obtain ⟨hf25, hs23, hS, hr22, hb24⟩ := St.lendSl hS
  obtain ⟨t26, hg27, h⟩ := h.bind
  have hc := vtime_Least.ok hr22 hg27 hS
  refine RP.e 11 rfl (OW.callF (ls := [.tmp 33]) rfl call119 hc) rfl rfl ?_
  rintro _ w ⟨rfl, hS⟩
  have hS := hb24 _ _ hS
  have hS : St B w (_ :: _ :: _ :: l) hf := hS
  refine ⟨kp ⟨(by intro hx; cases hx), trivial⟩, ?_⟩
  refine rq [0, 0] hS.d0 ?_
  refine it (RP.e0 14 rfl (OW.store (vs := [iV t26]) 2 hS rfl rfl rfl rfl sizeOf2 rfl rfl rfl rfl) rfl ?_)
  rintro _ w ⟨rfl, hS⟩
  have hS : St B w (_ :: _ :: Cl _ [_, _, _, _, _] _ :: l) hf := hS
  refine ⟨kp ⟨(by intro hx; cases hx), trivial⟩, ?_⟩
  refine RP.nil ?_
  have hS := O_colour_Tally.c (x := a4) hS.p1
  have hS := O_colour_Token.c (x := ({ a2 with sum := IntKind.i64.wrap (a2.sum + (nth ([a4.net.c0, a4.net.c1] : List Int) (IntKind.i64.wrap (BitVec.ofInt IntKind.i64.bits a4.colour ^^^ BitVec.ofInt IntKind.i64.bits 1).toNat))), least := t26 } : colour_Token)) hS.p2
  cases h.some
  exact rtE results118 rfl ⟨rfl, hS.d2⟩
def colour_Tally_Flip.f (a2 : colour_Tally) : Option (Int × colour_Tally) := ((colour_Tally_none.f a2).bind fun t12 => (if t12 = true then some (7, a2) else some (0, ({ a2 with colour := IntKind.i64.wrap (BitVec.ofInt IntKind.i64.bits a2.colour ^^^ BitVec.ofInt IntKind.i64.bits 1).toNat, least := 4611686018427387904 } : colour_Tally))))
theorem colour_Tally_Flip.ok {a2 : colour_Tally} {b1 : Nat} {r : Int × colour_Tally} (h : colour_Tally_Flip.f a2 = some r) (hS : St B w (O_colour_Tally hf a2 b1 :: l) hf) :
    Calls prog 147 #[pV b1] w (Ret fun v w => v = iV r.1 ∧ St B w (O_colour_Tally hf r.2 b1 :: l) hf) := by
  have h := Holds.of h
  refine en func147 rfl ntmps147 rfl (sr (pn 1 rfl (ln (RC.seq (sr (pn 1 rfl (cF (fun _ hg => colour_Tally_none.ok hg hS) call115 h rfl rfl rfl ?_)))))))
  rintro t12 h _ w ⟨rfl, hS⟩
  refine ln ?_
  refine RC.iteB 4 rfl h (fun hc14 h => ?_) fun hc14 h => ?_
  next =>
   refine jtr (pn 1 rfl (lr (RQ.ret ?_)))
   cases h.some
   exact rt results147 rfl ⟨rfl, hS⟩
  refine jfs (sr (r0 5 rfl ?_))
  have hS := O_colour_Tally.o hS
  refine rr [1, 0, 0, 0, 1, 0, 0, 1] hS ?_
  refine it fun w hS => lnsr (pn 1 rfl (lr ?_))
  have hS := O_colour_Tally.c (x := ({ a2 with colour := IntKind.i64.wrap (BitVec.ofInt IntKind.i64.bits a2.colour ^^^ BitVec.ofInt IntKind.i64.bits 1).toNat, least := 4611686018427387904 } : colour_Tally)) hS
  cases h.some
  exact rt results147 rfl ⟨rfl, hS⟩
def colour_Token_turn.f (a2 : colour_Token) (a4 : colour_Tally) (a5 : Int) : Option (colour_Tally) := ((colour_Tally_Flip.f a4).bind fun (y12, y13) => some y13)
theorem colour_Token_turn.ok {a2 : colour_Token} {a4 r : colour_Tally} {a5 : Int} {b1 b3 : Nat} (h : colour_Token_turn.f a2 a4 a5 = some r) (hS : St B w (O_colour_Token hf a2 b1 :: O_colour_Tally hf a4 b3 :: l) hf) :
    Calls prog 117 #[pV b1, pV b3, iV a5] w (Ret fun v w => v = .tuple #[] ∧ St B w (O_colour_Token hf a2 b1 :: O_colour_Tally hf r b3 :: l) hf) := by
  have h := Holds.of h
  refine en func117 rfl ntmps117 rfl (RC.region (pn 1 rfl (cF (fun _ hg => colour_Tally_Flip.ok hg hS.p1) call147 h rfl rfl rfl ?_)))
  rintro ⟨y12, y13⟩ h _ w ⟨rfl, hS⟩
  refine RL.nil ?_
  obtain rfl := h.some
  exact rtE results117 rfl ⟨rfl, hS.p1⟩
def colour_Token_Visit.j4 (a4 : colour_Tally) (t54 : colour_Token) (q59 : Bool) (x61 : Int) : Option (Int × Bool × Int × colour_Token × colour_Tally) := some (x61, q59, 0, (⟨t54.n, 0, (!q59), 0, 4611686018427387904⟩ : colour_Token), a4)
def colour_Token_Visit.j3 (a4 : colour_Tally) (t54 : colour_Token) (q59 : Bool) : Option (Int × Bool × Int × colour_Token × colour_Tally) := (if q59 = true then colour_Token_Visit.j4 a4 t54 q59 t54.least else colour_Token_Visit.j4 a4 t54 q59 0)
def colour_Token_Visit.f (a2 : colour_Token) (a4 : colour_Tally) (a5 : Int) : Option (Int × Bool × Int × colour_Token × colour_Tally) := ((colour_Token_none.f a2).bind fun t44 => (if t44 = true then some (0, false, 7, a2, a4) else ((colour_Tally_none.f a4).bind fun t47 => (if t47 = true then some (0, false, 7, a2, a4) else (if a2.counting = true then ((colour_Token_count.f a2 a4 a5).bind fun t54 => (if IntKind.i64.wrap (t54.at_ + 1) < t54.n then some (0, false, 0, ({ t54 with at_ := IntKind.i64.wrap (t54.at_ + 1) } : colour_Token), a4) else (if t54.counting = true then colour_Token_Visit.j3 a4 t54 (decide (t54.sum = 0)) else colour_Token_Visit.j3 a4 t54 false))) else ((colour_Token_turn.f a2 a4 a5).bind fun t66 => (if IntKind.i64.wrap (a2.at_ + 1) < a2.n then some (0, false, 0, ({ a2 with at_ := IntKind.i64.wrap (a2.at_ + 1) } : colour_Token), t66) else some (0, false, 0, (⟨a2.n, 0, true, 0, 4611686018427387904⟩ : colour_Token), t66))))))))
theorem colour_Token_Visit.ok {a2 : colour_Token} {a4 : colour_Tally} {a5 : Int} {b1 b3 : Nat} {r : Int × Bool × Int × colour_Token × colour_Tally} (h : colour_Token_Visit.f a2 a4 a5 = some r) (hS : St B w (O_colour_Token hf a2 b1 :: O_colour_Tally hf a4 b3 :: l) hf) :
    Calls prog 70 #[pV b1, pV b3, iV a5] w (Ret fun v w => v = .tuple #[iV r.1, .bool r.2.1, iV r.2.2.1] ∧ St B w (O_colour_Token hf r.2.2.2.1 b1 :: O_colour_Tally hf r.2.2.2.2 b3 :: l) hf) := by
  have h := Holds.of h
  refine en func70 rfl ntmps70 rfl (sr (pn 3 rfl (ln (RC.seq (sr (pn 1 rfl (cF (fun _ hg => colour_Token_none.ok hg hS) call116 h rfl rfl rfl ?_)))))))
  rintro t44 h _ w ⟨rfl, hS⟩
  refine pn 1 rfl ?_
  refine RL.iteB 14 rfl h (fun hc46 h => ?_) fun hc46 h => ?_
  next =>
   refine pn 3 rfl (ln (jtr (pn 3 rfl (lr (RQ.ret ?_)))))
   cases h.some
   exact rt results70 rfl ⟨rfl, hS⟩
  refine pn 1 rfl (cF (fun _ hg => colour_Tally_none.ok hg hS.p1) call115 h rfl rfl rfl ?_)
  rintro t47 h _ w ⟨rfl, hS⟩
  refine pn 1 rfl (ln ?_)
  refine RC.iteB 17 rfl h (fun hc49 h => ?_) fun hc49 h => ?_
  next =>
   refine jtr (pn 3 rfl (lr (RQ.ret ?_)))
   cases h.some
   exact rt results70 rfl ⟨rfl, hS.p1⟩
  refine jfs (sr (pn 1 rfl (RL.s (Vl.makeFunc (fi := [.tmp 18]) (ca := []) rfl rfl) rfl (pn 1 rfl (ln (RC.seq (sr (r0 3 rfl ?_))))))))
  have hS := O_colour_Token.o hS.p1
  refine rr [1] hS ?_
  refine it fun w hS => ln ?_
  refine RC.iteB 23 rfl h (fun hc51 h => ?_) fun hc51 h => ?_
  next =>
   refine jt (RC.region (pn 1 rfl (RL.s (Vl.makeFunc (fi := [.tmp 24]) (ca := []) rfl rfl) rfl (pn 1 rfl (lnsr (pn 3 rfl ?_))))))
   have hS := O_colour_Token.c (x := a2) hS
   obtain ⟨t54, hg55, h⟩ := h.bind
   have hc := colour_Token_count.ok hg55 hS
   refine RL.e (OW.call (ls := [.tmp 27, .tmp 28]) rfl rfl call118 rfl hc) rfl rfl ?_
   rintro _ w ⟨rfl, hS⟩
   refine ln (RC.seq (sr (r0 3 rfl ?_)))
   have hS := O_colour_Token.o hS
   refine rr [1, 0, 0, 0, 1] hS ?_
   refine it fun w hS => ln (RC.seq (dr [0, 3, 6, 10, 14, 17, 20, 23, 26] [8] hS fun w hS => rq [0, 0, 0, 1, 0, 0, 0, 1, 0] hS ?_))
   refine it (RP.nil (RQ.then_n ?_))
   refine RC.iteP 45 rfl h (fun hc57 h => ?_) fun hc57 h => ?_
   next =>
    refine jtr (pn 3 rfl (lr (RQ.ret ?_)))
    have hS := O_colour_Token.c (x := ({ t54 with at_ := IntKind.i64.wrap (t54.at_ + 1) } : colour_Token)) hS
    cases h.some
    exact rt results70 rfl ⟨rfl, hS⟩
   refine jfs ?_
   refine RC.join (fun (s : Bool) a w => ∃ q59, s = (q59) ∧ Holds (· = r) (colour_Token_Visit.j3 a4 t54 q59) ∧ Has 79 [(0, pV b1), (10, .bool q59), (11, iV t54.least)] a ∧ St B w (O_colour_Token hf ({ t54 with at_ := IntKind.i64.wrap (t54.at_ + 1) } : colour_Token) b1 :: O_colour_Tally hf a4 b3 :: l) hf) ?_ ?_
   · rintro q59 a w ⟨_, rfl, h, ha, hS⟩
     refine ro ha (sr (r0 8 rfl ?_))
     have hS := O_colour_Token.o hS
     refine rr [1, 0, 0, 1, 0, 0, 1, 0, 0, 1] hS ?_
     refine it fun w hS => ln ?_
     refine RC.join (fun (s : Int) a w => ∃ x61, s = (x61) ∧ Holds (· = r) (colour_Token_Visit.j4 a4 t54 q59 x61) ∧ Has 79 [(10, .bool q59), (11, iV x61)] a ∧ St B w (O_colour_Token hf (⟨t54.n, 0, (!q59), 0, 4611686018427387904⟩ : colour_Token) b1 :: O_colour_Tally hf a4 b3 :: l) hf) ?_ ?_
     · rintro x61 a w ⟨_, rfl, h, ha, hS⟩
       refine ro ha (sr (pn 5 rfl (lr ?_)))
       cases h.some
       exact rt results70 rfl ⟨rfl, hS⟩
     refine sr (pn 2 rfl (ln ?_))
     refine RC.iteM 76 rfl h (fun hc62 h => ?_) fun hc62 h => ?_
     next =>
      refine jf (RC.skip ?_)
      have hS := O_colour_Token.c (x := (⟨t54.n, 0, (!q59), 0, 4611686018427387904⟩ : colour_Token)) hS
      exact fun a ha => ⟨_, _, rfl, h, ha.tE rfl, hS⟩
     refine jt (RC.region (pn 1 rfl (RL.nil ?_)))
     have hS := O_colour_Token.c (x := (⟨t54.n, 0, (!q59), 0, 4611686018427387904⟩ : colour_Token)) hS
     exact fun a ha => ⟨_, _, rfl, h, ha.tE rfl, hS⟩
   refine dr [0, 3, 6, 10, 12, 15, 18, 21, 25, 27, 30, 33, 36, 39, 43, 47, 50] [16] hS fun w hS => rq [0, 0, 0, 1, 0] hS ?_
   refine it ?_
   refine RP.iteB 50 rfl h (fun hc63 h => ?_) fun hc63 h => ?_
   next =>
    refine rq [0, 0, 0, 1, 0, 0, 0, 0, 0, 1, 0, 0] hS ?_
    refine it (RP.nil ?_)
    have hS := O_colour_Token.c (x := ({ t54 with at_ := IntKind.i64.wrap (t54.at_ + 1) } : colour_Token)) hS
    exact fun a ha => ⟨_, _, rfl, h, ha.tE rfl, hS⟩
   refine rq [0, 0, 0, 0, 0, 0, 0, 0, 0, 1, 0, 0] hS ?_
   refine it (RP.nil ?_)
   have hS := O_colour_Token.c (x := ({ t54 with at_ := IntKind.i64.wrap (t54.at_ + 1) } : colour_Token)) hS
   exact fun a ha => ⟨_, _, rfl, h, ha.tE rfl, hS⟩
  refine jfs (sr (pn 3 rfl ?_))
  have hS := O_colour_Token.c (x := a2) hS
  obtain ⟨t66, hg67, h⟩ := h.bind
  have hc := colour_Token_turn.ok hg67 hS
  refine RL.e (OW.call (ls := [.tmp 27, .tmp 28]) rfl rfl call117 rfl hc) rfl rfl ?_
  rintro _ w ⟨rfl, hS⟩
  refine ln (RC.seq (sr (r0 3 rfl ?_)))
  have hS := O_colour_Token.o hS
  refine rr [1, 0, 0, 0, 1] hS ?_
  refine it fun w hS => ln (RC.seq (dr [0, 3, 6, 10, 14, 17, 20, 23, 26] [8] hS fun w hS => rq [0, 0, 0, 1, 0, 0, 0, 1, 0] hS ?_))
  refine it (RP.nil (RQ.then_n ?_))
  refine RC.iteP 45 rfl h (fun hc69 h => ?_) fun hc69 h => ?_
  next =>
   refine jtr (pn 3 rfl (lr (RQ.ret ?_)))
   have hS := O_colour_Token.c (x := ({ a2 with at_ := IntKind.i64.wrap (a2.at_ + 1) } : colour_Token)) hS
   cases h.some
   exact rt results70 rfl ⟨rfl, hS⟩
  refine jfs (RC.seq (dr [0, 3, 6, 10, 12, 15, 18, 21, 25, 27, 30, 33, 36, 39, 43, 47, 50] [16] hS fun w hS => rq [0, 0, 0, 1, 0] hS ?_))
  refine it (RP.re 50 rfl (congrArg Value.bool (eq_false_of hc51)) (rq [0, 0, 0, 0, 0, 0, 0, 0, 0, 1, 0, 0] hS ?_))
  refine it (RP.nil (tsr (rr [0, 0, 0, 0, 0, 0, 0, 0, 1, 0, 0, 1, 0, 0, 1, 0, 0, 1] hS ?_)))
  refine it fun w hS => ln (RC.seq ?_)
  refine sr (pn 2 rfl (ln (jt (RC.region (pn 1 rfl (lnsr (pn 5 rfl (lr ?_))))))))
  have hS := O_colour_Token.c (x := (⟨a2.n, 0, true, 0, 4611686018427387904⟩ : colour_Token)) hS
  cases h.some
  exact rt results70 rfl ⟨rfl, hS⟩
def log_Log_states.f (a2 : log_Log) (a3 : Int) : Option (Int) := some a3
theorem log_Log_states.ok {a2 : log_Log} {a3 r : Int} {b1 : Nat} (h : log_Log_states.f a2 a3 = some r) (hS : St B w (O_log_Log hf a2 b1 :: l) hf) :
    Calls prog 166 #[pV b1, iV a3] w (Ret fun v w => ∃ (b_1 : Nat) (b_2 : Nat), v = .func (.func 174) #[] #[pV b_1, pV b_2] ∧ St B w (Cl b_1 [iV r] 3 :: Cl b_2 [pV b1] 96 :: O_log_Log hf a2 b1 :: l) hf) := by
  have h := Holds.of h
  refine en func166 rfl ntmps166 rfl (sr (rr [0, 0, 0] hS ?_))
  refine fun b6 b7 => it fun w hS => lnsr (RL.s (Vl.makeFunc (fi := []) (ca := [.tmp 3, .tmp 2]) rfl rfl) rfl (pn 1 rfl (lr ?_)))
  obtain rfl := h.some
  exact rt results166 rfl ⟨b7, b6, rfl, hS⟩
def log_done_entry.f (a1 : log_done) (a7 : api_State) : Option (api_Entry) := (if (([] : List api_Message).length + a1.sent.length) * 56 ≤ 140737488355328 then some (⟨a1.event, a7, a1.fault, (([] : List api_Message) ++ a1.sent)⟩ : api_Entry) else none)
theorem log_done_entry.ok {a1 : log_done} {a7 : api_State} {A2 : Option Addr} {c3 b5 : Nat} (hr4 : SlR E_api_Message.rep hf A2 c3 a1.sent) (hr6 : PtR E_api_State hf b5 108 a1.ahead) {r : api_Entry} (h : log_done_entry.f a1 a7 = some r) (hS : St B w (l) hf) :
    Calls prog 139 #[.agg (C_log_done a1 A2 c3 b5).toArray, .agg (C_api_State a7).toArray] w (Ret fun v w => ∃ (A_1 : Option Addr) (c_2 : Nat), v = .agg (C_api_Entry r A_1 c_2).toArray ∧ St B w (OSf E_api_Message 115 (sV A_1 r.Sent c_2) r.Sent :: l) hf) := by
  have h := Holds.of h
  refine en func139 rfl ntmps139 rfl (sr (rr [0, 0, 0] hS ?_))
  refine fun b15 b16 b17 => it fun w hS => ln (RC.seq (dr [0, 4, 7, 9, 13, 17, 20, 23, 26, 29] [8, 9] hS fun w hS => rq [0, 3, 2, 0, 3, 0, 3] hS ?_))
  refine it ?_
  obtain ⟨hq18, h⟩ := h.req
  have hS := hS.nilSl E_api_Message 115
  refine RP.e 7 rfl (OW.appendV (E := E_api_Message) (xs := ([] : List api_Message)) (ys := a1.sent) 0 hS rfl underlying99 type115 rfl rfl rfl rfl (by decide) (by decide) rfl rfl (hr4.2.world hS.sub) hq18 rfl) rfl rfl ?_
  rintro v21 w hS
  obtain ⟨A19, c20, rfl, _⟩ := hS.osShape 0 rfl
  have hS : St B w (_ :: _ :: _ :: _ :: l) hf := hS
  refine ⟨kp ⟨fun _ => hS.d0, trivial⟩, ?_⟩
  refine rq [0] hS.d0 ?_
  refine it (RP.e0 9 rfl (OW.store (vs := [iV a1.event.Key.Time, iV a1.event.Key.From, iV a1.event.Key.Seq, iV a1.event.To, iV a1.event.Value, iV a1.event.Uid, .bool a1.event.Anti, iV a7.Regs.c0, iV a7.Regs.c1, iV a7.Regs.c2, iV a7.Regs.c3, iV a7.Regs.c4, iV a7.Regs.c5, iV a7.Regs.c6, iV a7.Regs.c7, iV a7.Draws, iV a7.Sent, iV a1.fault, .slice A19 (([] : List api_Message) ++ a1.sent).length c20]) 1 hS rfl rfl rfl rfl sizeOf229 rfl rfl rfl rfl) rfl ?_)
  rintro _ w ⟨rfl, hS⟩
  have hS : St B w (_ :: Cl _ [_, _, _, _, _, _, _, _, _, _, _, _, _, _, _, _, _, _, _] _ :: _ :: _ :: l) hf := hS
  refine ⟨kp ⟨(by intro hx; cases hx), trivial⟩, ?_⟩
  refine RP.nil (tr ?_)
  cases h.some
  refine rz [1] results139 hS ?_
  exact it ⟨A19, c20, rfl, hS.d1.d1.d1⟩
def log_Log_Drop_round0.f (a6 : log_Log) (a8 : Int) (a10 : (List api_Entry)) (a15 : Int) (a16 : api_State) : Option ((log_Log) ⊕ (List api_Entry)) := (if a15 = a8 then (if 0 ≤ a15 ∧ a15 < (a6.l.length : Int) then some (.inl ({ a6 with l := (setL a6.l a15 (⟨(nth a6.l a15).event, (nth a6.l a15).fault, (nth a6.l a15).sent, (⟨true, a16⟩ : Pt api_State)⟩ : log_done)) } : log_Log)) else none) else (if 0 ≤ a15 ∧ a15 < (a6.l.length : Int) then ((log_done_entry.f (nth a6.l a15) a16).bind fun t166 => (if (a10.length + ([t166]).length) * 168 ≤ 140737488355328 then some (.inr ((a10 ++ ([t166])))) else none)) else none))
theorem log_Log_Drop_round0.ok {a6 : log_Log} {a8 a15 : Int} {a10 : (List api_Entry)} {a16 : api_State} {b1 b4 b5 b7 b9 c12 : Nat} {rc2 : Loop} {A11 : Option Addr} {cs13 : List Value} (hx14 : RepL R_api_Entry hf cs13 a10) (hr3 : RecF f148 0 71 [(2, pV b4), (5, pV b7), (6, pV b9)] rc2) {r : (log_Log) ⊕ (List api_Entry)} (h : log_Log_Drop_round0.f a6 a8 a10 a15 a16 = some r) (hS : St B w (pts b1 (.loop rc2) :: O_log_Log hf a6 b5 :: Cl b4 [pV b5] 96 :: Cl b7 [iV a8] 3 :: Cl b9 [sV A11 a10 c12] 245 :: OSl 229 19 (sV A11 a10 c12) a10.length cs13 :: l) hf) :
    Yld prog b1 [iV a15, .agg (C_api_State a16).toArray] w (Ret fun v w => match (generalizing := false) r with | .inl r_ => ∃ hf_ : Hp, Sub hf hf_ ∧ v = .bool false ∧ St B w (pts b1 (.loop (pd rc2 (.exit 2))) :: O_log_Log hf_ r_ b5 :: Cl b4 [pV b5] 96 :: Cl b7 [iV a8] 3 :: Cl b9 [sV A11 a10 c12] 245 :: OSl 229 19 (sV A11 a10 c12) a10.length cs13 :: l) hf_ | .inr (r_) => ∃ hf_ : Hp, Sub hf hf_ ∧ ∃ (A_1 : Option Addr) (c_2 : Nat) (cs_3 : List Value), v = .bool true ∧ St B w (OSl 229 19 (sV A_1 r_ c_2) r_.length cs_3 :: pts b1 (.loop rc2) :: O_log_Log hf_ a6 b5 :: Cl b4 [pV b5] 96 :: Cl b7 [iV a8] 3 :: Cl b9 [sV A_1 r_ c_2] 245 :: l) hf_ ∧ RepL R_api_Entry hf_ cs_3 r_) := by
  have h := Holds.of h
  refine Yld.of (psl := [36, 37]) hS hr3 rfl rfl rfl ?_
  show RC _ ⟨71, [], false⟩ _ _ [(37, .agg (C_api_State a16).toArray), (36, iV a15), (2, pV b4), (5, pV b7), (6, pV b9)] w
  refine sr (pn 1 rfl (ln (RC.region (rr [0, 1] hS ?_))))
  refine fun b99 => it fun w hS => ln (RQ.bg hS.p1 hr3.state rfl fun w hS => RC.block (RC.seq (sr (rr [0, 5, 0] hS ?_))))
  refine it fun w hS => RL.nil ?_
  refine RQ.then_n ?_
  refine RC.iteP 40 rfl h (fun hc124 h => ?_) fun hc124 h => ?_
  next =>
   refine jtr (rr [4, 0, 0] hS ?_)
   refine it fun w hS => ?_
   obtain ⟨A125, c126, A128, c129, A131, c132, cs133, hr127, hr130, hx134, hS⟩ := O_log_Log.o hS.p2
   refine rr [1, 0] hS ?_
   refine it fun w hS => ?_
   obtain ⟨⟨hq135, hq136⟩, h⟩ := h.req
   refine RL.s (Vl.indexOwn 1 hS rfl underlying147 sizeOf286 rfl rfl hq135 hq136) rfl (RL.s (Vl.fieldAddr (a'' := (ad A131).add (a15.toNat * 10 + 9)) underlying286 rfl sizeOf284 rfl (add_add _ _ _)) rfl ?_)
   obtain ⟨hf, hs137, hS, hr138⟩ := St.freeze (E := E_api_State) (x := a16) hS.p3 rfl
   obtain ⟨_, ⟨A140, c141, b143, rfl, hr142, hr144⟩, hl139⟩ := RepL.elem R_log_done_ok (hx134.mono hs137) hq135 hq136
   refine RL.e0 (OW.storeR (off := 9) (j := a15) (k := (C_log_done (nth a6.l a15) A140 c141 b143)) (vs := [pV b99]) (x' := (⟨(nth a6.l a15).event, (nth a6.l a15).fault, (nth a6.l a15).sent, (⟨true, a16⟩ : Pt api_State)⟩ : log_done)) R_log_done_ok 1 hS rfl (hx134.mono hs137) rfl rfl rfl sizeOf284 rfl (Nat.succ_pos _) hq135 hq136 (Nat.le_of_ble_eq_true rfl) rfl hl139 ⟨_, _, _, rfl, hr142, hr138.pt⟩ rfl) rfl ?_
   rintro _ w ⟨rfl, cs145, hx146, hS⟩
   have he147 := (hS.osN 0 rfl).1
   have hS : St B w (_ :: _ :: _ :: _ :: _ :: _ :: _ :: l) hf := (congrArg (fun k_ : Nat => St B w (OSl 286 10 (.slice A131 k_ c132) (setL a6.l a15 (⟨(nth a6.l a15).event, (nth a6.l a15).fault, (nth a6.l a15).sent, (⟨true, a16⟩ : Pt api_State)⟩ : log_done)).length cs145 :: Cl b5 [sV A125 a6.w.Prog c126, iV a6.w.Self, sV A128 a6.w.Links c129, .int .u64 a6.w.Seed, .bool a6.made, iV a6.state.Regs.c0, iV a6.state.Regs.c1, iV a6.state.Regs.c2, iV a6.state.Regs.c3, iV a6.state.Regs.c4, iV a6.state.Regs.c5, iV a6.state.Regs.c6, iV a6.state.Regs.c7, iV a6.state.Draws, iV a6.state.Sent, iV a6.every, .slice A131 k_ c132, .bool a6.stuck] 149 :: pts b1 (.loop (busy rc2)) :: Cl b4 [pV b5] 96 :: Cl b7 [iV a8] 3 :: Cl b9 [sV A11 a10 c12] 245 :: OSl 229 19 (sV A11 a10 c12) a10.length cs13 :: l) hf) he147).mp hS
   refine RL.re 44 rfl (congrArg (fun k_ : Nat => (.slice A131 k_ c132 : Value)) he147) (ln (RC.exit (RQ.exitT (RQ.inB_miss rfl ?_))))
   have hS := O_log_Log.c (x := ({ a6 with l := (setL a6.l a15 (⟨(nth a6.l a15).event, (nth a6.l a15).fault, (nth a6.l a15).sent, (⟨true, a16⟩ : Pt api_State)⟩ : log_done)) } : log_Log)) (hr127.mono hs137) (hr130.mono hs137) hx146 hS.p1
   cases h.some
   exact RQ.rx hS.p1 fun w hS => ⟨_, hs137, rfl, hS⟩
  refine jfs ?_
  obtain ⟨A148, c149, A151, c152, A154, c155, cs156, hr150, hr153, hx157, hS⟩ := O_log_Log.o hS.p2
  refine dr [1, 4, 6, 9, 13, 15, 19, 22, 26, 29, 32, 35, 38] [11, 12] hS fun w hS => rq [7, 5, 0, 0, 1, 0] hS ?_
  refine it ?_
  obtain ⟨⟨hq158, hq159⟩, h⟩ := h.req
  refine RP.s 0 6 rfl rfl hS (fun w hS => Vl.indexOwn 1 hS rfl underlying147 sizeOf286 rfl rfl hq158 hq159) rfl ?_
  obtain ⟨_, ⟨A161, c162, b164, rfl, hr163, hr165⟩, hl160⟩ := RepL.elem R_log_done_ok hx157 hq158 hq159
  refine RP.s 0 7 rfl rfl hS (fun w hS => Vl.loadA (vs := (C_log_done (nth a6.l a15) A161 c162 b164)) isAgg286 sizeOf286 rfl rfl (hS.elemCells 1 rfl hl160 (off := 0) rfl)) rfl (rq [4] hS ?_)
  refine it ?_
  obtain ⟨t166, hg167, h⟩ := h.bind
  have hc := log_done_entry.ok hr163 hr165 hg167 hS
  refine RP.e 9 rfl (OW.callF (ls := [.tmp 55, .tmp 56]) rfl call139 hc) rfl rfl ?_
  rintro _ w ⟨A168, c169, rfl, hS⟩
  refine ⟨kp ⟨fun _ => hS.d0, trivial⟩, ?_⟩
  obtain ⟨hf, hs170, hS, hr171⟩ := St.promote hS
  have hx173 : RepL R_api_Entry hf (C_api_Entry t166 A168 c169) [t166] := (RepL.cons (c := (C_api_Entry t166 A168 c169)) (r := []) ⟨_, _, rfl, hr171⟩ RepL.nil)
  refine RP.e 10 rfl (OW.buildSliceR (sz := 19) (cs := (C_api_Entry t166 A168 c169)) hS underlying245 zeroValue229 sizeOf229 (parts := [(0, .tmp 57)]) rfl rfl (by decide) (by decide) (by kernel_rfl)) rfl rfl ?_
  rintro _ w ⟨b172, rfl, hS⟩
  refine ⟨kp ⟨fun _ => (St.down hS.d0 hs170), trivial⟩, ?_⟩
  obtain ⟨hq176, h⟩ := h.req
  obtain ⟨hf, hs174, hS, hr175⟩ := St.promoteR R_api_Entry_ok hS rfl hx173
  refine RP.e 11 rfl (OW.appendR (R := R_api_Entry) R_api_Entry_ok (xs := a10) (ys := [t166]) 7 hS rfl underlying245 type229 rfl rfl rfl rfl (by decide) (by decide) ((hx14.mono hs170).mono hs174) rfl rfl hr175 hq176 rfl) rfl rfl ?_
  rintro _ w ⟨cs179, hx180, hS⟩
  obtain ⟨A177, c178, rfl, _⟩ := hS.osShape 0 rfl
  have hS : St B w (_ :: _ :: _ :: _ :: _ :: _ :: _ :: _ :: l) hf := hS
  refine ⟨kp ⟨(by intro hx; cases hx), trivial⟩, ?_⟩
  refine RP.e0 12 rfl (OW.store (vs := [.slice A177 (a10 ++ ([t166])).length c178]) 7 hS rfl rfl rfl rfl sizeOf245 rfl rfl rfl rfl) rfl ?_
  rintro _ w ⟨rfl, hS⟩
  have hS : St B w (_ :: _ :: _ :: _ :: _ :: _ :: _ :: Cl _ [_] _ :: l) hf := hS
  refine ⟨kp ⟨(by intro hx; cases hx), trivial⟩, ?_⟩
  refine RP.nil (RQ.inB_n ?_)
  have hS := O_log_Log.c (x := a6) ((hr150.mono hs170).mono hs174) ((hr153.mono hs170).mono hs174) ((hx157.mono hs170).mono hs174) hS.p2.p2
  cases h.some
  exact RQ.rn hS.p2 hr3.state hr3.pending fun w hS => ⟨_, (hs170.trans hs174), A177, c178, cs179, rfl, hS.d3.p2, hx180⟩
def log_Log_states_1.j15 (a6 : log_Log) (a8 : Int) (a10 : (List api_Entry)) (x675 : Int) (y895 : api_State) : Option ((Unit) ⊕ ((log_Log × Int) ⊕ (Int))) := ((log_Log_Drop_round0.f a6 a8 a10 x675 y895).bind fun t907 => match t907 with | .inl y909 => some (.inr (.inl (y909, x675))) | .inr (y911) => (if 0 ≤ x675 then none else none))
def log_Log_states_1.l13b (a6 : log_Log) (a8 : Int) (a10 : (List api_Entry)) (x675 : Int) : Unit → Option ((Unit) ⊕ ((log_Log × Int) ⊕ (Int)))
  | () => (if x675 < (a6.l.length : Int) then (if 0 ≤ x675 then (if ((nth a6.l x675).ahead).has = true then log_Log_states_1.j15 a6 a8 a10 x675 (((nth a6.l x675).ahead).val) else log_Log_states_1.j15 a6 a8 a10 x675 (⟨(⟨0, 0, 0, 0, 0, 0, 0, 0⟩ : Arr8xInti64), 0, 0⟩ : api_State)) else none) else some (.inr (.inr (x675))))
def log_Log_states_1.l13 (a6 : log_Log) (a8 : Int) (a10 : (List api_Entry)) (x675 : Int) (s : Unit) : Option ((log_Log × Int) ⊕ (Int)) := loopR (log_Log_states_1.l13b a6 a8 a10 x675) s
def log_Log_states_1.j10 (a6 : log_Log) (a8 : Int) (a10 : (List api_Entry)) (x675 : Int) : Option ((log_Log × Int) ⊕ (Int)) := log_Log_states_1.l13 a6 a8 a10 x675 ()
def log_Log_states_1.l16b (a6 : log_Log) (a8 : Int) (a10 : (List api_Entry)) : Int → Option ((Int) ⊕ ((log_Log × Int) ⊕ (Int)))
  | (x985) => (if 0 < x985 then (if 0 ≤ x985 ∧ x985 < (a6.l.length : Int) then (if ((nth a6.l x985).ahead).has = true then (Option.map Sum.inr (log_Log_states_1.j10 a6 a8 a10 x985)) else some (.inl (IntKind.i64.wrap (x985 - 1)))) else none) else (Option.map Sum.inr (log_Log_states_1.j10 a6 a8 a10 x985)))
def log_Log_states_1.l16 (a6 : log_Log) (a8 : Int) (a10 : (List api_Entry)) (s : Int) : Option ((log_Log × Int) ⊕ (Int)) := loopR (log_Log_states_1.l16b a6 a8 a10) s
def log_Log_states_1.f (a6 : log_Log) (a8 : Int) (a10 : (List api_Entry)) (a16 : Int) : Option ((log_Log × Int) ⊕ (Int)) := log_Log_states_1.l16 a6 a8 a10 (a16)
theorem log_Log_states_1.ok {a6 : log_Log} {a8 a16 : Int} {a10 : (List api_Entry)} {b1 b4 b5 b7 b9 c12 b15 b17 : Nat} {rc2 : Loop} {A11 : Option Addr} {cs13 : List Value} (hx14 : RepL R_api_Entry hf cs13 a10) (hr3 : RecF f148 0 71 [(2, pV b4), (5, pV b7), (6, pV b9)] rc2) {r : (log_Log × Int) ⊕ (Int)} (h : log_Log_states_1.f a6 a8 a10 a16 = some r) (hS : St B w (pts b1 (.loop rc2) :: O_log_Log hf a6 b5 :: Cl b4 [pV b5] 96 :: Cl b7 [iV a8] 3 :: Cl b9 [sV A11 a10 c12] 245 :: OSl 229 19 (sV A11 a10 c12) a10.length cs13 :: Cl b15 [iV a16] 3 :: Cl b17 [pV b5] 96 :: l) hf) :
    Calls prog 174 #[.func (.yield b1) #[] #[], pV b15, pV b17] w (Ret fun v w => match (generalizing := false) r with | .inl r_ => ∃ hf_ : Hp, Sub hf hf_ ∧ v = .tuple #[] ∧ St B w (pts b1 (.loop (pd rc2 (.exit 2))) :: O_log_Log hf_ r_.1 b5 :: Cl b4 [pV b5] 96 :: Cl b7 [iV a8] 3 :: Cl b9 [sV A11 a10 c12] 245 :: OSl 229 19 (sV A11 a10 c12) a10.length cs13 :: Cl b15 [iV r_.2] 3 :: Cl b17 [pV b5] 96 :: l) hf_ | .inr (r_) => v = .tuple #[] ∧ St B w (pts b1 (.loop rc2) :: O_log_Log hf a6 b5 :: Cl b4 [pV b5] 96 :: Cl b7 [iV a8] 3 :: Cl b9 [sV A11 a10 c12] 245 :: OSl 229 19 (sV A11 a10 c12) a10.length cs13 :: Cl b15 [iV r_] 3 :: Cl b17 [pV b5] 96 :: l) hf) := by
  have h := Holds.of h
  refine en func174 rfl ntmps174 rfl ?_
  refine RC.join (fun (s : Int) a w => ∃ x675, s = (x675) ∧ Holds (· = r) (log_Log_states_1.j10 a6 a8 a10 x675) ∧ Has 68 [(0, .func (.yield b1) #[] #[]), (1, pV b15), (2, pV b17)] a ∧ St B w (OSl 229 19 (sV A11 a10 c12) a10.length cs13 :: O_log_Log hf a6 b5 :: pts b1 (.loop rc2) :: Cl b4 [pV b5] 96 :: Cl b7 [iV a8] 3 :: Cl b9 [sV A11 a10 c12] 245 :: Cl b15 [iV x675] 3 :: Cl b17 [pV b5] 96 :: l) hf) ?_ ?_
  · rintro x675 a w ⟨_, rfl, h, ha, hS⟩
    refine ro ha (sr (rr [0] hS ?_))
    refine fun b676 => it fun w hS => lnsr (rr [8, 0] hS ?_)
    refine it fun w hS => ln (RC.block (fun a ha => lp h (fun (s : Unit) a w => s = () ∧ Has 68 [(0, .func (.yield b1) #[] #[]), (2, pV b17), (4, pV b676), (5, iV x675)] a ∧ St B w (OSl 229 19 (sV A11 a10 c12) a10.length cs13 :: Cl b676 [iV 0, iV 0, iV 0, iV 0, iV 0, iV 0, iV 0, iV 0, iV 0, iV 0] 108 :: O_log_Log hf a6 b5 :: pts b1 (.loop rc2) :: Cl b4 [pV b5] 96 :: Cl b7 [iV a8] 3 :: Cl b9 [sV A11 a10 c12] 245 :: Cl b15 [iV x675] 3 :: Cl b17 [pV b5] 96 :: l) hf) ⟨rfl, ha.tE rfl, hS.p1⟩ ?_))
    rintro G809 _ a w ⟨rfl, ha, hS⟩ h
    refine ro ha (RC.seq (sr (rr [0, 9, 0, 0] hS ?_)))
    refine it fun w hS => ?_
    obtain ⟨A821, c822, A824, c825, A827, c828, cs829, hr823, hr826, hx830, hS⟩ := O_log_Log.o hS.p2
    refine rr [1, 0, 0] hS ?_
    refine it fun w hS => ln ?_
    refine RC.iteP 29 rfl h (fun hc831 h => ?_) fun hc831 h => ?_
    next =>
     refine jt (sk (RC.seq (RC.block ?_)))
     refine RC.join (fun (s : api_State) a w => ∃ y895, s = (y895) ∧ Holds (Sum.elim G809 (· = r)) (log_Log_states_1.j15 a6 a8 a10 x675 y895) ∧ Has 68 [(0, .func (.yield b1) #[] #[]), (2, pV b17), (4, pV b676), (5, iV x675)] a ∧ St B w (OSl 229 19 (sV A11 a10 c12) a10.length cs13 :: O_log_Log hf a6 b5 :: Cl b676 (C_api_State y895) 108 :: pts b1 (.loop rc2) :: Cl b4 [pV b5] 96 :: Cl b7 [iV a8] 3 :: Cl b9 [sV A11 a10 c12] 245 :: Cl b15 [iV x675] 3 :: Cl b17 [pV b5] 96 :: l) hf) ?_ ?_
     · rintro y895 a w ⟨_, rfl, h, ha, hS⟩
       refine ro ha (RC.seq (sr (rr [0, 0, 3] hS ?_)))
       refine it fun w hS => yc (fun _ hg908 => log_Log_Drop_round0.ok hx14 hr3 hg908 hS.p6.p6.p6.p4.p6) rfl h rfl rfl rfl rfl ?_
       intro t907 h
       rcases t907 with y909 | y911
       · rintro _ w ⟨hf, hs910, rfl, hS⟩
         have hS : St B w (_ :: _ :: _ :: _ :: _ :: _ :: _ :: _ :: _ :: l) hf := hS
         refine pn 1 rfl (ln (jt (RC.ret (RQ.ret (ir ?_)))))
         have h := h.inrS
         refine RQ.ret (RQ.inB_ret ?_)
         cases h.some
         exact rt results174 rfl ⟨_, hs910, rfl, hS.d6⟩
       · rintro _ w ⟨hf, hs916, A912, c913, cs914, rfl, hS, hx915⟩
         have hS : St B w (_ :: _ :: _ :: _ :: _ :: _ :: _ :: _ :: _ :: l) hf := hS
         refine pn 1 rfl (ln (jfs ?_))
         obtain ⟨A917, c918, A920, c921, A923, c924, cs925, hr919, hr922, hx926, hS⟩ := O_log_Log.o hS.p2
         refine dr [1, 3, 6, 10, 13, 16, 18, 21, 25, 27, 31, 33, 37, 41, 42, 45, 48, 51, 56] [18] hS fun w hS => rq [10, 0, 0, 1, 8, 10, 0, 0, 1, 0] hS ?_
         refine it ?_
         obtain ⟨hq927, h⟩ := h.req
         refine RP.s 0 10 rfl rfl hS (fun w hS => Vl.indexOwn 1 hS rfl underlying147 sizeOf286 rfl rfl hq927 hc831) rfl (RP.s0 11 rfl (fun w => Vl.fieldAddr (a'' := (ad A923).add (x675.toNat * 10 + 0)) underlying286 rfl sizeOf115 rfl (add_add _ _ _)) rfl ?_)
         obtain ⟨_, ⟨A929, c930, b932, rfl, hr931, hr933⟩, hl928⟩ := RepL.elem R_log_done_ok hx926 hq927 hc831
         refine RP.s 0 12 rfl rfl hS (fun w hS => Vl.loadA (vs := (C_api_Message ((nth a6.l x675).event))) isAgg115 sizeOf115 rfl rfl (hS.elemCells 1 rfl hl928 (off := 0) rfl)) rfl ?_
         exact h.none
     refine sr (rr [10, 0, 0, 1, 0] hS ?_)
     refine it fun w hS => ?_
     obtain ⟨hq934, h⟩ := h.req
     refine RL.s (Vl.indexOwn 1 hS rfl underlying147 sizeOf286 rfl rfl hq934 hc831) rfl (RL.s (Vl.fieldAddr (a'' := (ad A827).add (x675.toNat * 10 + 9)) underlying286 rfl sizeOf284 rfl (add_add _ _ _)) rfl ?_)
     obtain ⟨_, ⟨A936, c937, b939, rfl, hr938, hr940⟩, hl935⟩ := RepL.elem R_log_done_ok hx830 hq934 hc831
     refine RL.s (Vl.load isAgg284 rfl (hS.litCell 1 rfl (hl935 9 _ rfl))) rfl (pn 1 rfl (lnsr (pn 1 rfl (RL.s (Vl.ptNeq (fun b w => by kernel_rfl) (fun w => by kernel_rfl) rfl rfl) rfl (ln ?_)))))
     refine RC.iteB 41 rfl h (fun hc941 h => ?_) fun hc941 h => ?_
     next =>
      refine jt (RC.region (pn 1 rfl (RL.s (Vl.nilCheckO hc941 rfl) rfl (RL.s (Vl.loadA (vs := (C_api_State (((nth a6.l x675).ahead).val))) isAgg108 sizeOf108 rfl rfl ((hr940.on hc941).cells hS.sub)) rfl (rr [4] hS ?_)))))
      refine it fun w hS => RL.nil ?_
      have hS := O_log_Log.c (x := a6) hr823 hr826 hx830 hS
      exact fun a ha => ⟨_, _, rfl, h, ha.tE rfl, hS.p1⟩
     refine jf (RC.skip ?_)
     have hS := O_log_Log.c (x := a6) hr823 hr826 hx830 hS
     exact fun a ha => ⟨_, _, rfl, h, ha.tE rfl, hS.p1⟩
    refine jf (RC.exit (RQ.exitT ?_))
    have h := h.inrS
    refine RQ.exitT (RQ.inB_hit ?_)
    have hS := O_log_Log.c (x := a6) hr823 hr826 hx830 hS
    cases h.some
    exact rtE results174 rfl ⟨rfl, hS.d2.p5.p5.p5.p3.p5⟩
  refine RC.block (fun a ha => lp h (fun (s : Int) a w => ∃ x985, s = (x985) ∧ Has 68 [(0, .func (.yield b1) #[] #[]), (1, pV b15), (2, pV b17)] a ∧ St B w (OSl 229 19 (sV A11 a10 c12) a10.length cs13 :: pts b1 (.loop rc2) :: O_log_Log hf a6 b5 :: Cl b4 [pV b5] 96 :: Cl b7 [iV a8] 3 :: Cl b9 [sV A11 a10 c12] 245 :: Cl b15 [iV x985] 3 :: Cl b17 [pV b5] 96 :: l) hf) ⟨_, rfl, ha.tE rfl, hS.p5⟩ ?_)
  rintro G1029 x985 a w ⟨_, rfl, ha, hS⟩ h
  refine ro ha (RC.seq (RC.seq ?_))
  obtain ⟨A1052, c1053, A1055, c1056, A1058, c1059, cs1060, hr1054, hr1057, hx1061, hS⟩ := O_log_Log.o hS.p2
  refine dr [1, 3, 6, 10, 12, 15, 19, 23, 26, 29, 32, 35, 38] [8, 9, 10, 11, 12] hS fun w hS => rq [8, 0, 0] hS ?_
  refine it ?_
  refine RP.iteP 9 rfl h (fun hc1062 h => ?_) fun hc1062 h => ?_
  next =>
   refine rq [9, 0, 0, 1, 8] hS ?_
   refine it ?_
   obtain ⟨⟨hq1063, hq1064⟩, h⟩ := h.req
   refine RP.v1 8 rfl (Vl.indexOwn 1 hS rfl underlying147 sizeOf286 rfl rfl hq1063 hq1064) rfl rfl (RP.v1 9 rfl (Vl.fieldAddr (a'' := (ad A1058).add (x985.toNat * 10 + 9)) underlying286 rfl sizeOf284 rfl (add_add _ _ _)) rfl rfl ?_)
   obtain ⟨_, ⟨A1066, c1067, b1069, rfl, hr1068, hr1070⟩, hl1065⟩ := RepL.elem R_log_done_ok hx1061 hq1063 hq1064
   refine RP.v1 10 rfl (Vl.load isAgg284 rfl (hS.litCell 1 rfl (hl1065 9 _ rfl))) rfl rfl (RP.v1 11 rfl (Vl.ptEql (fun b w => by kernel_rfl) (fun w => by kernel_rfl) rfl rfl) rfl rfl (rq [0] hS ?_))
   refine it (RP.nil (RQ.then_n ?_))
   refine RC.iteM 19 rfl h (fun hc1071 h => ?_) fun hc1071 h => ?_
   next =>
    refine jf (RC.exit (RQ.exitT ?_))
    have h := h.inr
    refine RQ.exitT (RQ.inB_hit ?_)
    have hS := O_log_Log.c (x := a6) hr1054 hr1057 hx1061 hS
    exact fun a ha => ⟨_, _, rfl, h, ha.tE rfl, hS.p1⟩
   refine jt (sk (RC.block (RC.region (rr [8, 0, 8] hS ?_))))
   refine it fun w hS => RL.nil (RQ.inB_n ?_)
   have hS := O_log_Log.c (x := a6) hr1054 hr1057 hx1061 hS
   exact fun a ha => ⟨_, h.some, _, rfl, ha.tE rfl, hS.p2.p2⟩
  refine rq [0, 0, 0, 0, 0, 0, 0, 0, 0, 0] hS ?_
  refine it (RP.nil (RQ.then_n (jf (RC.exit (RQ.exitT ?_)))))
  have h := h.inr
  refine RQ.exitT (RQ.inB_hit ?_)
  have hS := O_log_Log.c (x := a6) hr1054 hr1057 hx1061 hS
  exact fun a ha => ⟨_, _, rfl, h, ha.tE rfl, hS.p1⟩
end
end Go.Proofs.Gx
