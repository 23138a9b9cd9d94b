/-
  The walks of functions, each with what it computes: printed by wip/gx.py.
-/
import Derived.Test.YtofgeidjbfmmdaaGreatDoorW0
import Derived.Test.YtofgeidjbfmmdaaGreatDoorW10
import Derived.Test.YtofgeidjbfmmdaaGreatDoorW9
set_option linter.unusedVariables false
set_option maxRecDepth 100000
set_option maxHeartbeats 4000000
namespace Go.Proofs.Gx
open Go.Sl Tryz
variable {B : Base} {w : World} {l : List HProp} {hf : Hp}
/-! ### isochron/isochronref13.Starts: function 63 -/
noncomputable def isochronref13vStarts.l2b (a1 : api_Model) : List api_Message × Int → Option ((List api_Message × Int) ⊕ (List api_Message))
  | (l90, x93) => (if x93 < (a1.Starts.length : Int) then (if 0 ≤ x93 then (if (l90.length + 1) * 56 ≤ 140737488355328 then some (.inl ((l90 ++ ([(⟨(⟨(nth a1.Starts x93).Time, (-1), x93⟩ : api_Key), (nth a1.Starts x93).To, (nth a1.Starts x93).Value, x93, false⟩ : api_Message)])), IntKind.i64.wrap (x93 + 1))) else none) else none) else some (.inr l90))
noncomputable def isochronref13vStarts.l2 (a1 : api_Model) (s : List api_Message × Int) : Option (List api_Message) := loopR (isochronref13vStarts.l2b a1) s
noncomputable def isochronref13vStarts.f (a1 : api_Model) : Option (List api_Message) := isochronref13vStarts.l2 a1 ([], 0)
theorem isochronref13vStarts.ok {a1 : api_Model} {A2 : Option Addr} {c3 : Nat} {A5 : Option Addr} {c6 : Nat} {A8 : Option Addr} {c9 : Nat} (hr4 : SlR (Rep.sl E_api_Instr.rep) hf A2 c3 a1.Progs) (hr7 : SlR E_api_Link.rep hf A5 c6 a1.Links) (hr10 : SlR E_api_Start.rep hf A8 c9 a1.Starts) {r : List api_Message} (h : isochronref13vStarts.f a1 = some r) (hS : St B w (l) hf) :
    Calls prog 63 #[.agg #[.slice A2 a1.Progs.length c3, .slice A5 a1.Links.length c6, .slice A8 a1.Starts.length c9, .int .u64 a1.Seed, .int .i64 a1.End, .int .i64 a1.Budget]] w (Ret fun v w => ∃ (A_1 : Option Addr) (c_2 : Nat), v = .slice A_1 r.length c_2 ∧ St B w (OSf E_api_Message 53 (.slice A_1 r.length c_2) r :: l) hf) := by
  have h := Holds.of h
  refine en func63 rfl ntmps63 rfl (sr (bx hS rfl rfl rfl rfl fun b71 w hS => pn 1 rfl (lnsr (pn 1 rfl (ln (RC.seq (sr (pn 1 rfl ?_))))))))
  refine ln (RC.block ?_)
  have hS := hS.nilSl E_api_Message 53
  refine fun a ha => RC.loop (N := 32) (body := (isochronref13vStarts.l2b a1)) (φ := (· = r)) (fun (s : List api_Message × Int) a w => ∃ (l90 : List api_Message) (x93 : Int), s = (l90, x93) ∧ ∃ (A91 : Option Addr) (c92 : Nat), Has 32 [(1, .pointer (some ⟨b71, 0, none⟩)), (3, .slice A91 l90.length c92), (4, .int .i64 x93)] a ∧ St B w (OSf E_api_Message 53 (.slice A91 l90.length c92) l90 :: Cl b71 [.slice A2 a1.Progs.length c3, .slice A5 a1.Links.length c6, .slice A8 a1.Starts.length c9, .int .u64 a1.Seed, .int .i64 a1.End, .int .i64 a1.Budget] 27 :: l) hf) ?_ (s0 := ([], 0)) h ⟨([]), 0, rfl, none, 0, ha.to ⟨rfl, rfl, rfl, trivial⟩, hS⟩
  rintro G114 _ a w ⟨l90, x93, rfl, A91, c92, ha, hS⟩ h
  revert a
  show RC _ _ _ _ _ _
  refine RC.seq (sr (pn 1 rfl (RL.s (Vl.fa 2 underlying27 rfl sizeOf24 rfl rfl) rfl (RL.s (Vl.ld 1 hS isAgg24 rfl rfl rfl) rfl (RL.s (Vl.lenSl underlying24 rfl) rfl (pn 1 rfl (ln ?_)))))))
  refine RC.iteP 10 rfl h (fun hc116 h => ?_) fun hc116 h => ?_
  next =>
   refine RC.condT rfl (sk (RC.seq (RC.block (sr (RL.s (Vl.fa 2 underlying27 rfl sizeOf24 rfl rfl) rfl (RL.s (Vl.ld 1 hS isAgg24 rfl rfl rfl) rfl (pn 1 rfl ?_)))))))
   obtain ⟨hq124, h⟩ := h.req
   refine RL.s (Vl.indexAddr underlying24 sizeOf74 rfl rfl ((hr10.2.world hS.sub).adr hq124 hc116) hq124 hc116 rfl) rfl (RL.s (Vl.loadA isAgg74 sizeOf74 rfl rfl ((hr10.2.world hS.sub).cells hq124 hc116)) rfl (al hS zeroValue74 rfl rfl rfl fun b125 w hS => RL.e0 (OW.store (vs := [.int .i64 ((nth a1.Starts x93).To), .int .i64 ((nth a1.Starts x93).Time), .int .i64 ((nth a1.Starts x93).Value)]) 0 hS rfl rfl rfl rfl sizeOf74 rfl rfl rfl rfl) rfl ?_))
   rintro _ w ⟨rfl, hS⟩
   have hS : St B w (Cl _ [_, _, _] _ :: _ :: _ :: l) hf := hS
   refine ln (RC.region (pn 1 rfl (RL.s (Vl.fa 1 underlying74 rfl sizeOf2 rfl rfl) rfl (RL.s (Vl.ld 0 hS isAgg2 rfl rfl rfl) rfl (pn 1 rfl (RL.s (Vl.build (v := .agg #[.int .i64 ((nth a1.Starts x93).Time), .int .i64 (-1), .int .i64 x93]) (parts := [(0, .tmp 20), (1, .const (.int .i64 (-1))), (2, .tmp 21)]) rfl (by kernel_rfl)) rfl (RL.s (Vl.fa 0 underlying74 rfl sizeOf3 rfl rfl) rfl (RL.s (Vl.ld 0 hS isAgg3 rfl rfl rfl) rfl (RL.s (Vl.fa 2 underlying74 rfl sizeOf2 rfl rfl) rfl (RL.s (Vl.ld 0 hS isAgg2 rfl rfl rfl) rfl (pn 1 rfl (RL.s (Vl.build (v := .agg #[.int .i64 ((nth a1.Starts x93).Time), .int .i64 (-1), .int .i64 x93, .int .i64 ((nth a1.Starts x93).To), .int .i64 ((nth a1.Starts x93).Value), .int .i64 x93, .bool false]) (parts := [(0, .tmp 22), (1, .tmp 24), (2, .tmp 26), (3, .tmp 27)]) rfl (by kernel_rfl)) rfl (RL.e (OW.buildSlice (E := E_api_Message) (xs := [(⟨(⟨(nth a1.Starts x93).Time, (-1), x93⟩ : api_Key), (nth a1.Starts x93).To, (nth a1.Starts x93).Value, x93, false⟩ : api_Message)]) (cs := [.int .i64 ((nth a1.Starts x93).Time), .int .i64 (-1), .int .i64 x93, .int .i64 ((nth a1.Starts x93).To), .int .i64 ((nth a1.Starts x93).Value), .int .i64 x93, .bool false]) hS underlying49 zeroValue53 sizeOf53 (parts := [(0, .tmp 28)]) rfl rfl (by decide) (by decide) (by kernel_rfl) rfl) rfl rfl ?_)))))))))))))
   rintro _ w ⟨b126, rfl, hS⟩
   obtain ⟨hq127, h⟩ := h.req
   refine RL.e (OW.append (E := E_api_Message) (xs := l90) (ys := [(⟨(⟨(nth a1.Starts x93).Time, (-1), x93⟩ : api_Key), (nth a1.Starts x93).To, (nth a1.Starts x93).Value, x93, false⟩ : api_Message)]) 2 hS rfl underlying49 type53 rfl rfl rfl rfl (by decide) rfl rfl rfl (hS.slW 0 rfl).2.2.flat (by simp only [maxLen, List.length_cons, List.length_nil] at *; omega) hq127 rfl) rfl rfl ?_
   rintro v130 w hS
   obtain ⟨A128, c129, rfl, _⟩ := hS.osShape 0 rfl
   have hS : St B w (_ :: _ :: _ :: _ :: l) hf := hS
   refine pn 1 rfl (RL.nil (RQ.inB_n (RQ.then_n (RC.region (pn 3 rfl (RL.nil ?_))))))
   exact fun a ha => ⟨((l90 ++ ([(⟨(⟨(nth a1.Starts x93).Time, (-1), x93⟩ : api_Key), (nth a1.Starts x93).To, (nth a1.Starts x93).Value, x93, false⟩ : api_Message)])), IntKind.i64.wrap (x93 + 1)), ⟨(l90 ++ ([(⟨(⟨(nth a1.Starts x93).Time, (-1), x93⟩ : api_Key), (nth a1.Starts x93).To, (nth a1.Starts x93).Value, x93, false⟩ : api_Message)])), (IntKind.i64.wrap (x93 + 1)), rfl, A128, c129, ha.to ⟨rfl, rfl, rfl, trivial⟩, hS.d1.d1⟩, h.some⟩
  next =>
   refine RC.condF rfl (RC.exit (RQ.exitT ?_))
   have h := h.inrS
   refine RQ.exitT (RQ.inB_hit (tsr (pn 2 rfl (lr ?_))))
   obtain rfl := h.some
   exact rt results63 rfl ⟨A91, c92, rfl, hS.d1⟩

/-! ### isochron/isochronref02.sign: function 119 -/
noncomputable def isochronref02vsign.f (a1 a2 : Int) : Option (Int) := (if a1 < a2 then some (-1) else (if a2 < a1 then some 1 else some 0))
theorem isochronref02vsign.ok {a1 a2 : Int} {r : Int} (h : isochronref02vsign.f a1 a2 = some r) (hS : St B w (l) hf) :
    Calls prog 119 #[.int .i64 a1, .int .i64 a2] w (Ret fun v w => v = .int .i64 r ∧ St B w (l) hf) := by
  have h := Holds.of h
  refine en func119 rfl ntmps119 rfl (sr (pn 1 rfl (ln (RC.seq (sr (pn 3 rfl (ln ?_)))))))
  refine RC.iteP 7 rfl h (fun hc7 h => ?_) fun hc7 h => ?_
  next =>
   refine RC.condT rfl (sr (pn 1 rfl (lr (RQ.ret ?_))))
   obtain rfl := h.some
   exact rt results119 rfl ⟨rfl, hS⟩
  next =>
   refine RC.condF rfl (sk (RC.seq (sr (pn 3 rfl (ln ?_)))))
   refine RC.iteP 10 rfl h (fun hc8 h => ?_) fun hc8 h => ?_
   next =>
    refine RC.condT rfl (sr (pn 1 rfl (lr (RQ.ret ?_))))
    obtain rfl := h.some
    exact rt results119 rfl ⟨rfl, hS⟩
   next =>
    refine RC.condF rfl (sk (sr (pn 1 rfl (lr ?_))))
    obtain rfl := h.some
    exact rt results119 rfl ⟨rfl, hS⟩

/-! ### isochron/isochronref02.Compare: function 97 -/
noncomputable def isochronref02vCompare.f (a1 a2 : api_Key) : Option (Int) := (if a1.Time = a2.Time then (if a1.From = a2.From then ((isochronref02vsign.f a1.Seq a2.Seq).bind fun t29 => some t29) else ((isochronref02vsign.f a1.From a2.From).bind fun t31 => some t31)) else ((isochronref02vsign.f a1.Time a2.Time).bind fun t33 => some t33))
theorem isochronref02vCompare.ok {a1 a2 : api_Key} {r : Int} (h : isochronref02vCompare.f a1 a2 = some r) (hS : St B w (l) hf) :
    Calls prog 97 #[.agg #[.int .i64 a1.Time, .int .i64 a1.From, .int .i64 a1.Seq], .agg #[.int .i64 a2.Time, .int .i64 a2.From, .int .i64 a2.Seq]] w (Ret fun v w => v = .int .i64 r ∧ St B w (l) hf) := by
  have h := Holds.of h
  refine en func97 rfl ntmps97 rfl (sr (bx hS rfl rfl rfl rfl fun b19 w hS => bx hS rfl rfl rfl rfl fun b20 w hS => pn 1 rfl (ln (RC.seq (sr (RL.s (Vl.fa 0 underlying42 rfl sizeOf2 rfl rfl) rfl (RL.s (Vl.ld 1 hS isAgg2 rfl rfl rfl) rfl (RL.s (Vl.fa 0 underlying42 rfl sizeOf2 rfl rfl) rfl (RL.s (Vl.ld 0 hS isAgg2 rfl rfl rfl) rfl (pn 1 rfl ?_))))))))))
  refine ln ?_
  refine RC.iteN 9 rfl h (fun hc24 h => ?_) fun hc24 h => ?_
  next =>
   refine RC.condF rfl (sk (RC.seq (sr (RL.s (Vl.fa 1 underlying42 rfl sizeOf3 rfl rfl) rfl (RL.s (Vl.ld 1 hS isAgg3 rfl rfl rfl) rfl (RL.s (Vl.fa 1 underlying42 rfl sizeOf3 rfl rfl) rfl (RL.s (Vl.ld 0 hS isAgg3 rfl rfl rfl) rfl (pn 1 rfl (ln ?_)))))))))
   refine RC.iteN 19 rfl h (fun hc28 h => ?_) fun hc28 h => ?_
   next =>
    refine RC.condF rfl (sk (sr (RL.s (Vl.fa 2 underlying42 rfl sizeOf3 rfl rfl) rfl (RL.s (Vl.ld 1 hS isAgg3 rfl rfl rfl) rfl (RL.s (Vl.fa 2 underlying42 rfl sizeOf3 rfl rfl) rfl (RL.s (Vl.ld 0 hS isAgg3 rfl rfl rfl) rfl (cF (fun _ hg => isochronref02vsign.ok hg hS) call119 h rfl rfl rfl ?_)))))))
    rintro t29 h _ w ⟨rfl, hS⟩
    refine pn 1 rfl (lr ?_)
    obtain rfl := h.some
    exact rt results97 rfl ⟨rfl, hS.d0.d0⟩
   next =>
    refine RC.condT rfl (sr (RL.s (Vl.fa 1 underlying42 rfl sizeOf3 rfl rfl) rfl (RL.s (Vl.ld 1 hS isAgg3 rfl rfl rfl) rfl (RL.s (Vl.fa 1 underlying42 rfl sizeOf3 rfl rfl) rfl (RL.s (Vl.ld 0 hS isAgg3 rfl rfl rfl) rfl (cF (fun _ hg => isochronref02vsign.ok hg hS) call119 h rfl rfl rfl ?_))))))
    rintro t31 h _ w ⟨rfl, hS⟩
    refine pn 1 rfl (lr (RQ.ret ?_))
    obtain rfl := h.some
    exact rt results97 rfl ⟨rfl, hS.d0.d0⟩
  next =>
   refine RC.condT rfl (sr (RL.s (Vl.fa 0 underlying42 rfl sizeOf2 rfl rfl) rfl (RL.s (Vl.ld 1 hS isAgg2 rfl rfl rfl) rfl (RL.s (Vl.fa 0 underlying42 rfl sizeOf2 rfl rfl) rfl (RL.s (Vl.ld 0 hS isAgg2 rfl rfl rfl) rfl (cF (fun _ hg => isochronref02vsign.ok hg hS) call119 h rfl rfl rfl ?_))))))
   rintro t33 h _ w ⟨rfl, hS⟩
   refine pn 1 rfl (lr (RQ.ret ?_))
   obtain rfl := h.some
   exact rt results97 rfl ⟨rfl, hS.d0.d0⟩

/-! ### isochron/isochronref02.Before: function 84 -/
noncomputable def isochronref02vBefore.f (a1 a2 : api_Message) : Option (Bool) := ((isochronref02vCompare.f a1.Key a2.Key).bind fun t11 => (if t11 < 0 then some true else (if t11 = 0 then some (decide (a1.Uid < a2.Uid)) else some false)))
theorem isochronref02vBefore.ok {a1 a2 : api_Message} {r : Bool} (h : isochronref02vBefore.f a1 a2 = some r) (hS : St B w (l) hf) :
    Calls prog 84 #[.agg #[.int .i64 a1.Key.Time, .int .i64 a1.Key.From, .int .i64 a1.Key.Seq, .int .i64 a1.To, .int .i64 a1.Value, .int .i64 a1.Uid, .bool a1.Anti], .agg #[.int .i64 a2.Key.Time, .int .i64 a2.Key.From, .int .i64 a2.Key.Seq, .int .i64 a2.To, .int .i64 a2.Value, .int .i64 a2.Uid, .bool a2.Anti]] w (Ret fun v w => v = .bool r ∧ St B w (l) hf) := by
  have h := Holds.of h
  refine en func84 rfl ntmps84 rfl (sr (bx hS rfl rfl rfl rfl fun b9 w hS => bx hS rfl rfl rfl rfl fun b10 w hS => pn 1 rfl (lnsr (RL.s (Vl.fa 0 underlying53 rfl sizeOf42 rfl rfl) rfl (RL.s (Vl.loadA (vs := [.int .i64 a1.Key.Time, .int .i64 a1.Key.From, .int .i64 a1.Key.Seq]) isAgg42 sizeOf42 rfl rfl (hS.cellsAt 1 rfl rfl)) rfl (RL.s (Vl.fa 0 underlying53 rfl sizeOf42 rfl rfl) rfl (RL.s (Vl.loadA (vs := [.int .i64 a2.Key.Time, .int .i64 a2.Key.From, .int .i64 a2.Key.Seq]) isAgg42 sizeOf42 rfl rfl (hS.cellsAt 0 rfl rfl)) rfl (cF (fun _ hg => isochronref02vCompare.ok hg hS) call97 h rfl rfl rfl ?_))))))))
  rintro t11 h _ w ⟨rfl, hS⟩
  refine pn 1 rfl (lnsr (pn 3 rfl ?_))
  refine RL.iteP 13 rfl h (fun hc13 h => ?_) fun hc13 h => ?_
  next =>
   refine pn 11 rfl (lr ?_)
   obtain rfl := h.some
   exact rt results84 rfl ⟨rfl, hS.d0.d0⟩
  next =>
   refine pn 3 rfl ?_
   refine RL.iteP 16 rfl h (fun hc14 h => ?_) fun hc14 h => ?_
   next =>
    refine RL.sg (Vl.fa 5 underlying53 rfl sizeOf3 rfl rfl) rfl rfl (RL.sg (Vl.ld 1 hS isAgg3 rfl rfl rfl) rfl rfl (RL.sg (Vl.fa 5 underlying53 rfl sizeOf3 rfl rfl) rfl rfl (RL.sg (Vl.ld 0 hS isAgg3 rfl rfl rfl) rfl rfl (pn 4 rfl (lr ?_)))))
    obtain rfl := h.some
    exact rt results84 rfl ⟨rfl, hS.d0.d0⟩
   next =>
    refine pn 8 rfl (lr ?_)
    obtain rfl := h.some
    exact rt results84 rfl ⟨rfl, hS.d0.d0⟩

/-! ### isochron/isochronref02.Insert: function 66 -/
noncomputable def isochronref02vInsert.j5 (a1 : List api_Message) (a5 : api_Message) (x148 : Int) : Option (List api_Message) := (if 0 ≤ x148 ∧ x148 ≤ (a1.length : Int) then (if (([] : List api_Message).length + (subL a1 0 x148).length) * 56 ≤ 140737488355328 then (if ((([] : List api_Message) ++ (subL a1 0 x148)).length + 1) * 56 ≤ 140737488355328 then (if (((([] : List api_Message) ++ (subL a1 0 x148)) ++ ([a5])).length + (subL a1 x148 (a1.length : Int)).length) * 56 ≤ 140737488355328 then some (((([] : List api_Message) ++ (subL a1 0 x148)) ++ ([a5])) ++ (subL a1 x148 (a1.length : Int))) else none) else none) else none) else none)
noncomputable def isochronref02vInsert.l6b (a1 : List api_Message) (a5 : api_Message) : Int → Option ((Int) ⊕ (List api_Message))
  | (x181) => (if 0 < x181 then (if 0 ≤ IntKind.i64.wrap (x181 - 1) ∧ IntKind.i64.wrap (x181 - 1) < (a1.length : Int) then ((isochronref02vBefore.f a5 (⟨(nth a1 (IntKind.i64.wrap (x181 - 1))).Key, (nth a1 (IntKind.i64.wrap (x181 - 1))).To, (nth a1 (IntKind.i64.wrap (x181 - 1))).Value, (nth a1 (IntKind.i64.wrap (x181 - 1))).Uid, ((nth a1 (IntKind.i64.wrap (x181 - 1))).Anti)⟩ : api_Message)).bind fun t205 => (if t205 = true then some (.inl (IntKind.i64.wrap (x181 - 1))) else (Option.map Sum.inr (isochronref02vInsert.j5 a1 a5 x181)))) else none) else (Option.map Sum.inr (isochronref02vInsert.j5 a1 a5 x181)))
noncomputable def isochronref02vInsert.l6 (a1 : List api_Message) (a5 : api_Message) (s : Int) : Option (List api_Message) := loopR (isochronref02vInsert.l6b a1 a5) s
noncomputable def isochronref02vInsert.f (a1 : List api_Message) (a5 : api_Message) : Option (List api_Message) := isochronref02vInsert.l6 a1 a5 ((a1.length : Int))
theorem isochronref02vInsert.ok {a1 : List api_Message} {a5 : api_Message} {A2 : Option Addr} {c3 : Nat} (hr4 : SlR E_api_Message.rep hf A2 c3 a1) {r : List api_Message} (h : isochronref02vInsert.f a1 a5 = some r) (hS : St B w (l) hf) :
    Calls prog 66 #[.slice A2 a1.length c3, .agg #[.int .i64 a5.Key.Time, .int .i64 a5.Key.From, .int .i64 a5.Key.Seq, .int .i64 a5.To, .int .i64 a5.Value, .int .i64 a5.Uid, .bool a5.Anti]] w (Ret fun v w => ∃ (A_1 : Option Addr) (c_2 : Nat), v = .slice A_1 r.length c_2 ∧ St B w (OSf E_api_Message 53 (.slice A_1 r.length c_2) r :: l) hf) := by
  have h := Holds.of h
  refine en func66 rfl ntmps66 rfl (sr (bx hS rfl rfl rfl rfl fun b107 w hS => pn 1 rfl (lnsr (pn 1 rfl (RL.s (Vl.lenSl underlying49 rfl) rfl (pn 1 rfl (ln ?_)))))))
  refine RC.join (fun (s : Int) a w => ∃ (x148 : Int), s = (x148) ∧ Has 36 [(0, .slice A2 a1.length c3), (3, .pointer (some ⟨b107, 0, none⟩)), (5, .int .i64 x148)] a ∧ St B w (Cl b107 [.int .i64 a5.Key.Time, .int .i64 a5.Key.From, .int .i64 a5.Key.Seq, .int .i64 a5.To, .int .i64 a5.Value, .int .i64 a5.Uid, .bool a5.Anti] 53 :: l) hf ∧ Holds (· = r) (isochronref02vInsert.j5 a1 a5 x148)) ?_ ?_
  · rintro x148 a w ⟨_, rfl, ha, hS, h⟩
    revert a
    show RC _ _ _ _ _ _
    refine sr (RL.e (OW.build0 (E := E_api_Message) hS underlying49 zeroValue53 sizeOf53) rfl rfl ?_)
    rintro _ w ⟨b150, rfl, hS⟩
    refine pn 2 rfl ?_
    obtain ⟨⟨hq151, hq152⟩, h⟩ := h.req
    have hr153 := hr4.sub (lo := 0) (hi := x148) (m := c3) (by decide) hq151 hq152 (by have := hr4.1; omega)
    refine RL.s (Vl.sliceH underlying49 sizeOf53 rfl rfl hq151 hq152 hr4.1) rfl ?_
    obtain ⟨hq154, h⟩ := h.req
    refine RL.e (OW.appendV (E := E_api_Message) (xs := ([] : List api_Message)) (ys := (subL a1 0 x148)) 0 hS rfl underlying49 type53 rfl rfl rfl rfl (by decide) (by decide) rfl rfl (hr153.2.world hS.sub) hq154 rfl) rfl rfl ?_
    rintro v157 w hS
    obtain ⟨A155, c156, rfl, _⟩ := hS.osShape 0 rfl
    have hS : St B w (_ :: _ :: l) hf := hS
    refine pn 1 rfl (lnsr (pn 1 rfl (RL.s (Vl.lw 1 hS isAgg53 sizeOf53 rfl rfl rfl) rfl (RL.e (OW.buildSlice (E := E_api_Message) (xs := [a5]) (cs := [.int .i64 a5.Key.Time, .int .i64 a5.Key.From, .int .i64 a5.Key.Seq, .int .i64 a5.To, .int .i64 a5.Value, .int .i64 a5.Uid, .bool a5.Anti]) hS underlying49 zeroValue53 sizeOf53 (parts := [(0, .tmp 28)]) rfl rfl (by decide) (by decide) (by kernel_rfl) rfl) rfl rfl ?_))))
    rintro _ w ⟨b158, rfl, hS⟩
    obtain ⟨hq159, h⟩ := h.req
    refine RL.e (OW.append (E := E_api_Message) (xs := (([] : List api_Message) ++ (subL a1 0 x148))) (ys := [a5]) 1 hS rfl underlying49 type53 rfl rfl rfl rfl (by decide) rfl rfl rfl (hS.slW 0 rfl).2.2.flat (by simp only [maxLen, List.length_cons, List.length_nil] at *; omega) hq159 rfl) rfl rfl ?_
    rintro v162 w hS
    obtain ⟨A160, c161, rfl, _⟩ := hS.osShape 0 rfl
    have hS : St B w (_ :: _ :: _ :: l) hf := hS
    refine pn 1 rfl (lnsr (pn 3 rfl ?_))
    have hr163 := hr4.sub (lo := x148) (hi := (a1.length : Int)) (m := c3) hq151 hq152 (by omega) (by have := hr4.1; omega)
    refine RL.s (Vl.sliceL underlying49 sizeOf53 rfl rfl hq151 hq152 hr4.1) rfl ?_
    obtain ⟨hq164, h⟩ := h.req
    refine RL.e (OW.appendV (E := E_api_Message) (xs := ((([] : List api_Message) ++ (subL a1 0 x148)) ++ ([a5]))) (ys := (subL a1 x148 (a1.length : Int))) 0 hS rfl underlying49 type53 rfl rfl rfl rfl (by decide) (by decide) rfl rfl (hr163.2.world hS.sub) hq164 rfl) rfl rfl ?_
    rintro v167 w hS
    obtain ⟨A165, c166, rfl, _⟩ := hS.osShape 0 rfl
    have hS : St B w (_ :: _ :: _ :: l) hf := hS
    refine pn 1 rfl (lr ?_)
    obtain rfl := h.some
    exact rt results66 rfl ⟨A165, c166, rfl, hS.d1.d1⟩
  · refine RC.block ?_
    refine fun a ha => RC.loop (N := 36) (body := (isochronref02vInsert.l6b a1 a5)) (φ := (· = r)) (fun (s : Int) a w => ∃ (x181 : Int), s = (x181) ∧ Has 36 [(0, .slice A2 a1.length c3), (3, .pointer (some ⟨b107, 0, none⟩)), (5, .int .i64 x181)] a ∧ St B w (Cl b107 [.int .i64 a5.Key.Time, .int .i64 a5.Key.From, .int .i64 a5.Key.Seq, .int .i64 a5.To, .int .i64 a5.Value, .int .i64 a5.Uid, .bool a5.Anti] 53 :: l) hf) ?_ (s0 := ((a1.length : Int))) h ⟨(a1.length : Int), rfl, ha.to ⟨rfl, rfl, rfl, trivial⟩, hS⟩
    rintro G195 x181 a w ⟨_, rfl, ha, hS⟩ h
    revert a
    show RC _ _ _ _ _ _
    refine RC.seq (RC.seq (RC.planS (plD [0, 3, 6, 10, 12, 17, 20, 23, 26, 29, 32]) [9, 10] hS (fun w hS => hS) follows rfl (by kernel_rfl) (NoTmp.then (NoTmp.then (NoTmp.then (NoTmp.block (NoTmp.then NoTmp.body))))) fun w hS => pp 3 rfl ?_))
    refine RP.iteP 11 rfl h (fun hc202 h => ?_) fun hc202 h => ?_
    next =>
     refine RP.sg 0 3 rfl rfl hS (fun w hS => Vl.lw 0 hS isAgg53 sizeOf53 rfl rfl rfl) rfl rfl (pp 1 rfl (RP.v1 5 rfl (Vl.move rfl) rfl rfl (RP.v1 6 rfl (Vl.int rfl rfl rfl) rfl rfl ?_)))
     obtain ⟨⟨hq203, hq204⟩, h⟩ := h.req
     refine RP.v1 7 rfl (Vl.indexAddr underlying49 sizeOf53 rfl rfl ((hr4.2.world hS.sub).adr hq203 hq204) hq203 hq204 rfl) rfl rfl (RP.v1 8 rfl (Vl.loadA isAgg53 sizeOf53 rfl rfl ((hr4.2.world hS.sub).cells hq203 hq204)) rfl rfl ?_)
     obtain ⟨t205, hg206, h⟩ := h.bind
     have hc := isochronref02vBefore.ok hg206 hS
     refine RP.e 9 rfl (OW.callF (ls := [.tmp 12, .tmp 17]) rfl call84 hc) rfl rfl ?_
     rintro _ w ⟨rfl, hS⟩
     refine ⟨kp ⟨(by intro hx; cases hx), trivial⟩, ?_⟩
     refine RP.v1 10 rfl (Vl.pickT rfl rfl) rfl rfl (RP.nil (RQ.then_n ?_))
     refine RC.iteB 19 rfl h (fun hc207 h => ?_) fun hc207 h => ?_
     next =>
      refine RC.condT rfl (sk (RC.block (RC.region (pn 3 rfl (RL.nil (RQ.inB_n ?_))))))
      exact fun a ha => ⟨(IntKind.i64.wrap (x181 - 1)), ⟨(IntKind.i64.wrap (x181 - 1)), rfl, ha.to ⟨rfl, rfl, rfl, trivial⟩, hS⟩, h.some⟩
     next =>
      refine RC.condF rfl (RC.exit (RQ.exitT ?_))
      have h := h.inr
      refine RQ.exitT (RQ.inB_hit ?_)
      exact fun a ha => ⟨(x181), x181, rfl, ha.to ⟨rfl, rfl, rfl, trivial⟩, hS, h⟩
    next =>
     refine RP.nn 0 3 rfl rfl rfl (pp 1 rfl (RP.n1 5 rfl rfl rfl (RP.n1 6 rfl rfl rfl (RP.n1 7 rfl rfl rfl (RP.n1 8 rfl rfl rfl (RP.n1 9 rfl rfl rfl (RP.v1 10 rfl (Vl.pickF rfl rfl) rfl rfl (RP.nil (RQ.then_n (RC.condF rfl (RC.exit (RQ.exitT ?_))))))))))))
     have h := h.inr
     refine RQ.exitT (RQ.inB_hit ?_)
     exact fun a ha => ⟨(x181), x181, rfl, ha.to ⟨rfl, rfl, rfl, trivial⟩, hS, h⟩

/-! ### isochron/isochronref02.Sorted: function 62 -/
noncomputable def isochronref02vSorted.l2b (a1 : List api_Message) : List api_Message × Int → Option ((List api_Message × Int) ⊕ (List api_Message))
  | (l82, x85) => (if x85 < (a1.length : Int) then (if 0 ≤ x85 then ((isochronref02vInsert.f l82 (⟨(nth a1 x85).Key, (nth a1 x85).To, (nth a1 x85).Value, (nth a1 x85).Uid, ((nth a1 x85).Anti)⟩ : api_Message)).bind fun t127 => some (.inl (t127, IntKind.i64.wrap (x85 + 1)))) else none) else some (.inr l82))
noncomputable def isochronref02vSorted.l2 (a1 : List api_Message) (s : List api_Message × Int) : Option (List api_Message) := loopR (isochronref02vSorted.l2b a1) s
noncomputable def isochronref02vSorted.f (a1 : List api_Message) : Option (List api_Message) := isochronref02vSorted.l2 a1 ([], 0)
theorem isochronref02vSorted.ok {a1 : List api_Message} {A2 : Option Addr} {c3 : Nat} (hr4 : SlR E_api_Message.rep hf A2 c3 a1) {r : List api_Message} (h : isochronref02vSorted.f a1 = some r) (hS : St B w (l) hf) :
    Calls prog 62 #[.slice A2 a1.length c3] w (Ret fun v w => ∃ (A_1 : Option Addr) (c_2 : Nat), v = .slice A_1 r.length c_2 ∧ St B w (OSf E_api_Message 53 (.slice A_1 r.length c_2) r :: l) hf) := by
  have h := Holds.of h
  refine en func62 rfl ntmps62 rfl (sr (pn 1 rfl (lnsr (pn 1 rfl (ln (RC.seq (sr (pn 1 rfl (RL.nil ?_)))))))))
  refine RQ.then_n (RC.block ?_)
  have hS := hS.nilSl E_api_Message 53
  refine fun a ha => RC.loop (N := 18) (body := (isochronref02vSorted.l2b a1)) (φ := (· = r)) (fun (s : List api_Message × Int) a w => ∃ (l82 : List api_Message) (x85 : Int), s = (l82, x85) ∧ ∃ (A83 : Option Addr) (c84 : Nat), Has 18 [(0, .slice A2 a1.length c3), (3, .slice A83 l82.length c84), (4, .int .i64 x85)] a ∧ St B w (OSf E_api_Message 53 (.slice A83 l82.length c84) l82 :: l) hf) ?_ (s0 := ([], 0)) h ⟨([]), 0, rfl, none, 0, ha.to ⟨rfl, rfl, rfl, trivial⟩, hS⟩
  rintro G110 _ a w ⟨l82, x85, rfl, A83, c84, ha, hS⟩ h
  revert a
  show RC _ _ _ _ _ _
  refine RC.seq (sr (pn 2 rfl (RL.s (Vl.lenSl underlying49 rfl) rfl (pn 1 rfl (ln ?_)))))
  refine RC.iteP 8 rfl h (fun hc112 h => ?_) fun hc112 h => ?_
  next =>
   refine RC.condT rfl (sk (RC.seq (RC.block (RC.region (pn 3 rfl ?_)))))
   obtain ⟨hq122, h⟩ := h.req
   refine RL.s (Vl.indexAddr underlying49 sizeOf53 rfl rfl ((hr4.2.world hS.sub).adr hq122 hc112) hq122 hc112 rfl) rfl (RL.s (Vl.loadA isAgg53 sizeOf53 rfl rfl ((hr4.2.world hS.sub).cells hq122 hc112)) rfl ?_)
   obtain ⟨hf126, hs124, hS, hr123, hb125⟩ := St.lendSl hS
   obtain ⟨t127, hg128, h⟩ := h.bind
   have hc := isochronref02vInsert.ok hr123 hg128 hS
   refine RL.e (OW.callF (ls := [.tmp 11, .tmp 15]) rfl call66 hc) rfl rfl ?_
   rintro _ w ⟨A129, c130, rfl, hS⟩
   have hS := hb125 _ _ hS
   have hS : St B w (_ :: _ :: l) hf := hS
   refine pn 1 rfl (RL.nil (RQ.inB_n (RQ.then_n (RC.region (pn 3 rfl (RL.nil ?_))))))
   exact fun a ha => ⟨(t127, IntKind.i64.wrap (x85 + 1)), ⟨t127, (IntKind.i64.wrap (x85 + 1)), rfl, A129, c130, ha.to ⟨rfl, rfl, rfl, trivial⟩, hS.d0⟩, h.some⟩
  next =>
   refine RC.condF rfl (RC.exit (RQ.exitT ?_))
   have h := h.inrS
   refine RQ.exitT (RQ.inB_hit (tsr (pn 2 rfl (lr ?_))))
   obtain rfl := h.some
   exact rt results62 rfl ⟨A83, c84, rfl, hS⟩

/-! ### isochron/isochronref14.begin: function 39 -/
noncomputable def isochronref14vbegin.l4b (a1 : api_Model) : List api_World × Int → Option ((List api_World × Int) ⊕ (isochronref14vone))
  | (l828, x833) => (if x833 < (a1.Progs.length : Int) then ((isochronref13vWorld.f a1 x833).bind fun (y922, y923) => (if (l828.length + ([y922]).length) * 64 ≤ 140737488355328 then some (.inl ((l828 ++ ([y922])), IntKind.i64.wrap (x833 + 1))) else none)) else (Option.map Sum.inr ((isochronref13vStarts.f a1).bind fun t945 => ((isochronref02vSorted.f t945).bind fun t953 => some (⟨a1, l828, (List.replicate ((a1.Progs.length : Int) : Int).toNat (⟨(⟨0, 0, 0, 0, 0, 0, 0, 0⟩ : Arr8xInti64), 0, 0⟩ : api_State)), t953, []⟩ : isochronref14vone)))))
noncomputable def isochronref14vbegin.l4 (a1 : api_Model) (s : List api_World × Int) : Option (isochronref14vone) := loopR (isochronref14vbegin.l4b a1) s
noncomputable def isochronref14vbegin.f (a1 : api_Model) : Option (isochronref14vone) := (if 0 ≤ (a1.Progs.length : Int) ∧ (a1.Progs.length : Int) * 80 ≤ 140737488355328 then isochronref14vbegin.l4 a1 ([], 0) else none)
theorem isochronref14vbegin.ok {a1 : api_Model} {A2 : Option Addr} {c3 : Nat} {A5 : Option Addr} {c6 : Nat} {A8 : Option Addr} {c9 : Nat} (hr4 : SlR (Rep.sl E_api_Instr.rep) hf A2 c3 a1.Progs) (hr7 : SlR E_api_Link.rep hf A5 c6 a1.Links) (hr10 : SlR E_api_Start.rep hf A8 c9 a1.Starts) {r : isochronref14vone} (h : isochronref14vbegin.f a1 = some r) (hS : St B w (l) hf) :
    Calls prog 39 #[.agg #[.slice A2 a1.Progs.length c3, .slice A5 a1.Links.length c6, .slice A8 a1.Starts.length c9, .int .u64 a1.Seed, .int .i64 a1.End, .int .i64 a1.Budget]] w (Ret fun v w => ∃ hf_ : Hp, Sub hf hf_ ∧ ∃ (b_1 : Nat) (A_2 : Option Addr) (c_3 : Nat) (A_5 : Option Addr) (c_6 : Nat) (A_8 : Option Addr) (c_9 : Nat) (A_11 : Option Addr) (c_12 : Nat) (cs_13 : List Value) (A_15 : Option Addr) (c_16 : Nat) (A_17 : Option Addr) (c_18 : Nat), v = .pointer (some ⟨b_1, 0, none⟩) ∧ St B w (Cl b_1 [.slice A_2 r.m.Progs.length c_3, .slice A_5 r.m.Links.length c_6, .slice A_8 r.m.Starts.length c_9, .int .u64 r.m.Seed, .int .i64 r.m.End, .int .i64 r.m.Budget, .slice A_11 r.worlds.length c_12, .slice A_15 r.states.length c_16, .slice A_17 r.wait.length c_18, .slice none 0 0] 71 :: OSl 124 4 (.slice A_11 r.worlds.length c_12) r.worlds.length cs_13 :: OSf E_api_State 105 (.slice A_15 r.states.length c_16) r.states :: OSf E_api_Message 53 (.slice A_17 r.wait.length c_18) r.wait :: l) hf_ ∧ SlR (Rep.sl E_api_Instr.rep) hf_ A_2 c_3 r.m.Progs ∧ SlR E_api_Link.rep hf_ A_5 c_6 r.m.Links ∧ SlR E_api_Start.rep hf_ A_8 c_9 r.m.Starts ∧ RepL R_api_World hf_ cs_13 r.worlds) := by
  have h := Holds.of h
  refine en func39 rfl ntmps39 rfl (sr (bx hS rfl rfl rfl rfl fun b484 w hS => pn 1 rfl (ln (RC.seq (RC.planS (plD [1, 5, 8, 11, 14, 17, 20, 23]) [5, 6, 7] hS (fun w hS => hS) follows rfl (by kernel_rfl) (NoTmp.then NoTmp.body) fun w hS => RP.s 0 0 rfl rfl hS (fun w hS => Vl.lw 0 hS isAgg27 sizeOf27 rfl rfl rfl) rfl (RP.v1 1 rfl (Vl.fa 0 underlying27 rfl sizeOf22 rfl rfl) rfl rfl (RP.v1 2 rfl (Vl.ld 0 hS isAgg22 rfl rfl rfl) rfl rfl (RP.v1 3 rfl (Vl.lenSl underlying22 rfl) rfl rfl ?_))))))))
  obtain ⟨⟨hq485, hq486⟩, h⟩ := h.req
  refine RP.e 4 rfl (OW.makeN (E := E_api_State) (x0 := (⟨(⟨0, 0, 0, 0, 0, 0, 0, 0⟩ : Arr8xInti64), 0, 0⟩ : api_State)) hS underlying29 type105 rfl rfl rfl rfl (by decide) rfl rfl hq485 (by decide) hq486) rfl rfl ?_
  rintro _ w ⟨b487, rfl, hS⟩
  refine ⟨kp ⟨fun _ => hS.d0, trivial⟩, ?_⟩
  refine RP.v1 5 rfl (Vl.build (v := .agg #[.slice A2 a1.Progs.length c3, .slice A5 a1.Links.length c6, .slice A8 a1.Starts.length c9, .int .u64 a1.Seed, .int .i64 a1.End, .int .i64 a1.Budget, .slice none 0 0, .slice (some ⟨b487, 0, none⟩) (List.replicate ((a1.Progs.length : Int) : Int).toNat (⟨(⟨0, 0, 0, 0, 0, 0, 0, 0⟩ : Arr8xInti64), 0, 0⟩ : api_State)).length (((a1.Progs.length : Int) : Int).toNat), .slice none 0 0, .slice none 0 0]) (parts := [(0, .tmp 7), (2, .tmp 11)]) rfl (by kernel_rfl)) rfl rfl (RP.e 6 rfl (OW.box (cs := [.slice A2 a1.Progs.length c3, .slice A5 a1.Links.length c6, .slice A8 a1.Starts.length c9, .int .u64 a1.Seed, .int .i64 a1.End, .int .i64 a1.Budget, .slice none 0 0, .slice (some ⟨b487, 0, none⟩) (List.replicate ((a1.Progs.length : Int) : Int).toNat (⟨(⟨0, 0, 0, 0, 0, 0, 0, 0⟩ : Arr8xInti64), 0, 0⟩ : api_State)).length (((a1.Progs.length : Int) : Int).toNat), .slice none 0 0, .slice none 0 0]) hS rfl rfl) rfl rfl ?_)
  rintro _ w ⟨b488, rfl, hS⟩
  refine ⟨kp ⟨(by intro hx; cases hx), trivial⟩, ?_⟩
  refine RP.v1 7 rfl (Vl.assign rfl) rfl rfl (RP.nil (RQ.then_n (RC.seq (sr (pn 1 rfl (ln (RC.block ?_)))))))
  have hS := hS.nilSlR 124 4
  refine fun a ha => RC.loop (N := 44) (body := (isochronref14vbegin.l4b a1)) (φ := (· = r)) (fun (s : List api_World × Int) a w => ∃ (l828 : List api_World) (x833 : Int), s = (l828, x833) ∧ ∃ hf_ : Hp, Sub hf hf_ ∧ ∃ (A829 : Option Addr) (c830 : Nat) (cs831 : List Value), Has 44 [(1, .pointer (some ⟨b484, 0, none⟩)), (3, .pointer (some ⟨b488, 0, none⟩)), (4, .int .i64 x833)] a ∧ St B w (OSl 124 4 (.slice A829 l828.length c830) l828.length cs831 :: OSf E_api_State 105 (.slice (some ⟨b487, 0, none⟩) (List.replicate ((a1.Progs.length : Int) : Int).toNat (⟨(⟨0, 0, 0, 0, 0, 0, 0, 0⟩ : Arr8xInti64), 0, 0⟩ : api_State)).length (((a1.Progs.length : Int) : Int).toNat)) (List.replicate ((a1.Progs.length : Int) : Int).toNat (⟨(⟨0, 0, 0, 0, 0, 0, 0, 0⟩ : Arr8xInti64), 0, 0⟩ : api_State)) :: Cl b488 [.slice A2 a1.Progs.length c3, .slice A5 a1.Links.length c6, .slice A8 a1.Starts.length c9, .int .u64 a1.Seed, .int .i64 a1.End, .int .i64 a1.Budget, .slice A829 l828.length c830, .slice (some ⟨b487, 0, none⟩) (List.replicate ((a1.Progs.length : Int) : Int).toNat (⟨(⟨0, 0, 0, 0, 0, 0, 0, 0⟩ : Arr8xInti64), 0, 0⟩ : api_State)).length (((a1.Progs.length : Int) : Int).toNat), .slice none 0 0, .slice none 0 0] 71 :: Cl b484 [.slice A2 a1.Progs.length c3, .slice A5 a1.Links.length c6, .slice A8 a1.Starts.length c9, .int .u64 a1.Seed, .int .i64 a1.End, .int .i64 a1.Budget] 27 :: l) hf_ ∧ RepL R_api_World hf_ cs831 l828) ?_ (s0 := ([], 0)) h ⟨([]), 0, rfl, _, (Sub.refl _), none, 0, ([]), ha.to ⟨rfl, rfl, rfl, trivial⟩, hS.p2.p1, RepL.nil⟩
  rintro G892 _ a w ⟨l828, x833, rfl, hf, hs769, A829, c830, cs831, ha, hS, hx832⟩ h
  revert a
  show RC _ _ _ _ _ _
  refine RC.seq (sr (pn 1 rfl (RL.s (Vl.fa 0 underlying27 rfl sizeOf22 rfl rfl) rfl (RL.s (Vl.ld 3 hS isAgg22 rfl rfl rfl) rfl (RL.s (Vl.lenSl underlying22 rfl) rfl (pn 1 rfl (ln ?_)))))))
  refine RC.iteP 18 rfl h (fun hc894 h => ?_) fun hc894 h => ?_
  next =>
   refine RC.condT rfl (sk (RC.seq (RC.block (sr (RL.s (Vl.lw 3 hS isAgg27 sizeOf27 rfl rfl rfl) rfl (pn 1 rfl (cF (fun _ hg => isochronref13vWorld.ok (hr4.mono hs769) (hr7.mono hs769) (hr10.mono hs769) hg hS) call61 h rfl rfl rfl ?_)))))))
   rintro ⟨y922, y923⟩ h _ w ⟨A924, c925, A927, c928, rfl, hS, hr926⟩
   refine pn 3 rfl (al hS zeroValue124 rfl rfl rfl fun b929 w hS => RL.e0 (OW.store (vs := [.slice A924 y922.Prog.length c925, .int .i64 y922.Self, .slice A927 y922.Links.length c928, .int .u64 y922.Seed]) 0 hS rfl rfl rfl rfl sizeOf124 rfl rfl rfl rfl) rfl ?_)
   rintro _ w ⟨rfl, hS⟩
   have hS : St B w (Cl _ [_, _, _, _] _ :: _ :: _ :: _ :: _ :: _ :: l) hf := hS
   refine pn 1 rfl (ln (RC.planS (plD [0, 3, 6, 9, 13, 17, 20, 23, 26, 29, 32]) [7, 8, 9, 10] hS (fun w hS => hS.d1) follows rfl (by kernel_rfl) (NoTmp.block (NoTmp.then (NoTmp.then (NoTmp.block (NoTmp.then NoTmp.body))))) fun w hS => pp 3 rfl (RP.s0 3 rfl (fun w => Vl.fa 6 underlying71 rfl sizeOf60 rfl rfl) rfl (RP.s 0 4 rfl rfl hS.d1 (fun w hS => Vl.ld 3 hS isAgg60 rfl rfl rfl) rfl (RP.v1 5 rfl (Vl.lw 0 hS isAgg124 sizeOf124 rfl rfl rfl) rfl rfl ?_)))))
   obtain ⟨hf, hs934, hS, hr935⟩ := St.promote hS.p1
   have hx937 : RepL R_api_World hf [.slice A924 y922.Prog.length c925, .int .i64 y922.Self, .slice A927 y922.Links.length c928, .int .u64 y922.Seed] [y922] := (RepL.cons (c := [.slice A924 y922.Prog.length c925, .int .i64 y922.Self, .slice A927 y922.Links.length c928, .int .u64 y922.Seed]) (r := []) ⟨_, _, _, _, rfl, (hr926.mono hs934), hr935⟩ RepL.nil)
   refine RP.e 6 rfl (OW.buildSliceR (sz := 4) (cs := [.slice A924 y922.Prog.length c925, .int .i64 y922.Self, .slice A927 y922.Links.length c928, .int .u64 y922.Seed]) hS underlying60 zeroValue124 sizeOf124 (parts := [(0, .tmp 32)]) rfl rfl (by decide) (by decide) (by kernel_rfl)) rfl rfl ?_
   rintro _ w ⟨b936, rfl, hS⟩
   refine ⟨kp ⟨fun _ => (St.down hS.d0 hs934), trivial⟩, ?_⟩
   obtain ⟨hq940, h⟩ := h.req
   obtain ⟨hf, hs938, hS, hr939⟩ := St.promoteR R_api_World_ok hS rfl hx937
   refine RP.e 7 rfl (OW.appendR (R := R_api_World) R_api_World_ok (xs := l828) (ys := [y922]) 1 hS rfl underlying60 type124 rfl rfl rfl rfl (by decide) (by decide) ((hx832.mono hs934).mono hs938) rfl rfl hr939 hq940 rfl) rfl rfl ?_
   rintro _ w ⟨cs943, hx944, hS⟩
   obtain ⟨A941, c942, rfl, _⟩ := hS.osShape 0 rfl
   have hS : St B w (_ :: _ :: _ :: _ :: _ :: l) hf := hS
   refine ⟨kp ⟨(by intro hx; cases hx), trivial⟩, ?_⟩
   refine RP.v1 8 rfl (Vl.nilCheck rfl) rfl rfl (RP.v1 9 rfl (Vl.fa 6 underlying71 rfl sizeOf60 rfl rfl) rfl rfl (RP.e0 10 rfl (OW.store (vs := [.slice A941 (l828 ++ ([y922])).length c942]) 3 hS rfl rfl rfl rfl sizeOf60 rfl rfl rfl rfl) rfl ?_))
   rintro _ w ⟨rfl, hS⟩
   have hS : St B w (_ :: _ :: _ :: Cl _ [_, _, _, _, _, _, _, _, _, _] _ :: _ :: l) hf := hS
   refine ⟨kp ⟨(by intro hx; cases hx), trivial⟩, ?_⟩
   refine RP.nil (RQ.inB_n (RQ.then_n (RC.region (pn 3 rfl (RL.nil ?_)))))
   exact fun a ha => ⟨((l828 ++ ([y922])), IntKind.i64.wrap (x833 + 1)), ⟨(l828 ++ ([y922])), (IntKind.i64.wrap (x833 + 1)), rfl, _, ((hs769.trans hs934).trans hs938), A941, c942, cs943, ha.to ⟨rfl, rfl, rfl, trivial⟩, hS.d1, hx944⟩, h.some⟩
  next =>
   refine RC.condF rfl (RC.exit (RQ.exitT ?_))
   have h := h.inr
   refine RQ.exitT (RQ.inB_hit (tsr (pn 1 rfl (RL.s (Vl.lw 3 hS isAgg27 sizeOf27 rfl rfl rfl) rfl (cF (fun _ hg => isochronref13vStarts.ok (hr4.mono hs769) (hr7.mono hs769) (hr10.mono hs769) hg hS) call63 h rfl rfl rfl ?_)))))
   rintro t945 h _ w ⟨A947, c948, rfl, hS⟩
   obtain ⟨hf952, hs950, hS, hr949, hb951⟩ := St.lendSl hS
   obtain ⟨t953, hg954, h⟩ := h.bind
   have hc := isochronref02vSorted.ok hr949 hg954 hS
   refine RL.e (OW.callF (ls := [.tmp 39]) rfl call62 hc) rfl rfl ?_
   rintro _ w ⟨A955, c956, rfl, hS⟩
   have hS := hb951 _ _ hS
   have hS : St B w (_ :: _ :: _ :: _ :: _ :: _ :: l) hf := hS
   refine pn 1 rfl (RL.s (Vl.fa 8 underlying71 rfl sizeOf49 rfl rfl) rfl (RL.e0 (OW.store (vs := [.slice A955 t953.length c956]) 4 hS rfl rfl rfl rfl sizeOf49 rfl rfl rfl rfl) rfl ?_))
   rintro _ w ⟨rfl, hS⟩
   have hS : St B w (_ :: _ :: _ :: _ :: Cl _ [_, _, _, _, _, _, _, _, _, _] _ :: _ :: l) hf := hS
   refine lnsr (pn 2 rfl (lr ?_))
   obtain rfl := h.some
   exact rt results39 rfl ⟨_, hs769, b488, A2, c3, A5, c6, A8, c9, A829, c830, cs831, (some ⟨b487, 0, none⟩), (((a1.Progs.length : Int) : Int).toNat), A955, c956, rfl, hS.d0.d4.p2.p2.p3, (hr4.mono hs769), (hr7.mono hs769), (hr10.mono hs769), hx832⟩

/-! ### isochron/isochronref05.Check: function 80 -/
noncomputable def isochronref05vCheck.l2b (a1 : api_World) : Int → Option ((Int) ⊕ (Int))
  | (x87) => (if x87 < (a1.Links.length : Int) then (if 0 ≤ x87 then (if (nth a1.Links x87).To < 0 then some (.inr 1) else (if 16 ≤ (nth a1.Links x87).To then some (.inr 1) else (if (nth a1.Links x87).Look < 1 then some (.inr 1) else (if 4611686018427387903 < (nth a1.Links x87).Look then some (.inr 1) else some (.inl (IntKind.i64.wrap (x87 + 1))))))) else none) else some (.inr 0))
noncomputable def isochronref05vCheck.l2 (a1 : api_World) (s : Int) : Option (Int) := loopR (isochronref05vCheck.l2b a1) s
noncomputable def isochronref05vCheck.f (a1 : api_World) : Option (Int) := ((isochronref03vCheck.f a1.Prog).bind fun t64 => (if t64 = 0 then (if a1.Self < 0 then some 1 else (if 16 ≤ a1.Self then some 1 else (if 1024 < (a1.Links.length : Int) then some 1 else isochronref05vCheck.l2 a1 (0)))) else some t64))
theorem isochronref05vCheck.ok {a1 : api_World} {A2 : Option Addr} {c3 : Nat} {A5 : Option Addr} {c6 : Nat} (hr4 : SlR E_api_Instr.rep hf A2 c3 a1.Prog) (hr7 : SlR E_api_Link.rep hf A5 c6 a1.Links) {r : Int} (h : isochronref05vCheck.f a1 = some r) (hS : St B w (l) hf) :
    Calls prog 80 #[.agg #[.slice A2 a1.Prog.length c3, .int .i64 a1.Self, .slice A5 a1.Links.length c6, .int .u64 a1.Seed]] w (Ret fun v w => v = .int .i64 r ∧ St B w (l) hf) := by
  have h := Holds.of h
  refine en func80 rfl ntmps80 rfl (sr (bx hS rfl rfl rfl rfl fun b63 w hS => pn 1 rfl (lnsr (RL.s (Vl.fa 0 underlying124 rfl sizeOf100 rfl rfl) rfl (RL.s (Vl.ld 0 hS isAgg100 rfl rfl rfl) rfl (cF (fun _ hg => isochronref03vCheck.ok hr4 hg hS) call37 h rfl rfl rfl ?_))))))
  rintro t64 h _ w ⟨rfl, hS⟩
  refine pn 1 rfl (ln (RC.seq (sr (pn 2 rfl (ln ?_)))))
  refine RC.iteN 10 rfl h (fun hc67 h => ?_) fun hc67 h => ?_
  next =>
   refine RC.condF rfl (sk (RC.seq (sr (RL.s (Vl.fa 1 underlying124 rfl sizeOf3 rfl rfl) rfl (RL.s (Vl.ld 0 hS isAgg3 rfl rfl rfl) rfl (pn 2 rfl ?_))))))
   refine RL.iteP 15 rfl h (fun hc71 h => ?_) fun hc71 h => ?_
   next =>
    refine pn 10 rfl (ln (RC.condT rfl (sr (pn 1 rfl (lr (RQ.ret ?_))))))
    obtain rfl := h.some
    exact rt results80 rfl ⟨rfl, hS.d0⟩
   next =>
    refine RL.sg (Vl.fa 1 underlying124 rfl sizeOf3 rfl rfl) rfl rfl (RL.sg (Vl.ld 0 hS isAgg3 rfl rfl rfl) rfl rfl (pn 3 rfl ?_))
    refine RL.iteP 20 rfl h (fun hc72 h => ?_) fun hc72 h => ?_
    next =>
     refine pn 5 rfl (ln (RC.condT rfl (sr (pn 1 rfl (lr (RQ.ret ?_))))))
     obtain rfl := h.some
     exact rt results80 rfl ⟨rfl, hS.d0⟩
    next =>
     refine RL.sg (Vl.fa 2 underlying124 rfl sizeOf23 rfl rfl) rfl rfl (RL.sg (Vl.ld 0 hS isAgg23 rfl rfl rfl) rfl rfl (RL.sg (Vl.lenSl underlying23 rfl) rfl rfl (pn 2 rfl (ln ?_))))
     refine RC.iteP 25 rfl h (fun hc73 h => ?_) fun hc73 h => ?_
     next =>
      refine RC.condT rfl (sr (pn 1 rfl (lr (RQ.ret ?_))))
      obtain rfl := h.some
      exact rt results80 rfl ⟨rfl, hS.d0⟩
     next =>
      refine RC.condF rfl (sk (RC.seq (sr (pn 1 rfl (ln (RC.block ?_))))))
      refine fun a ha => RC.loop (N := 56) (body := (isochronref05vCheck.l2b a1)) (φ := (· = r)) (fun (s : Int) a w => ∃ (x87 : Int), s = (x87) ∧ Has 56 [(1, .pointer (some ⟨b63, 0, none⟩)), (4, .int .i64 x87)] a ∧ St B w (Cl b63 [.slice A2 a1.Prog.length c3, .int .i64 a1.Self, .slice A5 a1.Links.length c6, .int .u64 a1.Seed] 124 :: l) hf) ?_ (s0 := (0)) h ⟨0, rfl, ha.to ⟨rfl, rfl, trivial⟩, hS⟩
      rintro G103 x87 a w ⟨_, rfl, ha, hS⟩ h
      revert a
      show RC _ _ _ _ _ _
      refine RC.seq (sr (pn 1 rfl (RL.s (Vl.fa 2 underlying124 rfl sizeOf23 rfl rfl) rfl (RL.s (Vl.ld 0 hS isAgg23 rfl rfl rfl) rfl (RL.s (Vl.lenSl underlying23 rfl) rfl (pn 1 rfl (ln ?_)))))))
      refine RC.iteP 30 rfl h (fun hc105 h => ?_) fun hc105 h => ?_
      next =>
       refine RC.condT rfl (sk (RC.seq (RC.block (sr (RL.s (Vl.fa 2 underlying124 rfl sizeOf23 rfl rfl) rfl (RL.s (Vl.ld 0 hS isAgg23 rfl rfl rfl) rfl (pn 1 rfl ?_)))))))
       obtain ⟨hq112, h⟩ := h.req
       refine RL.s (Vl.indexAddr underlying23 sizeOf136 rfl rfl ((hr7.2.world hS.sub).adr hq112 hc105) hq112 hc105 rfl) rfl (RL.s (Vl.loadA isAgg136 sizeOf136 rfl rfl ((hr7.2.world hS.sub).cells hq112 hc105)) rfl (al hS zeroValue136 rfl rfl rfl fun b113 w hS => RL.e0 (OW.store (vs := [.int .i64 ((nth a1.Links x87).From), .int .i64 ((nth a1.Links x87).To), .int .i64 ((nth a1.Links x87).Look), .bool ((nth a1.Links x87).Loose)]) 0 hS rfl rfl rfl rfl sizeOf136 rfl rfl rfl rfl) rfl ?_))
       rintro _ w ⟨rfl, hS⟩
       have hS : St B w (Cl _ [_, _, _, _] _ :: _ :: l) hf := hS
       refine lnsr (RL.s (Vl.fa 1 underlying136 rfl sizeOf3 rfl rfl) rfl (RL.s (Vl.ld 0 hS isAgg3 rfl rfl rfl) rfl (pn 2 rfl ?_)))
       refine RL.iteP 41 rfl h (fun hc114 h => ?_) fun hc114 h => ?_
       next =>
        refine pn 14 rfl (ln (RC.condT rfl (sr (pn 1 rfl (lr (RQ.inB_ret (RQ.ret ?_)))))))
        have h := h.inrS
        refine RQ.ret (RQ.inB_ret (RQ.ret ?_))
        obtain rfl := h.some
        exact rt results80 rfl ⟨rfl, hS.d0.d0⟩
       next =>
        refine RL.sg (Vl.fa 1 underlying136 rfl sizeOf3 rfl rfl) rfl rfl (RL.sg (Vl.ld 0 hS isAgg3 rfl rfl rfl) rfl rfl (pn 3 rfl ?_))
        refine RL.iteP 46 rfl h (fun hc115 h => ?_) fun hc115 h => ?_
        next =>
         refine pn 9 rfl (ln (RC.condT rfl (sr (pn 1 rfl (lr (RQ.inB_ret (RQ.ret ?_)))))))
         have h := h.inrS
         refine RQ.ret (RQ.inB_ret (RQ.ret ?_))
         obtain rfl := h.some
         exact rt results80 rfl ⟨rfl, hS.d0.d0⟩
        next =>
         refine RL.sg (Vl.fa 2 underlying136 rfl sizeOf2 rfl rfl) rfl rfl (RL.sg (Vl.ld 0 hS isAgg2 rfl rfl rfl) rfl rfl (pn 3 rfl ?_))
         refine RL.iteP 51 rfl h (fun hc116 h => ?_) fun hc116 h => ?_
         next =>
          refine pn 4 rfl (ln (RC.condT rfl (sr (pn 1 rfl (lr (RQ.inB_ret (RQ.ret ?_)))))))
          have h := h.inrS
          refine RQ.ret (RQ.inB_ret (RQ.ret ?_))
          obtain rfl := h.some
          exact rt results80 rfl ⟨rfl, hS.d0.d0⟩
         next =>
          refine RL.sg (Vl.fa 2 underlying136 rfl sizeOf2 rfl rfl) rfl rfl (RL.sg (Vl.ld 0 hS isAgg2 rfl rfl rfl) rfl rfl (pn 2 rfl (ln ?_)))
          refine RC.iteP 55 rfl h (fun hc117 h => ?_) fun hc117 h => ?_
          next =>
           refine RC.condT rfl (sr (pn 1 rfl (lr (RQ.inB_ret (RQ.ret ?_)))))
           have h := h.inrS
           refine RQ.ret (RQ.inB_ret (RQ.ret ?_))
           obtain rfl := h.some
           exact rt results80 rfl ⟨rfl, hS.d0.d0⟩
          next =>
           refine RC.condF rfl (RC.skip (RQ.inB_n (RQ.then_n (RC.region (pn 3 rfl (RL.nil ?_))))))
           exact fun a ha => ⟨(IntKind.i64.wrap (x87 + 1)), ⟨(IntKind.i64.wrap (x87 + 1)), rfl, ha.to ⟨rfl, rfl, trivial⟩, hS.d0⟩, h.some⟩
      next =>
       refine RC.condF rfl (RC.exit (RQ.exitT ?_))
       have h := h.inrS
       refine RQ.exitT (RQ.inB_hit (tsr (pn 1 rfl (lr ?_))))
       obtain rfl := h.some
       exact rt results80 rfl ⟨rfl, hS.d0⟩
  next =>
   refine RC.condT rfl (sr (pn 2 rfl (lr (RQ.ret ?_))))
   obtain rfl := h.some
   exact rt results80 rfl ⟨rfl, hS.d0⟩

/-! ### isochron/isochronref02.Check: function 81 -/
noncomputable def isochronref02vCheck.f (a1 : api_Message) : Option (Int) := ((isochronref01vValid.f a1.Key.Time).bind fun t13 => (if t13 = true then (if a1.Key.From < (-1) then some 1 else (if 16 ≤ a1.Key.From then some 1 else (if a1.Key.Seq < 0 then some 1 else (if a1.Uid < 0 then some 1 else (if a1.To < 0 then some 1 else (if 16 ≤ a1.To then some 1 else some 0)))))) else some 1))
theorem isochronref02vCheck.ok {a1 : api_Message} {r : Int} (h : isochronref02vCheck.f a1 = some r) (hS : St B w (l) hf) :
    Calls prog 81 #[.agg #[.int .i64 a1.Key.Time, .int .i64 a1.Key.From, .int .i64 a1.Key.Seq, .int .i64 a1.To, .int .i64 a1.Value, .int .i64 a1.Uid, .bool a1.Anti]] w (Ret fun v w => v = .int .i64 r ∧ St B w (l) hf) := by
  have h := Holds.of h
  refine en func81 rfl ntmps81 rfl (sr (bx hS rfl rfl rfl rfl fun b12 w hS => pn 1 rfl (ln (RC.seq (sr (RL.s (Vl.fa 0 underlying53 rfl sizeOf42 rfl rfl) rfl (RL.s (Vl.fa 0 underlying42 rfl sizeOf2 rfl rfl) rfl (RL.s (Vl.ld 0 hS isAgg2 rfl rfl rfl) rfl (cF (fun _ hg => isochronref01vValid.ok hg hS) call36 h rfl rfl rfl ?_)))))))))
  rintro t13 h _ w ⟨rfl, hS⟩
  refine pn 2 rfl ?_
  refine RL.iteM 8 rfl h (fun hc15 h => ?_) fun hc15 h => ?_
  next =>
   refine RL.sg (Vl.fa 0 underlying53 rfl sizeOf42 rfl rfl) rfl rfl (RL.sg (Vl.fa 1 underlying42 rfl sizeOf3 rfl rfl) rfl rfl (RL.sg (Vl.ld 0 hS isAgg3 rfl rfl rfl) rfl rfl (pn 3 rfl ?_)))
   refine RL.iteP 14 rfl h (fun hc16 h => ?_) fun hc16 h => ?_
   next =>
    refine pn 26 rfl (ln (RC.condT rfl (sr (pn 1 rfl (lr (RQ.ret ?_))))))
    obtain rfl := h.some
    exact rt results81 rfl ⟨rfl, hS.d0⟩
   next =>
    refine RL.sg (Vl.fa 0 underlying53 rfl sizeOf42 rfl rfl) rfl rfl (RL.sg (Vl.fa 1 underlying42 rfl sizeOf3 rfl rfl) rfl rfl (RL.sg (Vl.ld 0 hS isAgg3 rfl rfl rfl) rfl rfl (pn 3 rfl ?_)))
    refine RL.iteP 20 rfl h (fun hc17 h => ?_) fun hc17 h => ?_
    next =>
     refine pn 20 rfl (ln (RC.condT rfl (sr (pn 1 rfl (lr (RQ.ret ?_))))))
     obtain rfl := h.some
     exact rt results81 rfl ⟨rfl, hS.d0⟩
    next =>
     refine RL.sg (Vl.fa 0 underlying53 rfl sizeOf42 rfl rfl) rfl rfl (RL.sg (Vl.fa 2 underlying42 rfl sizeOf3 rfl rfl) rfl rfl (RL.sg (Vl.ld 0 hS isAgg3 rfl rfl rfl) rfl rfl (pn 3 rfl ?_)))
     refine RL.iteP 26 rfl h (fun hc18 h => ?_) fun hc18 h => ?_
     next =>
      refine pn 14 rfl (ln (RC.condT rfl (sr (pn 1 rfl (lr (RQ.ret ?_))))))
      obtain rfl := h.some
      exact rt results81 rfl ⟨rfl, hS.d0⟩
     next =>
      refine RL.sg (Vl.fa 5 underlying53 rfl sizeOf3 rfl rfl) rfl rfl (RL.sg (Vl.ld 0 hS isAgg3 rfl rfl rfl) rfl rfl (pn 3 rfl ?_))
      refine RL.iteP 31 rfl h (fun hc19 h => ?_) fun hc19 h => ?_
      next =>
       refine pn 9 rfl (ln (RC.condT rfl (sr (pn 1 rfl (lr (RQ.ret ?_))))))
       obtain rfl := h.some
       exact rt results81 rfl ⟨rfl, hS.d0⟩
      next =>
       refine RL.sg (Vl.fa 3 underlying53 rfl sizeOf3 rfl rfl) rfl rfl (RL.sg (Vl.ld 0 hS isAgg3 rfl rfl rfl) rfl rfl (pn 3 rfl ?_))
       refine RL.iteP 36 rfl h (fun hc20 h => ?_) fun hc20 h => ?_
       next =>
        refine pn 4 rfl (ln (RC.condT rfl (sr (pn 1 rfl (lr (RQ.ret ?_))))))
        obtain rfl := h.some
        exact rt results81 rfl ⟨rfl, hS.d0⟩
       next =>
        refine RL.sg (Vl.fa 3 underlying53 rfl sizeOf3 rfl rfl) rfl rfl (RL.sg (Vl.ld 0 hS isAgg3 rfl rfl rfl) rfl rfl (pn 2 rfl (ln ?_)))
        refine RC.iteP 40 rfl h (fun hc21 h => ?_) fun hc21 h => ?_
        next =>
         refine RC.condT rfl (sr (pn 1 rfl (lr (RQ.ret ?_))))
         obtain rfl := h.some
         exact rt results81 rfl ⟨rfl, hS.d0⟩
        next =>
         refine RC.condF rfl (sk (sr (pn 1 rfl (lr ?_))))
         obtain rfl := h.some
         exact rt results81 rfl ⟨rfl, hS.d0⟩
  next =>
   refine pn 32 rfl (ln (RC.condT rfl (sr (pn 1 rfl (lr (RQ.ret ?_))))))
   obtain rfl := h.some
   exact rt results81 rfl ⟨rfl, hS.d0⟩

/-! ### isochron/isochronref05.State: function 82 -/
noncomputable def isochronref05vState.f (a1 : api_State) : Option (Bool) := (if 0 ≤ a1.Draws then (if a1.Draws ≤ 1125899906842624 then (if 0 ≤ a1.Sent then some (decide (a1.Sent ≤ 1125899906842624)) else some false) else some false) else some false)
theorem isochronref05vState.ok {a1 : api_State} {r : Bool} (h : isochronref05vState.f a1 = some r) (hS : St B w (l) hf) :
    Calls prog 82 #[.agg #[.int .i64 a1.Regs.c0, .int .i64 a1.Regs.c1, .int .i64 a1.Regs.c2, .int .i64 a1.Regs.c3, .int .i64 a1.Regs.c4, .int .i64 a1.Regs.c5, .int .i64 a1.Regs.c6, .int .i64 a1.Regs.c7, .int .i64 a1.Draws, .int .i64 a1.Sent]] w (Ret fun v w => v = .bool r ∧ St B w (l) hf) := by
  have h := Holds.of h
  refine en func82 rfl ntmps82 rfl (sr (bx hS rfl rfl rfl rfl fun b6 w hS => pn 1 rfl (lnsr (RL.s (Vl.fa 8 underlying105 rfl sizeOf3 rfl rfl) rfl (RL.s (Vl.ld 0 hS isAgg3 rfl rfl rfl) rfl (pn 2 rfl ?_))))))
  refine RL.iteP 6 rfl h (fun hc7 h => ?_) fun hc7 h => ?_
  next =>
   refine RL.sg (Vl.fa 8 underlying105 rfl sizeOf3 rfl rfl) rfl rfl (RL.sg (Vl.ld 0 hS isAgg3 rfl rfl rfl) rfl rfl (pn 3 rfl ?_))
   refine RL.iteP 11 rfl h (fun hc8 h => ?_) fun hc8 h => ?_
   next =>
    refine RL.sg (Vl.fa 9 underlying105 rfl sizeOf3 rfl rfl) rfl rfl (RL.sg (Vl.ld 0 hS isAgg3 rfl rfl rfl) rfl rfl (pn 3 rfl ?_))
    refine RL.iteP 16 rfl h (fun hc9 h => ?_) fun hc9 h => ?_
    next =>
     refine RL.sg (Vl.fa 9 underlying105 rfl sizeOf3 rfl rfl) rfl rfl (RL.sg (Vl.ld 0 hS isAgg3 rfl rfl rfl) rfl rfl (pn 3 rfl (lr ?_)))
     obtain rfl := h.some
     exact rt results82 rfl ⟨rfl, hS.d0⟩
    next =>
     refine pn 5 rfl (lr ?_)
     obtain rfl := h.some
     exact rt results82 rfl ⟨rfl, hS.d0⟩
   next =>
    refine pn 10 rfl (lr ?_)
    obtain rfl := h.some
    exact rt results82 rfl ⟨rfl, hS.d0⟩
  next =>
   refine pn 15 rfl (lr ?_)
   obtain rfl := h.some
   exact rt results82 rfl ⟨rfl, hS.d0⟩

/-! ### (*isochron/isochronref05.run).send: function 94 -/
noncomputable def isochronref05vrun_send.j2 (a7 : List api_Link) (a12 : Int) (fn21 : (Nat → Int)) (a25 : List api_Out) (a27 : api_Instr) (x65 : Int) : Option (Int × List api_Out) := (if 0 ≤ a27.B ∧ a27.B < 16 then (if 0 ≤ x65 ∧ x65 < (a7.length : Int) then (if fn21 (a27.B.toNat * 1) < (nth a7 x65).Look then some (50, a25) else (if IntKind.i64.wrap (4611686018427387903 - a12) < fn21 (a27.B.toNat * 1) then some (10, a25) else (if 0 ≤ a27.C ∧ a27.C < 16 then (if (a25.length + 1) * 24 ≤ 140737488355328 then some (0, (a25 ++ ([(⟨x65, fn21 (a27.B.toNat * 1), fn21 (a27.C.toNat * 1)⟩ : api_Out)]))) else none) else none))) else none) else none)
noncomputable def isochronref05vrun_send.f (a2 : List api_Instr) (a6 : Int) (a7 : List api_Link) (a11 a12 a13 a14 a15 a16 a17 : Int) (a18 : Bool) (fn21 : (Nat → Int)) (a22 : Int) (a25 : List api_Out) (a26 : Int) (a27 : api_Instr) : Option (Int × List api_Out) := (if (a7.length : Int) = 0 then some (0, a25) else (if 8 ≤ (a25.length : Int) then some (0, a25) else (if 0 ≤ a27.A ∧ a27.A < 16 then (if ¬ (a7.length : Int) = 0 then (if Int.tmod (fn21 (a27.A.toNat * 1)) (a7.length : Int) < 0 then isochronref05vrun_send.j2 a7 a12 fn21 a25 a27 (IntKind.i64.wrap ((Int.tmod (fn21 (a27.A.toNat * 1)) (a7.length : Int)) + (a7.length : Int))) else isochronref05vrun_send.j2 a7 a12 fn21 a25 a27 (Int.tmod (fn21 (a27.A.toNat * 1)) (a7.length : Int))) else none) else none)))
theorem isochronref05vrun_send.ok {a2 : List api_Instr} {a6 : Int} {a7 : List api_Link} {a11 a12 a13 a14 a15 a16 a17 : Int} {a18 : Bool} {fn21 : (Nat → Int)} {a22 : Int} {a25 : List api_Out} {a26 : Int} {a27 : api_Instr} {b1 : Nat} {A3 : Option Addr} {c4 : Nat} {A8 : Option Addr} {c9 : Nat} {A19 : Option Addr} {c20 : Nat} {A23 : Option Addr} {c24 : Nat} (hr5 : SlR E_api_Instr.rep hf A3 c4 a2) (hr10 : SlR E_api_Link.rep hf A8 c9 a7) {r : Int × List api_Out} (h : isochronref05vrun_send.f a2 a6 a7 a11 a12 a13 a14 a15 a16 a17 a18 fn21 a22 a25 a26 a27 = some r) (hS : St B w (OSl 2 1 (.slice A19 16 c20) 16 [.int .i64 (fn21 0), .int .i64 (fn21 1), .int .i64 (fn21 2), .int .i64 (fn21 3), .int .i64 (fn21 4), .int .i64 (fn21 5), .int .i64 (fn21 6), .int .i64 (fn21 7), .int .i64 (fn21 8), .int .i64 (fn21 9), .int .i64 (fn21 10), .int .i64 (fn21 11), .int .i64 (fn21 12), .int .i64 (fn21 13), .int .i64 (fn21 14), .int .i64 (fn21 15)] :: Cl b1 [.slice A3 a2.length c4, .int .i64 a6, .slice A8 a7.length c9, .int .u64 a11, .int .i64 a12, .int .i64 a13, .int .i64 a14, .int .i64 a15, .int .i64 a16, .int .i64 a17, .bool a18, .slice A19 16 c20, .int .i64 a22, .slice A23 a25.length c24, .int .i64 a26] 182 :: OSf E_api_Out 176 (.slice A23 a25.length c24) a25 :: l) hf) :
    Calls prog 94 #[.pointer (some ⟨b1, 0, none⟩), .agg #[.int .i64 a27.Op, .int .i64 a27.A, .int .i64 a27.B, .int .i64 a27.C]] w (Ret fun v w => ∃ (A_1 : Option Addr) (c_2 : Nat), v = .int .i64 r.1 ∧ St B w (OSf E_api_Out 176 (.slice A_1 r.2.length c_2) r.2 :: OSl 2 1 (.slice A19 16 c20) 16 [.int .i64 (fn21 0), .int .i64 (fn21 1), .int .i64 (fn21 2), .int .i64 (fn21 3), .int .i64 (fn21 4), .int .i64 (fn21 5), .int .i64 (fn21 6), .int .i64 (fn21 7), .int .i64 (fn21 8), .int .i64 (fn21 9), .int .i64 (fn21 10), .int .i64 (fn21 11), .int .i64 (fn21 12), .int .i64 (fn21 13), .int .i64 (fn21 14), .int .i64 (fn21 15)] :: Cl b1 [.slice A3 a2.length c4, .int .i64 a6, .slice A8 a7.length c9, .int .u64 a11, .int .i64 a12, .int .i64 a13, .int .i64 a14, .int .i64 a15, .int .i64 a16, .int .i64 a17, .bool a18, .slice A19 16 c20, .int .i64 a22, .slice A_1 r.2.length c_2, .int .i64 a26] 182 :: l) hf) := by
  have h := Holds.of h
  refine en func94 rfl ntmps94 rfl (sr (bx hS rfl rfl rfl rfl fun b56 w hS => pn 1 rfl (lnsr (pn 2 rfl (RL.s (Vl.fa 0 underlying182 rfl sizeOf124 rfl rfl) rfl (RL.s (Vl.fa 2 underlying124 rfl sizeOf23 rfl rfl) rfl (RL.s (Vl.ld 2 hS isAgg23 rfl rfl rfl) rfl (RL.s (Vl.lenSl underlying23 rfl) rfl (pn 1 rfl (RL.nil ?_))))))))))
  refine RQ.then_n (RC.seq (sr (pn 3 rfl ?_)))
  refine RL.iteP 16 rfl h (fun hc59 h => ?_) fun hc59 h => ?_
  next =>
   refine pn 7 rfl (ln (RC.condT rfl (sr (pn 1 rfl (lr (RQ.ret ?_))))))
   obtain rfl := h.some
   exact rt results94 rfl ⟨A23, c24, rfl, hS.d0.p2⟩
  next =>
   refine pn 2 rfl (RL.sg (Vl.fa 13 underlying182 rfl sizeOf128 rfl rfl) rfl rfl (RL.sg (Vl.ld 2 hS isAgg128 rfl rfl rfl) rfl rfl (RL.sg (Vl.lenSl underlying128 rfl) rfl rfl (pn 2 rfl (ln ?_)))))
   refine RC.iteP 23 rfl h (fun hc60 h => ?_) fun hc60 h => ?_
   next =>
    refine RC.condT rfl (sr (pn 1 rfl (lr (RQ.ret ?_))))
    obtain rfl := h.some
    exact rt results94 rfl ⟨A23, c24, rfl, hS.d0.p2⟩
   next =>
    refine RC.condF rfl (sk (RC.seq (RC.planS (plD [0, 3, 6, 10, 12, 16, 19, 22, 26, 29, 32]) [9, 10] hS (fun w hS => hS) follows rfl (by kernel_rfl) (NoTmp.then NoTmp.body) fun w hS => pp 2 rfl (RP.s0 2 rfl (fun w => Vl.fa 11 underlying182 rfl sizeOf171 rfl rfl) rfl (RP.s 0 3 rfl rfl hS (fun w hS => Vl.ld 2 hS isAgg171 rfl rfl rfl) rfl (RP.s0 4 rfl (fun w => Vl.fa 1 underlying134 rfl sizeOf3 rfl rfl) rfl (RP.s 0 5 rfl rfl hS (fun w hS => Vl.ld 0 hS isAgg3 rfl rfl rfl) rfl ?_)))))))
    obtain ⟨⟨hq61, hq62⟩, h⟩ := h.req
    refine RP.s 0 6 rfl rfl hS (fun w hS => Vl.indexAddr (a'' := (ad A19).add (a27.A.toNat * 1)) underlying171 sizeOf2 rfl rfl (hS.litAdr 1 rfl (by decide)) hq61 hq62 rfl) rfl (RP.s 0 7 rfl rfl hS (fun w hS => Vl.load isAgg2 rfl (hS.litCell (j := a27.A.toNat * 1) (cs := fc (Value.int .i64) 16 fn21) 1 rfl (fc_get (by omega)))) rfl (RP.v1 8 rfl (Vl.move rfl) rfl rfl ?_))
    obtain ⟨hq63, h⟩ := h.req
    refine RP.v1 9 rfl (Vl.rem rfl rfl hq63) rfl rfl (RP.v1 10 rfl (Vl.assign rfl) rfl rfl (RP.nil (RQ.then_n ?_)))
    refine RC.join (fun (s : Int) a w => ∃ (x65 : Int), s = (x65) ∧ Has 87 [(0, .pointer (some ⟨b1, 0, none⟩)), (3, .pointer (some ⟨b56, 0, none⟩)), (6, .int .i64 x65)] a ∧ St B w (OSf E_api_Out 176 (.slice A23 a25.length c24) a25 :: Cl b56 [.int .i64 a27.Op, .int .i64 a27.A, .int .i64 a27.B, .int .i64 a27.C] 134 :: OSl 2 1 (.slice A19 16 c20) 16 [.int .i64 (fn21 0), .int .i64 (fn21 1), .int .i64 (fn21 2), .int .i64 (fn21 3), .int .i64 (fn21 4), .int .i64 (fn21 5), .int .i64 (fn21 6), .int .i64 (fn21 7), .int .i64 (fn21 8), .int .i64 (fn21 9), .int .i64 (fn21 10), .int .i64 (fn21 11), .int .i64 (fn21 12), .int .i64 (fn21 13), .int .i64 (fn21 14), .int .i64 (fn21 15)] :: Cl b1 [.slice A3 a2.length c4, .int .i64 a6, .slice A8 a7.length c9, .int .u64 a11, .int .i64 a12, .int .i64 a13, .int .i64 a14, .int .i64 a15, .int .i64 a16, .int .i64 a17, .bool a18, .slice A19 16 c20, .int .i64 a22, .slice A23 a25.length c24, .int .i64 a26] 182 :: l) hf ∧ Holds (· = r) (isochronref05vrun_send.j2 a7 a12 fn21 a25 a27 x65)) ?_ ?_
    · rintro x65 a w ⟨_, rfl, ha, hS, h⟩
      revert a
      show RC _ _ _ _ _ _
      refine RC.seq (RC.planS (plD [0, 3, 6, 10, 14, 17, 20, 23, 26]) [6, 7, 8] hS (fun w hS => hS) follows rfl (by kernel_rfl) (NoTmp.then NoTmp.body) fun w hS => pp 2 rfl (RP.s0 2 rfl (fun w => Vl.fa 11 underlying182 rfl sizeOf171 rfl rfl) rfl (RP.s 0 3 rfl rfl hS (fun w hS => Vl.ld 3 hS isAgg171 rfl rfl rfl) rfl (RP.v1 4 rfl (Vl.fa 2 underlying134 rfl sizeOf3 rfl rfl) rfl rfl (RP.v1 5 rfl (Vl.ld 1 hS isAgg3 rfl rfl rfl) rfl rfl ?_)))))
      obtain ⟨⟨hq66, hq67⟩, h⟩ := h.req
      refine RP.v1 6 rfl (Vl.indexAddr (a'' := (ad A19).add (a27.B.toNat * 1)) underlying171 sizeOf2 rfl rfl (hS.litAdr 2 rfl (by decide)) hq66 hq67 rfl) rfl rfl (RP.v1 7 rfl (Vl.load isAgg2 rfl (hS.litCell (j := a27.B.toNat * 1) (cs := fc (Value.int .i64) 16 fn21) 2 rfl (fc_get (by omega)))) rfl rfl (RP.v1 8 rfl (Vl.assign rfl) rfl rfl (RP.nil (RQ.then_n (RC.seq (sr (pn 3 rfl (RL.s (Vl.fa 0 underlying182 rfl sizeOf124 rfl rfl) rfl (RL.s (Vl.fa 2 underlying124 rfl sizeOf23 rfl rfl) rfl (RL.s (Vl.ld 3 hS isAgg23 rfl rfl rfl) rfl (pn 1 rfl ?_)))))))))))
      obtain ⟨⟨hq71, hq72⟩, h⟩ := h.req
      refine RL.s (Vl.indexAddr underlying23 sizeOf136 rfl rfl ((hr10.2.world hS.sub).adr hq71 hq72) hq71 hq72 rfl) rfl (RL.s (Vl.fieldAddr (a'' := (ad A8).add (x65.toNat * 4 + 2)) underlying136 rfl sizeOf2 rfl (add_add _ _ _)) rfl (RL.s (Vl.load isAgg2 rfl ((hr10.2.world hS.sub).cell (j := 2) hq71 hq72 rfl)) rfl (pn 1 rfl (ln ?_))))
      refine RC.iteP 57 rfl h (fun hc73 h => ?_) fun hc73 h => ?_
      next =>
       refine RC.condT rfl (sr (pn 1 rfl (lr (RQ.ret ?_))))
       obtain rfl := h.some
       exact rt results94 rfl ⟨A23, c24, rfl, hS.d1⟩
      next =>
       refine RC.condF rfl (sk (RC.seq (sr (pn 3 rfl (RL.s (Vl.fa 4 underlying182 rfl sizeOf53 rfl rfl) rfl (RL.s (Vl.fa 4 underlying53 rfl sizeOf42 rfl rfl) rfl (RL.s (Vl.fa 4 underlying42 rfl sizeOf2 rfl rfl) rfl (RL.s (Vl.ld 3 hS isAgg2 rfl rfl rfl) rfl (pn 2 rfl (ln ?_))))))))))
       refine RC.iteP 66 rfl h (fun hc75 h => ?_) fun hc75 h => ?_
       next =>
        refine RC.condT rfl (sr (pn 1 rfl (lr (RQ.ret ?_))))
        obtain rfl := h.some
        exact rt results94 rfl ⟨A23, c24, rfl, hS.d1⟩
       next =>
        refine RC.condF rfl (sk (RC.seq (RC.planS (plD [0, 3, 6, 9, 13, 15, 18, 21, 24, 27, 31, 35, 38, 41, 44, 47, 50, 53, 56, 59, 62]) [17, 18, 19, 20] hS (fun w hS => hS) follows rfl (by kernel_rfl) (NoTmp.then NoTmp.body) fun w hS => pp 3 rfl (RP.s0 3 rfl (fun w => Vl.fa 13 underlying182 rfl sizeOf128 rfl rfl) rfl (RP.s 0 4 rfl rfl hS (fun w hS => Vl.ld 3 hS isAgg128 rfl rfl rfl) rfl (pp 4 rfl (RP.s0 9 rfl (fun w => Vl.fa 11 underlying182 rfl sizeOf171 rfl rfl) rfl (RP.s 0 10 rfl rfl hS (fun w hS => Vl.ld 3 hS isAgg171 rfl rfl rfl) rfl (RP.v1 11 rfl (Vl.fa 3 underlying134 rfl sizeOf3 rfl rfl) rfl rfl (RP.v1 12 rfl (Vl.ld 1 hS isAgg3 rfl rfl rfl) rfl rfl ?_))))))))))
        obtain ⟨⟨hq76, hq77⟩, h⟩ := h.req
        refine RP.v1 13 rfl (Vl.indexAddr (a'' := (ad A19).add (a27.C.toNat * 1)) underlying171 sizeOf2 rfl rfl (hS.litAdr 2 rfl (by decide)) hq76 hq77 rfl) rfl rfl (RP.v1 14 rfl (Vl.load isAgg2 rfl (hS.litCell (j := a27.C.toNat * 1) (cs := fc (Value.int .i64) 16 fn21) 2 rfl (fc_get (by omega)))) rfl rfl (RP.v1 15 rfl (Vl.build (v := .agg #[.int .i64 x65, .int .i64 (fn21 (a27.B.toNat * 1)), .int .i64 (fn21 (a27.C.toNat * 1))]) (parts := [(0, .tmp 72), (1, .tmp 73), (2, .tmp 81)]) rfl (by kernel_rfl)) rfl rfl (RP.e 16 rfl (OW.buildSlice (E := E_api_Out) (xs := [(⟨x65, fn21 (a27.B.toNat * 1), fn21 (a27.C.toNat * 1)⟩ : api_Out)]) (cs := [.int .i64 x65, .int .i64 (fn21 (a27.B.toNat * 1)), .int .i64 (fn21 (a27.C.toNat * 1))]) hS underlying128 zeroValue176 sizeOf176 (parts := [(0, .tmp 82)]) rfl rfl (by decide) (by decide) (by kernel_rfl) rfl) rfl rfl ?_)))
        rintro _ w ⟨b78, rfl, hS⟩
        refine ⟨kp ⟨fun _ => hS.d0, trivial⟩, ?_⟩
        obtain ⟨hq79, h⟩ := h.req
        refine RP.e 17 rfl (OW.append (E := E_api_Out) (xs := a25) (ys := [(⟨x65, fn21 (a27.B.toNat * 1), fn21 (a27.C.toNat * 1)⟩ : api_Out)]) 1 hS rfl underlying128 type176 rfl rfl rfl rfl (by decide) rfl rfl rfl (hS.slW 0 rfl).2.2.flat (by simp only [maxLen, List.length_cons, List.length_nil] at *; omega) hq79 rfl) rfl rfl ?_
        rintro v82 w hS
        obtain ⟨A80, c81, rfl, _⟩ := hS.osShape 0 rfl
        have hS : St B w (_ :: _ :: _ :: _ :: _ :: l) hf := hS
        refine ⟨kp ⟨(by intro hx; cases hx), trivial⟩, ?_⟩
        refine RP.v1 18 rfl (Vl.nilCheck rfl) rfl rfl (RP.v1 19 rfl (Vl.fa 13 underlying182 rfl sizeOf128 rfl rfl) rfl rfl (RP.e0 20 rfl (OW.store (vs := [.slice A80 (a25 ++ ([(⟨x65, fn21 (a27.B.toNat * 1), fn21 (a27.C.toNat * 1)⟩ : api_Out)])).length c81]) 4 hS rfl rfl rfl rfl sizeOf128 rfl rfl rfl rfl) rfl ?_))
        rintro _ w ⟨rfl, hS⟩
        have hS : St B w (_ :: _ :: _ :: _ :: Cl _ [_, _, _, _, _, _, _, _, _, _, _, _, _, _, _] _ :: l) hf := hS
        refine ⟨kp ⟨(by intro hx; cases hx), trivial⟩, ?_⟩
        refine RP.nil (tsr (pn 1 rfl (lr ?_)))
        obtain rfl := h.some
        exact rt results94 rfl ⟨A80, c81, rfl, hS.d1.d1⟩
    · refine RC.seq ?_
      refine RC.region (pn 2 rfl (ln ?_))
      refine RC.iteP 35 rfl h (fun hc83 h => ?_) fun hc83 h => ?_
      next =>
       refine RC.condT rfl (RC.region (pn 4 rfl (RL.nil ?_)))
       exact fun a ha => ⟨(IntKind.i64.wrap ((Int.tmod (fn21 (a27.A.toNat * 1)) (a7.length : Int)) + (a7.length : Int))), (IntKind.i64.wrap ((Int.tmod (fn21 (a27.A.toNat * 1)) (a7.length : Int)) + (a7.length : Int))), rfl, ha.to ⟨rfl, rfl, rfl, trivial⟩, hS.p3, h⟩
      next =>
       refine RC.condF rfl (RC.skip ?_)
       exact fun a ha => ⟨(Int.tmod (fn21 (a27.A.toNat * 1)) (a7.length : Int)), (Int.tmod (fn21 (a27.A.toNat * 1)) (a7.length : Int)), rfl, ha.to ⟨rfl, rfl, rfl, trivial⟩, hS.p3, h⟩

/-! ### isochron/isochronref04.Mix: function 127 -/
noncomputable def isochronref04vMix.f (a1 : Int) : Option (Int) := some (IntKind.u64.wrap (BitVec.ofInt IntKind.u64.bits (IntKind.u64.wrap ((IntKind.u64.wrap (BitVec.ofInt IntKind.u64.bits (IntKind.u64.wrap ((IntKind.u64.wrap (BitVec.ofInt IntKind.u64.bits (IntKind.u64.wrap (a1 + 11400714819323198485)) ^^^ BitVec.ofInt IntKind.u64.bits (Int.fdiv (IntKind.u64.wrap (a1 + 11400714819323198485)) (2 ^ (min (30 : Int).toNat IntKind.u64.bits)))).toNat) * 13787848793156543929)) ^^^ BitVec.ofInt IntKind.u64.bits (Int.fdiv (IntKind.u64.wrap ((IntKind.u64.wrap (BitVec.ofInt IntKind.u64.bits (IntKind.u64.wrap (a1 + 11400714819323198485)) ^^^ BitVec.ofInt IntKind.u64.bits (Int.fdiv (IntKind.u64.wrap (a1 + 11400714819323198485)) (2 ^ (min (30 : Int).toNat IntKind.u64.bits)))).toNat) * 13787848793156543929)) (2 ^ (min (27 : Int).toNat IntKind.u64.bits)))).toNat) * 10723151780598845931)) ^^^ BitVec.ofInt IntKind.u64.bits (Int.fdiv (IntKind.u64.wrap ((IntKind.u64.wrap (BitVec.ofInt IntKind.u64.bits (IntKind.u64.wrap ((IntKind.u64.wrap (BitVec.ofInt IntKind.u64.bits (IntKind.u64.wrap (a1 + 11400714819323198485)) ^^^ BitVec.ofInt IntKind.u64.bits (Int.fdiv (IntKind.u64.wrap (a1 + 11400714819323198485)) (2 ^ (min (30 : Int).toNat IntKind.u64.bits)))).toNat) * 13787848793156543929)) ^^^ BitVec.ofInt IntKind.u64.bits (Int.fdiv (IntKind.u64.wrap ((IntKind.u64.wrap (BitVec.ofInt IntKind.u64.bits (IntKind.u64.wrap (a1 + 11400714819323198485)) ^^^ BitVec.ofInt IntKind.u64.bits (Int.fdiv (IntKind.u64.wrap (a1 + 11400714819323198485)) (2 ^ (min (30 : Int).toNat IntKind.u64.bits)))).toNat) * 13787848793156543929)) (2 ^ (min (27 : Int).toNat IntKind.u64.bits)))).toNat) * 10723151780598845931)) (2 ^ (min (31 : Int).toNat IntKind.u64.bits)))).toNat)
theorem isochronref04vMix.ok {a1 : Int} {r : Int} (h : isochronref04vMix.f a1 = some r) (hS : St B w (l) hf) :
    Calls prog 127 #[.int .u64 a1] w (Ret fun v w => v = .int .u64 r ∧ St B w (l) hf) := by
  have h := Holds.of h
  refine en func127 rfl ntmps127 rfl (sr (pn 1 rfl (lnsr (pn 3 rfl (lnsr (pn 2 rfl (RL.s (Vl.shr rfl rfl (by decide)) rfl (pn 3 rfl ?_))))))))
  refine lnsr (pn 2 rfl (RL.s (Vl.shr rfl rfl (by decide)) rfl (pn 3 rfl (lnsr (pn 2 rfl (RL.s (Vl.shr rfl rfl (by decide)) rfl (pn 2 rfl (ln ?_))))))))
  refine RC.ret ?_
  obtain rfl := h.some
  exact rt results127 rfl ⟨rfl, hS⟩

/-! ### isochron/isochronref04.At: function 117 -/
noncomputable def isochronref04vAt.f (a1 a2 a3 : Int) : Option (Int) := ((isochronref04vMix.f a1).bind fun t10 => ((isochronref04vMix.f (IntKind.u64.wrap (t10 + (IntKind.u64.wrap a2)))).bind fun t12 => ((isochronref04vMix.f (IntKind.u64.wrap (t12 + (IntKind.u64.wrap a3)))).bind fun t14 => some t14)))
theorem isochronref04vAt.ok {a1 a2 a3 : Int} {r : Int} (h : isochronref04vAt.f a1 a2 a3 = some r) (hS : St B w (l) hf) :
    Calls prog 117 #[.int .u64 a1, .int .i64 a2, .int .i64 a3] w (Ret fun v w => v = .int .u64 r ∧ St B w (l) hf) := by
  have h := Holds.of h
  refine en func117 rfl ntmps117 rfl (sr (pn 1 rfl (lnsr (pn 1 rfl (cF (fun _ hg => isochronref04vMix.ok hg hS) call127 h rfl rfl rfl ?_)))))
  rintro t10 h _ w ⟨rfl, hS⟩
  refine pn 1 rfl (RL.s (Vl.conv underlying3 underlying25 rfl) rfl (pn 1 rfl (cF (fun _ hg => isochronref04vMix.ok hg hS) call127 h rfl rfl rfl ?_)))
  rintro t12 h _ w ⟨rfl, hS⟩
  refine pn 1 rfl (RL.s (Vl.conv underlying3 underlying25 rfl) rfl (pn 1 rfl (cF (fun _ hg => isochronref04vMix.ok hg hS) call127 h rfl rfl rfl ?_)))
  rintro t14 h _ w ⟨rfl, hS⟩
  refine pn 1 rfl (lr ?_)
  obtain rfl := h.some
  exact rt results117 rfl ⟨rfl, hS⟩

/-! ### isochron/isochronref04.Below: function 95 -/
noncomputable def isochronref04vBelow.f (a1 a2 a3 a4 : Int) : Option (Int) := (if a4 < 1 then some 0 else ((isochronref04vAt.f a1 a2 a3).bind fun t12 => (if ¬ (IntKind.u64.wrap a4) = 0 then some (IntKind.i64.wrap (Int.tmod t12 (IntKind.u64.wrap a4))) else none)))
theorem isochronref04vBelow.ok {a1 a2 a3 a4 : Int} {r : Int} (h : isochronref04vBelow.f a1 a2 a3 a4 = some r) (hS : St B w (l) hf) :
    Calls prog 95 #[.int .u64 a1, .int .i64 a2, .int .i64 a3, .int .i64 a4] w (Ret fun v w => v = .int .i64 r ∧ St B w (l) hf) := by
  have h := Holds.of h
  refine en func95 rfl ntmps95 rfl (sr (pn 1 rfl (ln (RC.seq (sr (pn 2 rfl (ln ?_)))))))
  refine RC.iteP 10 rfl h (fun hc11 h => ?_) fun hc11 h => ?_
  next =>
   refine RC.condT rfl (sr (pn 1 rfl (lr (RQ.ret ?_))))
   obtain rfl := h.some
   exact rt results95 rfl ⟨rfl, hS⟩
  next =>
   refine RC.condF rfl (sk (sr (pn 3 rfl (cF (fun _ hg => isochronref04vAt.ok hg hS) call117 h rfl rfl rfl ?_))))
   rintro t12 h _ w ⟨rfl, hS⟩
   refine pn 1 rfl (RL.s (Vl.conv underlying2 underlying25 rfl) rfl ?_)
   obtain ⟨hq14, h⟩ := h.req
   refine RL.s (Vl.rem rfl rfl hq14) rfl (RL.s (Vl.conv underlying25 underlying2 rfl) rfl (pn 1 rfl (lr ?_)))
   obtain rfl := h.some
   exact rt results95 rfl ⟨rfl, hS⟩

/-! ### isochron/isochronref05.least: function 118 -/
noncomputable def isochronref05vleast.f (a1 : Int) : Option (Bool) := some (decide (a1 = (-9223372036854775808)))
theorem isochronref05vleast.ok {a1 : Int} {r : Bool} (h : isochronref05vleast.f a1 = some r) (hS : St B w (l) hf) :
    Calls prog 118 #[.int .i64 a1] w (Ret fun v w => v = .bool r ∧ St B w (l) hf) := by
  have h := Holds.of h
  refine en func118 rfl ntmps118 rfl (sr (pn 1 rfl (lnsr (pn 3 rfl (lr ?_)))))
  obtain rfl := h.some
  exact rt results118 rfl ⟨rfl, hS⟩

end Go.Proofs.Gx
