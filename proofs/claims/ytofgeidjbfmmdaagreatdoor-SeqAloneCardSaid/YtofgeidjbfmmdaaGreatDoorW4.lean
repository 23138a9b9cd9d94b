/-
  The walks of functions, each with what it computes: printed by wip/gx.py.
-/
import Derived.Test.YtofgeidjbfmmdaaGreatDoorW0
import Derived.Test.YtofgeidjbfmmdaaGreatDoorW1
import Derived.Test.YtofgeidjbfmmdaaGreatDoorW3
set_option linter.unusedVariables false
set_option maxRecDepth 100000
set_option maxHeartbeats 4000000
namespace Go.Proofs.Gx
open Go.Sl Tryz
variable {B : Base} {w : World} {l : List HProp} {hf : Hp}
/-! ### isochron/event.order: function 32 -/
noncomputable def event_order.f (a1 a2 : api_Message) : Option (Int) := ((event_Compare.f a1.Key a2.Key).bind fun t18 => ((cmp_Compare_int.f a1.Uid a2.Uid).bind fun t20 => ((cmp_Or_int.f ([t18, t20] : List Int)).bind fun t27 => some t27)))
theorem event_order.ok {a1 a2 : api_Message} {r : Int} (h : event_order.f a1 a2 = some r) (hS : St B w (l) hf) :
    Calls prog 32 #[.agg #[.int .i64 a1.Key.Time, .int .i64 a1.Key.From, .int .i64 a1.Key.Seq, .int .i64 a1.To, .int .i64 a1.Value, .int .i64 a1.Uid, .bool a1.Anti], .agg #[.int .i64 a2.Key.Time, .int .i64 a2.Key.From, .int .i64 a2.Key.Seq, .int .i64 a2.To, .int .i64 a2.Value, .int .i64 a2.Uid, .bool a2.Anti]] w (Ret fun v w => v = .int .i64 r ∧ St B w (l) hf) := by
  have h := Holds.of h
  refine en func32 rfl ntmps32 rfl (sr (bx hS rfl rfl rfl rfl fun b16 w hS => bx hS rfl rfl rfl rfl fun b17 w hS => pn 1 rfl (ln (RC.seq (RC.planS (plD [0, 4, 6, 10, 15, 19, 21, 25, 14, 29, 32, 35, 38]) [9, 10, 11, 12] hS (fun w hS => hS) follows rfl (by kernel_rfl) (NoTmp.then NoTmp.body) fun w hS => RP.s0 0 rfl (fun w => Vl.fa 0 underlying53 rfl sizeOf42 rfl rfl) rfl (RP.s 0 1 rfl rfl hS (fun w hS => Vl.loadA (vs := [.int .i64 a1.Key.Time, .int .i64 a1.Key.From, .int .i64 a1.Key.Seq]) isAgg42 sizeOf42 rfl rfl (hS.cellsAt 1 rfl rfl)) rfl (RP.s0 2 rfl (fun w => Vl.fa 0 underlying53 rfl sizeOf42 rfl rfl) rfl (RP.s 0 3 rfl rfl hS (fun w hS => Vl.loadA (vs := [.int .i64 a2.Key.Time, .int .i64 a2.Key.From, .int .i64 a2.Key.Seq]) isAgg42 sizeOf42 rfl rfl (hS.cellsAt 0 rfl rfl)) rfl (RP.s0 5 rfl (fun w => Vl.fa 5 underlying53 rfl sizeOf3 rfl rfl) rfl (RP.s 0 6 rfl rfl hS (fun w hS => Vl.ld 1 hS isAgg3 rfl rfl rfl) rfl ?_))))))))))
  refine RP.s0 7 rfl (fun w => Vl.fa 5 underlying53 rfl sizeOf3 rfl rfl) rfl (RP.s 0 8 rfl rfl hS (fun w hS => Vl.ld 0 hS isAgg3 rfl rfl rfl) rfl ?_)
  obtain ⟨t18, hg19, h⟩ := h.bind
  have hc := event_Compare.ok hg19 hS
  refine RP.e 4 rfl (OW.callF (ls := [.tmp 6, .tmp 8]) rfl call14 hc) rfl rfl ?_
  rintro _ w ⟨rfl, hS⟩
  refine ⟨kp ⟨fun _ => hS, trivial⟩, ?_⟩
  obtain ⟨t20, hg21, h⟩ := h.bind
  have hc := cmp_Compare_int.ok hg21 hS
  refine RP.e 9 rfl (OW.callF (ls := [.tmp 11, .tmp 13]) rfl call29 hc) rfl rfl ?_
  rintro _ w ⟨rfl, hS⟩
  refine ⟨kp ⟨(by intro hx; cases hx), trivial⟩, ?_⟩
  refine RP.e 10 rfl (OW.buildSlice (E := (FI .i64)) (xs := ([t18, t20] : List Int)) (cs := [.int .i64 t18, .int .i64 t20]) hS underlying120 zeroValue3 sizeOf3 (parts := [(0, .tmp 9), (1, .tmp 14)]) rfl rfl (by decide) (by decide) (by kernel_rfl) rfl) rfl rfl ?_
  rintro _ w ⟨b22, rfl, hS⟩
  refine ⟨kp ⟨(by intro hx; cases hx), trivial⟩, ?_⟩
  obtain ⟨hf26, hs24, hS, hr23, hb25⟩ := St.lendSl hS
  obtain ⟨t27, hg28, h⟩ := h.bind
  have hc := cmp_Or_int.ok hr23 hg28 hS
  refine RP.e 11 rfl (OW.callF (ls := [.tmp 15]) rfl call27 hc) rfl rfl ?_
  rintro _ w ⟨rfl, hS⟩
  have hS := hb25 _ _ hS
  have hS : St B w (_ :: _ :: _ :: l) hf := hS
  refine ⟨kp ⟨(by intro hx; cases hx), trivial⟩, ?_⟩
  refine RP.v1 12 rfl (Vl.assign rfl) rfl rfl (RP.nil (tr ?_))
  obtain rfl := h.some
  exact rt results32 rfl ⟨rfl, hS.d0.d0.d0⟩

/-! ### isochron/event.Before: function 55 -/
noncomputable def event_Before.f (a1 a2 : api_Message) : Option (Bool) := ((event_order.f a1 a2).bind fun t9 => some (decide (t9 < 0)))
theorem event_Before.ok {a1 a2 : api_Message} {r : Bool} (h : event_Before.f a1 a2 = some r) (hS : St B w (l) hf) :
    Calls prog 55 #[.agg #[.int .i64 a1.Key.Time, .int .i64 a1.Key.From, .int .i64 a1.Key.Seq, .int .i64 a1.To, .int .i64 a1.Value, .int .i64 a1.Uid, .bool a1.Anti], .agg #[.int .i64 a2.Key.Time, .int .i64 a2.Key.From, .int .i64 a2.Key.Seq, .int .i64 a2.To, .int .i64 a2.Value, .int .i64 a2.Uid, .bool a2.Anti]] w (Ret fun v w => v = .bool r ∧ St B w (l) hf) := by
  have h := Holds.of h
  refine en func55 rfl ntmps55 rfl (sr (bx hS rfl rfl rfl rfl fun b7 w hS => bx hS rfl rfl rfl rfl fun b8 w hS => pn 1 rfl (lnsr (RL.s (Vl.lw 1 hS isAgg53 sizeOf53 rfl rfl rfl) rfl (RL.s (Vl.lw 0 hS isAgg53 sizeOf53 rfl rfl rfl) rfl (cF (fun _ hg => event_order.ok hg hS) call32 h rfl rfl rfl ?_))))))
  rintro t9 h _ w ⟨rfl, hS⟩
  refine pn 2 rfl (lr ?_)
  obtain rfl := h.some
  exact rt results55 rfl ⟨rfl, hS.d0.d0⟩

/-! ### (*isochron/seq.line[isochron/api.Message]).put: function 57 -/
noncomputable def seq_line_api_Message_put.j5 (a27 : List api_Message) (a31 : api_Message) (x167 : Int) : Option (List api_Message) := (if (a27.length + 1) * 56 ≤ 140737488355328 then (if 0 ≤ IntKind.i64.wrap (x167 + 1) ∧ IntKind.i64.wrap (x167 + 1) ≤ ((a27 ++ ([a31])).length : Int) then (if 0 ≤ x167 ∧ x167 ≤ ((a27 ++ ([a31])).length : Int) then (if x167 < ((movL (a27 ++ ([a31])) (IntKind.i64.wrap (x167 + 1) : Int).toNat (x167 : Int).toNat (min ((a27 ++ ([a31])).length - (x167 : Int).toNat) ((a27 ++ ([a31])).length - (IntKind.i64.wrap (x167 + 1) : Int).toNat))).length : Int) then some (setL (movL (a27 ++ ([a31])) (IntKind.i64.wrap (x167 + 1) : Int).toNat (x167 : Int).toNat (min ((a27 ++ ([a31])).length - (x167 : Int).toNat) ((a27 ++ ([a31])).length - (IntKind.i64.wrap (x167 + 1) : Int).toNat))) x167 a31) else none) else none) else none) else none)
noncomputable def seq_line_api_Message_put.l6b (a27 : List api_Message) (a31 : api_Message) : Int → Option ((Int) ⊕ (List api_Message))
  | (x193) => (if 0 < x193 then (if 0 ≤ IntKind.i64.wrap (x193 - 1) ∧ IntKind.i64.wrap (x193 - 1) < (a27.length : Int) then ((event_Before.f a31 (⟨(nth a27 (IntKind.i64.wrap (x193 - 1))).Key, (nth a27 (IntKind.i64.wrap (x193 - 1))).To, (nth a27 (IntKind.i64.wrap (x193 - 1))).Value, (nth a27 (IntKind.i64.wrap (x193 - 1))).Uid, ((nth a27 (IntKind.i64.wrap (x193 - 1))).Anti)⟩ : api_Message)).bind fun t217 => (if t217 = true then some (.inl (IntKind.i64.wrap (x193 - 1))) else (Option.map Sum.inr (seq_line_api_Message_put.j5 a27 a31 x193)))) else none) else (Option.map Sum.inr (seq_line_api_Message_put.j5 a27 a31 x193)))
noncomputable def seq_line_api_Message_put.l6 (a27 : List api_Message) (a31 : api_Message) (s : Int) : Option (List api_Message) := loopR (seq_line_api_Message_put.l6b a27 a31) s
noncomputable def seq_line_api_Message_put.f (a2 : List (List api_Instr)) (a6 : List api_Link) (a10 : List api_Start) (a14 a15 a16 : Int) (a19 : List api_World) (a24 : List api_State) (a27 : List api_Message) (a30 : List api_Done) (a31 : api_Message) : Option (List api_Message) := seq_line_api_Message_put.l6 a27 a31 ((a27.length : Int))
theorem seq_line_api_Message_put.ok {a2 : List (List api_Instr)} {a6 : List api_Link} {a10 : List api_Start} {a14 a15 a16 : Int} {a19 : List api_World} {a24 : List api_State} {a27 : List api_Message} {a30 : List api_Done} {a31 : api_Message} {b1 : Nat} {A3 : Option Addr} {c4 : Nat} {A7 : Option Addr} {c8 : Nat} {A11 : Option Addr} {c12 : Nat} {A17 : Option Addr} {c18 : Nat} {cs20 : List Value} {A22 : Option Addr} {c23 : Nat} {A25 : Option Addr} {c26 : Nat} {A28 : Option Addr} {c29 : Nat} (hr5 : SlR (Rep.sl E_api_Instr.rep) hf A3 c4 a2) (hr9 : SlR E_api_Link.rep hf A7 c8 a6) (hr13 : SlR E_api_Start.rep hf A11 c12 a10) (hx21 : RepL R_api_World hf cs20 a19) {r : List api_Message} (h : seq_line_api_Message_put.f a2 a6 a10 a14 a15 a16 a19 a24 a27 a30 a31 = some r) (hS : St B w (Cl b1 [.slice A3 a2.length c4, .slice A7 a6.length c8, .slice A11 a10.length c12, .int .u64 a14, .int .i64 a15, .int .i64 a16, .slice A17 a19.length c18, .slice A22 a24.length c23, .slice A25 a27.length c26, .func (.func 55) #[] #[], .slice A28 a30.length c29] 65 :: OSl 124 4 (.slice A17 a19.length c18) a19.length cs20 :: OSf E_api_State 105 (.slice A22 a24.length c23) a24 :: OSf E_api_Message 53 (.slice A25 a27.length c26) a27 :: OSf E_api_Done 44 (.slice A28 a30.length c29) a30 :: l) hf) :
    Calls prog 57 #[.pointer (some ⟨b1, 8, none⟩), .agg #[.int .i64 a31.Key.Time, .int .i64 a31.Key.From, .int .i64 a31.Key.Seq, .int .i64 a31.To, .int .i64 a31.Value, .int .i64 a31.Uid, .bool a31.Anti]] w (Ret fun v w => ∃ (A_1 : Option Addr) (c_2 : Nat), v = .tuple #[] ∧ St B w (OSf E_api_Message 53 (.slice A_1 r.length c_2) r :: Cl b1 [.slice A3 a2.length c4, .slice A7 a6.length c8, .slice A11 a10.length c12, .int .u64 a14, .int .i64 a15, .int .i64 a16, .slice A17 a19.length c18, .slice A22 a24.length c23, .slice A_1 r.length c_2, .func (.func 55) #[] #[], .slice A28 a30.length c29] 65 :: OSl 124 4 (.slice A17 a19.length c18) a19.length cs20 :: OSf E_api_State 105 (.slice A22 a24.length c23) a24 :: OSf E_api_Done 44 (.slice A28 a30.length c29) a30 :: l) hf) := by
  have h := Holds.of h
  refine en func57 rfl ntmps57 rfl (sr (bx hS rfl rfl rfl rfl fun b126 w hS => lnsr (pn 2 rfl (RL.s (Vl.fa 8 underlying63 rfl sizeOf49 rfl rfl) rfl (RL.s (Vl.ld 1 hS isAgg49 rfl rfl rfl) rfl (RL.s (Vl.lenSl underlying49 rfl) rfl (pn 1 rfl (ln ?_))))))))
  refine RC.join (fun (s : Int) a w => ∃ (x167 : Int), s = (x167) ∧ Has 61 [(0, .pointer (some ⟨b1, 8, none⟩)), (3, .pointer (some ⟨b126, 0, none⟩)), (4, .int .i64 x167)] a ∧ St B w (OSl 124 4 (.slice A17 a19.length c18) a19.length cs20 :: OSf E_api_State 105 (.slice A22 a24.length c23) a24 :: OSf E_api_Message 53 (.slice A25 a27.length c26) a27 :: OSf E_api_Done 44 (.slice A28 a30.length c29) a30 :: Cl b126 [.int .i64 a31.Key.Time, .int .i64 a31.Key.From, .int .i64 a31.Key.Seq, .int .i64 a31.To, .int .i64 a31.Value, .int .i64 a31.Uid, .bool a31.Anti] 53 :: Cl b1 [.slice A3 a2.length c4, .slice A7 a6.length c8, .slice A11 a10.length c12, .int .u64 a14, .int .i64 a15, .int .i64 a16, .slice A17 a19.length c18, .slice A22 a24.length c23, .slice A25 a27.length c26, .func (.func 55) #[] #[], .slice A28 a30.length c29] 65 :: l) hf ∧ Holds (· = r) (seq_line_api_Message_put.j5 a27 a31 x167)) ?_ ?_
  · rintro x167 a w ⟨_, rfl, ha, hS, h⟩
    revert a
    show RC _ _ _ _ _ _
    refine RC.seq (RC.planS (plD [0, 3, 6, 9, 13, 17, 20, 23, 26, 29, 32]) [7, 8, 9, 10] hS (fun w hS => hS) follows rfl (by kernel_rfl) (NoTmp.then NoTmp.body) fun w hS => pp 3 rfl (RP.s0 3 rfl (fun w => Vl.fa 8 underlying63 rfl sizeOf49 rfl rfl) rfl (RP.s 0 4 rfl rfl hS (fun w hS => Vl.ld 5 hS isAgg49 rfl rfl rfl) rfl (RP.v1 5 rfl (Vl.lw 4 hS isAgg53 sizeOf53 rfl rfl rfl) rfl rfl (RP.e 6 rfl (OW.buildSlice (E := E_api_Message) (xs := [a31]) (cs := [.int .i64 a31.Key.Time, .int .i64 a31.Key.From, .int .i64 a31.Key.Seq, .int .i64 a31.To, .int .i64 a31.Value, .int .i64 a31.Uid, .bool a31.Anti]) hS underlying49 zeroValue53 sizeOf53 (parts := [(0, .tmp 35)]) rfl rfl (by decide) (by decide) (by kernel_rfl) rfl) rfl rfl ?_)))))
    rintro _ w ⟨b168, rfl, hS⟩
    refine ⟨kp ⟨fun _ => hS.d0, trivial⟩, ?_⟩
    obtain ⟨hq169, h⟩ := h.req
    refine RP.e 7 rfl (OW.append (E := E_api_Message) (xs := a27) (ys := [a31]) 3 hS rfl underlying49 type53 rfl rfl rfl rfl (by decide) rfl rfl rfl (hS.slW 0 rfl).2.2.flat (by simp only [maxLen, List.length_cons, List.length_nil] at *; omega) hq169 rfl) rfl rfl ?_
    rintro v172 w hS
    obtain ⟨A170, c171, rfl, _⟩ := hS.osShape 0 rfl
    have hS : St B w (_ :: _ :: _ :: _ :: _ :: _ :: _ :: l) hf := hS
    refine ⟨kp ⟨(by intro hx; cases hx), trivial⟩, ?_⟩
    refine RP.v1 8 rfl (Vl.nilCheck rfl) rfl rfl (RP.v1 9 rfl (Vl.fa 8 underlying63 rfl sizeOf49 rfl rfl) rfl rfl (RP.e0 10 rfl (OW.store (vs := [.slice A170 (a27 ++ ([a31])).length c171]) 6 hS rfl rfl rfl rfl sizeOf49 rfl rfl rfl rfl) rfl ?_))
    rintro _ w ⟨rfl, hS⟩
    have hS : St B w (_ :: _ :: _ :: _ :: _ :: _ :: Cl _ [_, _, _, _, _, _, _, _, _, _, _] _ :: l) hf := hS
    refine ⟨kp ⟨(by intro hx; cases hx), trivial⟩, ?_⟩
    refine RP.nil (RQ.then_n (RC.seq (RC.planS (plD [0, 3, 6, 10, 12, 15, 19, 21, 24, 27, 31, 35, 38, 41]) [13] hS (fun w hS => hS) follows rfl (by kernel_rfl) (NoTmp.then NoTmp.body) fun w hS => pp 2 rfl (RP.s0 2 rfl (fun w => Vl.fa 8 underlying63 rfl sizeOf49 rfl rfl) rfl (RP.s 0 3 rfl rfl hS (fun w hS => Vl.ld 6 hS isAgg49 rfl rfl rfl) rfl (pp 2 rfl ?_))))))
    obtain ⟨⟨hq173, hq174⟩, h⟩ := h.req
    refine RP.s 0 6 rfl rfl hS (fun w hS => Vl.sliceLO (xs := (a27 ++ ([a31]))) 0 hS rfl underlying49 sizeOf53 rfl rfl  hq173 hq174) rfl (pp 2 rfl (RP.s0 9 rfl (fun w => Vl.fa 8 underlying63 rfl sizeOf49 rfl rfl) rfl (RP.s 0 10 rfl rfl hS (fun w hS => Vl.ld 6 hS isAgg49 rfl rfl rfl) rfl (RP.v1 11 rfl (Vl.move rfl) rfl rfl ?_))))
    obtain ⟨⟨hq175, hq176⟩, h⟩ := h.req
    refine RP.v1 12 rfl (Vl.sliceLO (xs := (a27 ++ ([a31]))) 0 hS rfl underlying49 sizeOf53 rfl rfl  hq175 hq176) rfl rfl (RP.e 13 rfl (OW.copyOwn (E := E_api_Message) (a := IntKind.i64.wrap (x167 + 1)) (b := x167) 0 hS rfl underlying49 type53 rfl (by decide) rfl rfl hq173 hq174 hq175 hq176 rfl) rfl rfl ?_)
    rintro _ w ⟨rfl, hS⟩
    have he177 := (hS.osN 0 rfl).1
    have hS : St B w (_ :: _ :: _ :: _ :: _ :: _ :: _ :: l) hf := (congrArg (fun k_ : Nat => St B w (OSf E_api_Message 53 (.slice A170 k_ c171) (movL (a27 ++ ([a31])) (IntKind.i64.wrap (x167 + 1) : Int).toNat (x167 : Int).toNat (min ((a27 ++ ([a31])).length - (x167 : Int).toNat) ((a27 ++ ([a31])).length - (IntKind.i64.wrap (x167 + 1) : Int).toNat))) :: OSf E_api_Message 53 (.slice (some ⟨b168, 0, none⟩) ([a31]).length 1) ([a31]) :: OSl 124 4 (.slice A17 a19.length c18) a19.length cs20 :: OSf E_api_State 105 (.slice A22 a24.length c23) a24 :: OSf E_api_Done 44 (.slice A28 a30.length c29) a30 :: Cl b126 [.int .i64 a31.Key.Time, .int .i64 a31.Key.From, .int .i64 a31.Key.Seq, .int .i64 a31.To, .int .i64 a31.Value, .int .i64 a31.Uid, .bool a31.Anti] 53 :: Cl b1 [.slice A3 a2.length c4, .slice A7 a6.length c8, .slice A11 a10.length c12, .int .u64 a14, .int .i64 a15, .int .i64 a16, .slice A17 a19.length c18, .slice A22 a24.length c23, .slice A170 k_ c171, .func (.func 55) #[] #[], .slice A28 a30.length c29] 65 :: l) hf) he177).mp hS
    refine ⟨kp ⟨(by intro hx; cases hx), trivial⟩, ?_⟩
    refine RP.re 37 rfl (congrArg (fun k_ : Nat => (.slice A170 k_ c171 : Value)) he177) (RP.re 43 rfl (congrArg (fun k_ : Nat => (.slice A170 k_ c171 : Value)) he177) (RP.re 50 rfl (congrArg (fun k_ : Nat => (.slice A170 k_ c171 : Value)) he177) (RP.nil (RQ.then_n (RC.planS (plD [0, 3, 6, 10, 12, 17, 20, 23]) [6, 7] hS (fun w hS => hS) follows rfl (by kernel_rfl) NoTmp.body fun w hS => pp 2 rfl (RP.s0 2 rfl (fun w => Vl.fa 8 underlying63 rfl sizeOf49 rfl rfl) rfl (RP.s 0 3 rfl rfl hS (fun w hS => Vl.ld 6 hS isAgg49 rfl rfl rfl) rfl (pp 1 rfl (RP.v1 5 rfl (Vl.lw 5 hS isAgg53 sizeOf53 rfl rfl rfl) rfl rfl ?_)))))))))
    obtain ⟨hq178, h⟩ := h.req
    refine RP.v1 6 rfl (Vl.indexOwn 0 hS rfl underlying49 sizeOf53 rfl rfl hq175 hq178) rfl rfl (RP.e0 7 rfl (OW.storeOwn (E := E_api_Message) (off := 0) (j := x167) (x' := a31) (vs := [.int .i64 a31.Key.Time, .int .i64 a31.Key.From, .int .i64 a31.Key.Seq, .int .i64 a31.To, .int .i64 a31.Value, .int .i64 a31.Uid, .bool a31.Anti]) 0 hS rfl rfl rfl rfl sizeOf53 rfl (Nat.succ_pos _) hq175 hq178 (Nat.le_of_ble_eq_true rfl) rfl rfl) rfl ?_)
    rintro _ w ⟨rfl, hS⟩
    have he179 := (hS.osN 0 rfl).1
    have hS : St B w (_ :: _ :: _ :: _ :: _ :: _ :: _ :: l) hf := (congrArg (fun k_ : Nat => St B w (OSf E_api_Message 53 (.slice A170 k_ c171) (setL (movL (a27 ++ ([a31])) (IntKind.i64.wrap (x167 + 1) : Int).toNat (x167 : Int).toNat (min ((a27 ++ ([a31])).length - (x167 : Int).toNat) ((a27 ++ ([a31])).length - (IntKind.i64.wrap (x167 + 1) : Int).toNat))) x167 a31) :: OSf E_api_Message 53 (.slice (some ⟨b168, 0, none⟩) ([a31]).length 1) ([a31]) :: OSl 124 4 (.slice A17 a19.length c18) a19.length cs20 :: OSf E_api_State 105 (.slice A22 a24.length c23) a24 :: OSf E_api_Done 44 (.slice A28 a30.length c29) a30 :: Cl b126 [.int .i64 a31.Key.Time, .int .i64 a31.Key.From, .int .i64 a31.Key.Seq, .int .i64 a31.To, .int .i64 a31.Value, .int .i64 a31.Uid, .bool a31.Anti] 53 :: Cl b1 [.slice A3 a2.length c4, .slice A7 a6.length c8, .slice A11 a10.length c12, .int .u64 a14, .int .i64 a15, .int .i64 a16, .slice A17 a19.length c18, .slice A22 a24.length c23, .slice A170 k_ c171, .func (.func 55) #[] #[], .slice A28 a30.length c29] 65 :: l) hf) he179).mp hS
    refine ⟨kp ⟨(by intro hx; cases hx), trivial⟩, ?_⟩
    refine RP.re 37 rfl (congrArg (fun k_ : Nat => (.slice A170 k_ c171 : Value)) he179) (RP.re 43 rfl (congrArg (fun k_ : Nat => (.slice A170 k_ c171 : Value)) he179) (RP.re 50 rfl (congrArg (fun k_ : Nat => (.slice A170 k_ c171 : Value)) he179) (RP.re 57 rfl (congrArg (fun k_ : Nat => (.slice A170 k_ c171 : Value)) he179) (RP.nil ?_))))
    obtain rfl := h.some
    exact rtE results57 rfl ⟨A170, c171, rfl, hS.d1.d4.p4.p1⟩
  · refine RC.block ?_
    refine fun a ha => RC.loop (N := 61) (body := (seq_line_api_Message_put.l6b a27 a31)) (φ := (· = r)) (fun (s : Int) a w => ∃ (x193 : Int), s = (x193) ∧ Has 61 [(0, .pointer (some ⟨b1, 8, none⟩)), (3, .pointer (some ⟨b126, 0, none⟩)), (4, .int .i64 x193)] a ∧ St B w (OSl 124 4 (.slice A17 a19.length c18) a19.length cs20 :: OSf E_api_State 105 (.slice A22 a24.length c23) a24 :: OSf E_api_Message 53 (.slice A25 a27.length c26) a27 :: OSf E_api_Done 44 (.slice A28 a30.length c29) a30 :: Cl b126 [.int .i64 a31.Key.Time, .int .i64 a31.Key.From, .int .i64 a31.Key.Seq, .int .i64 a31.To, .int .i64 a31.Value, .int .i64 a31.Uid, .bool a31.Anti] 53 :: Cl b1 [.slice A3 a2.length c4, .slice A7 a6.length c8, .slice A11 a10.length c12, .int .u64 a14, .int .i64 a15, .int .i64 a16, .slice A17 a19.length c18, .slice A22 a24.length c23, .slice A25 a27.length c26, .func (.func 55) #[] #[], .slice A28 a30.length c29] 65 :: l) hf) ?_ (s0 := ((a27.length : Int))) h ⟨(a27.length : Int), rfl, ha.to ⟨rfl, rfl, rfl, trivial⟩, hS.p5.p5.p5.p5⟩
    rintro G207 x193 a w ⟨_, rfl, ha, hS⟩ h
    revert a
    show RC _ _ _ _ _ _
    refine RC.seq (RC.seq (RC.planS (plD [0, 3, 6, 9, 12, 15, 19, 22, 24, 27, 30, 34, 38, 41, 44, 47, 50, 53]) [16, 17] hS (fun w hS => hS) follows rfl (by kernel_rfl) (NoTmp.then (NoTmp.then (NoTmp.then (NoTmp.block (NoTmp.then NoTmp.body))))) fun w hS => pp 3 rfl ?_))
    refine RP.iteP 12 rfl h (fun hc214 h => ?_) fun hc214 h => ?_
    next =>
     refine pp 2 rfl (RP.sg0 5 rfl (fun w => Vl.fa 9 underlying63 rfl sizeOf61 rfl rfl) rfl rfl (RP.sg 0 6 rfl rfl hS (fun w hS => Vl.ld 5 hS isAgg61 rfl rfl rfl) rfl rfl (RP.sg 0 7 rfl rfl hS (fun w hS => Vl.lw 4 hS isAgg53 sizeOf53 rfl rfl rfl) rfl rfl (pp 2 rfl (RP.sg0 10 rfl (fun w => Vl.fa 8 underlying63 rfl sizeOf49 rfl rfl) rfl rfl (RP.sg 0 11 rfl rfl hS (fun w hS => Vl.ld 5 hS isAgg49 rfl rfl rfl) rfl rfl (RP.v1 12 rfl (Vl.move rfl) rfl rfl (RP.v1 13 rfl (Vl.int rfl rfl rfl) rfl rfl ?_))))))))
     obtain ⟨⟨hq215, hq216⟩, h⟩ := h.req
     refine RP.v1 14 rfl (Vl.indexOwn 2 hS rfl underlying49 sizeOf53 rfl rfl hq215 hq216) rfl rfl (RP.v1 15 rfl (Vl.loadA isAgg53 sizeOf53 rfl rfl ((hS.slW 2 rfl).2.2.cells hq215 hq216)) rfl rfl ?_)
     obtain ⟨t217, hg218, h⟩ := h.bind
     have hc := event_Before.ok hg218 hS
     refine RP.e 16 rfl (OW.call (ls := [.tmp 17, .tmp 25]) rfl rfl call55 rfl hc) rfl rfl ?_
     rintro _ w ⟨rfl, hS⟩
     refine ⟨kp ⟨(by intro hx; cases hx), trivial⟩, ?_⟩
     refine RP.v1 17 rfl (Vl.pickT rfl rfl) rfl rfl (RP.nil (RQ.then_n ?_))
     refine RC.iteB 27 rfl h (fun hc219 h => ?_) fun hc219 h => ?_
     next =>
      refine RC.condT rfl (sk (RC.block (RC.region (pn 3 rfl (RL.nil (RQ.inB_n ?_))))))
      exact fun a ha => ⟨(IntKind.i64.wrap (x193 - 1)), ⟨(IntKind.i64.wrap (x193 - 1)), rfl, ha.to ⟨rfl, rfl, rfl, trivial⟩, hS⟩, h.some⟩
     next =>
      refine RC.condF rfl (RC.exit (RQ.exitT ?_))
      have h := h.inr
      refine RQ.exitT (RQ.inB_hit ?_)
      exact fun a ha => ⟨(x193), x193, rfl, ha.to ⟨rfl, rfl, rfl, trivial⟩, hS, h⟩
    next =>
     refine pp 3 rfl (RP.nn 0 6 rfl rfl rfl (RP.nn 0 7 rfl rfl rfl (pp 3 rfl (RP.nn 0 11 rfl rfl rfl (RP.n1 12 rfl rfl rfl (RP.n1 13 rfl rfl rfl (RP.n1 14 rfl rfl rfl (RP.n1 15 rfl rfl rfl (RP.n1 16 rfl rfl rfl (RP.v1 17 rfl (Vl.pickF rfl rfl) rfl rfl (RP.nil (RQ.then_n (RC.condF rfl (RC.exit (RQ.exitT ?_)))))))))))))))
     have h := h.inr
     refine RQ.exitT (RQ.inB_hit ?_)
     exact fun a ha => ⟨(x193), x193, rfl, ha.to ⟨rfl, rfl, rfl, trivial⟩, hS, h⟩

/-! ### isochron/seq.start: function 34 -/
noncomputable def seq_start.l6b (a1 : api_Model) (l1134 : List api_World) (t1287 : List api_Message) : List api_Message × List api_Done × Int → Option ((List api_Message × List api_Done × Int) ⊕ (List (List api_Instr) × List api_Link × List api_Start × Int × Int × Int × List api_World × List api_State × List api_Message × List api_Done))
  | (l1310, l1313, x1316) => (if x1316 < (t1287.length : Int) then (if 0 ≤ x1316 then ((seq_line_api_Message_put.f a1.Progs a1.Links a1.Starts a1.Seed a1.End a1.Budget l1134 (List.replicate ((a1.Progs.length : Int) : Int).toNat (⟨(⟨0, 0, 0, 0, 0, 0, 0, 0⟩ : Arr8xInti64), 0, 0⟩ : api_State)) l1310 l1313 (⟨(nth t1287 x1316).Key, (nth t1287 x1316).To, (nth t1287 x1316).Value, (nth t1287 x1316).Uid, ((nth t1287 x1316).Anti)⟩ : api_Message)).bind fun t1349 => some (.inl (t1349, l1313, IntKind.i64.wrap (x1316 + 1)))) else none) else some (.inr (a1.Progs, a1.Links, a1.Starts, a1.Seed, a1.End, a1.Budget, l1134, (List.replicate ((a1.Progs.length : Int) : Int).toNat (⟨(⟨0, 0, 0, 0, 0, 0, 0, 0⟩ : Arr8xInti64), 0, 0⟩ : api_State)), l1310, l1313)))
noncomputable def seq_start.l6 (a1 : api_Model) (l1134 : List api_World) (t1287 : List api_Message) (s : List api_Message × List api_Done × Int) : Option (List (List api_Instr) × List api_Link × List api_Start × Int × Int × Int × List api_World × List api_State × List api_Message × List api_Done) := loopR (seq_start.l6b a1 l1134 t1287) s
noncomputable def seq_start.l5b (a1 : api_Model) : List api_World × Int → Option ((List api_World × Int) ⊕ (List (List api_Instr) × List api_Link × List api_Start × Int × Int × Int × List api_World × List api_State × List api_Message × List api_Done))
  | (l1134, x1139) => (if x1139 < (a1.Progs.length : Int) then ((model_World.f a1 x1139).bind fun (y1255, y1256) => (if (l1134.length + ([y1255]).length) * 64 ≤ 140737488355328 then some (.inl ((l1134 ++ ([y1255])), IntKind.i64.wrap (x1139 + 1))) else none)) else (Option.map Sum.inr ((model_Starts.f a1).bind fun t1287 => seq_start.l6 a1 l1134 t1287 ([], [], 0))))
noncomputable def seq_start.l5 (a1 : api_Model) (s : List api_World × Int) : Option (List (List api_Instr) × List api_Link × List api_Start × Int × Int × Int × List api_World × List api_State × List api_Message × List api_Done) := loopR (seq_start.l5b a1) s
noncomputable def seq_start.f (a1 : api_Model) : Option (List (List api_Instr) × List api_Link × List api_Start × Int × Int × Int × List api_World × List api_State × List api_Message × List api_Done) := (if 0 ≤ (a1.Progs.length : Int) ∧ (a1.Progs.length : Int) * 80 ≤ 140737488355328 then seq_start.l5 a1 ([], 0) else none)
theorem seq_start.ok {a1 : api_Model} {A2 : Option Addr} {c3 : Nat} {A5 : Option Addr} {c6 : Nat} {A8 : Option Addr} {c9 : Nat} (hr4 : SlR (Rep.sl E_api_Instr.rep) hf A2 c3 a1.Progs) (hr7 : SlR E_api_Link.rep hf A5 c6 a1.Links) (hr10 : SlR E_api_Start.rep hf A8 c9 a1.Starts) (hG0 : GlobAt hf 0 (.iface 148 (.agg #[.pointer (some ⟨1, 83, none⟩)]))) {r : List (List api_Instr) × List api_Link × List api_Start × Int × Int × Int × List api_World × List api_State × List api_Message × List api_Done} (h : seq_start.f a1 = some r) (hS : St B w (l) hf) :
    Calls prog 34 #[.agg #[.slice A2 a1.Progs.length c3, .slice A5 a1.Links.length c6, .slice A8 a1.Starts.length c9, .int .u64 a1.Seed, .int .i64 a1.End, .int .i64 a1.Budget]] w (Ret fun v w => ∃ hf_ : Hp, Sub hf hf_ ∧ ∃ (b_1 : Nat) (A_2 : Option Addr) (c_3 : Nat) (A_5 : Option Addr) (c_6 : Nat) (A_8 : Option Addr) (c_9 : Nat) (A_11 : Option Addr) (c_12 : Nat) (cs_13 : List Value) (A_15 : Option Addr) (c_16 : Nat) (A_17 : Option Addr) (c_18 : Nat) (A_19 : Option Addr) (c_20 : Nat), v = .pointer (some ⟨b_1, 0, none⟩) ∧ St B w (Cl b_1 [.slice A_2 r.1.length c_3, .slice A_5 r.2.1.length c_6, .slice A_8 r.2.2.1.length c_9, .int .u64 r.2.2.2.1, .int .i64 r.2.2.2.2.1, .int .i64 r.2.2.2.2.2.1, .slice A_11 r.2.2.2.2.2.2.1.length c_12, .slice A_15 r.2.2.2.2.2.2.2.1.length c_16, .slice A_17 r.2.2.2.2.2.2.2.2.1.length c_18, .func (.func 55) #[] #[], .slice A_19 r.2.2.2.2.2.2.2.2.2.length c_20] 65 :: OSl 124 4 (.slice A_11 r.2.2.2.2.2.2.1.length c_12) r.2.2.2.2.2.2.1.length cs_13 :: OSf E_api_State 105 (.slice A_15 r.2.2.2.2.2.2.2.1.length c_16) r.2.2.2.2.2.2.2.1 :: OSf E_api_Message 53 (.slice A_17 r.2.2.2.2.2.2.2.2.1.length c_18) r.2.2.2.2.2.2.2.2.1 :: OSf E_api_Done 44 (.slice A_19 r.2.2.2.2.2.2.2.2.2.length c_20) r.2.2.2.2.2.2.2.2.2 :: l) hf_ ∧ SlR (Rep.sl E_api_Instr.rep) hf_ A_2 c_3 r.1 ∧ SlR E_api_Link.rep hf_ A_5 c_6 r.2.1 ∧ SlR E_api_Start.rep hf_ A_8 c_9 r.2.2.1 ∧ RepL R_api_World hf_ cs_13 r.2.2.2.2.2.2.1) := by
  have h := Holds.of h
  refine en func34 rfl ntmps34 rfl (sr (bx hS rfl rfl rfl rfl fun b682 w hS => pn 1 rfl (ln (RC.seq (RC.planS (plD [1, 3, 7, 9, 15, 14, 20, 23, 26]) [6, 7, 8] hS (fun w hS => hS) follows rfl (by kernel_rfl) (NoTmp.then NoTmp.body) fun w hS => RP.s 0 0 rfl rfl hS (fun w hS => Vl.lw 0 hS isAgg27 sizeOf27 rfl rfl rfl) rfl (RP.s0 1 rfl (fun w => Vl.fa 0 underlying27 rfl sizeOf22 rfl rfl) rfl (RP.s 0 2 rfl rfl hS (fun w hS => Vl.ld 0 hS isAgg22 rfl rfl rfl) rfl (RP.s0 3 rfl (fun w => Vl.lenSl underlying22 rfl) rfl (RP.s0 5 rfl (fun w => Vl.build (v := .agg #[.slice none 0 0, .func (.func 55) #[] #[]]) (parts := [(1, .func 55)]) rfl (by kernel_rfl)) rfl ?_)))))))))
  obtain ⟨⟨hq683, hq684⟩, h⟩ := h.req
  refine RP.e 4 rfl (OW.makeN (E := E_api_State) (x0 := (⟨(⟨0, 0, 0, 0, 0, 0, 0, 0⟩ : Arr8xInti64), 0, 0⟩ : api_State)) hS underlying29 type105 rfl rfl rfl rfl (by decide) rfl rfl hq683 (by decide) hq684) rfl rfl ?_
  rintro _ w ⟨b685, rfl, hS⟩
  refine ⟨kp ⟨fun _ => hS.d0, trivial⟩, ?_⟩
  refine RP.v1 6 rfl (Vl.build (v := .agg #[.slice A2 a1.Progs.length c3, .slice A5 a1.Links.length c6, .slice A8 a1.Starts.length c9, .int .u64 a1.Seed, .int .i64 a1.End, .int .i64 a1.Budget, .slice none 0 0, .slice (some ⟨b685, 0, none⟩) (List.replicate ((a1.Progs.length : Int) : Int).toNat (⟨(⟨0, 0, 0, 0, 0, 0, 0, 0⟩ : Arr8xInti64), 0, 0⟩ : api_State)).length (((a1.Progs.length : Int) : Int).toNat), .slice none 0 0, .func (.func 55) #[] #[], .slice none 0 0]) (parts := [(0, .tmp 9), (2, .tmp 13), (3, .tmp 14)]) rfl (by kernel_rfl)) rfl rfl (RP.e 7 rfl (OW.box (cs := [.slice A2 a1.Progs.length c3, .slice A5 a1.Links.length c6, .slice A8 a1.Starts.length c9, .int .u64 a1.Seed, .int .i64 a1.End, .int .i64 a1.Budget, .slice none 0 0, .slice (some ⟨b685, 0, none⟩) (List.replicate ((a1.Progs.length : Int) : Int).toNat (⟨(⟨0, 0, 0, 0, 0, 0, 0, 0⟩ : Arr8xInti64), 0, 0⟩ : api_State)).length (((a1.Progs.length : Int) : Int).toNat), .slice none 0 0, .func (.func 55) #[] #[], .slice none 0 0]) hS rfl rfl) rfl rfl ?_)
  rintro _ w ⟨b686, rfl, hS⟩
  refine ⟨kp ⟨(by intro hx; cases hx), trivial⟩, ?_⟩
  refine RP.v1 8 rfl (Vl.assign rfl) rfl rfl (RP.nil (RQ.then_n (RC.seq (sr (RL.s (Vl.fa 0 underlying27 rfl sizeOf22 rfl rfl) rfl (RL.s (Vl.ld 2 hS isAgg22 rfl rfl rfl) rfl (RL.s (Vl.lenSl underlying22 rfl) rfl (pn 1 rfl (ln (RC.block ?_))))))))))
  have hS := hS.nilSlR 124 4
  refine fun a ha => RC.loop (N := 54) (body := (seq_start.l5b a1)) (φ := (· = r)) (fun (s : List api_World × Int) a w => ∃ (l1134 : List api_World) (x1139 : Int), s = (l1134, x1139) ∧ ∃ hf_ : Hp, Sub hf hf_ ∧ ∃ (A1135 : Option Addr) (c1136 : Nat) (cs1137 : List Value), Has 54 [(1, .pointer (some ⟨b682, 0, none⟩)), (3, .pointer (some ⟨b686, 0, none⟩)), (19, .int .i64 (a1.Progs.length : Int)), (20, .int .i64 x1139)] a ∧ St B w (OSl 124 4 (.slice A1135 l1134.length c1136) l1134.length cs1137 :: OSf E_api_State 105 (.slice (some ⟨b685, 0, none⟩) (List.replicate ((a1.Progs.length : Int) : Int).toNat (⟨(⟨0, 0, 0, 0, 0, 0, 0, 0⟩ : Arr8xInti64), 0, 0⟩ : api_State)).length (((a1.Progs.length : Int) : Int).toNat)) (List.replicate ((a1.Progs.length : Int) : Int).toNat (⟨(⟨0, 0, 0, 0, 0, 0, 0, 0⟩ : Arr8xInti64), 0, 0⟩ : api_State)) :: Cl b686 [.slice A2 a1.Progs.length c3, .slice A5 a1.Links.length c6, .slice A8 a1.Starts.length c9, .int .u64 a1.Seed, .int .i64 a1.End, .int .i64 a1.Budget, .slice A1135 l1134.length c1136, .slice (some ⟨b685, 0, none⟩) (List.replicate ((a1.Progs.length : Int) : Int).toNat (⟨(⟨0, 0, 0, 0, 0, 0, 0, 0⟩ : Arr8xInti64), 0, 0⟩ : api_State)).length (((a1.Progs.length : Int) : Int).toNat), .slice none 0 0, .func (.func 55) #[] #[], .slice none 0 0] 65 :: Cl b682 [.slice A2 a1.Progs.length c3, .slice A5 a1.Links.length c6, .slice A8 a1.Starts.length c9, .int .u64 a1.Seed, .int .i64 a1.End, .int .i64 a1.Budget] 27 :: l) hf_ ∧ RepL R_api_World hf_ cs1137 l1134) ?_ (s0 := ([], 0)) h ⟨([]), 0, rfl, _, (Sub.refl _), none, 0, ([]), ha.to ⟨rfl, rfl, rfl, rfl, trivial⟩, hS.p2.p1, RepL.nil⟩
  rintro G1216 _ a w ⟨l1134, x1139, rfl, hf, hs1057, A1135, c1136, cs1137, ha, hS, hx1138⟩ h
  revert a
  show RC _ _ _ _ _ _
  refine sr (pn 1 rfl (ln (RC.seq ?_)))
  refine RC.iteP 21 rfl h (fun hc1218 h => ?_) fun hc1218 h => ?_
  next =>
   refine RC.condT rfl (sk (RC.seq (RC.block (sr (pn 2 rfl (lnsr (RL.s (Vl.lw 3 hS isAgg27 sizeOf27 rfl rfl rfl) rfl (pn 1 rfl (cF (fun _ hg => model_World.ok (hr4.mono hs1057) (hr7.mono hs1057) (hr10.mono hs1057) (hG0.mono hs1057) hg hS) call56 h rfl rfl rfl ?_)))))))))
   rintro ⟨y1255, y1256⟩ h _ w ⟨A1257, c1258, A1259, c1260, rfl, hS⟩
   refine pn 3 rfl (al hS zeroValue124 rfl rfl rfl fun b1261 w hS => RL.e0 (OW.store (vs := [.slice A1257 y1255.Prog.length c1258, .int .i64 y1255.Self, .slice A1259 y1255.Links.length c1260, .int .u64 y1255.Seed]) 0 hS rfl rfl rfl rfl sizeOf124 rfl rfl rfl rfl) rfl ?_)
   rintro _ w ⟨rfl, hS⟩
   have hS : St B w (Cl _ [_, _, _, _] _ :: _ :: _ :: _ :: _ :: _ :: _ :: l) hf := hS
   refine pn 1 rfl (ln (RC.planS (plD [0, 3, 6, 9, 13, 17, 20, 23, 26, 29, 32]) [7, 8, 9, 10] hS (fun w hS => hS.d1.d1) follows rfl (by kernel_rfl) (NoTmp.block (NoTmp.then (NoTmp.then (NoTmp.block (NoTmp.then NoTmp.body))))) fun w hS => pp 3 rfl (RP.s0 3 rfl (fun w => Vl.fa 6 underlying65 rfl sizeOf60 rfl rfl) rfl (RP.s 0 4 rfl rfl hS.d1.d1 (fun w hS => Vl.ld 3 hS isAgg60 rfl rfl rfl) rfl (RP.v1 5 rfl (Vl.lw 0 hS isAgg124 sizeOf124 rfl rfl rfl) rfl rfl ?_)))))
   obtain ⟨hf, hs1274, hS, hr1275⟩ := St.promote hS.p1
   obtain ⟨hf, hs1276, hS, hr1277⟩ := St.promote hS.p1
   have hx1279 : RepL R_api_World hf [.slice A1257 y1255.Prog.length c1258, .int .i64 y1255.Self, .slice A1259 y1255.Links.length c1260, .int .u64 y1255.Seed] [y1255] := (RepL.cons (c := [.slice A1257 y1255.Prog.length c1258, .int .i64 y1255.Self, .slice A1259 y1255.Links.length c1260, .int .u64 y1255.Seed]) (r := []) ⟨_, _, _, _, rfl, (hr1275.mono hs1276), hr1277⟩ RepL.nil)
   refine RP.e 6 rfl (OW.buildSliceR (sz := 4) (cs := [.slice A1257 y1255.Prog.length c1258, .int .i64 y1255.Self, .slice A1259 y1255.Links.length c1260, .int .u64 y1255.Seed]) hS underlying60 zeroValue124 sizeOf124 (parts := [(0, .tmp 34)]) rfl rfl (by decide) (by decide) (by kernel_rfl)) rfl rfl ?_
   rintro _ w ⟨b1278, rfl, hS⟩
   refine ⟨kp ⟨fun _ => (St.down hS.d0 (hs1274.trans hs1276)), trivial⟩, ?_⟩
   obtain ⟨hq1282, h⟩ := h.req
   obtain ⟨hf, hs1280, hS, hr1281⟩ := St.promoteR R_api_World_ok hS rfl hx1279
   refine RP.e 7 rfl (OW.appendR (R := R_api_World) R_api_World_ok (xs := l1134) (ys := [y1255]) 1 hS rfl underlying60 type124 rfl rfl rfl rfl (by decide) (by decide) (((hx1138.mono hs1274).mono hs1276).mono hs1280) rfl rfl hr1281 hq1282 rfl) rfl rfl ?_
   rintro _ w ⟨cs1285, hx1286, hS⟩
   obtain ⟨A1283, c1284, rfl, _⟩ := hS.osShape 0 rfl
   have hS : St B w (_ :: _ :: _ :: _ :: _ :: l) hf := hS
   refine ⟨kp ⟨(by intro hx; cases hx), trivial⟩, ?_⟩
   refine RP.v1 8 rfl (Vl.nilCheck rfl) rfl rfl (RP.v1 9 rfl (Vl.fa 6 underlying65 rfl sizeOf60 rfl rfl) rfl rfl (RP.e0 10 rfl (OW.store (vs := [.slice A1283 (l1134 ++ ([y1255])).length c1284]) 3 hS rfl rfl rfl rfl sizeOf60 rfl rfl rfl rfl) rfl ?_))
   rintro _ w ⟨rfl, hS⟩
   have hS : St B w (_ :: _ :: _ :: Cl _ [_, _, _, _, _, _, _, _, _, _, _] _ :: _ :: l) hf := hS
   refine ⟨kp ⟨(by intro hx; cases hx), trivial⟩, ?_⟩
   refine RP.nil (RQ.inB_n (RQ.then_n (RC.region (pn 2 rfl (RL.nil ?_)))))
   exact fun a ha => ⟨((l1134 ++ ([y1255])), IntKind.i64.wrap (x1139 + 1)), ⟨(l1134 ++ ([y1255])), (IntKind.i64.wrap (x1139 + 1)), rfl, _, (((hs1057.trans hs1274).trans hs1276).trans hs1280), A1283, c1284, cs1285, ha.to ⟨rfl, rfl, rfl, rfl, trivial⟩, hS.d1, hx1286⟩, h.some⟩
  next =>
   refine RC.condF rfl (RC.exit (RQ.exitT ?_))
   have h := h.inr
   refine RQ.exitT (RQ.inB_hit (RQ.then_n (RC.seq (sr (RL.s (Vl.lw 3 hS isAgg27 sizeOf27 rfl rfl rfl) rfl (cF (fun _ hg => model_Starts.ok (hr4.mono hs1057) (hr7.mono hs1057) (hr10.mono hs1057) hg hS) call19 h rfl rfl rfl ?_))))))
   rintro t1287 h _ w ⟨A1289, c1290, rfl, hS⟩
   refine RL.s (Vl.lenSl underlying49 rfl) rfl (pn 1 rfl (ln (RC.block ?_)))
   have hS := hS.nilSl E_api_Message 53
   have hS := hS.nilSl E_api_Done 44
   refine fun a ha => RC.loop (N := 54) (body := (seq_start.l6b a1 l1134 t1287)) (φ := (· = r)) (fun (s : List api_Message × List api_Done × Int) a w => ∃ (l1310 : List api_Message) (l1313 : List api_Done) (x1316 : Int), s = (l1310, l1313, x1316) ∧ ∃ (A1311 : Option Addr) (c1312 : Nat) (A1314 : Option Addr) (c1315 : Nat), Has 54 [(3, .pointer (some ⟨b686, 0, none⟩)), (41, .slice A1289 t1287.length c1290), (42, .int .i64 (t1287.length : Int)), (43, .int .i64 x1316)] a ∧ St B w (OSl 124 4 (.slice A1135 l1134.length c1136) l1134.length cs1137 :: OSf E_api_State 105 (.slice (some ⟨b685, 0, none⟩) (List.replicate ((a1.Progs.length : Int) : Int).toNat (⟨(⟨0, 0, 0, 0, 0, 0, 0, 0⟩ : Arr8xInti64), 0, 0⟩ : api_State)).length (((a1.Progs.length : Int) : Int).toNat)) (List.replicate ((a1.Progs.length : Int) : Int).toNat (⟨(⟨0, 0, 0, 0, 0, 0, 0, 0⟩ : Arr8xInti64), 0, 0⟩ : api_State)) :: OSf E_api_Message 53 (.slice A1311 l1310.length c1312) l1310 :: OSf E_api_Done 44 (.slice A1314 l1313.length c1315) l1313 :: OSf E_api_Message 53 (.slice A1289 t1287.length c1290) t1287 :: Cl b686 [.slice A2 a1.Progs.length c3, .slice A5 a1.Links.length c6, .slice A8 a1.Starts.length c9, .int .u64 a1.Seed, .int .i64 a1.End, .int .i64 a1.Budget, .slice A1135 l1134.length c1136, .slice (some ⟨b685, 0, none⟩) (List.replicate ((a1.Progs.length : Int) : Int).toNat (⟨(⟨0, 0, 0, 0, 0, 0, 0, 0⟩ : Arr8xInti64), 0, 0⟩ : api_State)).length (((a1.Progs.length : Int) : Int).toNat), .slice A1311 l1310.length c1312, .func (.func 55) #[] #[], .slice A1314 l1313.length c1315] 65 :: l) hf) ?_ (s0 := ([], [], 0)) h ⟨([]), ([]), 0, rfl, none, 0, none, 0, ha.to ⟨rfl, rfl, rfl, rfl, trivial⟩, hS.d6.p1.p4.p4⟩
   rintro G1338 _ a w ⟨l1310, l1313, x1316, rfl, A1311, c1312, A1314, c1315, ha, hS⟩ h
   revert a
   show RC _ _ _ _ _ _
   refine sr (pn 1 rfl (ln (RC.seq ?_)))
   refine RC.iteP 44 rfl h (fun hc1340 h => ?_) fun hc1340 h => ?_
   next =>
    refine RC.condT rfl (sk (RC.seq (RC.block (sr ?_))))
    obtain ⟨hq1347, h⟩ := h.req
    refine RL.s (Vl.indexOwn 4 hS rfl underlying49 sizeOf53 rfl rfl hq1347 hc1340) rfl (RL.s (Vl.loadA isAgg53 sizeOf53 rfl rfl ((hS.slW 4 rfl).2.2.cells hq1347 hc1340)) rfl (al hS zeroValue53 rfl rfl rfl fun b1348 w hS => RL.e0 (OW.store (vs := [.int .i64 (((nth t1287 x1316).Key).Time), .int .i64 (((nth t1287 x1316).Key).From), .int .i64 (((nth t1287 x1316).Key).Seq), .int .i64 ((nth t1287 x1316).To), .int .i64 ((nth t1287 x1316).Value), .int .i64 ((nth t1287 x1316).Uid), .bool ((nth t1287 x1316).Anti)]) 0 hS rfl rfl rfl rfl sizeOf53 rfl rfl rfl rfl) rfl ?_))
    rintro _ w ⟨rfl, hS⟩
    have hS : St B w (Cl _ [_, _, _, _, _, _, _] _ :: _ :: _ :: _ :: _ :: _ :: _ :: l) hf := hS
    refine ln (RC.planS (plD [0, 3, 6, 11, 14]) [3, 4] hS (fun w hS => hS) follows rfl (by kernel_rfl) (NoTmp.block (NoTmp.then (NoTmp.then (NoTmp.block (NoTmp.then NoTmp.body))))) fun w hS => pp 2 rfl (RP.s0 2 rfl (fun w => Vl.fa 8 underlying65 rfl sizeOf63 rfl rfl) rfl (RP.v1 3 rfl (Vl.lw 0 hS isAgg53 sizeOf53 rfl rfl rfl) rfl rfl ?_)))
    obtain ⟨t1349, hg1350, h⟩ := h.bind
    have hc := seq_line_api_Message_put.ok (hr4.mono hs1057) (hr7.mono hs1057) (hr10.mono hs1057) hx1138 hg1350 hS.p4.p4.p4.p4.p6
    refine RP.e 4 rfl (OW.callF (ls := [.tmp 49, .tmp 50]) rfl call57 hc) rfl rfl ?_
    rintro _ w ⟨A1351, c1352, rfl, hS⟩
    refine ⟨kp ⟨(by intro hx; cases hx), trivial⟩, ?_⟩
    refine RP.nil (RQ.inB_n (RQ.then_n (RC.region (pn 2 rfl (RL.nil ?_)))))
    exact fun a ha => ⟨(t1349, l1313, IntKind.i64.wrap (x1316 + 1)), ⟨t1349, l1313, (IntKind.i64.wrap (x1316 + 1)), rfl, A1351, c1352, A1314, c1315, ha.to ⟨rfl, rfl, rfl, rfl, trivial⟩, hS.d5.p5.p5.p2.p5.p5⟩, h.some⟩
   next =>
    refine RC.condF rfl (RC.exit (RQ.exitT ?_))
    have h := h.inrS
    refine RQ.exitT (RQ.inB_hit (tsr (pn 2 rfl (lr ?_))))
    obtain rfl := h.some
    exact rt results34 rfl ⟨_, hs1057, b686, A2, c3, A5, c6, A8, c9, A1135, c1136, cs1137, (some ⟨b685, 0, none⟩), (((a1.Progs.length : Int) : Int).toNat), A1311, c1312, A1314, c1315, rfl, hS.d4.p4, (hr4.mono hs1057), (hr7.mono hs1057), (hr10.mono hs1057), hx1138⟩

/-! ### isochron/vm.lane: function 90 -/
noncomputable def vm_lane.f (a1 : Int) : Option (Bool) := (if 0 ≤ a1 then some (decide (a1 < 16)) else some false)
theorem vm_lane.ok {a1 : Int} {r : Bool} (h : vm_lane.f a1 = some r) (hS : St B w (l) hf) :
    Calls prog 90 #[.int .i64 a1] w (Ret fun v w => v = .bool r ∧ St B w (l) hf) := by
  have h := Holds.of h
  refine en func90 rfl ntmps90 rfl (sr (pn 1 rfl (lnsr (pn 3 rfl ?_))))
  refine RL.iteP 5 rfl h (fun hc3 h => ?_) fun hc3 h => ?_
  next =>
   refine pn 4 rfl (lr ?_)
   obtain rfl := h.some
   exact rt results90 rfl ⟨rfl, hS⟩
  next =>
   refine pn 4 rfl (lr ?_)
   obtain rfl := h.some
   exact rt results90 rfl ⟨rfl, hS⟩

/-! ### isochron/vm.Check: function 75 -/
noncomputable def vm_Check.l2b (a1 : api_World) : Int → Option ((Int) ⊕ (Int))
  | (x119) => (if x119 < (a1.Links.length : Int) then (if 0 ≤ x119 then ((vm_lane.f ((nth a1.Links x119).To)).bind fun t155 => (if t155 = true then (if (nth a1.Links x119).Look < 1 then some (.inr 1) else ((vtime_Valid.f ((nth a1.Links x119).Look)).bind fun t159 => (if t159 = true then some (.inl (IntKind.i64.wrap (x119 + 1))) else some (.inr 1)))) else some (.inr 1))) else none) else some (.inr 0))
noncomputable def vm_Check.l2 (a1 : api_World) (s : Int) : Option (Int) := loopR (vm_Check.l2b a1) s
noncomputable def vm_Check.f (a1 : api_World) : Option (Int) := ((code_Check.f a1.Prog).bind fun t89 => (if t89 = 0 then ((vm_lane.f a1.Self).bind fun t96 => (if t96 = true then (if 1024 < (a1.Links.length : Int) then some 1 else vm_Check.l2 a1 (0)) else some 1)) else some t89))
theorem vm_Check.ok {a1 : api_World} {A2 : Option Addr} {c3 : Nat} {A5 : Option Addr} {c6 : Nat} (hr4 : SlR E_api_Instr.rep hf A2 c3 a1.Prog) (hr7 : SlR E_api_Link.rep hf A5 c6 a1.Links) {r : Int} (h : vm_Check.f a1 = some r) (hS : St B w (l) hf) :
    Calls prog 75 #[.agg #[.slice A2 a1.Prog.length c3, .int .i64 a1.Self, .slice A5 a1.Links.length c6, .int .u64 a1.Seed]] w (Ret fun v w => v = .int .i64 r ∧ St B w (l) hf) := by
  have h := Holds.of h
  refine en func75 rfl ntmps75 rfl (sr (bx hS rfl rfl rfl rfl fun b85 w hS => pn 1 rfl (ln (RC.seq (sr (RL.s (Vl.fa 0 underlying124 rfl sizeOf100 rfl rfl) rfl (RL.s (Vl.ld 0 hS isAgg100 rfl rfl rfl) rfl (cF (fun _ hg => code_Check.ok hr4 hg hS) call68 h rfl rfl rfl ?_))))))))
  rintro t89 h _ w ⟨rfl, hS⟩
  refine pn 1 rfl (lnsr (pn 2 rfl (ln ?_)))
  refine RC.iteN 10 rfl h (fun hc91 h => ?_) fun hc91 h => ?_
  next =>
   refine RC.condF rfl (sk (RC.seq (sr (RL.s (Vl.fa 1 underlying124 rfl sizeOf3 rfl rfl) rfl (RL.s (Vl.ld 0 hS isAgg3 rfl rfl rfl) rfl (cF (fun _ hg => vm_lane.ok hg hS) call90 h rfl rfl rfl ?_))))))
   rintro t96 h _ w ⟨rfl, hS⟩
   refine pn 2 rfl ?_
   refine RL.iteM 16 rfl h (fun hc98 h => ?_) fun hc98 h => ?_
   next =>
    refine RL.sg (Vl.fa 2 underlying124 rfl sizeOf23 rfl rfl) rfl rfl (RL.sg (Vl.ld 0 hS isAgg23 rfl rfl rfl) rfl rfl (RL.sg (Vl.lenSl underlying23 rfl) rfl rfl (pn 2 rfl (ln ?_))))
    refine RC.iteP 21 rfl h (fun hc99 h => ?_) fun hc99 h => ?_
    next =>
     refine RC.condT rfl (sr (pn 1 rfl (lr (RQ.ret ?_))))
     obtain rfl := h.some
     exact rt results75 rfl ⟨rfl, hS.d0⟩
    next =>
     refine RC.condF rfl (sk (RC.seq (sr (RL.s (Vl.fa 2 underlying124 rfl sizeOf23 rfl rfl) rfl (RL.s (Vl.ld 0 hS isAgg23 rfl rfl rfl) rfl (RL.s (Vl.lenSl underlying23 rfl) rfl (pn 1 rfl (ln (RC.block ?_)))))))))
     refine fun a ha => RC.loop (N := 45) (body := (vm_Check.l2b a1)) (φ := (· = r)) (fun (s : Int) a w => ∃ (x119 : Int), s = (x119) ∧ Has 45 [(23, .slice A5 a1.Links.length c6), (24, .int .i64 (a1.Links.length : Int)), (25, .int .i64 x119)] a ∧ St B w (l) hf) ?_ (s0 := (0)) h ⟨0, rfl, ha.to ⟨rfl, rfl, rfl, trivial⟩, hS.d0⟩
     rintro G141 x119 a w ⟨_, rfl, ha, hS⟩ h
     revert a
     show RC _ _ _ _ _ _
     refine sr (pn 1 rfl (ln (RC.seq ?_)))
     refine RC.iteP 26 rfl h (fun hc143 h => ?_) fun hc143 h => ?_
     next =>
      refine RC.condT rfl (sk (RC.seq (RC.block (sr ?_))))
      obtain ⟨hq153, h⟩ := h.req
      refine RL.s (Vl.indexAddr underlying23 sizeOf136 rfl rfl ((hr7.2.world hS.sub).adr hq153 hc143) hq153 hc143 rfl) rfl (RL.s (Vl.loadA isAgg136 sizeOf136 rfl rfl ((hr7.2.world hS.sub).cells hq153 hc143)) rfl (al hS zeroValue136 rfl rfl rfl fun b154 w hS => RL.e0 (OW.store (vs := [.int .i64 ((nth a1.Links x119).From), .int .i64 ((nth a1.Links x119).To), .int .i64 ((nth a1.Links x119).Look), .bool ((nth a1.Links x119).Loose)]) 0 hS rfl rfl rfl rfl sizeOf136 rfl rfl rfl rfl) rfl ?_))
      rintro _ w ⟨rfl, hS⟩
      have hS : St B w (Cl _ [_, _, _, _] _ :: l) hf := hS
      refine lnsr (RL.s (Vl.fa 1 underlying136 rfl sizeOf3 rfl rfl) rfl (RL.s (Vl.ld 0 hS isAgg3 rfl rfl rfl) rfl (cF (fun _ hg => vm_lane.ok hg hS) call90 h rfl rfl rfl ?_)))
      rintro t155 h _ w ⟨rfl, hS⟩
      refine pn 2 rfl ?_
      refine RL.iteM 33 rfl h (fun hc157 h => ?_) fun hc157 h => ?_
      next =>
       refine RL.sg (Vl.fa 2 underlying136 rfl sizeOf2 rfl rfl) rfl rfl (RL.sg (Vl.ld 0 hS isAgg2 rfl rfl rfl) rfl rfl (pn 3 rfl ?_))
       refine RL.iteP 38 rfl h (fun hc158 h => ?_) fun hc158 h => ?_
       next =>
        refine pn 5 rfl (ln (RC.condT rfl (sr (pn 1 rfl (lr (RQ.inB_ret (RQ.ret ?_)))))))
        have h := h.inrS
        refine RQ.ret (RQ.inB_ret (RQ.ret ?_))
        obtain rfl := h.some
        exact rt results75 rfl ⟨rfl, hS.d0⟩
       next =>
        refine RL.sg (Vl.fa 2 underlying136 rfl sizeOf2 rfl rfl) rfl rfl (RL.sg (Vl.ld 0 hS isAgg2 rfl rfl rfl) rfl rfl (cF (fun _ hg => vtime_Valid.ok hg hS) call67 h rfl rfl rfl ?_))
        rintro t159 h _ w ⟨rfl, hS⟩
        refine pn 2 rfl (ln ?_)
        refine RC.iteM 43 rfl h (fun hc161 h => ?_) fun hc161 h => ?_
        next =>
         refine RC.condF rfl (RC.skip (RQ.inB_n (RQ.then_n (RC.region (pn 2 rfl (RL.nil ?_))))))
         exact fun a ha => ⟨(IntKind.i64.wrap (x119 + 1)), ⟨(IntKind.i64.wrap (x119 + 1)), rfl, ha.to ⟨rfl, rfl, rfl, trivial⟩, hS.d0⟩, h.some⟩
        next =>
         refine RC.condT rfl (sr (pn 1 rfl (lr (RQ.inB_ret (RQ.ret ?_)))))
         have h := h.inrS
         refine RQ.ret (RQ.inB_ret (RQ.ret ?_))
         obtain rfl := h.some
         exact rt results75 rfl ⟨rfl, hS.d0⟩
      next =>
       refine pn 10 rfl (ln (RC.condT rfl (sr (pn 1 rfl (lr (RQ.inB_ret (RQ.ret ?_)))))))
       have h := h.inrS
       refine RQ.ret (RQ.inB_ret (RQ.ret ?_))
       obtain rfl := h.some
       exact rt results75 rfl ⟨rfl, hS.d0⟩
     next =>
      refine RC.condF rfl (RC.exit (RQ.exitT ?_))
      have h := h.inrS
      refine RQ.exitT (RQ.inB_hit (tsr (pn 1 rfl (lr ?_))))
      obtain rfl := h.some
      exact rt results75 rfl ⟨rfl, hS⟩
   next =>
    refine pn 5 rfl (ln (RC.condT rfl (sr (pn 1 rfl (lr (RQ.ret ?_))))))
    obtain rfl := h.some
    exact rt results75 rfl ⟨rfl, hS.d0⟩
  next =>
   refine RC.condT rfl (sr (pn 2 rfl (lr (RQ.ret ?_))))
   obtain rfl := h.some
   exact rt results75 rfl ⟨rfl, hS.d0⟩

/-! ### isochron/event.lane: function 91 -/
noncomputable def event_lane.f (a1 : Int) : Option (Bool) := (if 0 ≤ a1 then some (decide (a1 < 16)) else some false)
theorem event_lane.ok {a1 : Int} {r : Bool} (h : event_lane.f a1 = some r) (hS : St B w (l) hf) :
    Calls prog 91 #[.int .i64 a1] w (Ret fun v w => v = .bool r ∧ St B w (l) hf) := by
  have h := Holds.of h
  refine en func91 rfl ntmps91 rfl (sr (pn 1 rfl (lnsr (pn 3 rfl ?_))))
  refine RL.iteP 5 rfl h (fun hc3 h => ?_) fun hc3 h => ?_
  next =>
   refine pn 4 rfl (lr ?_)
   obtain rfl := h.some
   exact rt results91 rfl ⟨rfl, hS⟩
  next =>
   refine pn 4 rfl (lr ?_)
   obtain rfl := h.some
   exact rt results91 rfl ⟨rfl, hS⟩

/-! ### isochron/event.Check: function 76 -/
noncomputable def event_Check.f (a1 : api_Message) : Option (Int) := ((vtime_Valid.f a1.Key.Time).bind fun t19 => (if t19 = true then ((event_lane.f a1.Key.From).bind fun t22 => (if t22 = true then ((event_lane.f a1.To).bind fun t25 => (if t25 = true then (if 0 ≤ (if a1.Uid < a1.Key.Seq then a1.Uid else a1.Key.Seq) then some 0 else some 1) else some 1)) else (if a1.Key.From = (-1) then ((event_lane.f a1.To).bind fun t30 => (if t30 = true then (if 0 ≤ (if a1.Uid < a1.Key.Seq then a1.Uid else a1.Key.Seq) then some 0 else some 1) else some 1)) else some 1))) else some 1))
theorem event_Check.ok {a1 : api_Message} {r : Int} (h : event_Check.f a1 = some r) (hS : St B w (l) hf) :
    Calls prog 76 #[.agg #[.int .i64 a1.Key.Time, .int .i64 a1.Key.From, .int .i64 a1.Key.Seq, .int .i64 a1.To, .int .i64 a1.Value, .int .i64 a1.Uid, .bool a1.Anti]] w (Ret fun v w => v = .int .i64 r ∧ St B w (l) hf) := by
  have h := Holds.of h
  refine en func76 rfl ntmps76 rfl (sr (bx hS rfl rfl rfl rfl fun b18 w hS => pn 1 rfl (ln (RC.seq (sr (RL.s (Vl.fa 0 underlying53 rfl sizeOf42 rfl rfl) rfl (RL.s (Vl.fa 0 underlying42 rfl sizeOf2 rfl rfl) rfl (RL.s (Vl.ld 0 hS isAgg2 rfl rfl rfl) rfl (cF (fun _ hg => vtime_Valid.ok hg hS) call67 h rfl rfl rfl ?_)))))))))
  rintro t19 h _ w ⟨rfl, hS⟩
  refine pn 1 rfl ?_
  refine RL.iteB 7 rfl h (fun hc21 h => ?_) fun hc21 h => ?_
  next =>
   refine RL.sg (Vl.fa 0 underlying53 rfl sizeOf42 rfl rfl) rfl rfl (RL.sg (Vl.fa 1 underlying42 rfl sizeOf3 rfl rfl) rfl rfl (RL.sg (Vl.ld 0 hS isAgg3 rfl rfl rfl) rfl rfl (cF (fun _ hg => event_lane.ok hg hS) call91 h rfl rfl rfl ?_)))
   rintro t22 h _ w ⟨rfl, hS⟩
   refine pn 1 rfl ?_
   refine RL.iteB 12 rfl h (fun hc24 h => ?_) fun hc24 h => ?_
   next =>
    refine pn 7 rfl (RL.sg (Vl.fa 3 underlying53 rfl sizeOf3 rfl rfl) rfl rfl (RL.sg (Vl.ld 0 hS isAgg3 rfl rfl rfl) rfl rfl (cF (fun _ hg => event_lane.ok hg hS) call91 h rfl rfl rfl ?_)))
    rintro t25 h _ w ⟨rfl, hS⟩
    refine pn 2 rfl ?_
    refine RL.iteB 24 rfl h (fun hc27 h => ?_) fun hc27 h => ?_
    next =>
     refine RL.sg (Vl.fa 0 underlying53 rfl sizeOf42 rfl rfl) rfl rfl (RL.sg (Vl.fa 2 underlying42 rfl sizeOf3 rfl rfl) rfl rfl (RL.sg (Vl.ld 0 hS isAgg3 rfl rfl rfl) rfl rfl (RL.sg (Vl.fa 5 underlying53 rfl sizeOf3 rfl rfl) rfl rfl (RL.sg (Vl.ld 0 hS isAgg3 rfl rfl rfl) rfl rfl (RL.sg (Vl.min2 rfl rfl) rfl rfl (pn 2 rfl (ln ?_)))))))
     refine RC.iteP 32 rfl h (fun hc28 h => ?_) fun hc28 h => ?_
     next =>
      refine RC.condT rfl (sr (pn 1 rfl (lr (RQ.ret ?_))))
      obtain rfl := h.some
      exact rt results76 rfl ⟨rfl, hS.d0⟩
     next =>
      refine RC.condF rfl (sk (sr (pn 1 rfl (lr ?_))))
      obtain rfl := h.some
      exact rt results76 rfl ⟨rfl, hS.d0⟩
    next =>
     refine pn 8 rfl (ln (RC.condF rfl (sk (sr (pn 1 rfl (lr ?_))))))
     obtain rfl := h.some
     exact rt results76 rfl ⟨rfl, hS.d0⟩
   next =>
    refine RL.sg (Vl.fa 0 underlying53 rfl sizeOf42 rfl rfl) rfl rfl (RL.sg (Vl.fa 1 underlying42 rfl sizeOf3 rfl rfl) rfl rfl (RL.sg (Vl.ld 0 hS isAgg3 rfl rfl rfl) rfl rfl (pn 4 rfl ?_)))
    refine RL.iteP 19 rfl h (fun hc29 h => ?_) fun hc29 h => ?_
    next =>
     refine RL.sg (Vl.fa 3 underlying53 rfl sizeOf3 rfl rfl) rfl rfl (RL.sg (Vl.ld 0 hS isAgg3 rfl rfl rfl) rfl rfl (cF (fun _ hg => event_lane.ok hg hS) call91 h rfl rfl rfl ?_))
     rintro t30 h _ w ⟨rfl, hS⟩
     refine pn 2 rfl ?_
     refine RL.iteB 24 rfl h (fun hc32 h => ?_) fun hc32 h => ?_
     next =>
      refine RL.sg (Vl.fa 0 underlying53 rfl sizeOf42 rfl rfl) rfl rfl (RL.sg (Vl.fa 2 underlying42 rfl sizeOf3 rfl rfl) rfl rfl (RL.sg (Vl.ld 0 hS isAgg3 rfl rfl rfl) rfl rfl (RL.sg (Vl.fa 5 underlying53 rfl sizeOf3 rfl rfl) rfl rfl (RL.sg (Vl.ld 0 hS isAgg3 rfl rfl rfl) rfl rfl (RL.sg (Vl.min2 rfl rfl) rfl rfl (pn 2 rfl (ln ?_)))))))
      refine RC.iteP 32 rfl h (fun hc33 h => ?_) fun hc33 h => ?_
      next =>
       refine RC.condT rfl (sr (pn 1 rfl (lr (RQ.ret ?_))))
       obtain rfl := h.some
       exact rt results76 rfl ⟨rfl, hS.d0⟩
      next =>
       refine RC.condF rfl (sk (sr (pn 1 rfl (lr ?_))))
       obtain rfl := h.some
       exact rt results76 rfl ⟨rfl, hS.d0⟩
     next =>
      refine pn 8 rfl (ln (RC.condF rfl (sk (sr (pn 1 rfl (lr ?_))))))
      obtain rfl := h.some
      exact rt results76 rfl ⟨rfl, hS.d0⟩
    next =>
     refine pn 13 rfl (ln (RC.condF rfl (sk (sr (pn 1 rfl (lr ?_))))))
     obtain rfl := h.some
     exact rt results76 rfl ⟨rfl, hS.d0⟩
  next =>
   refine pn 25 rfl (ln (RC.condF rfl (sk (sr (pn 1 rfl (lr ?_))))))
   obtain rfl := h.some
   exact rt results76 rfl ⟨rfl, hS.d0⟩

/-! ### isochron/vm.operators: function 93 -/
noncomputable def vm_operators.f  : Option (Unit) := some ()
theorem vm_operators.ok {r : Unit} (h : vm_operators.f = some r) (hS : St B w (l) hf) :
    Calls prog 93 #[] w (Ret fun v w => ∃ (b_1 : Nat), v = .map (some b_1) ∧ St B w (MapL b_1 [({ key := .int .i64 0, val := .func (.func 100) #[] #[], born := 0 } : MapEntry), ({ key := .int .i64 1, val := .func (.func 101) #[] #[], born := 1 } : MapEntry), ({ key := .int .i64 2, val := .func (.func 102) #[] #[], born := 2 } : MapEntry), ({ key := .int .i64 3, val := .func (.func 103) #[] #[], born := 3 } : MapEntry), ({ key := .int .i64 4, val := .func (.func 104) #[] #[], born := 4 } : MapEntry), ({ key := .int .i64 5, val := .func (.func 105) #[] #[], born := 5 } : MapEntry), ({ key := .int .i64 6, val := .func (.func 106) #[] #[], born := 6 } : MapEntry), ({ key := .int .i64 7, val := .func (.func 107) #[] #[], born := 7 } : MapEntry), ({ key := .int .i64 8, val := .func (.func 108) #[] #[], born := 8 } : MapEntry), ({ key := .int .i64 9, val := .func (.func 109) #[] #[], born := 9 } : MapEntry), ({ key := .int .i64 10, val := .func (.func 110) #[] #[], born := 10 } : MapEntry), ({ key := .int .i64 11, val := .func (.func 111) #[] #[], born := 11 } : MapEntry), ({ key := .int .i64 12, val := .func (.func 112) #[] #[], born := 12 } : MapEntry), ({ key := .int .i64 13, val := .func (.func 113) #[] #[], born := 13 } : MapEntry), ({ key := .int .i64 14, val := .func (.func 114) #[] #[], born := 14 } : MapEntry), ({ key := .int .i64 15, val := .func (.func 115) #[] #[], born := 15 } : MapEntry), ({ key := .int .i64 16, val := .func (.func 116) #[] #[], born := 16 } : MapEntry)] 17 :: l) hf) := by
  have h := Holds.of h
  refine en func93 rfl ntmps93 rfl (sr (pn 1 rfl (lnsr (RL.e (OW.makeMapL hS) rfl rfl ?_))))
  rintro _ w ⟨b2, rfl, hS⟩
  refine RL.e0 (OW.insertL 0 hS rfl underlying193 underlying3 rfl rfl rfl rfl rfl rfl rfl) rfl ?_
  rintro _ w ⟨rfl, hS⟩
  have hS : St B w (_ :: l) hf := hS
  refine RL.e0 (OW.insertL 0 hS rfl underlying193 underlying3 rfl rfl rfl rfl rfl rfl rfl) rfl ?_
  rintro _ w ⟨rfl, hS⟩
  have hS : St B w (_ :: l) hf := hS
  refine RL.e0 (OW.insertL 0 hS rfl underlying193 underlying3 rfl rfl rfl rfl rfl rfl rfl) rfl ?_
  rintro _ w ⟨rfl, hS⟩
  have hS : St B w (_ :: l) hf := hS
  refine RL.e0 (OW.insertL 0 hS rfl underlying193 underlying3 rfl rfl rfl rfl rfl rfl rfl) rfl ?_
  rintro _ w ⟨rfl, hS⟩
  have hS : St B w (_ :: l) hf := hS
  refine RL.e0 (OW.insertL 0 hS rfl underlying193 underlying3 rfl rfl rfl rfl rfl rfl rfl) rfl ?_
  rintro _ w ⟨rfl, hS⟩
  have hS : St B w (_ :: l) hf := hS
  refine RL.e0 (OW.insertL 0 hS rfl underlying193 underlying3 rfl rfl rfl rfl rfl rfl rfl) rfl ?_
  rintro _ w ⟨rfl, hS⟩
  have hS : St B w (_ :: l) hf := hS
  refine RL.e0 (OW.insertL 0 hS rfl underlying193 underlying3 rfl rfl rfl rfl rfl rfl rfl) rfl ?_
  rintro _ w ⟨rfl, hS⟩
  have hS : St B w (_ :: l) hf := hS
  refine RL.e0 (OW.insertL 0 hS rfl underlying193 underlying3 rfl rfl rfl rfl rfl rfl rfl) rfl ?_
  rintro _ w ⟨rfl, hS⟩
  have hS : St B w (_ :: l) hf := hS
  refine RL.e0 (OW.insertL 0 hS rfl underlying193 underlying3 rfl rfl rfl rfl rfl rfl rfl) rfl ?_
  rintro _ w ⟨rfl, hS⟩
  have hS : St B w (_ :: l) hf := hS
  refine RL.e0 (OW.insertL 0 hS rfl underlying193 underlying3 rfl rfl rfl rfl rfl rfl rfl) rfl ?_
  rintro _ w ⟨rfl, hS⟩
  have hS : St B w (_ :: l) hf := hS
  refine RL.e0 (OW.insertL 0 hS rfl underlying193 underlying3 rfl rfl rfl rfl rfl rfl rfl) rfl ?_
  rintro _ w ⟨rfl, hS⟩
  have hS : St B w (_ :: l) hf := hS
  refine RL.e0 (OW.insertL 0 hS rfl underlying193 underlying3 rfl rfl rfl rfl rfl rfl rfl) rfl ?_
  rintro _ w ⟨rfl, hS⟩
  have hS : St B w (_ :: l) hf := hS
  refine RL.e0 (OW.insertL 0 hS rfl underlying193 underlying3 rfl rfl rfl rfl rfl rfl rfl) rfl ?_
  rintro _ w ⟨rfl, hS⟩
  have hS : St B w (_ :: l) hf := hS
  refine RL.e0 (OW.insertL 0 hS rfl underlying193 underlying3 rfl rfl rfl rfl rfl rfl rfl) rfl ?_
  rintro _ w ⟨rfl, hS⟩
  have hS : St B w (_ :: l) hf := hS
  refine RL.e0 (OW.insertL 0 hS rfl underlying193 underlying3 rfl rfl rfl rfl rfl rfl rfl) rfl ?_
  rintro _ w ⟨rfl, hS⟩
  have hS : St B w (_ :: l) hf := hS
  refine RL.e0 (OW.insertL 0 hS rfl underlying193 underlying3 rfl rfl rfl rfl rfl rfl rfl) rfl ?_
  rintro _ w ⟨rfl, hS⟩
  have hS : St B w (_ :: l) hf := hS
  refine RL.e0 (OW.insertL 0 hS rfl underlying193 underlying3 rfl rfl rfl rfl rfl rfl rfl) rfl ?_
  rintro _ w ⟨rfl, hS⟩
  have hS : St B w (_ :: l) hf := hS
  refine pn 2 rfl (lr ?_)
  exact rt results93 rfl ⟨b2, rfl, hS⟩

/-! ### (*isochron/vm.cpu).halt: function 100 -/
noncomputable def vm_cpu_halt.f (a2 : List api_Instr) (a6 : Int) (a7 : List api_Link) (a11 a12 a13 a14 a15 a16 a17 : Int) (a18 : Bool) (a19 : Int) (a22 : List api_Out) (a23 : Int) (fn24 : (Nat → Int)) (a25 : api_Instr) : Option (Int) := some (a2.length : Int)
theorem vm_cpu_halt.ok {a2 : List api_Instr} {a6 : Int} {a7 : List api_Link} {a11 a12 a13 a14 a15 a16 a17 : Int} {a18 : Bool} {a19 : Int} {a22 : List api_Out} {a23 : Int} {fn24 : (Nat → Int)} {a25 : api_Instr} {b1 : Nat} {A3 : Option Addr} {c4 : Nat} {A8 : Option Addr} {c9 : Nat} {A20 : Option Addr} {c21 : Nat} (hr5 : SlR E_api_Instr.rep hf A3 c4 a2) (hr10 : SlR E_api_Link.rep hf A8 c9 a7) {r : Int} (h : vm_cpu_halt.f a2 a6 a7 a11 a12 a13 a14 a15 a16 a17 a18 a19 a22 a23 fn24 a25 = some r) (hS : St B w (Cl b1 [.slice A3 a2.length c4, .int .i64 a6, .slice A8 a7.length c9, .int .u64 a11, .int .i64 a12, .int .i64 a13, .int .i64 a14, .int .i64 a15, .int .i64 a16, .int .i64 a17, .bool a18, .int .i64 (fn24 0), .int .i64 (fn24 1), .int .i64 (fn24 2), .int .i64 (fn24 3), .int .i64 (fn24 4), .int .i64 (fn24 5), .int .i64 (fn24 6), .int .i64 (fn24 7), .int .i64 (fn24 8), .int .i64 (fn24 9), .int .i64 (fn24 10), .int .i64 (fn24 11), .int .i64 (fn24 12), .int .i64 (fn24 13), .int .i64 (fn24 14), .int .i64 (fn24 15), .int .i64 a19, .slice A20 a22.length c21, .int .i64 a23] 170 :: OSf E_api_Out 176 (.slice A20 a22.length c21) a22 :: l) hf) :
    Calls prog 100 #[.pointer (some ⟨b1, 0, none⟩), .agg #[.int .i64 a25.Op, .int .i64 a25.A, .int .i64 a25.B, .int .i64 a25.C]] w (Ret fun v w => v = .tuple #[] ∧ St B w (Cl b1 [.slice A3 a2.length c4, .int .i64 a6, .slice A8 a7.length c9, .int .u64 a11, .int .i64 a12, .int .i64 a13, .int .i64 a14, .int .i64 a15, .int .i64 a16, .int .i64 a17, .bool a18, .int .i64 (fn24 0), .int .i64 (fn24 1), .int .i64 (fn24 2), .int .i64 (fn24 3), .int .i64 (fn24 4), .int .i64 (fn24 5), .int .i64 (fn24 6), .int .i64 (fn24 7), .int .i64 (fn24 8), .int .i64 (fn24 9), .int .i64 (fn24 10), .int .i64 (fn24 11), .int .i64 (fn24 12), .int .i64 (fn24 13), .int .i64 (fn24 14), .int .i64 (fn24 15), .int .i64 a19, .slice A20 a22.length c21, .int .i64 r] 170 :: OSf E_api_Out 176 (.slice A20 a22.length c21) a22 :: l) hf) := by
  have h := Holds.of h
  refine en func100 rfl ntmps100 rfl (sr (bx hS rfl rfl rfl rfl fun b27 w hS => ln (RC.region (pn 3 rfl (RL.s (Vl.fa 0 underlying170 rfl sizeOf124 rfl rfl) rfl (RL.s (Vl.fa 0 underlying124 rfl sizeOf100 rfl rfl) rfl (RL.s (Vl.ld 1 hS isAgg100 rfl rfl rfl) rfl (RL.s (Vl.lenSl underlying100 rfl) rfl (pn 1 rfl (RL.s (Vl.fa 29 underlying170 rfl sizeOf3 rfl rfl) rfl (RL.e0 (OW.store (vs := [.int .i64 (a2.length : Int)]) 1 hS rfl rfl rfl rfl sizeOf3 rfl rfl rfl rfl) rfl ?_)))))))))))
  rintro _ w ⟨rfl, hS⟩
  have hS : St B w (_ :: Cl b1 [.slice A3 a2.length c4, .int .i64 a6, .slice A8 a7.length c9, .int .u64 a11, .int .i64 a12, .int .i64 a13, .int .i64 a14, .int .i64 a15, .int .i64 a16, .int .i64 a17, .bool a18, .int .i64 (fn24 0), .int .i64 (fn24 1), .int .i64 (fn24 2), .int .i64 (fn24 3), .int .i64 (fn24 4), .int .i64 (fn24 5), .int .i64 (fn24 6), .int .i64 (fn24 7), .int .i64 (fn24 8), .int .i64 (fn24 9), .int .i64 (fn24 10), .int .i64 (fn24 11), .int .i64 (fn24 12), .int .i64 (fn24 13), .int .i64 (fn24 14), .int .i64 (fn24 15), .int .i64 a19, .slice A20 a22.length c21, .int .i64 (a2.length : Int)] 170 :: _ :: l) hf := hS
  refine RL.nil ?_
  obtain rfl := h.some
  exact rtE results100 rfl ⟨rfl, hS.d0⟩

/-! ### (*isochron/vm.cpu).set: function 101 -/
noncomputable def vm_cpu_set.f (a2 : List api_Instr) (a6 : Int) (a7 : List api_Link) (a11 a12 a13 a14 a15 a16 a17 : Int) (a18 : Bool) (a19 : Int) (a22 : List api_Out) (a23 : Int) (fn24 : (Nat → Int)) (a25 : api_Instr) : Option ((Nat → Int)) := (if 0 ≤ a25.A ∧ a25.A < 16 then some (upd fn24 (a25.A.toNat * 1) a25.B) else none)
theorem vm_cpu_set.ok {a2 : List api_Instr} {a6 : Int} {a7 : List api_Link} {a11 a12 a13 a14 a15 a16 a17 : Int} {a18 : Bool} {a19 : Int} {a22 : List api_Out} {a23 : Int} {fn24 : (Nat → Int)} {a25 : api_Instr} {b1 : Nat} {A3 : Option Addr} {c4 : Nat} {A8 : Option Addr} {c9 : Nat} {A20 : Option Addr} {c21 : Nat} (hr5 : SlR E_api_Instr.rep hf A3 c4 a2) (hr10 : SlR E_api_Link.rep hf A8 c9 a7) {r : (Nat → Int)} (h : vm_cpu_set.f a2 a6 a7 a11 a12 a13 a14 a15 a16 a17 a18 a19 a22 a23 fn24 a25 = some r) (hS : St B w (Cl b1 [.slice A3 a2.length c4, .int .i64 a6, .slice A8 a7.length c9, .int .u64 a11, .int .i64 a12, .int .i64 a13, .int .i64 a14, .int .i64 a15, .int .i64 a16, .int .i64 a17, .bool a18, .int .i64 (fn24 0), .int .i64 (fn24 1), .int .i64 (fn24 2), .int .i64 (fn24 3), .int .i64 (fn24 4), .int .i64 (fn24 5), .int .i64 (fn24 6), .int .i64 (fn24 7), .int .i64 (fn24 8), .int .i64 (fn24 9), .int .i64 (fn24 10), .int .i64 (fn24 11), .int .i64 (fn24 12), .int .i64 (fn24 13), .int .i64 (fn24 14), .int .i64 (fn24 15), .int .i64 a19, .slice A20 a22.length c21, .int .i64 a23] 170 :: OSf E_api_Out 176 (.slice A20 a22.length c21) a22 :: l) hf) :
    Calls prog 101 #[.pointer (some ⟨b1, 0, none⟩), .agg #[.int .i64 a25.Op, .int .i64 a25.A, .int .i64 a25.B, .int .i64 a25.C]] w (Ret fun v w => v = .tuple #[] ∧ St B w (Cl b1 [.slice A3 a2.length c4, .int .i64 a6, .slice A8 a7.length c9, .int .u64 a11, .int .i64 a12, .int .i64 a13, .int .i64 a14, .int .i64 a15, .int .i64 a16, .int .i64 a17, .bool a18, .int .i64 (r 0), .int .i64 (r 1), .int .i64 (r 2), .int .i64 (r 3), .int .i64 (r 4), .int .i64 (r 5), .int .i64 (r 6), .int .i64 (r 7), .int .i64 (r 8), .int .i64 (r 9), .int .i64 (r 10), .int .i64 (r 11), .int .i64 (r 12), .int .i64 (r 13), .int .i64 (r 14), .int .i64 (r 15), .int .i64 a19, .slice A20 a22.length c21, .int .i64 a23] 170 :: OSf E_api_Out 176 (.slice A20 a22.length c21) a22 :: l) hf) := by
  have h := Holds.of h
  refine en func101 rfl ntmps101 rfl (sr (bx hS rfl rfl rfl rfl fun b29 w hS => ln (RC.planS (plD [0, 3, 7, 9, 13, 17, 20, 23, 26]) [7, 8] hS (fun w hS => hS) follows rfl (by kernel_rfl) NoTmp.body fun w hS => pp 1 rfl (RP.s0 1 rfl (fun w => Vl.fa 1 underlying134 rfl sizeOf3 rfl rfl) rfl (RP.s 0 2 rfl rfl hS (fun w hS => Vl.ld 0 hS isAgg3 rfl rfl rfl) rfl (RP.s0 3 rfl (fun w => Vl.fa 2 underlying134 rfl sizeOf3 rfl rfl) rfl (RP.s 0 4 rfl rfl hS (fun w hS => Vl.ld 0 hS isAgg3 rfl rfl rfl) rfl (RP.v1 5 rfl (Vl.nilCheck rfl) rfl rfl (RP.v1 6 rfl (Vl.fa 11 underlying170 rfl sizeOf168 rfl rfl) rfl rfl ?_)))))))))
  obtain ⟨⟨hq30, hq31⟩, h⟩ := h.req
  refine RP.v1 7 rfl (Vl.indexAddrA (a'' := ⟨b1, 11 + a25.A.toNat * 1, none⟩) underlying168 sizeOf2 rfl rfl hq30 hq31 (add_mk _ _ _)) rfl rfl (RP.e0 8 rfl (OW.storeSeg (mk := (Value.int .i64)) (f := fn24) (n := 16) (m := 11) (pre := [.slice A3 a2.length c4, .int .i64 a6, .slice A8 a7.length c9, .int .u64 a11, .int .i64 a12, .int .i64 a13, .int .i64 a14, .int .i64 a15, .int .i64 a16, .int .i64 a17, .bool a18]) (post := [.int .i64 a19, .slice A20 a22.length c21, .int .i64 a23]) 1 hS rfl rfl rfl rfl sizeOf2 (by omega) (fun _ => rfl) (fun _ => rfl) rfl) rfl ?_)
  rintro _ w ⟨rfl, hS⟩
  have hS : St B w (_ :: _ :: _ :: l) hf := hS
  refine ⟨kp ⟨(by intro hx; cases hx), trivial⟩, ?_⟩
  refine RP.nil ?_
  obtain rfl := h.some
  exact rtE results101 rfl ⟨rfl, hS.d0⟩

/-! ### (*isochron/vm.cpu).move: function 102 -/
noncomputable def vm_cpu_move.f (a2 : List api_Instr) (a6 : Int) (a7 : List api_Link) (a11 a12 a13 a14 a15 a16 a17 : Int) (a18 : Bool) (a19 : Int) (a22 : List api_Out) (a23 : Int) (fn24 : (Nat → Int)) (a25 : api_Instr) : Option ((Nat → Int)) := (if 0 ≤ a25.B ∧ a25.B < 16 then (if 0 ≤ a25.A ∧ a25.A < 16 then some (upd fn24 (a25.A.toNat * 1) (fn24 (a25.B.toNat * 1))) else none) else none)
theorem vm_cpu_move.ok {a2 : List api_Instr} {a6 : Int} {a7 : List api_Link} {a11 a12 a13 a14 a15 a16 a17 : Int} {a18 : Bool} {a19 : Int} {a22 : List api_Out} {a23 : Int} {fn24 : (Nat → Int)} {a25 : api_Instr} {b1 : Nat} {A3 : Option Addr} {c4 : Nat} {A8 : Option Addr} {c9 : Nat} {A20 : Option Addr} {c21 : Nat} (hr5 : SlR E_api_Instr.rep hf A3 c4 a2) (hr10 : SlR E_api_Link.rep hf A8 c9 a7) {r : (Nat → Int)} (h : vm_cpu_move.f a2 a6 a7 a11 a12 a13 a14 a15 a16 a17 a18 a19 a22 a23 fn24 a25 = some r) (hS : St B w (Cl b1 [.slice A3 a2.length c4, .int .i64 a6, .slice A8 a7.length c9, .int .u64 a11, .int .i64 a12, .int .i64 a13, .int .i64 a14, .int .i64 a15, .int .i64 a16, .int .i64 a17, .bool a18, .int .i64 (fn24 0), .int .i64 (fn24 1), .int .i64 (fn24 2), .int .i64 (fn24 3), .int .i64 (fn24 4), .int .i64 (fn24 5), .int .i64 (fn24 6), .int .i64 (fn24 7), .int .i64 (fn24 8), .int .i64 (fn24 9), .int .i64 (fn24 10), .int .i64 (fn24 11), .int .i64 (fn24 12), .int .i64 (fn24 13), .int .i64 (fn24 14), .int .i64 (fn24 15), .int .i64 a19, .slice A20 a22.length c21, .int .i64 a23] 170 :: OSf E_api_Out 176 (.slice A20 a22.length c21) a22 :: l) hf) :
    Calls prog 102 #[.pointer (some ⟨b1, 0, none⟩), .agg #[.int .i64 a25.Op, .int .i64 a25.A, .int .i64 a25.B, .int .i64 a25.C]] w (Ret fun v w => v = .tuple #[] ∧ St B w (Cl b1 [.slice A3 a2.length c4, .int .i64 a6, .slice A8 a7.length c9, .int .u64 a11, .int .i64 a12, .int .i64 a13, .int .i64 a14, .int .i64 a15, .int .i64 a16, .int .i64 a17, .bool a18, .int .i64 (r 0), .int .i64 (r 1), .int .i64 (r 2), .int .i64 (r 3), .int .i64 (r 4), .int .i64 (r 5), .int .i64 (r 6), .int .i64 (r 7), .int .i64 (r 8), .int .i64 (r 9), .int .i64 (r 10), .int .i64 (r 11), .int .i64 (r 12), .int .i64 (r 13), .int .i64 (r 14), .int .i64 (r 15), .int .i64 a19, .slice A20 a22.length c21, .int .i64 a23] 170 :: OSf E_api_Out 176 (.slice A20 a22.length c21) a22 :: l) hf) := by
  have h := Holds.of h
  refine en func102 rfl ntmps102 rfl (sr (bx hS rfl rfl rfl rfl fun b31 w hS => ln (RC.planS (plD [0, 3, 7, 9, 12, 16, 18, 21, 24, 28, 32, 35, 38, 41]) [12, 13] hS (fun w hS => hS) follows rfl (by kernel_rfl) NoTmp.body fun w hS => pp 1 rfl (RP.s0 1 rfl (fun w => Vl.fa 1 underlying134 rfl sizeOf3 rfl rfl) rfl (RP.s 0 2 rfl rfl hS (fun w hS => Vl.ld 0 hS isAgg3 rfl rfl rfl) rfl (pp 1 rfl (RP.s0 4 rfl (fun w => Vl.fa 2 underlying134 rfl sizeOf3 rfl rfl) rfl (RP.s 0 5 rfl rfl hS (fun w hS => Vl.ld 0 hS isAgg3 rfl rfl rfl) rfl (pp 1 rfl (RP.s0 7 rfl (fun w => Vl.fa 11 underlying170 rfl sizeOf168 rfl rfl) rfl ?_))))))))))
  obtain ⟨⟨hq32, hq33⟩, h⟩ := h.req
  refine RP.s0 8 rfl (fun w => Vl.indexAddrA (a'' := ⟨b1, 11 + a25.B.toNat * 1, none⟩) underlying168 sizeOf2 rfl rfl hq32 hq33 (add_mk _ _ _)) rfl (RP.s 0 9 rfl rfl hS (fun w hS => Vl.load isAgg2 rfl (hS.cell (off := 11 + a25.B.toNat * 1) (cs := [.slice A3 a2.length c4, .int .i64 a6, .slice A8 a7.length c9, .int .u64 a11, .int .i64 a12, .int .i64 a13, .int .i64 a14, .int .i64 a15, .int .i64 a16, .int .i64 a17, .bool a18] ++ (fc (Value.int .i64) 16 fn24 ++ [.int .i64 a19, .slice A20 a22.length c21, .int .i64 a23])) 1 rfl (seg_get rfl (by omega)))) rfl (RP.v1 10 rfl (Vl.nilCheck rfl) rfl rfl (RP.v1 11 rfl (Vl.fa 11 underlying170 rfl sizeOf168 rfl rfl) rfl rfl ?_)))
  obtain ⟨⟨hq34, hq35⟩, h⟩ := h.req
  refine RP.v1 12 rfl (Vl.indexAddrA (a'' := ⟨b1, 11 + a25.A.toNat * 1, none⟩) underlying168 sizeOf2 rfl rfl hq34 hq35 (add_mk _ _ _)) rfl rfl (RP.e0 13 rfl (OW.storeSeg (mk := (Value.int .i64)) (f := fn24) (n := 16) (m := 11) (pre := [.slice A3 a2.length c4, .int .i64 a6, .slice A8 a7.length c9, .int .u64 a11, .int .i64 a12, .int .i64 a13, .int .i64 a14, .int .i64 a15, .int .i64 a16, .int .i64 a17, .bool a18]) (post := [.int .i64 a19, .slice A20 a22.length c21, .int .i64 a23]) 1 hS rfl rfl rfl rfl sizeOf2 (by omega) (fun _ => rfl) (fun _ => rfl) rfl) rfl ?_)
  rintro _ w ⟨rfl, hS⟩
  have hS : St B w (_ :: _ :: _ :: l) hf := hS
  refine ⟨kp ⟨(by intro hx; cases hx), trivial⟩, ?_⟩
  refine RP.nil ?_
  obtain rfl := h.some
  exact rtE results102 rfl ⟨rfl, hS.d0⟩

end Go.Proofs.Gx
