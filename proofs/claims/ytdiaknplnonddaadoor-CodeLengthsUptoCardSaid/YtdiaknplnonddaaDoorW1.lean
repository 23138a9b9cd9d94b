/-
  The walks of functions, each with what it computes: printed by wip/gx.py.
-/
import Derived.Test.YtdiaknplnonddaaDoorW0
set_option linter.unusedVariables false
namespace Go.Proofs.Gx
open Go.Sl
/-! ### isochron/code.names: function 21 -/
noncomputable def code_names.f  : Option (Unit) := some ()
set_option maxRecDepth 100000 in
set_option maxHeartbeats 4000000 in
theorem code_names.ok {B : Base} {w : World} {l : List HProp} {hf : Hp} (r : Unit) (h : code_names.f = some r) (hS : St B w (l) hf) :
    Calls Tryd.prog 21 #[] w (Ret fun v w => v = .agg #[.string lit_halt, .string lit_set, .string lit_move, .string lit_add, .string lit_sub, .string lit_mul, .string lit_div, .string lit_mod, .string lit_less, .string lit_same, .string lit_jump, .string lit_zero, .string lit_send, .string lit_draw, .string lit_value, .string lit_time, .string lit_self] ∧ St B w (l) hf) := by
  have h := Holds.of h
  refine enter (args := []) Tryd.func21 rfl Tryd.ntmps21 (Nat.le_of_ble_eq_true rfl) ?_
  refine RC.seq ?_
  refine RC.region ?_
  refine RL.e (OW.alloc (cs := [.string lit_, .string lit_, .string lit_, .string lit_, .string lit_, .string lit_, .string lit_, .string lit_, .string lit_, .string lit_, .string lit_, .string lit_, .string lit_, .string lit_, .string lit_, .string lit_, .string lit_]) hS Tryd.zeroValue45 rfl) rfl rfl ?_
  rintro _ w ⟨b12, rfl, hS⟩
  have hS : St B w (Cl b12 [.string lit_, .string lit_, .string lit_, .string lit_, .string lit_, .string lit_, .string lit_, .string lit_, .string lit_, .string lit_, .string lit_, .string lit_, .string lit_, .string lit_, .string lit_, .string lit_, .string lit_] 45 :: l) hf := hS
  refine RL.nil ?_
  refine RQ.then_n ?_
  refine RC.seq ?_
  refine RC.region ?_
  refine RL.s (Vl.build (v := .agg #[.string lit_halt, .string lit_set, .string lit_move, .string lit_add, .string lit_sub, .string lit_mul, .string lit_div, .string lit_mod, .string lit_less, .string lit_same, .string lit_jump, .string lit_zero, .string lit_send, .string lit_draw, .string lit_value, .string lit_time, .string lit_self]) (parts := [(0, .const (.string lit_halt)), (1, .const (.string lit_set)), (2, .const (.string lit_move)), (3, .const (.string lit_add)), (4, .const (.string lit_sub)), (5, .const (.string lit_mul)), (6, .const (.string lit_div)), (7, .const (.string lit_mod)), (8, .const (.string lit_less)), (9, .const (.string lit_same)), (10, .const (.string lit_jump)), (11, .const (.string lit_zero)), (12, .const (.string lit_send)), (13, .const (.string lit_draw)), (14, .const (.string lit_value)), (15, .const (.string lit_time)), (16, .const (.string lit_self))]) rfl (by kernel_rfl)) rfl ?_
  refine RL.e0 (OW.store (cs := [.string lit_, .string lit_, .string lit_, .string lit_, .string lit_, .string lit_, .string lit_, .string lit_, .string lit_, .string lit_, .string lit_, .string lit_, .string lit_, .string lit_, .string lit_, .string lit_, .string lit_]) (vs := [.string lit_halt, .string lit_set, .string lit_move, .string lit_add, .string lit_sub, .string lit_mul, .string lit_div, .string lit_mod, .string lit_less, .string lit_same, .string lit_jump, .string lit_zero, .string lit_send, .string lit_draw, .string lit_value, .string lit_time, .string lit_self]) (l' := Cl b12 [.string lit_halt, .string lit_set, .string lit_move, .string lit_add, .string lit_sub, .string lit_mul, .string lit_div, .string lit_mod, .string lit_less, .string lit_same, .string lit_jump, .string lit_zero, .string lit_send, .string lit_draw, .string lit_value, .string lit_time, .string lit_self] 45 :: l) 0 hS rfl rfl rfl rfl Tryd.sizeOf45 rfl rfl rfl rfl) rfl ?_
  rintro _ w ⟨rfl, hS⟩
  have hS : St B w (Cl b12 [.string lit_halt, .string lit_set, .string lit_move, .string lit_add, .string lit_sub, .string lit_mul, .string lit_div, .string lit_mod, .string lit_less, .string lit_same, .string lit_jump, .string lit_zero, .string lit_send, .string lit_draw, .string lit_value, .string lit_time, .string lit_self] 45 :: l) hf := hS
  refine RL.nil ?_
  refine RQ.then_n ?_
  refine RC.ret ?_
  have e := h.some
  skip
  refine RQ.ret0 (vs := [.agg #[.string lit_halt, .string lit_set, .string lit_move, .string lit_add, .string lit_sub, .string lit_mul, .string lit_div, .string lit_mod, .string lit_less, .string lit_same, .string lit_jump, .string lit_zero, .string lit_send, .string lit_draw, .string lit_value, .string lit_time, .string lit_self]]) Tryd.results21 ⟨⟨_, rfl, run_loadVarA (vs := [.string lit_halt, .string lit_set, .string lit_move, .string lit_add, .string lit_sub, .string lit_mul, .string lit_div, .string lit_mod, .string lit_less, .string lit_same, .string lit_jump, .string lit_zero, .string lit_send, .string lit_draw, .string lit_value, .string lit_time, .string lit_self]) Tryd.isAgg45 Tryd.sizeOf45 rfl (hS.cellsAt 0 rfl rfl)⟩, trivial⟩ ?_
  exact ⟨rfl, (hS.dropAt 0 rfl)⟩

/-! ### isochron/code.shapes: function 22 -/
noncomputable def code_shapes.f  : Option (Unit) := some ()
set_option maxRecDepth 100000 in
set_option maxHeartbeats 4000000 in
theorem code_shapes.ok {B : Base} {w : World} {l : List HProp} {hf : Hp} (r : Unit) (h : code_shapes.f = some r) (hS : St B w (l) hf) :
    Calls Tryd.prog 22 #[] w (Ret fun v w => v = .agg #[.string lit_2d2d2d, .string lit_726e2d, .string lit_72722d, .string lit_rrr, .string lit_rrr, .string lit_rrr, .string lit_rrr, .string lit_rrr, .string lit_rrr, .string lit_rrr, .string lit_702d2d, .string lit_72702d, .string lit_rrr, .string lit_72722d, .string lit_722d2d, .string lit_722d2d, .string lit_722d2d] ∧ St B w (l) hf) := by
  have h := Holds.of h
  refine enter (args := []) Tryd.func22 rfl Tryd.ntmps22 (Nat.le_of_ble_eq_true rfl) ?_
  refine RC.seq ?_
  refine RC.region ?_
  refine RL.e (OW.alloc (cs := [.string lit_, .string lit_, .string lit_, .string lit_, .string lit_, .string lit_, .string lit_, .string lit_, .string lit_, .string lit_, .string lit_, .string lit_, .string lit_, .string lit_, .string lit_, .string lit_, .string lit_]) hS Tryd.zeroValue45 rfl) rfl rfl ?_
  rintro _ w ⟨b18, rfl, hS⟩
  have hS : St B w (Cl b18 [.string lit_, .string lit_, .string lit_, .string lit_, .string lit_, .string lit_, .string lit_, .string lit_, .string lit_, .string lit_, .string lit_, .string lit_, .string lit_, .string lit_, .string lit_, .string lit_, .string lit_] 45 :: l) hf := hS
  refine RL.nil ?_
  refine RQ.then_n ?_
  refine RC.seq ?_
  refine RC.region ?_
  refine RL.s (Vl.build (v := .agg #[.string lit_2d2d2d, .string lit_726e2d, .string lit_72722d, .string lit_rrr, .string lit_rrr, .string lit_rrr, .string lit_rrr, .string lit_rrr, .string lit_rrr, .string lit_rrr, .string lit_702d2d, .string lit_72702d, .string lit_rrr, .string lit_72722d, .string lit_722d2d, .string lit_722d2d, .string lit_722d2d]) (parts := [(0, .const (.string lit_2d2d2d)), (1, .const (.string lit_726e2d)), (2, .const (.string lit_72722d)), (3, .const (.string lit_rrr)), (4, .const (.string lit_rrr)), (5, .const (.string lit_rrr)), (6, .const (.string lit_rrr)), (7, .const (.string lit_rrr)), (8, .const (.string lit_rrr)), (9, .const (.string lit_rrr)), (10, .const (.string lit_702d2d)), (11, .const (.string lit_72702d)), (12, .const (.string lit_rrr)), (13, .const (.string lit_72722d)), (14, .const (.string lit_722d2d)), (15, .const (.string lit_722d2d)), (16, .const (.string lit_722d2d))]) rfl (by kernel_rfl)) rfl ?_
  refine RL.e0 (OW.store (cs := [.string lit_, .string lit_, .string lit_, .string lit_, .string lit_, .string lit_, .string lit_, .string lit_, .string lit_, .string lit_, .string lit_, .string lit_, .string lit_, .string lit_, .string lit_, .string lit_, .string lit_]) (vs := [.string lit_2d2d2d, .string lit_726e2d, .string lit_72722d, .string lit_rrr, .string lit_rrr, .string lit_rrr, .string lit_rrr, .string lit_rrr, .string lit_rrr, .string lit_rrr, .string lit_702d2d, .string lit_72702d, .string lit_rrr, .string lit_72722d, .string lit_722d2d, .string lit_722d2d, .string lit_722d2d]) (l' := Cl b18 [.string lit_2d2d2d, .string lit_726e2d, .string lit_72722d, .string lit_rrr, .string lit_rrr, .string lit_rrr, .string lit_rrr, .string lit_rrr, .string lit_rrr, .string lit_rrr, .string lit_702d2d, .string lit_72702d, .string lit_rrr, .string lit_72722d, .string lit_722d2d, .string lit_722d2d, .string lit_722d2d] 45 :: l) 0 hS rfl rfl rfl rfl Tryd.sizeOf45 rfl rfl rfl rfl) rfl ?_
  rintro _ w ⟨rfl, hS⟩
  have hS : St B w (Cl b18 [.string lit_2d2d2d, .string lit_726e2d, .string lit_72722d, .string lit_rrr, .string lit_rrr, .string lit_rrr, .string lit_rrr, .string lit_rrr, .string lit_rrr, .string lit_rrr, .string lit_702d2d, .string lit_72702d, .string lit_rrr, .string lit_72722d, .string lit_722d2d, .string lit_722d2d, .string lit_722d2d] 45 :: l) hf := hS
  refine RL.nil ?_
  refine RQ.then_n ?_
  refine RC.ret ?_
  have e := h.some
  skip
  refine RQ.ret0 (vs := [.agg #[.string lit_2d2d2d, .string lit_726e2d, .string lit_72722d, .string lit_rrr, .string lit_rrr, .string lit_rrr, .string lit_rrr, .string lit_rrr, .string lit_rrr, .string lit_rrr, .string lit_702d2d, .string lit_72702d, .string lit_rrr, .string lit_72722d, .string lit_722d2d, .string lit_722d2d, .string lit_722d2d]]) Tryd.results22 ⟨⟨_, rfl, run_loadVarA (vs := [.string lit_2d2d2d, .string lit_726e2d, .string lit_72722d, .string lit_rrr, .string lit_rrr, .string lit_rrr, .string lit_rrr, .string lit_rrr, .string lit_rrr, .string lit_rrr, .string lit_702d2d, .string lit_72702d, .string lit_rrr, .string lit_72722d, .string lit_722d2d, .string lit_722d2d, .string lit_722d2d]) Tryd.isAgg45 Tryd.sizeOf45 rfl (hS.cellsAt 0 rfl rfl)⟩, trivial⟩ ?_
  exact ⟨rfl, (hS.dropAt 0 rfl)⟩

/-! ### isochron/code.Text: function 11 -/
noncomputable def code_Text.j10 (x109 : Int) (s139 : ByteArray) : Option ((ByteArray × Int) ⊕ (ByteArray)) := some (.inl (s139, IntKind.i64.wrap (x109 + 1)))
noncomputable def code_Text.l9b (a4 : api_Instr) (s92 : ByteArray) : ByteArray × Int → Option ((ByteArray × Int) ⊕ (ByteArray))
  | (s108, x109) => (if x109 < 3 then (if 0 ≤ x109 then (if x109 < (s92.size : Int) then (if bt s92 x109 = 45 then code_Text.j10 x109 s108 else (if -9223372036854775808 ≤ nth ([a4.A, a4.B, a4.C] : List Int) x109 ∧ nth ([a4.A, a4.B, a4.C] : List Int) x109 ≤ 9223372036854775807 then (if lit_20.size + (itoaB (nth ([a4.A, a4.B, a4.C] : List Int) x109)).size ≤ 9223372036854775807 then (if s108.size + (lit_20 ++ (itoaB (nth ([a4.A, a4.B, a4.C] : List Int) x109))).size ≤ 9223372036854775807 then code_Text.j10 x109 (s108 ++ (lit_20 ++ (itoaB (nth ([a4.A, a4.B, a4.C] : List Int) x109)))) else none) else none) else none)) else none) else none) else some (.inr s108))
noncomputable def code_Text.l9 (a4 : api_Instr) (s92 : ByteArray) (s : ByteArray × Int) : Option (ByteArray) := loopR (code_Text.l9b a4 s92) s
noncomputable def code_Text.j6 (a4 : api_Instr) (s91 : ByteArray) (s92 : ByteArray) : Option (ByteArray) := code_Text.l9 a4 s92 (s91, 0)
noncomputable def code_Text.f (a4 : api_Instr) : Option (ByteArray) := (if 0 ≤ a4.Op then (if a4.Op < 17 then ((code_names.f).bind fun _ => ((code_shapes.f).bind fun _ => code_Text.j6 a4 (nth ([lit_halt, lit_set, lit_move, lit_add, lit_sub, lit_mul, lit_div, lit_mod, lit_less, lit_same, lit_jump, lit_zero, lit_send, lit_draw, lit_value, lit_time, lit_self] : List ByteArray) a4.Op) (nth ([lit_2d2d2d, lit_726e2d, lit_72722d, lit_rrr, lit_rrr, lit_rrr, lit_rrr, lit_rrr, lit_rrr, lit_rrr, lit_702d2d, lit_72702d, lit_rrr, lit_72722d, lit_722d2d, lit_722d2d, lit_722d2d] : List ByteArray) a4.Op))) else code_Text.j6 a4 lit_3f lit_nnn) else code_Text.j6 a4 lit_3f lit_nnn)
set_option maxRecDepth 100000 in
set_option maxHeartbeats 4000000 in
theorem code_Text.ok {B : Base} {w : World} {l : List HProp} {hf : Hp} (a4 : api_Instr) (hT : TabH Tryd.prog hf) (r : ByteArray) (h : code_Text.f a4 = some r) (hS : St B w (l) hf) :
    Calls Tryd.prog 11 #[.agg #[.int .i64 a4.Op, .int .i64 a4.A, .int .i64 a4.B, .int .i64 a4.C]] w (Ret fun v w => v = .string r ∧ St B w (l) hf) := by
  have h := Holds.of h
  refine enter (args := [.agg #[.int .i64 a4.Op, .int .i64 a4.A, .int .i64 a4.B, .int .i64 a4.C]]) Tryd.func11 rfl Tryd.ntmps11 (Nat.le_of_ble_eq_true rfl) ?_
  refine RC.seq ?_
  refine RC.region ?_
  refine RL.e (OW.box (cs := [.int .i64 a4.Op, .int .i64 a4.A, .int .i64 a4.B, .int .i64 a4.C]) hS rfl rfl) rfl rfl ?_
  rintro _ w ⟨b84, rfl, hS⟩
  have hS : St B w (Cl b84 [.int .i64 a4.Op, .int .i64 a4.A, .int .i64 a4.B, .int .i64 a4.C] 23 :: l) hf := hS
  refine RL.s (Vl.assign rfl) rfl ?_
  refine RL.nil ?_
  refine RQ.then_n ?_
  refine RC.seq ?_
  refine RC.region ?_
  refine RL.s (Vl.assign rfl) rfl ?_
  refine RL.s (Vl.assign rfl) rfl ?_
  refine RL.nil ?_
  refine RQ.then_n ?_
  refine RC.join (fun (s : ByteArray × ByteArray) a w => ∃ (s91 : ByteArray) (s92 : ByteArray), s = (s91, s92) ∧ Has 45 [(1, .pointer (some ⟨b84, 0, none⟩)), (3, .string s91), (4, .string s92)] a ∧ St B w (Cl b84 [.int .i64 a4.Op, .int .i64 a4.A, .int .i64 a4.B, .int .i64 a4.C] 23 :: l) hf ∧ Holds (· = r) (code_Text.j6 a4 s91 s92)) ?_ ?_
  · rintro _ a w ⟨s91, s92, rfl, ha, hS, h⟩
    revert a
    show RC _ _ _ _ _ _
    refine RC.seq ?_
    refine RC.seq ?_
    refine RC.region ?_
    refine RL.s (Vl.fieldAddr (a'' := ⟨b84, 1, none⟩) Tryd.underlying23 rfl Tryd.sizeOf3 rfl rfl) rfl ?_
    refine RL.s (Vl.load Tryd.isAgg3 rfl (hS.cell 0 rfl rfl)) rfl ?_
    refine RL.s (Vl.fieldAddr (a'' := ⟨b84, 2, none⟩) Tryd.underlying23 rfl Tryd.sizeOf3 rfl rfl) rfl ?_
    refine RL.s (Vl.load Tryd.isAgg3 rfl (hS.cell 0 rfl rfl)) rfl ?_
    refine RL.s (Vl.fieldAddr (a'' := ⟨b84, 3, none⟩) Tryd.underlying23 rfl Tryd.sizeOf3 rfl rfl) rfl ?_
    refine RL.s (Vl.load Tryd.isAgg3 rfl (hS.cell 0 rfl rfl)) rfl ?_
    refine RL.s (Vl.build (v := .agg #[.int .i64 a4.A, .int .i64 a4.B, .int .i64 a4.C]) (parts := [(0, .tmp 24), (1, .tmp 26), (2, .tmp 28)]) rfl (by kernel_rfl)) rfl ?_
    refine RL.s (Vl.move rfl) rfl ?_
    refine RL.nil ?_
    refine RQ.then_n ?_
    refine RC.block ?_
    refine fun a ha => RC.loop (N := 45) (body := (code_Text.l9b a4 s92)) (φ := (· = r)) (fun (s : ByteArray × Int) a w => ∃ (s108 : ByteArray) (x109 : Int), s = (s108, x109) ∧ Has 45 [(3, .string s108), (4, .string s92), (29, .agg #[.int .i64 a4.A, .int .i64 a4.B, .int .i64 a4.C]), (30, .int .i64 x109)] a ∧ St B w (l) hf) ?_ (s0 := (s91, 0)) h ⟨s91, 0, rfl, ha.to ⟨rfl, rfl, rfl, rfl, trivial⟩, (hS.dropAt 0 rfl)⟩
    rintro G129 _ a w ⟨s108, x109, rfl, ha, hS⟩ h
    revert a
    show RC _ _ _ _ _ _
    refine RC.seq ?_
    refine RC.region ?_
    refine RL.s (Vl.int rfl rfl rfl) rfl ?_
    refine RL.nil ?_
    refine RQ.then_n ?_
    refine RC.seq ?_
    by_cases hc131 : x109 < 3
    case pos =>
      have h := h.pos hc131
      refine RC.re 31 rfl (congrArg Value.bool (decide_eq_true hc131)) ?_
      refine RC.condT rfl ?_
      refine RC.skip ?_
      refine RQ.then_n ?_
      refine RC.join (fun (s : ByteArray) a w => ∃ (s139 : ByteArray), s = (s139) ∧ Has 45 [(3, .string s139), (4, .string s92), (29, .agg #[.int .i64 a4.A, .int .i64 a4.B, .int .i64 a4.C]), (30, .int .i64 x109)] a ∧ St B w (l) hf ∧ Holds (Sum.elim G129 (· = r)) (code_Text.j10 x109 s139)) ?_ ?_
      · rintro s139 a w ⟨_, rfl, ha, hS, h⟩
        revert a
        show RC _ _ _ _ _ _
        refine RC.region ?_
        refine RL.s (Vl.int rfl rfl rfl) rfl ?_
        refine RL.s (Vl.move rfl) rfl ?_
        refine RL.nil ?_
        exact fun a ha => ⟨(s139, IntKind.i64.wrap (x109 + 1)), ⟨s139, (IntKind.i64.wrap (x109 + 1)), rfl, ha.to ⟨rfl, rfl, rfl, rfl, trivial⟩, hS⟩, h.some⟩
      · refine RC.block ?_
        refine RC.seq ?_
        refine RC.region ?_
        refine RL.s (Vl.move rfl) rfl ?_
        obtain ⟨hq140, h⟩ := h.req
        refine RL.s (Vl.indexMap (f := (Value.int .i64)) (l := ([a4.A, a4.B, a4.C] : List Int)) Tryd.underlying47 Tryd.sizeOf3 Tryd.isAgg3 rfl rfl rfl hq140 hc131) rfl ?_
        refine RL.s (Vl.assign rfl) rfl ?_
        refine RL.s (Vl.assign rfl) rfl ?_
        refine RL.nil ?_
        refine RQ.then_n ?_
        refine RC.seq ?_
        refine RC.region ?_
        refine RL.s (Vl.move rfl) rfl ?_
        refine RL.s (Vl.move rfl) rfl ?_
        obtain ⟨hq141, h⟩ := h.req
        refine RL.s (Vl.indexS Tryd.underlying9 rfl rfl hq140 hq141) rfl ?_
        refine RL.s (Vl.int rfl rfl rfl) rfl ?_
        refine RL.nil ?_
        refine RQ.then_n ?_
        by_cases hc142 : bt s92 x109 = 45
        case pos =>
          have h := h.pos hc142
          refine RC.re 37 rfl (congrArg Value.bool (notdec_pos hc142)) ?_
          refine RC.condF rfl ?_
          refine RC.skip ?_
          refine RQ.inB_n ?_
          exact fun a ha => ⟨(s108), s108, rfl, ha.to ⟨rfl, rfl, rfl, rfl, trivial⟩, hS, h⟩
        case neg =>
          have h := h.neg hc142
          refine RC.re 37 rfl (congrArg Value.bool (notdec_neg hc142)) ?_
          refine RC.condT rfl ?_
          refine RC.region ?_
          refine RL.s (Vl.move rfl) rfl ?_
          refine RL.s (Vl.move rfl) rfl ?_
          obtain ⟨⟨hq143, hq144⟩, h⟩ := h.req
          refine RL.e (OW.callF (ls := [.tmp 39]) rfl Tryd.call23 (itoa_ok Tryd.strconv_Itoa (nth ([a4.A, a4.B, a4.C] : List Int) x109) hq143 hq144 hT hS)) rfl rfl ?_
          rintro _ w ⟨rfl, hS⟩
          have hS : St B w (l) hf := hS
          obtain ⟨hq145, h⟩ := h.req
          refine RL.s (Vl.strAdd hq145 rfl rfl) rfl ?_
          obtain ⟨hq146, h⟩ := h.req
          refine RL.s (Vl.strAdd hq146 rfl rfl) rfl ?_
          refine RL.s (Vl.assign rfl) rfl ?_
          refine RL.nil ?_
          refine RQ.inB_n ?_
          exact fun a ha => ⟨(s108 ++ (lit_20 ++ (itoaB (nth ([a4.A, a4.B, a4.C] : List Int) x109)))), (s108 ++ (lit_20 ++ (itoaB (nth ([a4.A, a4.B, a4.C] : List Int) x109)))), rfl, ha.to ⟨rfl, rfl, rfl, rfl, trivial⟩, hS, h⟩
    case neg =>
      have h := h.neg hc131
      refine RC.re 31 rfl (congrArg Value.bool (decide_eq_false hc131)) ?_
      refine RC.condF rfl ?_
      refine RC.exit ?_
      refine RQ.exitT ?_
      have h := h.inrS
      refine RQ.exitT ?_
      refine RQ.inB_hit ?_
      refine RQ.then_n ?_
      refine RC.seq ?_
      refine RC.region ?_
      refine RL.s (Vl.move rfl) rfl ?_
      refine RL.s (Vl.assign rfl) rfl ?_
      refine RL.nil ?_
      refine RQ.then_n ?_
      refine RC.ret ?_
      have e := h.some
      subst e
      refine RQ.ret0 (vs := [.string s108]) Tryd.results11 ⟨rfl, trivial⟩ ?_
      exact ⟨rfl, hS⟩
  · refine RC.seq ?_
    refine RC.region ?_
    refine RL.s (Vl.fieldAddr (a'' := ⟨b84, 0, none⟩) Tryd.underlying23 rfl Tryd.sizeOf3 rfl rfl) rfl ?_
    refine RL.s (Vl.load Tryd.isAgg3 rfl (hS.cell 0 rfl rfl)) rfl ?_
    refine RL.s (Vl.int rfl rfl rfl) rfl ?_
    refine RL.s (Vl.move rfl) rfl ?_
    by_cases hc147 : 0 ≤ a4.Op
    case pos =>
      have h := h.pos hc147
      refine RL.re 10 rfl (congrArg Value.bool (decide_eq_true hc147)) ?_
      refine RL.sg (Vl.fieldAddr (a'' := ⟨b84, 0, none⟩) Tryd.underlying23 rfl Tryd.sizeOf3 rfl rfl) rfl rfl ?_
      refine RL.sg (Vl.load Tryd.isAgg3 rfl (hS.cell 0 rfl rfl)) rfl rfl ?_
      refine RL.sg (Vl.int rfl rfl rfl) rfl rfl ?_
      refine RL.s (Vl.pickT rfl rfl) rfl ?_
      refine RL.nil ?_
      refine RQ.then_n ?_
      by_cases hc148 : a4.Op < 17
      case pos =>
        have h := h.pos hc148
        refine RC.re 14 rfl (congrArg Value.bool (decide_eq_true hc148)) ?_
        refine RC.condT rfl ?_
        refine RC.plan [(1, true), (2, true), (5, true), (6, true), (0, false), (3, true), (4, false), (7, true), (8, false), (9, false)] [9] (fun w => St B w (Cl b84 [.int .i64 a4.Op, .int .i64 a4.A, .int .i64 a4.B, .int .i64 a4.C] 23 :: l) hf) follows rfl (by kernel_rfl) (NoTmp.then NoTmp.body) ?_
        have hS := hS.same (w' := { w with drawn := w.drawn + 1 }) rfl rfl
        revert hS
        generalize { w with drawn := w.drawn + 1 } = w
        intro hS
        refine RP.s 1 rfl rfl hS (fun w hS => Vl.fieldAddr (a'' := ⟨b84, 0, none⟩) Tryd.underlying23 rfl Tryd.sizeOf3 rfl rfl) rfl ?_
        refine RP.s 2 rfl rfl hS (fun w hS => Vl.load Tryd.isAgg3 rfl (hS.cell 0 rfl rfl)) rfl ?_
        refine RP.s 5 rfl rfl hS (fun w hS => Vl.fieldAddr (a'' := ⟨b84, 0, none⟩) Tryd.underlying23 rfl Tryd.sizeOf3 rfl rfl) rfl ?_
        refine RP.s 6 rfl rfl hS (fun w hS => Vl.load Tryd.isAgg3 rfl (hS.cell 0 rfl rfl)) rfl ?_
        obtain ⟨t149, hg150, h⟩ := h.bind
        refine RP.e 0 rfl (OW.callF (ls := []) rfl Tryd.call21 (code_names.ok _ hg150 hS)) rfl rfl ?_
        rintro _ w ⟨rfl, hS⟩
        have hS : St B w (Cl b84 [.int .i64 a4.Op, .int .i64 a4.A, .int .i64 a4.B, .int .i64 a4.C] 23 :: l) hf := hS
        refine ⟨fun _ => hS, ?_⟩
        refine RP.s 3 rfl rfl hS (fun w hS => Vl.indexMap (f := Value.string) (l := ([lit_halt, lit_set, lit_move, lit_add, lit_sub, lit_mul, lit_div, lit_mod, lit_less, lit_same, lit_jump, lit_zero, lit_send, lit_draw, lit_value, lit_time, lit_self] : List ByteArray)) Tryd.underlying45 Tryd.sizeOf9 Tryd.isAgg9 rfl rfl rfl hc147 hc148) rfl ?_
        obtain ⟨t151, hg152, h⟩ := h.bind
        refine RP.e 4 rfl (OW.callF (ls := []) rfl Tryd.call22 (code_shapes.ok _ hg152 hS)) rfl rfl ?_
        rintro _ w ⟨rfl, hS⟩
        have hS : St B w (Cl b84 [.int .i64 a4.Op, .int .i64 a4.A, .int .i64 a4.B, .int .i64 a4.C] 23 :: l) hf := hS
        refine ⟨fun _ => hS, ?_⟩
        refine RP.s 7 rfl rfl hS (fun w hS => Vl.indexMap (f := Value.string) (l := ([lit_2d2d2d, lit_726e2d, lit_72722d, lit_rrr, lit_rrr, lit_rrr, lit_rrr, lit_rrr, lit_rrr, lit_rrr, lit_702d2d, lit_72702d, lit_rrr, lit_72722d, lit_722d2d, lit_722d2d, lit_722d2d] : List ByteArray)) Tryd.underlying45 Tryd.sizeOf9 Tryd.isAgg9 rfl rfl rfl hc147 hc148) rfl ?_
        refine RP.v1 8 rfl (fun _ => hS) (Vl.assign rfl) rfl rfl ?_
        refine RP.v1 9 rfl (by intro hx; cases hx) (Vl.assign rfl) rfl rfl ?_
        refine RP.nil ?_
        exact fun a ha => ⟨(nth ([lit_halt, lit_set, lit_move, lit_add, lit_sub, lit_mul, lit_div, lit_mod, lit_less, lit_same, lit_jump, lit_zero, lit_send, lit_draw, lit_value, lit_time, lit_self] : List ByteArray) a4.Op, nth ([lit_2d2d2d, lit_726e2d, lit_72722d, lit_rrr, lit_rrr, lit_rrr, lit_rrr, lit_rrr, lit_rrr, lit_rrr, lit_702d2d, lit_72702d, lit_rrr, lit_72722d, lit_722d2d, lit_722d2d, lit_722d2d] : List ByteArray) a4.Op), (nth ([lit_halt, lit_set, lit_move, lit_add, lit_sub, lit_mul, lit_div, lit_mod, lit_less, lit_same, lit_jump, lit_zero, lit_send, lit_draw, lit_value, lit_time, lit_self] : List ByteArray) a4.Op), (nth ([lit_2d2d2d, lit_726e2d, lit_72722d, lit_rrr, lit_rrr, lit_rrr, lit_rrr, lit_rrr, lit_rrr, lit_rrr, lit_702d2d, lit_72702d, lit_rrr, lit_72722d, lit_722d2d, lit_722d2d, lit_722d2d] : List ByteArray) a4.Op), rfl, ha.to ⟨rfl, rfl, rfl, trivial⟩, hS, h⟩
      case neg =>
        have h := h.neg hc148
        refine RC.re 14 rfl (congrArg Value.bool (decide_eq_false hc148)) ?_
        refine RC.condF rfl ?_
        refine RC.skip ?_
        exact fun a ha => ⟨(lit_3f, lit_nnn), lit_3f, lit_nnn, rfl, ha.to ⟨rfl, rfl, rfl, trivial⟩, hS, h⟩
    case neg =>
      have h := h.neg hc147
      refine RL.re 10 rfl (congrArg Value.bool (decide_eq_false hc147)) ?_
      refine RL.nn rfl rfl ?_
      refine RL.nn rfl rfl ?_
      refine RL.nn rfl rfl ?_
      refine RL.s (Vl.pickF rfl rfl) rfl ?_
      refine RL.nil ?_
      refine RQ.then_n ?_
      refine RC.condF rfl ?_
      refine RC.skip ?_
      exact fun a ha => ⟨(lit_3f, lit_nnn), lit_3f, lit_nnn, rfl, ha.to ⟨rfl, rfl, rfl, trivial⟩, hS, h⟩

/-! ### isochron/isochronref03.number: function 24 -/
noncomputable def isochronref03vnumber.f (a173 : Int) : Option (ByteArray) := (if a173 < 0 then (if a173 < (-9) then (if numM (IntKind.i64.wrap (0 - IntKind.i64.wrap (Int.tdiv a173 10))) < numM a173 ∧ -9223372036854775808 ≤ IntKind.i64.wrap (0 - IntKind.i64.wrap (Int.tdiv a173 10)) ∧ IntKind.i64.wrap (0 - IntKind.i64.wrap (Int.tdiv a173 10)) ≤ 9223372036854775807 then (if lit_2d.size + (itoaB (IntKind.i64.wrap (0 - IntKind.i64.wrap (Int.tdiv a173 10)))).size ≤ 9223372036854775807 then (if numM (IntKind.i64.wrap (0 - Int.tmod a173 10)) < numM a173 ∧ -9223372036854775808 ≤ IntKind.i64.wrap (0 - Int.tmod a173 10) ∧ IntKind.i64.wrap (0 - Int.tmod a173 10) ≤ 9223372036854775807 then (if (lit_2d ++ (itoaB (IntKind.i64.wrap (0 - IntKind.i64.wrap (Int.tdiv a173 10))))).size + (itoaB (IntKind.i64.wrap (0 - Int.tmod a173 10))).size ≤ 9223372036854775807 then some ((lit_2d ++ (itoaB (IntKind.i64.wrap (0 - IntKind.i64.wrap (Int.tdiv a173 10))))) ++ (itoaB (IntKind.i64.wrap (0 - Int.tmod a173 10)))) else none) else none) else none) else none) else (if numM (IntKind.i64.wrap (0 - a173)) < numM a173 ∧ -9223372036854775808 ≤ IntKind.i64.wrap (0 - a173) ∧ IntKind.i64.wrap (0 - a173) ≤ 9223372036854775807 then (if lit_2d.size + (itoaB (IntKind.i64.wrap (0 - a173))).size ≤ 9223372036854775807 then some (lit_2d ++ (itoaB (IntKind.i64.wrap (0 - a173)))) else none) else none)) else (if 10 ≤ a173 then (if numM (IntKind.i64.wrap (Int.tdiv a173 10)) < numM a173 ∧ -9223372036854775808 ≤ IntKind.i64.wrap (Int.tdiv a173 10) ∧ IntKind.i64.wrap (Int.tdiv a173 10) ≤ 9223372036854775807 then (if (itoaB (IntKind.i64.wrap (Int.tdiv a173 10))).size + (strOf ([IntKind.u8.wrap (IntKind.i64.wrap (48 + (Int.tmod a173 10)))])).size ≤ 9223372036854775807 then some ((itoaB (IntKind.i64.wrap (Int.tdiv a173 10))) ++ (strOf ([IntKind.u8.wrap (IntKind.i64.wrap (48 + (Int.tmod a173 10)))]))) else none) else none) else some (strOf ([IntKind.u8.wrap (IntKind.i64.wrap (48 + (Int.tmod a173 10)))]))))
set_option maxRecDepth 100000 in
set_option maxHeartbeats 4000000 in
theorem isochronref03vnumber.ok {B : Base} {w : World} {l : List HProp} {hf : Hp} (a173 : Int) (ih : ∀ (m : Int), numM m < numM a173 → -9223372036854775808 ≤ m → m ≤ 9223372036854775807 → ∀ {B : Base} {w : World} {l : List HProp} {hf : Hp}, St B w l hf → Calls Tryd.prog 24 #[.int .i64 m] w (Ret fun v w => v = .string (itoaB m) ∧ St B w l hf)) (r : ByteArray) (h : isochronref03vnumber.f a173 = some r) (hS : St B w (l) hf) :
    Calls Tryd.prog 24 #[.int .i64 a173] w (Ret fun v w => v = .string r ∧ St B w (l) hf) := by
  have h := Holds.of h
  refine enter (args := [.int .i64 a173]) Tryd.func24 rfl Tryd.ntmps24 (Nat.le_of_ble_eq_true rfl) ?_
  refine RC.seq ?_
  refine RC.region ?_
  refine RL.s (Vl.assign rfl) rfl ?_
  refine RL.nil ?_
  refine RQ.then_n ?_
  refine RC.seq ?_
  refine RC.seq ?_
  refine RC.region ?_
  refine RL.s (Vl.move rfl) rfl ?_
  refine RL.s (Vl.int rfl rfl rfl) rfl ?_
  refine RL.nil ?_
  refine RQ.then_n ?_
  by_cases hc250 : a173 < 0
  case pos =>
    have h := h.pos hc250
    refine RC.re 5 rfl (congrArg Value.bool (decide_eq_true hc250)) ?_
    refine RC.condT rfl ?_
    refine RC.seq ?_
    refine RC.seq ?_
    refine RC.region ?_
    refine RL.s (Vl.move rfl) rfl ?_
    refine RL.s (Vl.int rfl rfl rfl) rfl ?_
    refine RL.nil ?_
    refine RQ.then_n ?_
    by_cases hc260 : a173 < (-9)
    case pos =>
      have h := h.pos hc260
      refine RC.re 7 rfl (congrArg Value.bool (decide_eq_true hc260)) ?_
      refine RC.condT rfl ?_
      refine RC.seq ?_
      refine RC.region ?_
      refine RL.s (Vl.move rfl) rfl ?_
      refine RL.s (Vl.quo rfl rfl (by decide)) rfl ?_
      refine RL.s (Vl.neg rfl) rfl ?_
      obtain ⟨⟨hq261, hq262, hq263⟩, h⟩ := h.req
      refine RL.e (OW.callF (ls := [.tmp 10]) rfl Tryd.call24 (ih (IntKind.i64.wrap (0 - IntKind.i64.wrap (Int.tdiv a173 10))) hq261 hq262 hq263 hS)) rfl rfl ?_
      rintro _ w ⟨rfl, hS⟩
      have hS : St B w (l) hf := hS
      obtain ⟨hq264, h⟩ := h.req
      refine RL.s (Vl.strAdd hq264 rfl rfl) rfl ?_
      refine RL.s (Vl.move rfl) rfl ?_
      refine RL.s (Vl.rem rfl rfl (by decide)) rfl ?_
      refine RL.s (Vl.neg rfl) rfl ?_
      obtain ⟨⟨hq265, hq266, hq267⟩, h⟩ := h.req
      refine RL.e (OW.callF (ls := [.tmp 15]) rfl Tryd.call24 (ih (IntKind.i64.wrap (0 - Int.tmod a173 10)) hq265 hq266 hq267 hS)) rfl rfl ?_
      rintro _ w ⟨rfl, hS⟩
      have hS : St B w (l) hf := hS
      obtain ⟨hq268, h⟩ := h.req
      refine RL.s (Vl.strAdd hq268 rfl rfl) rfl ?_
      refine RL.s (Vl.assign rfl) rfl ?_
      refine RL.nil ?_
      refine RQ.then_n ?_
      refine RC.ret ?_
      refine RQ.ret ?_
      refine RQ.ret ?_
      have e := h.some
      subst e
      refine RQ.ret0 (vs := [.string ((lit_2d ++ (itoaB (IntKind.i64.wrap (0 - IntKind.i64.wrap (Int.tdiv a173 10))))) ++ (itoaB (IntKind.i64.wrap (0 - Int.tmod a173 10))))]) Tryd.results24 ⟨rfl, trivial⟩ ?_
      exact ⟨rfl, hS⟩
    case neg =>
      have h := h.neg hc260
      refine RC.re 7 rfl (congrArg Value.bool (decide_eq_false hc260)) ?_
      refine RC.condF rfl ?_
      refine RC.skip ?_
      refine RQ.then_n ?_
      refine RC.seq ?_
      refine RC.region ?_
      refine RL.s (Vl.move rfl) rfl ?_
      refine RL.s (Vl.neg rfl) rfl ?_
      obtain ⟨⟨hq269, hq270, hq271⟩, h⟩ := h.req
      refine RL.e (OW.callF (ls := [.tmp 19]) rfl Tryd.call24 (ih (IntKind.i64.wrap (0 - a173)) hq269 hq270 hq271 hS)) rfl rfl ?_
      rintro _ w ⟨rfl, hS⟩
      have hS : St B w (l) hf := hS
      obtain ⟨hq272, h⟩ := h.req
      refine RL.s (Vl.strAdd hq272 rfl rfl) rfl ?_
      refine RL.s (Vl.assign rfl) rfl ?_
      refine RL.nil ?_
      refine RQ.then_n ?_
      refine RC.ret ?_
      refine RQ.ret ?_
      have e := h.some
      subst e
      refine RQ.ret0 (vs := [.string (lit_2d ++ (itoaB (IntKind.i64.wrap (0 - a173))))]) Tryd.results24 ⟨rfl, trivial⟩ ?_
      exact ⟨rfl, hS⟩
  case neg =>
    have h := h.neg hc250
    refine RC.re 5 rfl (congrArg Value.bool (decide_eq_false hc250)) ?_
    refine RC.condF rfl ?_
    refine RC.skip ?_
    refine RQ.then_n ?_
    refine RC.seq ?_
    refine RC.region ?_
    refine RL.s (Vl.move rfl) rfl ?_
    refine RL.s (Vl.rem rfl rfl (by decide)) rfl ?_
    refine RL.s (Vl.int rfl rfl rfl) rfl ?_
    refine RL.s (Vl.conv Tryd.underlying3 Tryd.underlying5 rfl) rfl ?_
    refine RL.e (OW.buildSlice (E := (FI .u8)) (xs := [IntKind.u8.wrap (IntKind.i64.wrap (48 + (Int.tmod a173 10)))]) (cs := [.int .u8 (IntKind.u8.wrap (IntKind.i64.wrap (48 + (Int.tmod a173 10))))]) hS Tryd.underlying28 Tryd.zeroValue5 Tryd.sizeOf5 (parts := [(0, .tmp 25)]) rfl rfl (by decide) (by decide) (by kernel_rfl) rfl) rfl rfl ?_
    rintro _ w ⟨b274, rfl, hS⟩
    have hS : St B w (OSf (FI .u8) 5 (.slice (some ⟨b274, 0, none⟩) ([IntKind.u8.wrap (IntKind.i64.wrap (48 + (Int.tmod a173 10)))]).length 1) ([IntKind.u8.wrap (IntKind.i64.wrap (48 + (Int.tmod a173 10)))]) :: l) hf := hS
    refine RL.s (Vl.bytesStr Tryd.underlying28 Tryd.underlying5 Tryd.underlying9 rfl (hS.slW 0 rfl).2.2) rfl ?_
    refine RL.s (Vl.assign rfl) rfl ?_
    refine RL.nil ?_
    refine RQ.then_n ?_
    refine RC.seq ?_
    refine RC.seq ?_
    refine RC.region ?_
    refine RL.s (Vl.move rfl) rfl ?_
    refine RL.s (Vl.int rfl rfl rfl) rfl ?_
    refine RL.nil ?_
    refine RQ.then_n ?_
    by_cases hc275 : 10 ≤ a173
    case pos =>
      have h := h.pos hc275
      refine RC.re 29 rfl (congrArg Value.bool (decide_eq_true hc275)) ?_
      refine RC.condT rfl ?_
      refine RC.seq ?_
      refine RC.region ?_
      refine RL.s (Vl.move rfl) rfl ?_
      refine RL.s (Vl.quo rfl rfl (by decide)) rfl ?_
      obtain ⟨⟨hq276, hq277, hq278⟩, h⟩ := h.req
      refine RL.e (OW.callF (ls := [.tmp 31]) rfl Tryd.call24 (ih (IntKind.i64.wrap (Int.tdiv a173 10)) hq276 hq277 hq278 hS)) rfl rfl ?_
      rintro _ w ⟨rfl, hS⟩
      have hS : St B w (OSf (FI .u8) 5 (.slice (some ⟨b274, 0, none⟩) ([IntKind.u8.wrap (IntKind.i64.wrap (48 + (Int.tmod a173 10)))]).length 1) ([IntKind.u8.wrap (IntKind.i64.wrap (48 + (Int.tmod a173 10)))]) :: l) hf := hS
      refine RL.s (Vl.move rfl) rfl ?_
      obtain ⟨hq279, h⟩ := h.req
      refine RL.s (Vl.strAdd hq279 rfl rfl) rfl ?_
      refine RL.s (Vl.assign rfl) rfl ?_
      refine RL.nil ?_
      refine RQ.then_n ?_
      refine RC.ret ?_
      refine RQ.ret ?_
      have e := h.some
      subst e
      refine RQ.ret0 (vs := [.string ((itoaB (IntKind.i64.wrap (Int.tdiv a173 10))) ++ (strOf ([IntKind.u8.wrap (IntKind.i64.wrap (48 + (Int.tmod a173 10)))])))]) Tryd.results24 ⟨rfl, trivial⟩ ?_
      exact ⟨rfl, (hS.dropAt 0 rfl)⟩
    case neg =>
      have h := h.neg hc275
      refine RC.re 29 rfl (congrArg Value.bool (decide_eq_false hc275)) ?_
      refine RC.condF rfl ?_
      refine RC.skip ?_
      refine RQ.then_n ?_
      refine RC.seq ?_
      refine RC.region ?_
      refine RL.s (Vl.move rfl) rfl ?_
      refine RL.s (Vl.assign rfl) rfl ?_
      refine RL.nil ?_
      refine RQ.then_n ?_
      refine RC.ret ?_
      have e := h.some
      subst e
      refine RQ.ret0 (vs := [.string (strOf ([IntKind.u8.wrap (IntKind.i64.wrap (48 + (Int.tmod a173 10)))]))]) Tryd.results24 ⟨rfl, trivial⟩ ?_
      exact ⟨rfl, (hS.dropAt 0 rfl)⟩
theorem isochronref03vnumber.eq (n : Int) (h0 : -9223372036854775808 ≤ n) (h1 : n ≤ 9223372036854775807) : isochronref03vnumber.f n = some (itoaB n) := by
  unfold isochronref03vnumber.f
  have l1 : lit_2d = ⟨[45].toArray⟩ := rfl
  have ls : lit_2d.size = 1 := rfl
  rcases Int.lt_or_le n 0 with hn | hn
  · rw [if_pos hn]
    by_cases h9 : n < -9
    · rw [if_pos h9, tdiv_neg' (by omega) 10, tmod_neg' (by omega) 10, w64 (x := -(-n / 10)) (by omega) (by omega), w64 (x := 0 - -(-n / 10)) (by omega) (by omega), w64 (x := 0 - -(-n % 10)) (by omega) (by omega)]
      have s1 := itoa_size (n := 0 - -(-n / 10)) (by omega) (by omega)
      have s2 := itoa_size (n := 0 - -(-n % 10)) (by omega) (by omega)
      rw [if_pos ⟨by unfold numM; rw [if_pos hn, if_neg (by omega)]; omega, by omega, by omega⟩, if_pos (by omega), if_pos ⟨by unfold numM; rw [if_pos hn, if_neg (by omega)]; omega, by omega, by omega⟩, if_pos (by rw [ByteArray.size_append]; omega)]
      congr 1
      rw [itoa_nonneg (n := 0 - -(-n / 10)) (by omega), itoa_nonneg (n := 0 - -(-n % 10)) (by omega), itoa_neg hn, l1, ba_append, ba_append, dec_big (u := n.natAbs) (by omega), dec_small (u := (0 - -(-n % 10)).toNat) (by omega)]
      rw [show (0 - -(-n / 10)).toNat = n.natAbs / 10 by omega, show (0 - -(-n % 10)).toNat = n.natAbs % 10 by omega]
      simp
    · rw [if_neg h9, w64 (x := 0 - n) (by omega) (by omega)]
      have s1 := itoa_size (n := 0 - n) (by omega) (by omega)
      rw [if_pos ⟨by unfold numM; rw [if_pos hn, if_neg (by omega)]; omega, by omega, by omega⟩, if_pos (by omega), itoa_nonneg (n := 0 - n) (by omega), itoa_neg hn, l1, ba_append, show (0 - n).toNat = n.natAbs by omega]
      rfl
  · rw [if_neg (by omega), tdiv_pos' hn 10, tmod_pos' hn 10, w64 (x := 48 + n % 10) (by omega) (by omega), wu8 (x := 48 + n % 10) (by omega) (by omega), strOf_one]
    by_cases h10 : 10 ≤ n
    · have s1 := itoa_size (n := n / 10) (by omega) (by omega)
      have sz : ∀ x : UInt8, (⟨[x].toArray⟩ : ByteArray).size = 1 := fun _ => rfl
      rw [if_pos h10, w64 (x := n / 10) (by omega) (by omega), if_pos ⟨by unfold numM; rw [if_neg (by omega), if_neg (by omega)]; omega, by omega, by omega⟩, if_pos (by rw [sz]; omega), itoa_nonneg (n := n / 10) (by omega), itoa_nonneg hn, ba_append, dec_big (u := n.toNat) (by omega)]
      rw [show (n / 10).toNat = n.toNat / 10 by omega, show (48 + n % 10).toNat = 48 + n.toNat % 10 by omega]
    · rw [if_neg h10, itoa_nonneg hn, dec_small (by omega), show (48 + n % 10).toNat = 48 + n.toNat by omega]
theorem isochronref03vnumber.ok' (n : Int) (h0 : -9223372036854775808 ≤ n) (h1 : n ≤ 9223372036854775807) {B : Base} {w : World} {l : List HProp} {hf : Hp} (hS : St B w l hf) :
    Calls Tryd.prog 24 #[.int .i64 n] w (Ret fun v w => v = .string (itoaB n) ∧ St B w l hf) := by
  have key : ∀ (k : Nat) (n : Int), numM n = k → -9223372036854775808 ≤ n → n ≤ 9223372036854775807 → ∀ {B : Base} {w : World} {l : List HProp} {hf : Hp}, St B w l hf → Calls Tryd.prog 24 #[.int .i64 n] w (Ret fun v w => v = .string (itoaB n) ∧ St B w l hf) := by
    intro k
    induction k using Nat.strongRecOn with
    | _ k ih =>
      intro n e h0 h1 B w l hf hS
      exact isochronref03vnumber.ok n (fun m hm a b => ih (numM m) (e ▸ hm) m rfl a b) _ (isochronref03vnumber.eq n h0 h1) hS
  exact key _ n rfl h0 h1 hS
/-! ### isochron/isochronref03.Text: function 12 -/
noncomputable def isochronref03vText.l4b (a155 : api_Instr) (x336 : Int) : ByteArray × Int → Option ((ByteArray × Int) ⊕ (ByteArray))
  | (s353, x354) => (if x354 < x336 then (if s353.size + lit_20.size ≤ 9223372036854775807 then (if 0 ≤ x354 ∧ x354 < (([a155.A, a155.B, a155.C]).length : Int) then (if -9223372036854775808 ≤ nth ([a155.A, a155.B, a155.C]) x354 ∧ nth ([a155.A, a155.B, a155.C]) x354 ≤ 9223372036854775807 then (if (s353 ++ lit_20).size + (itoaB (nth ([a155.A, a155.B, a155.C]) x354)).size ≤ 9223372036854775807 then some (.inl ((s353 ++ lit_20) ++ (itoaB (nth ([a155.A, a155.B, a155.C]) x354)), IntKind.i64.wrap (x354 + 1))) else none) else none) else none) else none) else some (.inr s353))
noncomputable def isochronref03vText.l4 (a155 : api_Instr) (x336 : Int) (s : ByteArray × Int) : Option (ByteArray) := loopR (isochronref03vText.l4b a155 x336) s
noncomputable def isochronref03vText.j3 (a155 : api_Instr) (s335 : ByteArray) (x336 : Int) : Option (ByteArray) := isochronref03vText.l4 a155 x336 (s335, 0)
noncomputable def isochronref03vText.f (a155 : api_Instr) : Option (ByteArray) := (if 0 ≤ a155.Op then (if a155.Op < (([lit_halt, lit_set, lit_move, lit_add, lit_sub, lit_mul, lit_div, lit_mod, lit_less, lit_same, lit_jump, lit_zero, lit_send, lit_draw, lit_value, lit_time, lit_self]).length : Int) then (if a155.Op < (([0, 2, 2, 3, 3, 3, 3, 3, 3, 3, 1, 2, 3, 2, 1, 1, 1]).length : Int) then isochronref03vText.j3 a155 (nth ([lit_halt, lit_set, lit_move, lit_add, lit_sub, lit_mul, lit_div, lit_mod, lit_less, lit_same, lit_jump, lit_zero, lit_send, lit_draw, lit_value, lit_time, lit_self]) a155.Op) (nth ([0, 2, 2, 3, 3, 3, 3, 3, 3, 3, 1, 2, 3, 2, 1, 1, 1]) a155.Op) else none) else isochronref03vText.j3 a155 lit_3f 3) else isochronref03vText.j3 a155 lit_3f 3)
set_option maxRecDepth 100000 in
set_option maxHeartbeats 4000000 in
theorem isochronref03vText.ok {B : Base} {w : World} {l : List HProp} {hf : Hp} (a155 : api_Instr) (r : ByteArray) (h : isochronref03vText.f a155 = some r) (hS : St B w (l) hf) :
    Calls Tryd.prog 12 #[.agg #[.int .i64 a155.Op, .int .i64 a155.A, .int .i64 a155.B, .int .i64 a155.C]] w (Ret fun v w => v = .string r ∧ St B w (l) hf) := by
  have h := Holds.of h
  refine enter (args := [.agg #[.int .i64 a155.Op, .int .i64 a155.A, .int .i64 a155.B, .int .i64 a155.C]]) Tryd.func12 rfl Tryd.ntmps12 (Nat.le_of_ble_eq_true rfl) ?_
  refine RC.seq ?_
  refine RC.region ?_
  refine RL.e (OW.box (cs := [.int .i64 a155.Op, .int .i64 a155.A, .int .i64 a155.B, .int .i64 a155.C]) hS rfl rfl) rfl rfl ?_
  rintro _ w ⟨b327, rfl, hS⟩
  have hS : St B w (Cl b327 [.int .i64 a155.Op, .int .i64 a155.A, .int .i64 a155.B, .int .i64 a155.C] 23 :: l) hf := hS
  refine RL.s (Vl.assign rfl) rfl ?_
  refine RL.nil ?_
  refine RQ.then_n ?_
  refine RC.seq ?_
  refine RC.region ?_
  refine RL.e (OW.buildSlice (E := FS) (xs := [lit_halt, lit_set, lit_move, lit_add, lit_sub, lit_mul, lit_div, lit_mod, lit_less, lit_same, lit_jump, lit_zero, lit_send, lit_draw, lit_value, lit_time, lit_self]) (cs := [.string lit_halt, .string lit_set, .string lit_move, .string lit_add, .string lit_sub, .string lit_mul, .string lit_div, .string lit_mod, .string lit_less, .string lit_same, .string lit_jump, .string lit_zero, .string lit_send, .string lit_draw, .string lit_value, .string lit_time, .string lit_self]) hS Tryd.underlying49 Tryd.zeroValue9 Tryd.sizeOf9 (parts := [(0, .const (.string lit_halt)), (1, .const (.string lit_set)), (2, .const (.string lit_move)), (3, .const (.string lit_add)), (4, .const (.string lit_sub)), (5, .const (.string lit_mul)), (6, .const (.string lit_div)), (7, .const (.string lit_mod)), (8, .const (.string lit_less)), (9, .const (.string lit_same)), (10, .const (.string lit_jump)), (11, .const (.string lit_zero)), (12, .const (.string lit_send)), (13, .const (.string lit_draw)), (14, .const (.string lit_value)), (15, .const (.string lit_time)), (16, .const (.string lit_self))]) rfl rfl (by decide) (by decide) (by kernel_rfl) rfl) rfl rfl ?_
  rintro _ w ⟨b329, rfl, hS⟩
  have hS : St B w (OSf FS 9 (.slice (some ⟨b329, 0, none⟩) ([lit_halt, lit_set, lit_move, lit_add, lit_sub, lit_mul, lit_div, lit_mod, lit_less, lit_same, lit_jump, lit_zero, lit_send, lit_draw, lit_value, lit_time, lit_self]).length 17) ([lit_halt, lit_set, lit_move, lit_add, lit_sub, lit_mul, lit_div, lit_mod, lit_less, lit_same, lit_jump, lit_zero, lit_send, lit_draw, lit_value, lit_time, lit_self]) :: Cl b327 [.int .i64 a155.Op, .int .i64 a155.A, .int .i64 a155.B, .int .i64 a155.C] 23 :: l) hf := hS
  refine RL.s (Vl.assign rfl) rfl ?_
  refine RL.nil ?_
  refine RQ.then_n ?_
  refine RC.seq ?_
  refine RC.region ?_
  refine RL.e (OW.buildSlice (E := (FI .i64)) (xs := [0, 2, 2, 3, 3, 3, 3, 3, 3, 3, 1, 2, 3, 2, 1, 1, 1]) (cs := [.int .i64 0, .int .i64 2, .int .i64 2, .int .i64 3, .int .i64 3, .int .i64 3, .int .i64 3, .int .i64 3, .int .i64 3, .int .i64 3, .int .i64 1, .int .i64 2, .int .i64 3, .int .i64 2, .int .i64 1, .int .i64 1, .int .i64 1]) hS Tryd.underlying27 Tryd.zeroValue3 Tryd.sizeOf3 (parts := [(0, .const (.int .i64 0)), (1, .const (.int .i64 2)), (2, .const (.int .i64 2)), (3, .const (.int .i64 3)), (4, .const (.int .i64 3)), (5, .const (.int .i64 3)), (6, .const (.int .i64 3)), (7, .const (.int .i64 3)), (8, .const (.int .i64 3)), (9, .const (.int .i64 3)), (10, .const (.int .i64 1)), (11, .const (.int .i64 2)), (12, .const (.int .i64 3)), (13, .const (.int .i64 2)), (14, .const (.int .i64 1)), (15, .const (.int .i64 1)), (16, .const (.int .i64 1))]) rfl rfl (by decide) (by decide) (by kernel_rfl) rfl) rfl rfl ?_
  rintro _ w ⟨b331, rfl, hS⟩
  have hS : St B w (OSf (FI .i64) 3 (.slice (some ⟨b331, 0, none⟩) ([0, 2, 2, 3, 3, 3, 3, 3, 3, 3, 1, 2, 3, 2, 1, 1, 1]).length 17) ([0, 2, 2, 3, 3, 3, 3, 3, 3, 3, 1, 2, 3, 2, 1, 1, 1]) :: OSf FS 9 (.slice (some ⟨b329, 0, none⟩) ([lit_halt, lit_set, lit_move, lit_add, lit_sub, lit_mul, lit_div, lit_mod, lit_less, lit_same, lit_jump, lit_zero, lit_send, lit_draw, lit_value, lit_time, lit_self]).length 17) ([lit_halt, lit_set, lit_move, lit_add, lit_sub, lit_mul, lit_div, lit_mod, lit_less, lit_same, lit_jump, lit_zero, lit_send, lit_draw, lit_value, lit_time, lit_self]) :: Cl b327 [.int .i64 a155.Op, .int .i64 a155.A, .int .i64 a155.B, .int .i64 a155.C] 23 :: l) hf := hS
  refine RL.s (Vl.assign rfl) rfl ?_
  refine RL.nil ?_
  refine RQ.then_n ?_
  refine RC.seq ?_
  refine RC.region ?_
  refine RL.s (Vl.assign rfl) rfl ?_
  refine RL.nil ?_
  refine RQ.then_n ?_
  refine RC.seq ?_
  refine RC.region ?_
  refine RL.s (Vl.assign rfl) rfl ?_
  refine RL.nil ?_
  refine RQ.then_n ?_
  refine RC.join (fun (s : ByteArray × Int) a w => ∃ (s335 : ByteArray) (x336 : Int), s = (s335, x336) ∧ Has 52 [(1, .pointer (some ⟨b327, 0, none⟩)), (5, .string s335), (6, .int .i64 x336)] a ∧ St B w (Cl b327 [.int .i64 a155.Op, .int .i64 a155.A, .int .i64 a155.B, .int .i64 a155.C] 23 :: l) hf ∧ Holds (· = r) (isochronref03vText.j3 a155 s335 x336)) ?_ ?_
  · rintro _ a w ⟨s335, x336, rfl, ha, hS, h⟩
    revert a
    show RC _ _ _ _ _ _
    refine RC.seq ?_
    refine RC.region ?_
    refine RL.s (Vl.fieldAddr (a'' := ⟨b327, 1, none⟩) Tryd.underlying23 rfl Tryd.sizeOf3 rfl rfl) rfl ?_
    refine RL.s (Vl.load Tryd.isAgg3 rfl (hS.cell 0 rfl rfl)) rfl ?_
    refine RL.s (Vl.fieldAddr (a'' := ⟨b327, 2, none⟩) Tryd.underlying23 rfl Tryd.sizeOf3 rfl rfl) rfl ?_
    refine RL.s (Vl.load Tryd.isAgg3 rfl (hS.cell 0 rfl rfl)) rfl ?_
    refine RL.s (Vl.fieldAddr (a'' := ⟨b327, 3, none⟩) Tryd.underlying23 rfl Tryd.sizeOf3 rfl rfl) rfl ?_
    refine RL.s (Vl.load Tryd.isAgg3 rfl (hS.cell 0 rfl rfl)) rfl ?_
    refine RL.e (OW.buildSlice (E := (FI .i64)) (xs := [a155.A, a155.B, a155.C]) (cs := [.int .i64 a155.A, .int .i64 a155.B, .int .i64 a155.C]) hS Tryd.underlying27 Tryd.zeroValue3 Tryd.sizeOf3 (parts := [(0, .tmp 32), (1, .tmp 34), (2, .tmp 36)]) rfl rfl (by decide) (by decide) (by kernel_rfl) rfl) rfl rfl ?_
    rintro _ w ⟨b338, rfl, hS⟩
    have hS : St B w (OSf (FI .i64) 3 (.slice (some ⟨b338, 0, none⟩) ([a155.A, a155.B, a155.C]).length 3) ([a155.A, a155.B, a155.C]) :: Cl b327 [.int .i64 a155.Op, .int .i64 a155.A, .int .i64 a155.B, .int .i64 a155.C] 23 :: l) hf := hS
    refine RL.s (Vl.assign rfl) rfl ?_
    refine RL.nil ?_
    refine RQ.then_n ?_
    refine RC.seq ?_
    refine RC.seq ?_
    refine RC.region ?_
    refine RL.s (Vl.assign rfl) rfl ?_
    refine RL.nil ?_
    refine RQ.then_n ?_
    refine RC.block ?_
    refine fun a ha => RC.loop (N := 52) (body := (isochronref03vText.l4b a155 x336)) (φ := (· = r)) (fun (s : ByteArray × Int) a w => ∃ (s353 : ByteArray) (x354 : Int), s = (s353, x354) ∧ Has 52 [(5, .string s353), (6, .int .i64 x336), (7, .slice (some ⟨b338, 0, none⟩) ([a155.A, a155.B, a155.C]).length 3), (8, .int .i64 x354)] a ∧ St B w (OSf (FI .i64) 3 (.slice (some ⟨b338, 0, none⟩) ([a155.A, a155.B, a155.C]).length 3) ([a155.A, a155.B, a155.C]) :: l) hf) ?_ (s0 := (s335, 0)) h ⟨s335, 0, rfl, ha.to ⟨rfl, rfl, rfl, rfl, trivial⟩, (hS.dropAt 1 rfl)⟩
    rintro G371 _ a w ⟨s353, x354, rfl, ha, hS⟩ h
    revert a
    show RC _ _ _ _ _ _
    refine RC.seq ?_
    refine RC.seq ?_
    refine RC.region ?_
    refine RL.s (Vl.move rfl) rfl ?_
    refine RL.s (Vl.move rfl) rfl ?_
    refine RL.s (Vl.int rfl rfl rfl) rfl ?_
    refine RL.nil ?_
    refine RQ.then_n ?_
    by_cases hc373 : x354 < x336
    case pos =>
      have h := h.pos hc373
      refine RC.re 40 rfl (congrArg Value.bool (decide_eq_true hc373)) ?_
      refine RC.condT rfl ?_
      refine RC.skip ?_
      refine RQ.then_n ?_
      refine RC.seq ?_
      refine RC.block ?_
      refine RC.region ?_
      refine RL.s (Vl.move rfl) rfl ?_
      obtain ⟨hq380, h⟩ := h.req
      refine RL.s (Vl.strAdd hq380 rfl rfl) rfl ?_
      refine RL.s (Vl.move rfl) rfl ?_
      refine RL.s (Vl.move rfl) rfl ?_
      obtain ⟨⟨hq381, hq382⟩, h⟩ := h.req
      refine RL.s (Vl.indexAddr Tryd.underlying27 Tryd.sizeOf3 rfl rfl ((hS.slW 0 rfl).2.2.adr hq381 hq382) hq381 hq382 rfl) rfl ?_
      refine RL.s (Vl.load Tryd.isAgg3 rfl ((hS.slW 0 rfl).2.2.cell (j := 0) hq381 hq382 rfl)) rfl ?_
      obtain ⟨⟨hq383, hq384⟩, h⟩ := h.req
      refine RL.e (OW.callF (ls := [.tmp 48]) rfl Tryd.call24 (isochronref03vnumber.ok' (nth ([a155.A, a155.B, a155.C]) x354) hq383 hq384 hS)) rfl rfl ?_
      rintro _ w ⟨rfl, hS⟩
      have hS : St B w (OSf (FI .i64) 3 (.slice (some ⟨b338, 0, none⟩) ([a155.A, a155.B, a155.C]).length 3) ([a155.A, a155.B, a155.C]) :: l) hf := hS
      obtain ⟨hq385, h⟩ := h.req
      refine RL.s (Vl.strAdd hq385 rfl rfl) rfl ?_
      refine RL.s (Vl.assign rfl) rfl ?_
      refine RL.nil ?_
      refine RQ.inB_n ?_
      refine RQ.then_n ?_
      refine RC.region ?_
      refine RL.s (Vl.move rfl) rfl ?_
      refine RL.s (Vl.int rfl rfl rfl) rfl ?_
      refine RL.s (Vl.assign rfl) rfl ?_
      refine RL.nil ?_
      exact fun a ha => ⟨((s353 ++ lit_20) ++ (itoaB (nth ([a155.A, a155.B, a155.C]) x354)), IntKind.i64.wrap (x354 + 1)), ⟨((s353 ++ lit_20) ++ (itoaB (nth ([a155.A, a155.B, a155.C]) x354))), (IntKind.i64.wrap (x354 + 1)), rfl, ha.to ⟨rfl, rfl, rfl, rfl, trivial⟩, hS⟩, h.some⟩
    case neg =>
      have h := h.neg hc373
      refine RC.re 40 rfl (congrArg Value.bool (decide_eq_false hc373)) ?_
      refine RC.condF rfl ?_
      refine RC.exit ?_
      refine RQ.exitT ?_
      have h := h.inrS
      refine RQ.exitT ?_
      refine RQ.inB_hit ?_
      refine RQ.then_n ?_
      refine RC.seq ?_
      refine RC.region ?_
      refine RL.s (Vl.move rfl) rfl ?_
      refine RL.s (Vl.assign rfl) rfl ?_
      refine RL.nil ?_
      refine RQ.then_n ?_
      refine RC.ret ?_
      have e := h.some
      subst e
      refine RQ.ret0 (vs := [.string s353]) Tryd.results12 ⟨rfl, trivial⟩ ?_
      exact ⟨rfl, (hS.dropAt 0 rfl)⟩
  · refine RC.seq ?_
    refine RC.region ?_
    refine RL.s (Vl.fieldAddr (a'' := ⟨b327, 0, none⟩) Tryd.underlying23 rfl Tryd.sizeOf3 rfl rfl) rfl ?_
    refine RL.s (Vl.load Tryd.isAgg3 rfl (hS.cell 2 rfl rfl)) rfl ?_
    refine RL.s (Vl.int rfl rfl rfl) rfl ?_
    refine RL.s (Vl.move rfl) rfl ?_
    by_cases hc386 : 0 ≤ a155.Op
    case pos =>
      have h := h.pos hc386
      refine RL.re 14 rfl (congrArg Value.bool (decide_eq_true hc386)) ?_
      refine RL.sg (Vl.fieldAddr (a'' := ⟨b327, 0, none⟩) Tryd.underlying23 rfl Tryd.sizeOf3 rfl rfl) rfl rfl ?_
      refine RL.sg (Vl.load Tryd.isAgg3 rfl (hS.cell 2 rfl rfl)) rfl rfl ?_
      refine RL.sg (Vl.move rfl) rfl rfl ?_
      refine RL.sg (Vl.lenSl Tryd.underlying49 rfl) rfl rfl ?_
      refine RL.sg (Vl.int rfl rfl rfl) rfl rfl ?_
      refine RL.s (Vl.pickT rfl rfl) rfl ?_
      refine RL.nil ?_
      refine RQ.then_n ?_
      by_cases hc387 : a155.Op < (([lit_halt, lit_set, lit_move, lit_add, lit_sub, lit_mul, lit_div, lit_mod, lit_less, lit_same, lit_jump, lit_zero, lit_send, lit_draw, lit_value, lit_time, lit_self]).length : Int)
      case pos =>
        have h := h.pos hc387
        refine RC.re 20 rfl (congrArg Value.bool (decide_eq_true hc387)) ?_
        refine RC.condT rfl ?_
        refine RC.seq ?_
        refine RC.region ?_
        refine RL.s (Vl.move rfl) rfl ?_
        refine RL.s (Vl.fieldAddr (a'' := ⟨b327, 0, none⟩) Tryd.underlying23 rfl Tryd.sizeOf3 rfl rfl) rfl ?_
        refine RL.s (Vl.load Tryd.isAgg3 rfl (hS.cell 2 rfl rfl)) rfl ?_
        refine RL.s (Vl.indexAddr Tryd.underlying49 Tryd.sizeOf9 rfl rfl ((hS.slW 1 rfl).2.2.adr hc386 hc387) hc386 hc387 rfl) rfl ?_
        refine RL.s (Vl.load Tryd.isAgg9 rfl ((hS.slW 1 rfl).2.2.cell (j := 0) hc386 hc387 rfl)) rfl ?_
        refine RL.s (Vl.assign rfl) rfl ?_
        refine RL.nil ?_
        refine RQ.then_n ?_
        refine RC.region ?_
        refine RL.s (Vl.move rfl) rfl ?_
        refine RL.s (Vl.fieldAddr (a'' := ⟨b327, 0, none⟩) Tryd.underlying23 rfl Tryd.sizeOf3 rfl rfl) rfl ?_
        refine RL.s (Vl.load Tryd.isAgg3 rfl (hS.cell 2 rfl rfl)) rfl ?_
        obtain ⟨hq388, h⟩ := h.req
        refine RL.s (Vl.indexAddr Tryd.underlying27 Tryd.sizeOf3 rfl rfl ((hS.slW 0 rfl).2.2.adr hc386 hq388) hc386 hq388 rfl) rfl ?_
        refine RL.s (Vl.load Tryd.isAgg3 rfl ((hS.slW 0 rfl).2.2.cell (j := 0) hc386 hq388 rfl)) rfl ?_
        refine RL.s (Vl.assign rfl) rfl ?_
        refine RL.nil ?_
        exact fun a ha => ⟨(nth ([lit_halt, lit_set, lit_move, lit_add, lit_sub, lit_mul, lit_div, lit_mod, lit_less, lit_same, lit_jump, lit_zero, lit_send, lit_draw, lit_value, lit_time, lit_self]) a155.Op, nth ([0, 2, 2, 3, 3, 3, 3, 3, 3, 3, 1, 2, 3, 2, 1, 1, 1]) a155.Op), (nth ([lit_halt, lit_set, lit_move, lit_add, lit_sub, lit_mul, lit_div, lit_mod, lit_less, lit_same, lit_jump, lit_zero, lit_send, lit_draw, lit_value, lit_time, lit_self]) a155.Op), (nth ([0, 2, 2, 3, 3, 3, 3, 3, 3, 3, 1, 2, 3, 2, 1, 1, 1]) a155.Op), rfl, ha.to ⟨rfl, rfl, rfl, trivial⟩, ((hS.dropAt 0 rfl).dropAt 0 rfl), h⟩
      case neg =>
        have h := h.neg hc387
        refine RC.re 20 rfl (congrArg Value.bool (decide_eq_false hc387)) ?_
        refine RC.condF rfl ?_
        refine RC.skip ?_
        exact fun a ha => ⟨(lit_3f, 3), lit_3f, 3, rfl, ha.to ⟨rfl, rfl, rfl, trivial⟩, ((hS.dropAt 0 rfl).dropAt 0 rfl), h⟩
    case neg =>
      have h := h.neg hc386
      refine RL.re 14 rfl (congrArg Value.bool (decide_eq_false hc386)) ?_
      refine RL.nn rfl rfl ?_
      refine RL.nn rfl rfl ?_
      refine RL.nn rfl rfl ?_
      refine RL.nn rfl rfl ?_
      refine RL.nn rfl rfl ?_
      refine RL.s (Vl.pickF rfl rfl) rfl ?_
      refine RL.nil ?_
      refine RQ.then_n ?_
      refine RC.condF rfl ?_
      refine RC.skip ?_
      exact fun a ha => ⟨(lit_3f, 3), lit_3f, 3, rfl, ha.to ⟨rfl, rfl, rfl, trivial⟩, ((hS.dropAt 0 rfl).dropAt 0 rfl), h⟩

/-! ### isochron/isochronlaw03.awake: function 13 -/
noncomputable def isochronlaw03vawake.f  : Option (Bool) := ((code_Text.f (⟨1, 1, 5, 0⟩ : api_Instr)).bind fun t394 => some (decide (t394 = lit_73657420312035)))
set_option maxRecDepth 100000 in
set_option maxHeartbeats 4000000 in
theorem isochronlaw03vawake.ok {B : Base} {w : World} {l : List HProp} {hf : Hp} (hT : TabH Tryd.prog hf) (r : Bool) (h : isochronlaw03vawake.f = some r) (hS : St B w (l) hf) :
    Calls Tryd.prog 13 #[] w (Ret fun v w => v = .bool r ∧ St B w (l) hf) := by
  have h := Holds.of h
  refine enter (args := []) Tryd.func13 rfl Tryd.ntmps13 (Nat.le_of_ble_eq_true rfl) ?_
  refine RC.seq ?_
  refine RC.region ?_
  refine RL.s (Vl.assign rfl) rfl ?_
  refine RL.nil ?_
  refine RQ.then_n ?_
  refine RC.seq ?_
  refine RC.region ?_
  refine RL.s (Vl.build (v := .agg #[.int .i64 1, .int .i64 1, .int .i64 5, .int .i64 0]) (parts := [(0, .const (.int .i64 1)), (1, .const (.int .i64 1)), (2, .const (.int .i64 5))]) rfl (by kernel_rfl)) rfl ?_
  obtain ⟨t394, hg395, h⟩ := h.bind
  refine RL.e (OW.callF (ls := [.tmp 1]) rfl Tryd.call11 (code_Text.ok (⟨1, 1, 5, 0⟩ : api_Instr) hT _ hg395 hS)) rfl rfl ?_
  rintro _ w ⟨rfl, hS⟩
  have hS : St B w (l) hf := hS
  refine RL.s (Vl.strEq rfl rfl) rfl ?_
  refine RL.s (Vl.assign rfl) rfl ?_
  refine RL.nil ?_
  refine RQ.then_n ?_
  refine RC.ret ?_
  have e := h.some
  subst e
  refine RQ.ret0 (vs := [.bool (decide (t394 = lit_73657420312035))]) Tryd.results13 ⟨rfl, trivial⟩ ?_
  exact ⟨rfl, hS⟩

/-! ### isochron/isochronlaw03.CodeTexts: function 3 -/
noncomputable def isochronlaw03vCodeTexts.f (a1 : api_Instr) : Option (Bool) := ((code_Text.f a1).bind fun t400 => ((isochronref03vText.f a1).bind fun t402 => (if t400 = t402 then ((isochronlaw03vawake.f).bind fun t405 => some t405) else some false)))
set_option maxRecDepth 100000 in
set_option maxHeartbeats 4000000 in
theorem isochronlaw03vCodeTexts.ok {B : Base} {w : World} {l : List HProp} {hf : Hp} (a1 : api_Instr) (hT : TabH Tryd.prog hf) (r : Bool) (h : isochronlaw03vCodeTexts.f a1 = some r) (hS : St B w (l) hf) :
    Calls Tryd.prog 3 #[.agg #[.int .i64 a1.Op, .int .i64 a1.A, .int .i64 a1.B, .int .i64 a1.C]] w (Ret fun v w => v = .bool r ∧ St B w (l) hf) := by
  have h := Holds.of h
  refine enter (args := [.agg #[.int .i64 a1.Op, .int .i64 a1.A, .int .i64 a1.B, .int .i64 a1.C]]) Tryd.func3 rfl Tryd.ntmps3 (Nat.le_of_ble_eq_true rfl) ?_
  refine RC.seq ?_
  refine RC.region ?_
  refine RL.e (OW.box (cs := [.int .i64 a1.Op, .int .i64 a1.A, .int .i64 a1.B, .int .i64 a1.C]) hS rfl rfl) rfl rfl ?_
  rintro _ w ⟨b399, rfl, hS⟩
  have hS : St B w (Cl b399 [.int .i64 a1.Op, .int .i64 a1.A, .int .i64 a1.B, .int .i64 a1.C] 23 :: l) hf := hS
  refine RL.s (Vl.assign rfl) rfl ?_
  refine RL.nil ?_
  refine RQ.then_n ?_
  refine RC.seq ?_
  refine RC.plan [(0, true), (2, true), (1, false), (3, false), (4, false), (5, false), (6, false), (7, false), (8, false)] [8] (fun w => St B w (Cl b399 [.int .i64 a1.Op, .int .i64 a1.A, .int .i64 a1.B, .int .i64 a1.C] 23 :: l) hf) follows rfl (by kernel_rfl) (NoTmp.then NoTmp.body) ?_
  have hS := hS.same (w' := { w with drawn := w.drawn + 1 }) rfl rfl
  revert hS
  generalize { w with drawn := w.drawn + 1 } = w
  intro hS
  refine RP.s 0 rfl rfl hS (fun w hS => Vl.loadA (vs := [.int .i64 a1.Op, .int .i64 a1.A, .int .i64 a1.B, .int .i64 a1.C]) Tryd.isAgg23 Tryd.sizeOf23 rfl rfl (hS.cellsAt 0 rfl rfl)) rfl ?_
  refine RP.s 2 rfl rfl hS (fun w hS => Vl.loadA (vs := [.int .i64 a1.Op, .int .i64 a1.A, .int .i64 a1.B, .int .i64 a1.C]) Tryd.isAgg23 Tryd.sizeOf23 rfl rfl (hS.cellsAt 0 rfl rfl)) rfl ?_
  obtain ⟨t400, hg401, h⟩ := h.bind
  refine RP.e 1 rfl (OW.callF (ls := [.tmp 3]) rfl Tryd.call11 (code_Text.ok a1 hT _ hg401 hS)) rfl rfl ?_
  rintro _ w ⟨rfl, hS⟩
  have hS : St B w (Cl b399 [.int .i64 a1.Op, .int .i64 a1.A, .int .i64 a1.B, .int .i64 a1.C] 23 :: l) hf := hS
  refine ⟨fun _ => hS, ?_⟩
  obtain ⟨t402, hg403, h⟩ := h.bind
  refine RP.e 3 rfl (OW.callF (ls := [.tmp 5]) rfl Tryd.call12 (isochronref03vText.ok a1 _ hg403 hS)) rfl rfl ?_
  rintro _ w ⟨rfl, hS⟩
  have hS : St B w (Cl b399 [.int .i64 a1.Op, .int .i64 a1.A, .int .i64 a1.B, .int .i64 a1.C] 23 :: l) hf := hS
  refine ⟨fun _ => hS, ?_⟩
  refine RP.v1 4 rfl (fun _ => hS) (Vl.strEq rfl rfl) rfl rfl ?_
  refine RP.v1 5 rfl (fun _ => hS) (Vl.move rfl) rfl rfl ?_
  by_cases hc404 : t400 = t402
  case pos =>
    have h := h.pos hc404
    refine RP.re 8 rfl (congrArg Value.bool (decide_eq_true hc404)) ?_
    obtain ⟨t405, hg406, h⟩ := h.bind
    refine RP.e 6 rfl (OW.callF (ls := []) rfl Tryd.call13 (isochronlaw03vawake.ok hT _ hg406 hS)) rfl rfl ?_
    rintro _ w ⟨rfl, hS⟩
    have hS : St B w (Cl b399 [.int .i64 a1.Op, .int .i64 a1.A, .int .i64 a1.B, .int .i64 a1.C] 23 :: l) hf := hS
    refine ⟨fun _ => hS, ?_⟩
    refine RP.v1 7 rfl (fun _ => hS) (Vl.pickT rfl rfl) rfl rfl ?_
    refine RP.v1 8 rfl (by intro hx; cases hx) (Vl.assign rfl) rfl rfl ?_
    refine RP.nil ?_
    refine RQ.then_n ?_
    refine RC.ret ?_
    have e := h.some
    subst e
    refine RQ.ret0 (vs := [.bool t405]) Tryd.results3 ⟨rfl, trivial⟩ ?_
    exact ⟨rfl, (hS.dropAt 0 rfl)⟩
  case neg =>
    have h := h.neg hc404
    refine RP.re 8 rfl (congrArg Value.bool (decide_eq_false hc404)) ?_
    refine RP.n1 6 rfl (fun _ => hS) rfl rfl ?_
    refine RP.v1 7 rfl (fun _ => hS) (Vl.pickF rfl rfl) rfl rfl ?_
    refine RP.v1 8 rfl (by intro hx; cases hx) (Vl.assign rfl) rfl rfl ?_
    refine RP.nil ?_
    refine RQ.then_n ?_
    refine RC.ret ?_
    have e := h.some
    subst e
    refine RQ.ret0 (vs := [.bool false]) Tryd.results3 ⟨rfl, trivial⟩ ?_
    exact ⟨rfl, (hS.dropAt 0 rfl)⟩

/-! ### isochron/isochronlaw03.CodeWords: function 4 -/
noncomputable def isochronlaw03vCodeWords.j17 (x528 : Int) (x543 : Int) : Option ((Int × Int) ⊕ (Bool)) := some (.inl (x543, IntKind.i64.wrap (x528 + 1)))
noncomputable def isochronlaw03vCodeWords.j18 (t490 : ByteArray) (x527 : Int) (x552 : Int) : Option (Bool) := (if x527 = x552 then (if 0 < (t490.size : Int) then (if bt t490 0 = 32 then some false else (if 0 ≤ IntKind.i64.wrap ((t490.size : Int) - 1) ∧ IntKind.i64.wrap ((t490.size : Int) - 1) < (t490.size : Int) then some (!decide (bt t490 (IntKind.i64.wrap ((t490.size : Int) - 1)) = 32)) else none)) else none) else some false)
noncomputable def isochronlaw03vCodeWords.l16b (a407 : api_Instr) (t490 : ByteArray) : Int × Int → Option ((Int × Int) ⊕ (Bool))
  | (x527, x528) => (if x528 < (t490.size : Int) then (if 0 ≤ x528 then (if bt t490 x528 = 32 then isochronlaw03vCodeWords.j17 x528 (IntKind.i64.wrap (x527 + 1)) else isochronlaw03vCodeWords.j17 x528 x527) else none) else (Option.map Sum.inr (if 0 ≤ a407.Op then (if a407.Op < (([0, 2, 2, 3, 3, 3, 3, 3, 3, 3, 1, 2, 3, 2, 1, 1, 1]).length : Int) then isochronlaw03vCodeWords.j18 t490 x527 (nth ([0, 2, 2, 3, 3, 3, 3, 3, 3, 3, 1, 2, 3, 2, 1, 1, 1]) a407.Op) else (if 0 < (t490.size : Int) then (if bt t490 0 = 63 then isochronlaw03vCodeWords.j18 t490 x527 3 else some false) else none)) else (if 0 < (t490.size : Int) then (if bt t490 0 = 63 then isochronlaw03vCodeWords.j18 t490 x527 3 else some false) else none))))
noncomputable def isochronlaw03vCodeWords.l16 (a407 : api_Instr) (t490 : ByteArray) (s : Int × Int) : Option (Bool) := loopR (isochronlaw03vCodeWords.l16b a407 t490) s
noncomputable def isochronlaw03vCodeWords.f (a407 : api_Instr) : Option (Bool) := ((code_Text.f a407).bind fun t490 => (if t490 = lit_ then some false else isochronlaw03vCodeWords.l16 a407 t490 (0, 0)))
set_option maxRecDepth 100000 in
set_option maxHeartbeats 4000000 in
theorem isochronlaw03vCodeWords.ok {B : Base} {w : World} {l : List HProp} {hf : Hp} (a407 : api_Instr) (hT : TabH Tryd.prog hf) (r : Bool) (h : isochronlaw03vCodeWords.f a407 = some r) (hS : St B w (l) hf) :
    Calls Tryd.prog 4 #[.agg #[.int .i64 a407.Op, .int .i64 a407.A, .int .i64 a407.B, .int .i64 a407.C]] w (Ret fun v w => v = .bool r ∧ St B w (l) hf) := by
  have h := Holds.of h
  refine enter (args := [.agg #[.int .i64 a407.Op, .int .i64 a407.A, .int .i64 a407.B, .int .i64 a407.C]]) Tryd.func4 rfl Tryd.ntmps4 (Nat.le_of_ble_eq_true rfl) ?_
  refine RC.seq ?_
  refine RC.region ?_
  refine RL.e (OW.box (cs := [.int .i64 a407.Op, .int .i64 a407.A, .int .i64 a407.B, .int .i64 a407.C]) hS rfl rfl) rfl rfl ?_
  rintro _ w ⟨b487, rfl, hS⟩
  have hS : St B w (Cl b487 [.int .i64 a407.Op, .int .i64 a407.A, .int .i64 a407.B, .int .i64 a407.C] 23 :: l) hf := hS
  refine RL.s (Vl.assign rfl) rfl ?_
  refine RL.nil ?_
  refine RQ.then_n ?_
  refine RC.seq ?_
  refine RC.region ?_
  refine RL.e (OW.buildSlice (E := (FI .i64)) (xs := [0, 2, 2, 3, 3, 3, 3, 3, 3, 3, 1, 2, 3, 2, 1, 1, 1]) (cs := [.int .i64 0, .int .i64 2, .int .i64 2, .int .i64 3, .int .i64 3, .int .i64 3, .int .i64 3, .int .i64 3, .int .i64 3, .int .i64 3, .int .i64 1, .int .i64 2, .int .i64 3, .int .i64 2, .int .i64 1, .int .i64 1, .int .i64 1]) hS Tryd.underlying27 Tryd.zeroValue3 Tryd.sizeOf3 (parts := [(0, .const (.int .i64 0)), (1, .const (.int .i64 2)), (2, .const (.int .i64 2)), (3, .const (.int .i64 3)), (4, .const (.int .i64 3)), (5, .const (.int .i64 3)), (6, .const (.int .i64 3)), (7, .const (.int .i64 3)), (8, .const (.int .i64 3)), (9, .const (.int .i64 3)), (10, .const (.int .i64 1)), (11, .const (.int .i64 2)), (12, .const (.int .i64 3)), (13, .const (.int .i64 2)), (14, .const (.int .i64 1)), (15, .const (.int .i64 1)), (16, .const (.int .i64 1))]) rfl rfl (by decide) (by decide) (by kernel_rfl) rfl) rfl rfl ?_
  rintro _ w ⟨b489, rfl, hS⟩
  have hS : St B w (OSf (FI .i64) 3 (.slice (some ⟨b489, 0, none⟩) ([0, 2, 2, 3, 3, 3, 3, 3, 3, 3, 1, 2, 3, 2, 1, 1, 1]).length 17) ([0, 2, 2, 3, 3, 3, 3, 3, 3, 3, 1, 2, 3, 2, 1, 1, 1]) :: Cl b487 [.int .i64 a407.Op, .int .i64 a407.A, .int .i64 a407.B, .int .i64 a407.C] 23 :: l) hf := hS
  refine RL.s (Vl.assign rfl) rfl ?_
  refine RL.nil ?_
  refine RQ.then_n ?_
  refine RC.seq ?_
  refine RC.region ?_
  refine RL.s (Vl.loadA (vs := [.int .i64 a407.Op, .int .i64 a407.A, .int .i64 a407.B, .int .i64 a407.C]) Tryd.isAgg23 Tryd.sizeOf23 rfl rfl (hS.cellsAt 1 rfl rfl)) rfl ?_
  obtain ⟨t490, hg491, h⟩ := h.bind
  refine RL.e (OW.callF (ls := [.tmp 9]) rfl Tryd.call11 (code_Text.ok a407 hT _ hg491 hS)) rfl rfl ?_
  rintro _ w ⟨rfl, hS⟩
  have hS : St B w (OSf (FI .i64) 3 (.slice (some ⟨b489, 0, none⟩) ([0, 2, 2, 3, 3, 3, 3, 3, 3, 3, 1, 2, 3, 2, 1, 1, 1]).length 17) ([0, 2, 2, 3, 3, 3, 3, 3, 3, 3, 1, 2, 3, 2, 1, 1, 1]) :: Cl b487 [.int .i64 a407.Op, .int .i64 a407.A, .int .i64 a407.B, .int .i64 a407.C] 23 :: l) hf := hS
  refine RL.s (Vl.assign rfl) rfl ?_
  refine RL.nil ?_
  refine RQ.then_n ?_
  refine RC.seq ?_
  refine RC.seq ?_
  refine RC.region ?_
  refine RL.s (Vl.move rfl) rfl ?_
  refine RL.s (Vl.strEq rfl rfl) rfl ?_
  refine RL.nil ?_
  refine RQ.then_n ?_
  by_cases hc493 : t490 = lit_
  case pos =>
    have h := h.pos hc493
    refine RC.re 12 rfl (congrArg Value.bool (decide_eq_true hc493)) ?_
    refine RC.condT rfl ?_
    refine RC.seq ?_
    refine RC.region ?_
    refine RL.s (Vl.assign rfl) rfl ?_
    refine RL.nil ?_
    refine RQ.then_n ?_
    refine RC.ret ?_
    refine RQ.ret ?_
    have e := h.some
    subst e
    refine RQ.ret0 (vs := [.bool false]) Tryd.results4 ⟨rfl, trivial⟩ ?_
    exact ⟨rfl, ((hS.dropAt 0 rfl).dropAt 0 rfl)⟩
  case neg =>
    have h := h.neg hc493
    refine RC.re 12 rfl (congrArg Value.bool (decide_eq_false hc493)) ?_
    refine RC.condF rfl ?_
    refine RC.skip ?_
    refine RQ.then_n ?_
    refine RC.seq ?_
    refine RC.region ?_
    refine RL.s (Vl.assign rfl) rfl ?_
    refine RL.nil ?_
    refine RQ.then_n ?_
    refine RC.seq ?_
    refine RC.seq ?_
    refine RC.region ?_
    refine RL.s (Vl.assign rfl) rfl ?_
    refine RL.nil ?_
    refine RQ.then_n ?_
    refine RC.block ?_
    refine fun a ha => RC.loop (N := 59) (body := (isochronlaw03vCodeWords.l16b a407 t490)) (φ := (· = r)) (fun (s : Int × Int) a w => ∃ (x527 : Int) (x528 : Int), s = (x527, x528) ∧ Has 59 [(1, .pointer (some ⟨b487, 0, none⟩)), (3, .slice (some ⟨b489, 0, none⟩) ([0, 2, 2, 3, 3, 3, 3, 3, 3, 3, 1, 2, 3, 2, 1, 1, 1]).length 17), (4, .string t490), (5, .int .i64 x527), (6, .int .i64 x528)] a ∧ St B w (OSf (FI .i64) 3 (.slice (some ⟨b489, 0, none⟩) ([0, 2, 2, 3, 3, 3, 3, 3, 3, 3, 1, 2, 3, 2, 1, 1, 1]).length 17) ([0, 2, 2, 3, 3, 3, 3, 3, 3, 3, 1, 2, 3, 2, 1, 1, 1]) :: Cl b487 [.int .i64 a407.Op, .int .i64 a407.A, .int .i64 a407.B, .int .i64 a407.C] 23 :: l) hf) ?_ (s0 := (0, 0)) h ⟨0, 0, rfl, ha.to ⟨rfl, rfl, rfl, rfl, rfl, trivial⟩, hS⟩
    rintro G538 _ a w ⟨x527, x528, rfl, ha, hS⟩ h
    revert a
    show RC _ _ _ _ _ _
    refine RC.seq ?_
    refine RC.seq ?_
    refine RC.region ?_
    refine RL.s (Vl.move rfl) rfl ?_
    refine RL.s (Vl.move rfl) rfl ?_
    refine RL.s (Vl.lenStr Tryd.underlying9 rfl) rfl ?_
    refine RL.s (Vl.int rfl rfl rfl) rfl ?_
    refine RL.nil ?_
    refine RQ.then_n ?_
    by_cases hc540 : x528 < (t490.size : Int)
    case pos =>
      have h := h.pos hc540
      refine RC.re 16 rfl (congrArg Value.bool (decide_eq_true hc540)) ?_
      refine RC.condT rfl ?_
      refine RC.skip ?_
      refine RQ.then_n ?_
      refine RC.join (fun (s : Int) a w => ∃ (x543 : Int), s = (x543) ∧ Has 59 [(1, .pointer (some ⟨b487, 0, none⟩)), (3, .slice (some ⟨b489, 0, none⟩) ([0, 2, 2, 3, 3, 3, 3, 3, 3, 3, 1, 2, 3, 2, 1, 1, 1]).length 17), (4, .string t490), (5, .int .i64 x543), (6, .int .i64 x528)] a ∧ St B w (OSf (FI .i64) 3 (.slice (some ⟨b489, 0, none⟩) ([0, 2, 2, 3, 3, 3, 3, 3, 3, 3, 1, 2, 3, 2, 1, 1, 1]).length 17) ([0, 2, 2, 3, 3, 3, 3, 3, 3, 3, 1, 2, 3, 2, 1, 1, 1]) :: Cl b487 [.int .i64 a407.Op, .int .i64 a407.A, .int .i64 a407.B, .int .i64 a407.C] 23 :: l) hf ∧ Holds (Sum.elim G538 (· = r)) (isochronlaw03vCodeWords.j17 x528 x543)) ?_ ?_
      · rintro x543 a w ⟨_, rfl, ha, hS, h⟩
        revert a
        show RC _ _ _ _ _ _
        refine RC.region ?_
        refine RL.s (Vl.move rfl) rfl ?_
        refine RL.s (Vl.int rfl rfl rfl) rfl ?_
        refine RL.s (Vl.assign rfl) rfl ?_
        refine RL.nil ?_
        exact fun a ha => ⟨(x543, IntKind.i64.wrap (x528 + 1)), ⟨x543, (IntKind.i64.wrap (x528 + 1)), rfl, ha.to ⟨rfl, rfl, rfl, rfl, rfl, trivial⟩, hS⟩, h.some⟩
      · refine RC.block ?_
        refine RC.seq ?_
        refine RC.region ?_
        refine RL.s (Vl.move rfl) rfl ?_
        refine RL.s (Vl.move rfl) rfl ?_
        obtain ⟨hq544, h⟩ := h.req
        refine RL.s (Vl.indexS Tryd.underlying9 rfl rfl hq544 hc540) rfl ?_
        refine RL.s (Vl.int rfl rfl rfl) rfl ?_
        refine RL.nil ?_
        refine RQ.then_n ?_
        by_cases hc545 : bt t490 x528 = 32
        case pos =>
          have h := h.pos hc545
          refine RC.re 22 rfl (congrArg Value.bool (decide_eq_true hc545)) ?_
          refine RC.condT rfl ?_
          refine RC.region ?_
          refine RL.s (Vl.move rfl) rfl ?_
          refine RL.s (Vl.int rfl rfl rfl) rfl ?_
          refine RL.s (Vl.assign rfl) rfl ?_
          refine RL.nil ?_
          refine RQ.inB_n ?_
          exact fun a ha => ⟨(IntKind.i64.wrap (x527 + 1)), (IntKind.i64.wrap (x527 + 1)), rfl, ha.to ⟨rfl, rfl, rfl, rfl, rfl, trivial⟩, hS, h⟩
        case neg =>
          have h := h.neg hc545
          refine RC.re 22 rfl (congrArg Value.bool (decide_eq_false hc545)) ?_
          refine RC.condF rfl ?_
          refine RC.skip ?_
          refine RQ.inB_n ?_
          exact fun a ha => ⟨(x527), x527, rfl, ha.to ⟨rfl, rfl, rfl, rfl, rfl, trivial⟩, hS, h⟩
    case neg =>
      have h := h.neg hc540
      refine RC.re 16 rfl (congrArg Value.bool (decide_eq_false hc540)) ?_
      refine RC.condF rfl ?_
      refine RC.exit ?_
      refine RQ.exitT ?_
      have h := h.inr
      refine RQ.exitT ?_
      refine RQ.inB_hit ?_
      refine RQ.then_n ?_
      refine RC.seq ?_
      refine RC.region ?_
      refine RL.s (Vl.assign rfl) rfl ?_
      refine RL.nil ?_
      refine RQ.then_n ?_
      refine RC.join (fun (s : Int) a w => ∃ (x552 : Int), s = (x552) ∧ Has 59 [(4, .string t490), (5, .int .i64 x527), (7, .int .i64 x552)] a ∧ St B w (l) hf ∧ Holds (· = r) (isochronlaw03vCodeWords.j18 t490 x527 x552)) ?_ ?_
      · rintro x552 a w ⟨_, rfl, ha, hS, h⟩
        revert a
        show RC _ _ _ _ _ _
        refine RC.seq ?_
        refine RC.region ?_
        refine RL.s (Vl.move rfl) rfl ?_
        refine RL.s (Vl.move rfl) rfl ?_
        refine RL.s (Vl.int rfl rfl rfl) rfl ?_
        refine RL.s (Vl.move rfl) rfl ?_
        by_cases hc553 : x527 = x552
        case pos =>
          have h := h.pos hc553
          refine RL.re 46 rfl (congrArg Value.bool (decide_eq_true hc553)) ?_
          refine RL.sg (Vl.move rfl) rfl rfl ?_
          obtain ⟨hq554, h⟩ := h.req
          refine RL.sg (Vl.indexS Tryd.underlying9 rfl rfl (by decide) hq554) rfl rfl ?_
          refine RL.sg (Vl.int rfl rfl rfl) rfl rfl ?_
          refine RL.s (Vl.pickT rfl rfl) rfl ?_
          refine RL.s (Vl.move rfl) rfl ?_
          by_cases hc555 : bt t490 0 = 32
          case pos =>
            have h := h.pos hc555
            refine RL.re 51 rfl (congrArg Value.bool (notdec_pos hc555)) ?_
            refine RL.nn rfl rfl ?_
            refine RL.nn rfl rfl ?_
            refine RL.nn rfl rfl ?_
            refine RL.nn rfl rfl ?_
            refine RL.nn rfl rfl ?_
            refine RL.nn rfl rfl ?_
            refine RL.s (Vl.pickF rfl rfl) rfl ?_
            refine RL.s (Vl.assign rfl) rfl ?_
            refine RL.nil ?_
            refine RQ.then_n ?_
            refine RC.ret ?_
            have e := h.some
            subst e
            refine RQ.ret0 (vs := [.bool false]) Tryd.results4 ⟨rfl, trivial⟩ ?_
            exact ⟨rfl, hS⟩
          case neg =>
            have h := h.neg hc555
            refine RL.re 51 rfl (congrArg Value.bool (notdec_neg hc555)) ?_
            refine RL.sg (Vl.move rfl) rfl rfl ?_
            refine RL.sg (Vl.move rfl) rfl rfl ?_
            refine RL.sg (Vl.lenStr Tryd.underlying9 rfl) rfl rfl ?_
            refine RL.sg (Vl.int rfl rfl rfl) rfl rfl ?_
            obtain ⟨⟨hq556, hq557⟩, h⟩ := h.req
            refine RL.sg (Vl.indexS Tryd.underlying9 rfl rfl hq556 hq557) rfl rfl ?_
            refine RL.sg (Vl.int rfl rfl rfl) rfl rfl ?_
            refine RL.s (Vl.pickT rfl rfl) rfl ?_
            refine RL.s (Vl.assign rfl) rfl ?_
            refine RL.nil ?_
            refine RQ.then_n ?_
            refine RC.ret ?_
            have e := h.some
            subst e
            refine RQ.ret0 (vs := [.bool (!decide (bt t490 (IntKind.i64.wrap ((t490.size : Int) - 1)) = 32))]) Tryd.results4 ⟨rfl, trivial⟩ ?_
            exact ⟨rfl, hS⟩
        case neg =>
          have h := h.neg hc553
          refine RL.re 46 rfl (congrArg Value.bool (decide_eq_false hc553)) ?_
          refine RL.nn rfl rfl ?_
          refine RL.nn rfl rfl ?_
          refine RL.nn rfl rfl ?_
          refine RL.s (Vl.pickF rfl rfl) rfl ?_
          refine RL.s (Vl.move rfl) rfl ?_
          refine RL.nn rfl rfl ?_
          refine RL.nn rfl rfl ?_
          refine RL.nn rfl rfl ?_
          refine RL.nn rfl rfl ?_
          refine RL.nn rfl rfl ?_
          refine RL.nn rfl rfl ?_
          refine RL.s (Vl.pickF rfl rfl) rfl ?_
          refine RL.s (Vl.assign rfl) rfl ?_
          refine RL.nil ?_
          refine RQ.then_n ?_
          refine RC.ret ?_
          have e := h.some
          subst e
          refine RQ.ret0 (vs := [.bool false]) Tryd.results4 ⟨rfl, trivial⟩ ?_
          exact ⟨rfl, hS⟩
      · refine RC.seq ?_
        refine RC.region ?_
        refine RL.s (Vl.fieldAddr (a'' := ⟨b487, 0, none⟩) Tryd.underlying23 rfl Tryd.sizeOf3 rfl rfl) rfl ?_
        refine RL.s (Vl.load Tryd.isAgg3 rfl (hS.cell 1 rfl rfl)) rfl ?_
        refine RL.s (Vl.int rfl rfl rfl) rfl ?_
        refine RL.s (Vl.move rfl) rfl ?_
        by_cases hc558 : 0 ≤ a407.Op
        case pos =>
          have h := h.pos hc558
          refine RL.re 28 rfl (congrArg Value.bool (decide_eq_true hc558)) ?_
          refine RL.sg (Vl.fieldAddr (a'' := ⟨b487, 0, none⟩) Tryd.underlying23 rfl Tryd.sizeOf3 rfl rfl) rfl rfl ?_
          refine RL.sg (Vl.load Tryd.isAgg3 rfl (hS.cell 1 rfl rfl)) rfl rfl ?_
          refine RL.sg (Vl.move rfl) rfl rfl ?_
          refine RL.sg (Vl.lenSl Tryd.underlying27 rfl) rfl rfl ?_
          refine RL.sg (Vl.int rfl rfl rfl) rfl rfl ?_
          refine RL.s (Vl.pickT rfl rfl) rfl ?_
          refine RL.nil ?_
          refine RQ.then_n ?_
          by_cases hc559 : a407.Op < (([0, 2, 2, 3, 3, 3, 3, 3, 3, 3, 1, 2, 3, 2, 1, 1, 1]).length : Int)
          case pos =>
            have h := h.pos hc559
            refine RC.re 34 rfl (congrArg Value.bool (decide_eq_true hc559)) ?_
            refine RC.condT rfl ?_
            refine RC.region ?_
            refine RL.s (Vl.move rfl) rfl ?_
            refine RL.s (Vl.fieldAddr (a'' := ⟨b487, 0, none⟩) Tryd.underlying23 rfl Tryd.sizeOf3 rfl rfl) rfl ?_
            refine RL.s (Vl.load Tryd.isAgg3 rfl (hS.cell 1 rfl rfl)) rfl ?_
            refine RL.s (Vl.indexAddr Tryd.underlying27 Tryd.sizeOf3 rfl rfl ((hS.slW 0 rfl).2.2.adr hc558 hc559) hc558 hc559 rfl) rfl ?_
            refine RL.s (Vl.load Tryd.isAgg3 rfl ((hS.slW 0 rfl).2.2.cell (j := 0) hc558 hc559 rfl)) rfl ?_
            refine RL.s (Vl.assign rfl) rfl ?_
            refine RL.nil ?_
            exact fun a ha => ⟨(nth ([0, 2, 2, 3, 3, 3, 3, 3, 3, 3, 1, 2, 3, 2, 1, 1, 1]) a407.Op), (nth ([0, 2, 2, 3, 3, 3, 3, 3, 3, 3, 1, 2, 3, 2, 1, 1, 1]) a407.Op), rfl, ha.to ⟨rfl, rfl, rfl, trivial⟩, ((hS.dropAt 0 rfl).dropAt 0 rfl), h⟩
          case neg =>
            have h := h.neg hc559
            refine RC.re 34 rfl (congrArg Value.bool (decide_eq_false hc559)) ?_
            refine RC.condF rfl ?_
            refine RC.seq ?_
            refine RC.region ?_
            refine RL.s (Vl.move rfl) rfl ?_
            obtain ⟨hq560, h⟩ := h.req
            refine RL.s (Vl.indexS Tryd.underlying9 rfl rfl (by decide) hq560) rfl ?_
            refine RL.s (Vl.int rfl rfl rfl) rfl ?_
            refine RL.nil ?_
            refine RQ.then_n ?_
            by_cases hc561 : bt t490 0 = 63
            case pos =>
              have h := h.pos hc561
              refine RC.re 42 rfl (congrArg Value.bool (notdec_pos hc561)) ?_
              refine RC.condF rfl ?_
              refine RC.skip ?_
              exact fun a ha => ⟨(3), 3, rfl, ha.to ⟨rfl, rfl, rfl, trivial⟩, ((hS.dropAt 0 rfl).dropAt 0 rfl), h⟩
            case neg =>
              have h := h.neg hc561
              refine RC.re 42 rfl (congrArg Value.bool (notdec_neg hc561)) ?_
              refine RC.condT rfl ?_
              refine RC.seq ?_
              refine RC.region ?_
              refine RL.s (Vl.assign rfl) rfl ?_
              refine RL.nil ?_
              refine RQ.then_n ?_
              refine RC.ret ?_
              refine RQ.ret ?_
              have e := h.some
              subst e
              refine RQ.ret0 (vs := [.bool false]) Tryd.results4 ⟨rfl, trivial⟩ ?_
              exact ⟨rfl, ((hS.dropAt 0 rfl).dropAt 0 rfl)⟩
        case neg =>
          have h := h.neg hc558
          refine RL.re 28 rfl (congrArg Value.bool (decide_eq_false hc558)) ?_
          refine RL.nn rfl rfl ?_
          refine RL.nn rfl rfl ?_
          refine RL.nn rfl rfl ?_
          refine RL.nn rfl rfl ?_
          refine RL.nn rfl rfl ?_
          refine RL.s (Vl.pickF rfl rfl) rfl ?_
          refine RL.nil ?_
          refine RQ.then_n ?_
          refine RC.condF rfl ?_
          refine RC.seq ?_
          refine RC.region ?_
          refine RL.s (Vl.move rfl) rfl ?_
          obtain ⟨hq562, h⟩ := h.req
          refine RL.s (Vl.indexS Tryd.underlying9 rfl rfl (by decide) hq562) rfl ?_
          refine RL.s (Vl.int rfl rfl rfl) rfl ?_
          refine RL.nil ?_
          refine RQ.then_n ?_
          by_cases hc563 : bt t490 0 = 63
          case pos =>
            have h := h.pos hc563
            refine RC.re 42 rfl (congrArg Value.bool (notdec_pos hc563)) ?_
            refine RC.condF rfl ?_
            refine RC.skip ?_
            exact fun a ha => ⟨(3), 3, rfl, ha.to ⟨rfl, rfl, rfl, trivial⟩, ((hS.dropAt 0 rfl).dropAt 0 rfl), h⟩
          case neg =>
            have h := h.neg hc563
            refine RC.re 42 rfl (congrArg Value.bool (notdec_neg hc563)) ?_
            refine RC.condT rfl ?_
            refine RC.seq ?_
            refine RC.region ?_
            refine RL.s (Vl.assign rfl) rfl ?_
            refine RL.nil ?_
            refine RQ.then_n ?_
            refine RC.ret ?_
            refine RQ.ret ?_
            have e := h.some
            subst e
            refine RQ.ret0 (vs := [.bool false]) Tryd.results4 ⟨rfl, trivial⟩ ?_
            exact ⟨rfl, ((hS.dropAt 0 rfl).dropAt 0 rfl)⟩

/-! ### isochron/code.right: function 30 -/
noncomputable def code_right.j2 (a626 : Int) (x647 : Int) (x648 : Int) : Option (Bool) := (if x647 ≤ a626 then some (decide (a626 ≤ x648)) else some false)
noncomputable def code_right.f (a626 : Int) (a627 : Int) (a628 : Int) : Option (Bool) := (if a627 = 110 then code_right.j2 a626 (-2147483648) 2147483647 else (if a627 = 112 then code_right.j2 a626 0 a628 else (if a627 = 114 then code_right.j2 a626 0 15 else code_right.j2 a626 0 0)))
set_option maxRecDepth 100000 in
set_option maxHeartbeats 4000000 in
theorem code_right.ok {B : Base} {w : World} {l : List HProp} {hf : Hp} (a626 : Int) (a627 : Int) (a628 : Int) (r : Bool) (h : code_right.f a626 a627 a628 = some r) (hS : St B w (l) hf) :
    Calls Tryd.prog 30 #[.int .i64 a626, .int .u8 a627, .int .i64 a628] w (Ret fun v w => v = .bool r ∧ St B w (l) hf) := by
  have h := Holds.of h
  refine enter (args := [.int .i64 a626, .int .u8 a627, .int .i64 a628]) Tryd.func30 rfl Tryd.ntmps30 (Nat.le_of_ble_eq_true rfl) ?_
  refine RC.seq ?_
  refine RC.region ?_
  refine RL.s (Vl.assign rfl) rfl ?_
  refine RL.nil ?_
  refine RQ.then_n ?_
  refine RC.seq ?_
  refine RC.region ?_
  refine RL.s (Vl.assign rfl) rfl ?_
  refine RL.s (Vl.assign rfl) rfl ?_
  refine RL.nil ?_
  refine RQ.then_n ?_
  refine RC.join (fun (s : Int × Int) a w => ∃ (x647 : Int) (x648 : Int), s = (x647, x648) ∧ Has 25 [(0, .int .i64 a626), (7, .int .i64 x647), (8, .int .i64 x648)] a ∧ St B w (l) hf ∧ Holds (· = r) (code_right.j2 a626 x647 x648)) ?_ ?_
  · rintro _ a w ⟨x647, x648, rfl, ha, hS, h⟩
    revert a
    show RC _ _ _ _ _ _
    refine RC.seq ?_
    refine RC.region ?_
    refine RL.s (Vl.move rfl) rfl ?_
    refine RL.s (Vl.move rfl) rfl ?_
    refine RL.s (Vl.int rfl rfl rfl) rfl ?_
    refine RL.s (Vl.move rfl) rfl ?_
    by_cases hc649 : x647 ≤ a626
    case pos =>
      have h := h.pos hc649
      refine RL.re 20 rfl (congrArg Value.bool (decide_eq_true hc649)) ?_
      refine RL.sg (Vl.move rfl) rfl rfl ?_
      refine RL.sg (Vl.move rfl) rfl rfl ?_
      refine RL.sg (Vl.int rfl rfl rfl) rfl rfl ?_
      refine RL.s (Vl.pickT rfl rfl) rfl ?_
      refine RL.s (Vl.assign rfl) rfl ?_
      refine RL.nil ?_
      refine RQ.then_n ?_
      refine RC.ret ?_
      have e := h.some
      subst e
      refine RQ.ret0 (vs := [.bool (decide (a626 ≤ x648))]) Tryd.results30 ⟨rfl, trivial⟩ ?_
      exact ⟨rfl, hS⟩
    case neg =>
      have h := h.neg hc649
      refine RL.re 20 rfl (congrArg Value.bool (decide_eq_false hc649)) ?_
      refine RL.nn rfl rfl ?_
      refine RL.nn rfl rfl ?_
      refine RL.nn rfl rfl ?_
      refine RL.s (Vl.pickF rfl rfl) rfl ?_
      refine RL.s (Vl.assign rfl) rfl ?_
      refine RL.nil ?_
      refine RQ.then_n ?_
      refine RC.ret ?_
      have e := h.some
      subst e
      refine RQ.ret0 (vs := [.bool false]) Tryd.results30 ⟨rfl, trivial⟩ ?_
      exact ⟨rfl, hS⟩
  · refine RC.seq ?_
    refine RC.region ?_
    refine RL.s (Vl.move rfl) rfl ?_
    refine RL.nil ?_
    refine RQ.then_n ?_
    refine RC.block ?_
    refine RC.seq ?_
    refine RC.block ?_
    refine RC.seq ?_
    refine RC.block ?_
    refine RC.seq ?_
    refine RC.block ?_
    refine RC.seq ?_
    refine RC.block ?_
    refine RC.seq ?_
    refine RC.seq ?_
    refine RC.seq ?_
    refine RC.region ?_
    refine RL.s (Vl.int rfl rfl rfl) rfl ?_
    refine RL.s (Vl.assign rfl) rfl ?_
    refine RL.nil ?_
    refine RQ.then_n ?_
    by_cases hc651 : a627 = 110
    case pos =>
      have h := h.pos hc651
      refine RC.re 10 rfl (congrArg Value.bool (decide_eq_true hc651)) ?_
      refine RC.condT rfl ?_
      refine RC.exit ?_
      refine RQ.exitT ?_
      refine RQ.exitT ?_
      refine RQ.inB_hit ?_
      refine RQ.then_n ?_
      refine RC.seq ?_
      refine RC.region ?_
      refine RL.s (Vl.assign rfl) rfl ?_
      refine RL.s (Vl.assign rfl) rfl ?_
      refine RL.nil ?_
      refine RQ.then_n ?_
      refine RC.exit ?_
      refine RQ.inB_miss rfl ?_
      refine RQ.exitT ?_
      refine RQ.inB_miss rfl ?_
      refine RQ.exitT ?_
      refine RQ.inB_miss rfl ?_
      refine RQ.exitT ?_
      refine RQ.inB_hit ?_
      exact fun a ha => ⟨((-2147483648), 2147483647), (-2147483648), 2147483647, rfl, ha.to ⟨rfl, rfl, rfl, trivial⟩, hS, h⟩
    case neg =>
      have h := h.neg hc651
      refine RC.re 10 rfl (congrArg Value.bool (decide_eq_false hc651)) ?_
      refine RC.condF rfl ?_
      refine RC.skip ?_
      refine RQ.then_n ?_
      refine RC.seq ?_
      refine RC.seq ?_
      refine RC.region ?_
      refine RL.s (Vl.int rfl rfl rfl) rfl ?_
      refine RL.s (Vl.assign rfl) rfl ?_
      refine RL.nil ?_
      refine RQ.then_n ?_
      by_cases hc653 : a627 = 112
      case pos =>
        have h := h.pos hc653
        refine RC.re 12 rfl (congrArg Value.bool (decide_eq_true hc653)) ?_
        refine RC.condT rfl ?_
        refine RC.exit ?_
        refine RQ.exitT ?_
        refine RQ.exitT ?_
        refine RQ.inB_miss rfl ?_
        refine RQ.exitT ?_
        refine RQ.inB_hit ?_
        refine RQ.then_n ?_
        refine RC.seq ?_
        refine RC.region ?_
        refine RL.s (Vl.move rfl) rfl ?_
        refine RL.s (Vl.assign rfl) rfl ?_
        refine RL.nil ?_
        refine RQ.then_n ?_
        refine RC.exit ?_
        refine RQ.inB_miss rfl ?_
        refine RQ.exitT ?_
        refine RQ.inB_miss rfl ?_
        refine RQ.exitT ?_
        refine RQ.inB_hit ?_
        exact fun a ha => ⟨(0, a628), 0, a628, rfl, ha.to ⟨rfl, rfl, rfl, trivial⟩, hS, h⟩
      case neg =>
        have h := h.neg hc653
        refine RC.re 12 rfl (congrArg Value.bool (decide_eq_false hc653)) ?_
        refine RC.condF rfl ?_
        refine RC.skip ?_
        refine RQ.then_n ?_
        refine RC.seq ?_
        refine RC.region ?_
        refine RL.s (Vl.int rfl rfl rfl) rfl ?_
        refine RL.s (Vl.assign rfl) rfl ?_
        refine RL.nil ?_
        refine RQ.then_n ?_
        by_cases hc654 : a627 = 114
        case pos =>
          have h := h.pos hc654
          refine RC.re 14 rfl (congrArg Value.bool (decide_eq_true hc654)) ?_
          refine RC.condT rfl ?_
          refine RC.exit ?_
          refine RQ.exitT ?_
          refine RQ.inB_miss rfl ?_
          refine RQ.exitT ?_
          refine RQ.inB_miss rfl ?_
          refine RQ.exitT ?_
          refine RQ.inB_hit ?_
          refine RQ.then_n ?_
          refine RC.region ?_
          refine RL.s (Vl.assign rfl) rfl ?_
          refine RL.nil ?_
          refine RQ.inB_n ?_
          refine RQ.then_n ?_
          refine RC.seq ?_
          refine RC.region ?_
          refine RL.s (Vl.assign rfl) rfl ?_
          refine RL.nil ?_
          refine RQ.then_n ?_
          refine RC.exit ?_
          refine RQ.inB_hit ?_
          exact fun a ha => ⟨(0, 15), 0, 15, rfl, ha.to ⟨rfl, rfl, rfl, trivial⟩, hS, h⟩
        case neg =>
          have h := h.neg hc654
          refine RC.re 14 rfl (congrArg Value.bool (decide_eq_false hc654)) ?_
          refine RC.condF rfl ?_
          refine RC.skip ?_
          refine RQ.then_n ?_
          refine RC.exit ?_
          refine RQ.inB_miss rfl ?_
          refine RQ.exitT ?_
          refine RQ.inB_miss rfl ?_
          refine RQ.exitT ?_
          refine RQ.inB_miss rfl ?_
          refine RQ.exitT ?_
          refine RQ.inB_hit ?_
          refine RQ.then_n ?_
          refine RC.seq ?_
          refine RC.region ?_
          refine RL.s (Vl.assign rfl) rfl ?_
          refine RL.nil ?_
          refine RQ.then_n ?_
          refine RC.exit ?_
          refine RQ.inB_hit ?_
          exact fun a ha => ⟨(0, 0), 0, 0, rfl, ha.to ⟨rfl, rfl, rfl, trivial⟩, hS, h⟩

/-! ### isochron/code.may: function 25 -/
noncomputable def code_may.f (a613 : api_Instr) (a614 : Int) : Option (Bool) := (if a613.Op < 0 then some false else (if 17 ≤ a613.Op then some false else ((code_shapes.f).bind fun _ => (if 0 ≤ a613.Op ∧ a613.Op < 17 then (if 0 < ((nth ([lit_2d2d2d, lit_726e2d, lit_72722d, lit_rrr, lit_rrr, lit_rrr, lit_rrr, lit_rrr, lit_rrr, lit_rrr, lit_702d2d, lit_72702d, lit_rrr, lit_72722d, lit_722d2d, lit_722d2d, lit_722d2d] : List ByteArray) a613.Op).size : Int) then ((code_right.f a613.A (bt (nth ([lit_2d2d2d, lit_726e2d, lit_72722d, lit_rrr, lit_rrr, lit_rrr, lit_rrr, lit_rrr, lit_rrr, lit_rrr, lit_702d2d, lit_72702d, lit_rrr, lit_72722d, lit_722d2d, lit_722d2d, lit_722d2d] : List ByteArray) a613.Op) 0) a614).bind fun t676 => (if t676 = true then (if 1 < ((nth ([lit_2d2d2d, lit_726e2d, lit_72722d, lit_rrr, lit_rrr, lit_rrr, lit_rrr, lit_rrr, lit_rrr, lit_rrr, lit_702d2d, lit_72702d, lit_rrr, lit_72722d, lit_722d2d, lit_722d2d, lit_722d2d] : List ByteArray) a613.Op).size : Int) then ((code_right.f a613.B (bt (nth ([lit_2d2d2d, lit_726e2d, lit_72722d, lit_rrr, lit_rrr, lit_rrr, lit_rrr, lit_rrr, lit_rrr, lit_rrr, lit_702d2d, lit_72702d, lit_rrr, lit_72722d, lit_722d2d, lit_722d2d, lit_722d2d] : List ByteArray) a613.Op) 1) a614).bind fun t680 => (if t680 = true then (if 2 < ((nth ([lit_2d2d2d, lit_726e2d, lit_72722d, lit_rrr, lit_rrr, lit_rrr, lit_rrr, lit_rrr, lit_rrr, lit_rrr, lit_702d2d, lit_72702d, lit_rrr, lit_72722d, lit_722d2d, lit_722d2d, lit_722d2d] : List ByteArray) a613.Op).size : Int) then ((code_right.f a613.C (bt (nth ([lit_2d2d2d, lit_726e2d, lit_72722d, lit_rrr, lit_rrr, lit_rrr, lit_rrr, lit_rrr, lit_rrr, lit_rrr, lit_702d2d, lit_72702d, lit_rrr, lit_72722d, lit_722d2d, lit_722d2d, lit_722d2d] : List ByteArray) a613.Op) 2) a614).bind fun t684 => some t684) else none) else some false)) else none) else some false)) else none) else none))))
set_option maxRecDepth 100000 in
set_option maxHeartbeats 4000000 in
theorem code_may.ok {B : Base} {w : World} {l : List HProp} {hf : Hp} (a613 : api_Instr) (a614 : Int) (r : Bool) (h : code_may.f a613 a614 = some r) (hS : St B w (l) hf) :
    Calls Tryd.prog 25 #[.agg #[.int .i64 a613.Op, .int .i64 a613.A, .int .i64 a613.B, .int .i64 a613.C], .int .i64 a614] w (Ret fun v w => v = .bool r ∧ St B w (l) hf) := by
  have h := Holds.of h
  refine enter (args := [.agg #[.int .i64 a613.Op, .int .i64 a613.A, .int .i64 a613.B, .int .i64 a613.C], .int .i64 a614]) Tryd.func25 rfl Tryd.ntmps25 (Nat.le_of_ble_eq_true rfl) ?_
  refine RC.seq ?_
  refine RC.region ?_
  refine RL.e (OW.box (cs := [.int .i64 a613.Op, .int .i64 a613.A, .int .i64 a613.B, .int .i64 a613.C]) hS rfl rfl) rfl rfl ?_
  rintro _ w ⟨b666, rfl, hS⟩
  have hS : St B w (Cl b666 [.int .i64 a613.Op, .int .i64 a613.A, .int .i64 a613.B, .int .i64 a613.C] 23 :: l) hf := hS
  refine RL.s (Vl.assign rfl) rfl ?_
  refine RL.nil ?_
  refine RQ.then_n ?_
  refine RC.seq ?_
  refine RC.seq ?_
  refine RC.region ?_
  refine RL.s (Vl.fieldAddr (a'' := ⟨b666, 0, none⟩) Tryd.underlying23 rfl Tryd.sizeOf3 rfl rfl) rfl ?_
  refine RL.s (Vl.load Tryd.isAgg3 rfl (hS.cell 0 rfl rfl)) rfl ?_
  refine RL.s (Vl.int rfl rfl rfl) rfl ?_
  refine RL.s (Vl.move rfl) rfl ?_
  by_cases hc669 : a613.Op < 0
  case pos =>
    have h := h.pos hc669
    refine RL.re 9 rfl (congrArg Value.bool (decide_eq_true hc669)) ?_
    refine RL.nn rfl rfl ?_
    refine RL.nn rfl rfl ?_
    refine RL.nn rfl rfl ?_
    refine RL.s (Vl.pickT rfl rfl) rfl ?_
    refine RL.nil ?_
    refine RQ.then_n ?_
    refine RC.condT rfl ?_
    refine RC.seq ?_
    refine RC.region ?_
    refine RL.s (Vl.assign rfl) rfl ?_
    refine RL.nil ?_
    refine RQ.then_n ?_
    refine RC.ret ?_
    refine RQ.ret ?_
    have e := h.some
    subst e
    refine RQ.ret0 (vs := [.bool false]) Tryd.results25 ⟨rfl, trivial⟩ ?_
    exact ⟨rfl, (hS.dropAt 0 rfl)⟩
  case neg =>
    have h := h.neg hc669
    refine RL.re 9 rfl (congrArg Value.bool (decide_eq_false hc669)) ?_
    refine RL.sg (Vl.fieldAddr (a'' := ⟨b666, 0, none⟩) Tryd.underlying23 rfl Tryd.sizeOf3 rfl rfl) rfl rfl ?_
    refine RL.sg (Vl.load Tryd.isAgg3 rfl (hS.cell 0 rfl rfl)) rfl rfl ?_
    refine RL.sg (Vl.int rfl rfl rfl) rfl rfl ?_
    refine RL.s (Vl.pickF rfl rfl) rfl ?_
    refine RL.nil ?_
    refine RQ.then_n ?_
    by_cases hc670 : 17 ≤ a613.Op
    case pos =>
      have h := h.pos hc670
      refine RC.re 13 rfl (congrArg Value.bool (decide_eq_true hc670)) ?_
      refine RC.condT rfl ?_
      refine RC.seq ?_
      refine RC.region ?_
      refine RL.s (Vl.assign rfl) rfl ?_
      refine RL.nil ?_
      refine RQ.then_n ?_
      refine RC.ret ?_
      refine RQ.ret ?_
      have e := h.some
      subst e
      refine RQ.ret0 (vs := [.bool false]) Tryd.results25 ⟨rfl, trivial⟩ ?_
      exact ⟨rfl, (hS.dropAt 0 rfl)⟩
    case neg =>
      have h := h.neg hc670
      refine RC.re 13 rfl (congrArg Value.bool (decide_eq_false hc670)) ?_
      refine RC.condF rfl ?_
      refine RC.skip ?_
      refine RQ.then_n ?_
      refine RC.seq ?_
      refine RC.plan [(1, true), (2, true), (0, false), (3, false), (4, false)] [4] (fun w => St B w (Cl b666 [.int .i64 a613.Op, .int .i64 a613.A, .int .i64 a613.B, .int .i64 a613.C] 23 :: l) hf) follows rfl (by kernel_rfl) (NoTmp.then NoTmp.body) ?_
      have hS := hS.same (w' := { w with drawn := w.drawn + 1 }) rfl rfl
      revert hS
      generalize { w with drawn := w.drawn + 1 } = w
      intro hS
      refine RP.s 1 rfl rfl hS (fun w hS => Vl.fieldAddr (a'' := ⟨b666, 0, none⟩) Tryd.underlying23 rfl Tryd.sizeOf3 rfl rfl) rfl ?_
      refine RP.s 2 rfl rfl hS (fun w hS => Vl.load Tryd.isAgg3 rfl (hS.cell 0 rfl rfl)) rfl ?_
      obtain ⟨t671, hg672, h⟩ := h.bind
      refine RP.e 0 rfl (OW.callF (ls := []) rfl Tryd.call22 (code_shapes.ok _ hg672 hS)) rfl rfl ?_
      rintro _ w ⟨rfl, hS⟩
      have hS : St B w (Cl b666 [.int .i64 a613.Op, .int .i64 a613.A, .int .i64 a613.B, .int .i64 a613.C] 23 :: l) hf := hS
      refine ⟨fun _ => hS, ?_⟩
      obtain ⟨⟨hq673, hq674⟩, h⟩ := h.req
      refine RP.v1 3 rfl (fun _ => hS) (Vl.indexMap (f := Value.string) (l := ([lit_2d2d2d, lit_726e2d, lit_72722d, lit_rrr, lit_rrr, lit_rrr, lit_rrr, lit_rrr, lit_rrr, lit_rrr, lit_702d2d, lit_72702d, lit_rrr, lit_72722d, lit_722d2d, lit_722d2d, lit_722d2d] : List ByteArray)) Tryd.underlying45 Tryd.sizeOf9 Tryd.isAgg9 rfl rfl rfl hq673 hq674) rfl rfl ?_
      refine RP.v1 4 rfl (by intro hx; cases hx) (Vl.assign rfl) rfl rfl ?_
      refine RP.nil ?_
      refine RQ.then_n ?_
      refine RC.seq ?_
      refine RC.plan [(0, true), (1, true), (2, true), (3, true), (4, true), (5, false), (6, true), (7, true), (8, true), (9, true), (10, true), (11, true), (12, false), (13, true), (14, true), (15, true), (16, true), (17, true), (18, true), (19, false), (20, false), (21, false), (22, false)] [22] (fun w => St B w (Cl b666 [.int .i64 a613.Op, .int .i64 a613.A, .int .i64 a613.B, .int .i64 a613.C] 23 :: l) hf) follows rfl (by kernel_rfl) (NoTmp.then NoTmp.body) ?_
      have hS := hS.same (w' := { w with drawn := w.drawn + 1 }) rfl rfl
      revert hS
      generalize { w with drawn := w.drawn + 1 } = w
      intro hS
      refine RP.s 0 rfl rfl hS (fun w hS => Vl.fieldAddr (a'' := ⟨b666, 1, none⟩) Tryd.underlying23 rfl Tryd.sizeOf3 rfl rfl) rfl ?_
      refine RP.s 1 rfl rfl hS (fun w hS => Vl.load Tryd.isAgg3 rfl (hS.cell 0 rfl rfl)) rfl ?_
      refine RP.s 2 rfl rfl hS (fun w hS => Vl.move rfl) rfl ?_
      obtain ⟨hq675, h⟩ := h.req
      refine RP.s 3 rfl rfl hS (fun w hS => Vl.indexS Tryd.underlying9 rfl rfl (by decide) hq675) rfl ?_
      refine RP.s 4 rfl rfl hS (fun w hS => Vl.move rfl) rfl ?_
      obtain ⟨t676, hg677, h⟩ := h.bind
      refine RP.e 5 rfl (OW.callF (ls := [.tmp 19, .tmp 21, .tmp 22]) rfl Tryd.call30 (code_right.ok a613.A (bt (nth ([lit_2d2d2d, lit_726e2d, lit_72722d, lit_rrr, lit_rrr, lit_rrr, lit_rrr, lit_rrr, lit_rrr, lit_rrr, lit_702d2d, lit_72702d, lit_rrr, lit_72722d, lit_722d2d, lit_722d2d, lit_722d2d] : List ByteArray) a613.Op) 0) a614 _ hg677 hS)) rfl rfl ?_
      rintro _ w ⟨rfl, hS⟩
      have hS : St B w (Cl b666 [.int .i64 a613.Op, .int .i64 a613.A, .int .i64 a613.B, .int .i64 a613.C] 23 :: l) hf := hS
      refine ⟨fun _ => hS, ?_⟩
      refine RP.s 6 rfl rfl hS (fun w hS => Vl.move rfl) rfl ?_
      by_cases hc678 : t676 = true
      case pos =>
        have h := h.pos hc678
        refine RP.re 24 rfl (congrArg Value.bool (id hc678)) ?_
        refine RP.sg 7 rfl rfl hS (fun w hS => Vl.fieldAddr (a'' := ⟨b666, 2, none⟩) Tryd.underlying23 rfl Tryd.sizeOf3 rfl rfl) rfl rfl ?_
        refine RP.sg 8 rfl rfl hS (fun w hS => Vl.load Tryd.isAgg3 rfl (hS.cell 0 rfl rfl)) rfl rfl ?_
        refine RP.sg 9 rfl rfl hS (fun w hS => Vl.move rfl) rfl rfl ?_
        obtain ⟨hq679, h⟩ := h.req
        refine RP.sg 10 rfl rfl hS (fun w hS => Vl.indexS Tryd.underlying9 rfl rfl (by decide) hq679) rfl rfl ?_
        refine RP.sg 11 rfl rfl hS (fun w hS => Vl.move rfl) rfl rfl ?_
        obtain ⟨t680, hg681, h⟩ := h.bind
        refine RP.e 12 rfl (OW.callF (ls := [.tmp 26, .tmp 28, .tmp 29]) rfl Tryd.call30 (code_right.ok a613.B (bt (nth ([lit_2d2d2d, lit_726e2d, lit_72722d, lit_rrr, lit_rrr, lit_rrr, lit_rrr, lit_rrr, lit_rrr, lit_rrr, lit_702d2d, lit_72702d, lit_rrr, lit_72722d, lit_722d2d, lit_722d2d, lit_722d2d] : List ByteArray) a613.Op) 1) a614 _ hg681 hS)) rfl rfl ?_
        rintro _ w ⟨rfl, hS⟩
        have hS : St B w (Cl b666 [.int .i64 a613.Op, .int .i64 a613.A, .int .i64 a613.B, .int .i64 a613.C] 23 :: l) hf := hS
        refine ⟨fun _ => hS, ?_⟩
        refine RP.s 13 rfl rfl hS (fun w hS => Vl.pickT rfl rfl) rfl ?_
        refine RP.s 14 rfl rfl hS (fun w hS => Vl.move rfl) rfl ?_
        by_cases hc682 : t680 = true
        case pos =>
          have h := h.pos hc682
          refine RP.re 32 rfl (congrArg Value.bool (id hc682)) ?_
          refine RP.sg 15 rfl rfl hS (fun w hS => Vl.fieldAddr (a'' := ⟨b666, 3, none⟩) Tryd.underlying23 rfl Tryd.sizeOf3 rfl rfl) rfl rfl ?_
          refine RP.sg 16 rfl rfl hS (fun w hS => Vl.load Tryd.isAgg3 rfl (hS.cell 0 rfl rfl)) rfl rfl ?_
          refine RP.sg 17 rfl rfl hS (fun w hS => Vl.move rfl) rfl rfl ?_
          obtain ⟨hq683, h⟩ := h.req
          refine RP.sg 18 rfl rfl hS (fun w hS => Vl.indexS Tryd.underlying9 rfl rfl (by decide) hq683) rfl rfl ?_
          refine RP.v1 19 rfl (fun _ => hS) (Vl.move rfl) rfl rfl ?_
          obtain ⟨t684, hg685, h⟩ := h.bind
          refine RP.e 20 rfl (OW.callF (ls := [.tmp 34, .tmp 36, .tmp 37]) rfl Tryd.call30 (code_right.ok a613.C (bt (nth ([lit_2d2d2d, lit_726e2d, lit_72722d, lit_rrr, lit_rrr, lit_rrr, lit_rrr, lit_rrr, lit_rrr, lit_rrr, lit_702d2d, lit_72702d, lit_rrr, lit_72722d, lit_722d2d, lit_722d2d, lit_722d2d] : List ByteArray) a613.Op) 2) a614 _ hg685 hS)) rfl rfl ?_
          rintro _ w ⟨rfl, hS⟩
          have hS : St B w (Cl b666 [.int .i64 a613.Op, .int .i64 a613.A, .int .i64 a613.B, .int .i64 a613.C] 23 :: l) hf := hS
          refine ⟨fun _ => hS, ?_⟩
          refine RP.v1 21 rfl (fun _ => hS) (Vl.pickT rfl rfl) rfl rfl ?_
          refine RP.v1 22 rfl (by intro hx; cases hx) (Vl.assign rfl) rfl rfl ?_
          refine RP.nil ?_
          refine RQ.then_n ?_
          refine RC.ret ?_
          have e := h.some
          subst e
          refine RQ.ret0 (vs := [.bool t684]) Tryd.results25 ⟨rfl, trivial⟩ ?_
          exact ⟨rfl, (hS.dropAt 0 rfl)⟩
        case neg =>
          have h := h.neg hc682
          refine RP.re 32 rfl (congrArg Value.bool (eq_false_of hc682)) ?_
          refine RP.nn 15 rfl rfl hS rfl rfl ?_
          refine RP.nn 16 rfl rfl hS rfl rfl ?_
          refine RP.nn 17 rfl rfl hS rfl rfl ?_
          refine RP.nn 18 rfl rfl hS rfl rfl ?_
          refine RP.n1 19 rfl (fun _ => hS) rfl rfl ?_
          refine RP.n1 20 rfl (fun _ => hS) rfl rfl ?_
          refine RP.v1 21 rfl (fun _ => hS) (Vl.pickF rfl rfl) rfl rfl ?_
          refine RP.v1 22 rfl (by intro hx; cases hx) (Vl.assign rfl) rfl rfl ?_
          refine RP.nil ?_
          refine RQ.then_n ?_
          refine RC.ret ?_
          have e := h.some
          subst e
          refine RQ.ret0 (vs := [.bool false]) Tryd.results25 ⟨rfl, trivial⟩ ?_
          exact ⟨rfl, (hS.dropAt 0 rfl)⟩
      case neg =>
        have h := h.neg hc678
        refine RP.re 24 rfl (congrArg Value.bool (eq_false_of hc678)) ?_
        refine RP.nn 7 rfl rfl hS rfl rfl ?_
        refine RP.nn 8 rfl rfl hS rfl rfl ?_
        refine RP.nn 9 rfl rfl hS rfl rfl ?_
        refine RP.nn 10 rfl rfl hS rfl rfl ?_
        refine RP.nn 11 rfl rfl hS rfl rfl ?_
        refine RP.n1 12 rfl (fun _ => hS) rfl rfl ?_
        refine RP.s 13 rfl rfl hS (fun w hS => Vl.pickF rfl rfl) rfl ?_
        refine RP.s 14 rfl rfl hS (fun w hS => Vl.move rfl) rfl ?_
        refine RP.nn 15 rfl rfl hS rfl rfl ?_
        refine RP.nn 16 rfl rfl hS rfl rfl ?_
        refine RP.nn 17 rfl rfl hS rfl rfl ?_
        refine RP.nn 18 rfl rfl hS rfl rfl ?_
        refine RP.n1 19 rfl (fun _ => hS) rfl rfl ?_
        refine RP.n1 20 rfl (fun _ => hS) rfl rfl ?_
        refine RP.v1 21 rfl (fun _ => hS) (Vl.pickF rfl rfl) rfl rfl ?_
        refine RP.v1 22 rfl (by intro hx; cases hx) (Vl.assign rfl) rfl rfl ?_
        refine RP.nil ?_
        refine RQ.then_n ?_
        refine RC.ret ?_
        have e := h.some
        subst e
        refine RQ.ret0 (vs := [.bool false]) Tryd.results25 ⟨rfl, trivial⟩ ?_
        exact ⟨rfl, (hS.dropAt 0 rfl)⟩

/-! ### isochron/code.Decode: function 14 -/
noncomputable def code_Decode.j51 (a576 : List Int) (l1579 : List api_Instr) (x1583 : Int) (x1738 : Int) (x1739 : Int) (q1740 : Bool) : Option ((List api_Instr × Int) ⊕ (List api_Instr × Int × Int)) := (if q1740 = true then ((code_may.f (⟨IntKind.i64.wrap (nth (subL a576 x1583 (IntKind.i64.wrap (x1583 + 9))) 0), x1738, x1739, IntKind.i64.wrap (nth (subL a576 x1583 (IntKind.i64.wrap (x1583 + 9))) 6)⟩ : api_Instr) (IntKind.i64.wrap (Int.tdiv (a576.length : Int) 9))).bind fun t1746 => (if t1746 = true then (if (l1579.length + 1) * 32 ≤ 140737488355328 then some (.inl ((l1579 ++ ([(⟨IntKind.i64.wrap (nth (subL a576 x1583 (IntKind.i64.wrap (x1583 + 9))) 0), x1738, x1739, IntKind.i64.wrap (nth (subL a576 x1583 (IntKind.i64.wrap (x1583 + 9))) 6)⟩ : api_Instr)])), IntKind.i64.wrap (x1583 + 9))) else none) else some (.inr (([] : List api_Instr), x1583, 4)))) else some (.inr (([] : List api_Instr), x1583, 4)))
noncomputable def code_Decode.j52 (x1583 : Int) (x1761 : Int) (x1762 : Int) : Option ((List api_Instr × Int) ⊕ (List api_Instr × Int × Int)) := some (.inr (([] : List api_Instr), x1583, 4))
noncomputable def code_Decode.l48b (a576 : List Int) : List api_Instr × Int → Option ((List api_Instr × Int) ⊕ (List api_Instr × Int × Int))
  | (l1579, x1583) => (if x1583 < (a576.length : Int) then (if 0 ≤ x1583 ∧ x1583 ≤ IntKind.i64.wrap (x1583 + 9) ∧ IntKind.i64.wrap (x1583 + 9) ≤ (a576.length : Int) then (if 2 < ((subL a576 x1583 (IntKind.i64.wrap (x1583 + 9))).length : Int) then (if 3 < ((subL a576 x1583 (IntKind.i64.wrap (x1583 + 9))).length : Int) then (if 4 < ((subL a576 x1583 (IntKind.i64.wrap (x1583 + 9))).length : Int) then (if 5 < ((subL a576 x1583 (IntKind.i64.wrap (x1583 + 9))).length : Int) then (if 0 < ((subL a576 x1583 (IntKind.i64.wrap (x1583 + 9))).length : Int) then (if 1 < ((subL a576 x1583 (IntKind.i64.wrap (x1583 + 9))).length : Int) then (if 6 < ((subL a576 x1583 (IntKind.i64.wrap (x1583 + 9))).length : Int) then (if 7 < ((subL a576 x1583 (IntKind.i64.wrap (x1583 + 9))).length : Int) then (if nth (subL a576 x1583 (IntKind.i64.wrap (x1583 + 9))) 7 = 0 then (if 8 < ((subL a576 x1583 (IntKind.i64.wrap (x1583 + 9))).length : Int) then (if IntKind.i64.wrap (nth (subL a576 x1583 (IntKind.i64.wrap (x1583 + 9))) 0) = 10 then (if nth (subL a576 x1583 (IntKind.i64.wrap (x1583 + 9))) 8 = 0 then code_Decode.j51 a576 l1579 x1583 (IntKind.i64.wrap (IntKind.i32.wrap (IntKind.u32.wrap (BitVec.ofInt IntKind.u32.bits (IntKind.u32.wrap (BitVec.ofInt IntKind.u32.bits (IntKind.u32.wrap (BitVec.ofInt IntKind.u32.bits (IntKind.u32.wrap ((IntKind.u32.wrap (nth (subL a576 x1583 (IntKind.i64.wrap (x1583 + 9))) 2)) * 2 ^ (min (24 : Int).toNat IntKind.u32.bits))) ||| BitVec.ofInt IntKind.u32.bits (IntKind.u32.wrap ((IntKind.u32.wrap (nth (subL a576 x1583 (IntKind.i64.wrap (x1583 + 9))) 3)) * 2 ^ (min (16 : Int).toNat IntKind.u32.bits)))).toNat) ||| BitVec.ofInt IntKind.u32.bits (IntKind.u32.wrap ((IntKind.u32.wrap (nth (subL a576 x1583 (IntKind.i64.wrap (x1583 + 9))) 4)) * 2 ^ (min (8 : Int).toNat IntKind.u32.bits)))).toNat) ||| BitVec.ofInt IntKind.u32.bits (IntKind.u32.wrap (nth (subL a576 x1583 (IntKind.i64.wrap (x1583 + 9))) 5))).toNat))) 0 (decide (IntKind.i64.wrap (nth (subL a576 x1583 (IntKind.i64.wrap (x1583 + 9))) 1) = 0)) else code_Decode.j51 a576 l1579 x1583 (IntKind.i64.wrap (IntKind.i32.wrap (IntKind.u32.wrap (BitVec.ofInt IntKind.u32.bits (IntKind.u32.wrap (BitVec.ofInt IntKind.u32.bits (IntKind.u32.wrap (BitVec.ofInt IntKind.u32.bits (IntKind.u32.wrap ((IntKind.u32.wrap (nth (subL a576 x1583 (IntKind.i64.wrap (x1583 + 9))) 2)) * 2 ^ (min (24 : Int).toNat IntKind.u32.bits))) ||| BitVec.ofInt IntKind.u32.bits (IntKind.u32.wrap ((IntKind.u32.wrap (nth (subL a576 x1583 (IntKind.i64.wrap (x1583 + 9))) 3)) * 2 ^ (min (16 : Int).toNat IntKind.u32.bits)))).toNat) ||| BitVec.ofInt IntKind.u32.bits (IntKind.u32.wrap ((IntKind.u32.wrap (nth (subL a576 x1583 (IntKind.i64.wrap (x1583 + 9))) 4)) * 2 ^ (min (8 : Int).toNat IntKind.u32.bits)))).toNat) ||| BitVec.ofInt IntKind.u32.bits (IntKind.u32.wrap (nth (subL a576 x1583 (IntKind.i64.wrap (x1583 + 9))) 5))).toNat))) 0 false) else code_Decode.j51 a576 l1579 x1583 (IntKind.i64.wrap (nth (subL a576 x1583 (IntKind.i64.wrap (x1583 + 9))) 1)) (IntKind.i64.wrap (IntKind.i32.wrap (IntKind.u32.wrap (BitVec.ofInt IntKind.u32.bits (IntKind.u32.wrap (BitVec.ofInt IntKind.u32.bits (IntKind.u32.wrap (BitVec.ofInt IntKind.u32.bits (IntKind.u32.wrap ((IntKind.u32.wrap (nth (subL a576 x1583 (IntKind.i64.wrap (x1583 + 9))) 2)) * 2 ^ (min (24 : Int).toNat IntKind.u32.bits))) ||| BitVec.ofInt IntKind.u32.bits (IntKind.u32.wrap ((IntKind.u32.wrap (nth (subL a576 x1583 (IntKind.i64.wrap (x1583 + 9))) 3)) * 2 ^ (min (16 : Int).toNat IntKind.u32.bits)))).toNat) ||| BitVec.ofInt IntKind.u32.bits (IntKind.u32.wrap ((IntKind.u32.wrap (nth (subL a576 x1583 (IntKind.i64.wrap (x1583 + 9))) 4)) * 2 ^ (min (8 : Int).toNat IntKind.u32.bits)))).toNat) ||| BitVec.ofInt IntKind.u32.bits (IntKind.u32.wrap (nth (subL a576 x1583 (IntKind.i64.wrap (x1583 + 9))) 5))).toNat))) (decide (nth (subL a576 x1583 (IntKind.i64.wrap (x1583 + 9))) 8 = 0))) else none) else (if IntKind.i64.wrap (nth (subL a576 x1583 (IntKind.i64.wrap (x1583 + 9))) 0) = 10 then code_Decode.j52 x1583 (IntKind.i64.wrap (IntKind.i32.wrap (IntKind.u32.wrap (BitVec.ofInt IntKind.u32.bits (IntKind.u32.wrap (BitVec.ofInt IntKind.u32.bits (IntKind.u32.wrap (BitVec.ofInt IntKind.u32.bits (IntKind.u32.wrap ((IntKind.u32.wrap (nth (subL a576 x1583 (IntKind.i64.wrap (x1583 + 9))) 2)) * 2 ^ (min (24 : Int).toNat IntKind.u32.bits))) ||| BitVec.ofInt IntKind.u32.bits (IntKind.u32.wrap ((IntKind.u32.wrap (nth (subL a576 x1583 (IntKind.i64.wrap (x1583 + 9))) 3)) * 2 ^ (min (16 : Int).toNat IntKind.u32.bits)))).toNat) ||| BitVec.ofInt IntKind.u32.bits (IntKind.u32.wrap ((IntKind.u32.wrap (nth (subL a576 x1583 (IntKind.i64.wrap (x1583 + 9))) 4)) * 2 ^ (min (8 : Int).toNat IntKind.u32.bits)))).toNat) ||| BitVec.ofInt IntKind.u32.bits (IntKind.u32.wrap (nth (subL a576 x1583 (IntKind.i64.wrap (x1583 + 9))) 5))).toNat))) 0 else code_Decode.j52 x1583 (IntKind.i64.wrap (nth (subL a576 x1583 (IntKind.i64.wrap (x1583 + 9))) 1)) (IntKind.i64.wrap (IntKind.i32.wrap (IntKind.u32.wrap (BitVec.ofInt IntKind.u32.bits (IntKind.u32.wrap (BitVec.ofInt IntKind.u32.bits (IntKind.u32.wrap (BitVec.ofInt IntKind.u32.bits (IntKind.u32.wrap ((IntKind.u32.wrap (nth (subL a576 x1583 (IntKind.i64.wrap (x1583 + 9))) 2)) * 2 ^ (min (24 : Int).toNat IntKind.u32.bits))) ||| BitVec.ofInt IntKind.u32.bits (IntKind.u32.wrap ((IntKind.u32.wrap (nth (subL a576 x1583 (IntKind.i64.wrap (x1583 + 9))) 3)) * 2 ^ (min (16 : Int).toNat IntKind.u32.bits)))).toNat) ||| BitVec.ofInt IntKind.u32.bits (IntKind.u32.wrap ((IntKind.u32.wrap (nth (subL a576 x1583 (IntKind.i64.wrap (x1583 + 9))) 4)) * 2 ^ (min (8 : Int).toNat IntKind.u32.bits)))).toNat) ||| BitVec.ofInt IntKind.u32.bits (IntKind.u32.wrap (nth (subL a576 x1583 (IntKind.i64.wrap (x1583 + 9))) 5))).toNat))))) else none) else none) else none) else none) else none) else none) else none) else none) else none) else some (.inr (l1579, (a576.length : Int), 0)))
noncomputable def code_Decode.l48 (a576 : List Int) (s : List api_Instr × Int) : Option (List api_Instr × Int × Int) := loopR (code_Decode.l48b a576) s
noncomputable def code_Decode.f (a576 : List Int) : Option (List api_Instr × Int × Int) := (if 2304 < (a576.length : Int) then some (([] : List api_Instr), 0, 2) else (if IntKind.i64.wrap ((IntKind.i64.wrap (Int.tdiv (a576.length : Int) 9)) * 9) = (a576.length : Int) then (if 0 ≤ IntKind.i64.wrap (Int.tdiv (a576.length : Int) 9) ∧ (IntKind.i64.wrap (Int.tdiv (a576.length : Int) 9)) * 32 ≤ 140737488355328 then code_Decode.l48 a576 (([] : List api_Instr), 0) else none) else some (([] : List api_Instr), IntKind.i64.wrap ((IntKind.i64.wrap (Int.tdiv (a576.length : Int) 9)) * 9), 3)))
set_option maxRecDepth 100000 in
set_option maxHeartbeats 4000000 in
theorem code_Decode.ok {B : Base} {w : World} {l : List HProp} {hf : Hp} (a576 : List Int) (A577 : Option Addr) (c578 : Nat) (hr579 : SlR ((FI .u8).rep) hf A577 c578 a576) (r : List api_Instr × Int × Int) (h : code_Decode.f a576 = some r) (hS : St B w (l) hf) :
    Calls Tryd.prog 14 #[.slice A577 a576.length c578] w (Ret fun v w => ∃ (A_1 : Option Addr) (c_2 : Nat), v = .tuple #[.slice A_1 r.1.length c_2, .int .i64 r.2.1, .int .i64 r.2.2] ∧ St B w (OSf E_api_Instr 23 (.slice A_1 r.1.length c_2) r.1 :: l) hf) := by
  have h := Holds.of h
  refine enter (args := [.slice A577 a576.length c578]) Tryd.func14 rfl Tryd.ntmps14 (Nat.le_of_ble_eq_true rfl) ?_
  refine RC.seq ?_
  refine RC.region ?_
  refine RL.s (Vl.assign rfl) rfl ?_
  refine RL.s (Vl.assign rfl) rfl ?_
  refine RL.s (Vl.assign rfl) rfl ?_
  refine RL.nil ?_
  refine RQ.then_n ?_
  refine RC.seq ?_
  refine RC.region ?_
  refine RL.s (Vl.move rfl) rfl ?_
  refine RL.s (Vl.lenSl Tryd.underlying28 rfl) rfl ?_
  refine RL.s (Vl.quo rfl rfl (by decide)) rfl ?_
  refine RL.s (Vl.assign rfl) rfl ?_
  refine RL.nil ?_
  refine RQ.then_n ?_
  refine RC.seq ?_
  refine RC.block ?_
  refine RC.seq ?_
  refine RC.region ?_
  refine RL.s (Vl.move rfl) rfl ?_
  refine RL.s (Vl.lenSl Tryd.underlying28 rfl) rfl ?_
  refine RL.s (Vl.int rfl rfl rfl) rfl ?_
  refine RL.s (Vl.assign rfl) rfl ?_
  refine RL.nil ?_
  refine RQ.then_n ?_
  by_cases hc1209 : 2304 < (a576.length : Int)
  case pos =>
    have h := h.pos hc1209
    refine RC.re 15 rfl (congrArg Value.bool (decide_eq_true hc1209)) ?_
    refine RC.condT rfl ?_
    refine RC.seq ?_
    refine RC.region ?_
    refine RL.s (Vl.assign rfl) rfl ?_
    refine RL.s (Vl.assign rfl) rfl ?_
    refine RL.s (Vl.assign rfl) rfl ?_
    refine RL.nil ?_
    refine RQ.then_n ?_
    refine RC.ret ?_
    refine RQ.inB_ret ?_
    refine RQ.ret ?_
    have hS := hS.nilSl E_api_Instr 23
    have e := h.some
    subst e
    refine RQ.ret0 (vs := [.slice none 0 0, .int .i64 0, .int .i64 2]) Tryd.results14 ⟨rfl, rfl, rfl, trivial⟩ ?_
    exact ⟨none, 0, rfl, hS⟩
  case neg =>
    have h := h.neg hc1209
    refine RC.re 15 rfl (congrArg Value.bool (decide_eq_false hc1209)) ?_
    refine RC.condF rfl ?_
    refine RC.seq ?_
    refine RC.region ?_
    refine RL.s (Vl.move rfl) rfl ?_
    refine RL.s (Vl.int rfl rfl rfl) rfl ?_
    refine RL.s (Vl.move rfl) rfl ?_
    refine RL.s (Vl.lenSl Tryd.underlying28 rfl) rfl ?_
    refine RL.s (Vl.int rfl rfl rfl) rfl ?_
    refine RL.s (Vl.assign rfl) rfl ?_
    refine RL.nil ?_
    refine RQ.then_n ?_
    by_cases hc1211 : IntKind.i64.wrap ((IntKind.i64.wrap (Int.tdiv (a576.length : Int) 9)) * 9) = (a576.length : Int)
    case pos =>
      have h := h.pos hc1211
      refine RC.re 19 rfl (congrArg Value.bool (notdec_pos hc1211)) ?_
      refine RC.condF rfl ?_
      refine RC.skip ?_
      refine RQ.inB_n ?_
      refine RQ.then_n ?_
      refine RC.seq ?_
      refine RC.region ?_
      refine RL.s (Vl.move rfl) rfl ?_
      obtain ⟨⟨hq1212, hq1213⟩, h⟩ := h.req
      refine RL.e (OW.make0 (E := E_api_Instr) hS Tryd.underlying29 Tryd.type23 rfl rfl rfl rfl rfl hq1212 (by decide) hq1213) rfl rfl ?_
      rintro v1217 w hS
      obtain ⟨A1214, c1215, rfl, _⟩ := hS.osShape 0 rfl
      have hS : St B w (OSf E_api_Instr 23 (.slice A1214 ([] : List api_Instr).length c1215) ([] : List api_Instr) :: l) hf := hS
      refine RL.s (Vl.assign rfl) rfl ?_
      refine RL.nil ?_
      refine RQ.then_n ?_
      refine RC.seq ?_
      refine RC.seq ?_
      refine RC.region ?_
      refine RL.s (Vl.assign rfl) rfl ?_
      refine RL.nil ?_
      refine RQ.then_n ?_
      refine RC.block ?_
      refine fun a ha => RC.loop (N := 117) (body := (code_Decode.l48b a576)) (φ := (· = r)) (fun (s : List api_Instr × Int) a w => ∃ (l1579 : List api_Instr) (x1583 : Int), s = (l1579, x1583) ∧ ∃ (A1580 : Option Addr) (c1581 : Nat), Has 117 [(0, .slice A577 a576.length c578), (5, .int .i64 (IntKind.i64.wrap (Int.tdiv (a576.length : Int) 9))), (6, .slice A1580 l1579.length c1581), (7, .int .i64 x1583)] a ∧ St B w (OSf E_api_Instr 23 (.slice A1580 l1579.length c1581) l1579 :: l) hf) ?_ (s0 := (([] : List api_Instr), 0)) h ⟨([] : List api_Instr), 0, rfl, A1214, c1215, ha.to ⟨rfl, rfl, rfl, rfl, trivial⟩, hS⟩
      rintro G1675 _ a w ⟨l1579, x1583, rfl, A1580, c1581, ha, hS⟩ h
      revert a
      show RC _ _ _ _ _ _
      refine RC.seq ?_
      refine RC.seq ?_
      refine RC.region ?_
      refine RL.s (Vl.move rfl) rfl ?_
      refine RL.s (Vl.move rfl) rfl ?_
      refine RL.s (Vl.lenSl Tryd.underlying28 rfl) rfl ?_
      refine RL.s (Vl.int rfl rfl rfl) rfl ?_
      refine RL.nil ?_
      refine RQ.then_n ?_
      by_cases hc1677 : x1583 < (a576.length : Int)
      case pos =>
        have h := h.pos hc1677
        refine RC.re 32 rfl (congrArg Value.bool (decide_eq_true hc1677)) ?_
        refine RC.condT rfl ?_
        refine RC.skip ?_
        refine RQ.then_n ?_
        refine RC.seq ?_
        refine RC.block ?_
        refine RC.seq ?_
        refine RC.region ?_
        refine RL.s (Vl.move rfl) rfl ?_
        refine RL.s (Vl.move rfl) rfl ?_
        refine RL.s (Vl.move rfl) rfl ?_
        refine RL.s (Vl.int rfl rfl rfl) rfl ?_
        obtain ⟨⟨hq1720, hq1721, hq1722⟩, h⟩ := h.req
        have hr1723 := hr579.sub (lo := x1583) (hi := IntKind.i64.wrap (x1583 + 9)) (m := c578) hq1720 hq1721 hq1722 (by have := hr579.1; omega)
        refine RL.s (Vl.slice Tryd.underlying28 Tryd.sizeOf5 rfl rfl rfl hq1720 hq1721 hq1722 hr579.1) rfl ?_
        refine RL.s (Vl.assign rfl) rfl ?_
        refine RL.nil ?_
        refine RQ.then_n ?_
        refine RC.seq ?_
        refine RC.plan [(0, true), (1, true), (2, true), (3, true), (4, true), (5, true), (6, true), (7, true), (8, true), (9, true), (10, true), (11, true), (12, true), (13, true), (14, true), (15, true), (16, true), (17, false), (18, false), (19, false), (20, false), (21, false), (22, false)] [22] (fun w => St B w (OSf E_api_Instr 23 (.slice A1580 l1579.length c1581) l1579 :: l) hf) follows rfl (by kernel_rfl) (NoTmp.then (NoTmp.block (NoTmp.then (NoTmp.then (NoTmp.block (NoTmp.then NoTmp.body)))))) ?_
        have hS := hS.same (w' := { w with drawn := w.drawn + 1 }) rfl rfl
        revert hS
        generalize { w with drawn := w.drawn + 1 } = w
        intro hS
        refine RP.s 0 rfl rfl hS (fun w hS => Vl.move rfl) rfl ?_
        obtain ⟨hq1724, h⟩ := h.req
        refine RP.s 1 rfl rfl hS (fun w hS => Vl.indexAddr Tryd.underlying28 Tryd.sizeOf5 rfl rfl ((hr1723.2.world hS.sub).adr (by decide) hq1724) (by decide) hq1724 rfl) rfl ?_
        refine RP.s 2 rfl rfl hS (fun w hS => Vl.load Tryd.isAgg5 rfl ((hr1723.2.world hS.sub).cell (j := 0) (by decide) hq1724 rfl)) rfl ?_
        refine RP.s 3 rfl rfl hS (fun w hS => Vl.conv Tryd.underlying5 Tryd.underlying50 rfl) rfl ?_
        refine RP.s 4 rfl rfl hS (fun w hS => Vl.shl rfl rfl (by decide)) rfl ?_
        refine RP.s 5 rfl rfl hS (fun w hS => Vl.move rfl) rfl ?_
        obtain ⟨hq1725, h⟩ := h.req
        refine RP.s 6 rfl rfl hS (fun w hS => Vl.indexAddr Tryd.underlying28 Tryd.sizeOf5 rfl rfl ((hr1723.2.world hS.sub).adr (by decide) hq1725) (by decide) hq1725 rfl) rfl ?_
        refine RP.s 7 rfl rfl hS (fun w hS => Vl.load Tryd.isAgg5 rfl ((hr1723.2.world hS.sub).cell (j := 0) (by decide) hq1725 rfl)) rfl ?_
        refine RP.s 8 rfl rfl hS (fun w hS => Vl.conv Tryd.underlying5 Tryd.underlying50 rfl) rfl ?_
        refine RP.s 9 rfl rfl hS (fun w hS => Vl.shl rfl rfl (by decide)) rfl ?_
        refine RP.s 10 rfl rfl hS (fun w hS => Vl.int rfl rfl rfl) rfl ?_
        refine RP.s 11 rfl rfl hS (fun w hS => Vl.move rfl) rfl ?_
        obtain ⟨hq1726, h⟩ := h.req
        refine RP.s 12 rfl rfl hS (fun w hS => Vl.indexAddr Tryd.underlying28 Tryd.sizeOf5 rfl rfl ((hr1723.2.world hS.sub).adr (by decide) hq1726) (by decide) hq1726 rfl) rfl ?_
        refine RP.s 13 rfl rfl hS (fun w hS => Vl.load Tryd.isAgg5 rfl ((hr1723.2.world hS.sub).cell (j := 0) (by decide) hq1726 rfl)) rfl ?_
        refine RP.s 14 rfl rfl hS (fun w hS => Vl.conv Tryd.underlying5 Tryd.underlying50 rfl) rfl ?_
        refine RP.s 15 rfl rfl hS (fun w hS => Vl.shl rfl rfl (by decide)) rfl ?_
        refine RP.s 16 rfl rfl hS (fun w hS => Vl.int rfl rfl rfl) rfl ?_
        refine RP.v1 17 rfl (fun _ => hS) (Vl.move rfl) rfl rfl ?_
        obtain ⟨hq1727, h⟩ := h.req
        refine RP.v1 18 rfl (fun _ => hS) (Vl.indexAddr Tryd.underlying28 Tryd.sizeOf5 rfl rfl ((hr1723.2.world hS.sub).adr (by decide) hq1727) (by decide) hq1727 rfl) rfl rfl ?_
        refine RP.v1 19 rfl (fun _ => hS) (Vl.load Tryd.isAgg5 rfl ((hr1723.2.world hS.sub).cell (j := 0) (by decide) hq1727 rfl)) rfl rfl ?_
        refine RP.v1 20 rfl (fun _ => hS) (Vl.conv Tryd.underlying5 Tryd.underlying50 rfl) rfl rfl ?_
        refine RP.v1 21 rfl (fun _ => hS) (Vl.int rfl rfl rfl) rfl rfl ?_
        refine RP.v1 22 rfl (by intro hx; cases hx) (Vl.assign rfl) rfl rfl ?_
        refine RP.nil ?_
        refine RQ.then_n ?_
        refine RC.seq ?_
        refine RC.plan [(0, true), (1, true), (2, true), (3, true), (4, true), (5, true), (6, true), (7, true), (8, true), (9, true), (10, true), (11, true), (12, true), (13, true), (14, true), (15, true), (16, false), (17, false)] [17] (fun w => St B w (OSf E_api_Instr 23 (.slice A1580 l1579.length c1581) l1579 :: l) hf) follows rfl (by kernel_rfl) (NoTmp.then (NoTmp.block (NoTmp.then (NoTmp.then (NoTmp.block (NoTmp.then NoTmp.body)))))) ?_
        have hS := hS.same (w' := { w with drawn := w.drawn + 1 }) rfl rfl
        revert hS
        generalize { w with drawn := w.drawn + 1 } = w
        intro hS
        refine RP.s 0 rfl rfl hS (fun w hS => Vl.move rfl) rfl ?_
        obtain ⟨hq1728, h⟩ := h.req
        refine RP.s 1 rfl rfl hS (fun w hS => Vl.indexAddr Tryd.underlying28 Tryd.sizeOf5 rfl rfl ((hr1723.2.world hS.sub).adr (by decide) hq1728) (by decide) hq1728 rfl) rfl ?_
        refine RP.s 2 rfl rfl hS (fun w hS => Vl.load Tryd.isAgg5 rfl ((hr1723.2.world hS.sub).cell (j := 0) (by decide) hq1728 rfl)) rfl ?_
        refine RP.s 3 rfl rfl hS (fun w hS => Vl.conv Tryd.underlying5 Tryd.underlying3 rfl) rfl ?_
        refine RP.s 4 rfl rfl hS (fun w hS => Vl.move rfl) rfl ?_
        obtain ⟨hq1729, h⟩ := h.req
        refine RP.s 5 rfl rfl hS (fun w hS => Vl.indexAddr Tryd.underlying28 Tryd.sizeOf5 rfl rfl ((hr1723.2.world hS.sub).adr (by decide) hq1729) (by decide) hq1729 rfl) rfl ?_
        refine RP.s 6 rfl rfl hS (fun w hS => Vl.load Tryd.isAgg5 rfl ((hr1723.2.world hS.sub).cell (j := 0) (by decide) hq1729 rfl)) rfl ?_
        refine RP.s 7 rfl rfl hS (fun w hS => Vl.conv Tryd.underlying5 Tryd.underlying3 rfl) rfl ?_
        refine RP.s 8 rfl rfl hS (fun w hS => Vl.move rfl) rfl ?_
        refine RP.s 9 rfl rfl hS (fun w hS => Vl.conv Tryd.underlying50 Tryd.underlying21 rfl) rfl ?_
        refine RP.s 10 rfl rfl hS (fun w hS => Vl.conv Tryd.underlying21 Tryd.underlying3 rfl) rfl ?_
        refine RP.s 11 rfl rfl hS (fun w hS => Vl.move rfl) rfl ?_
        obtain ⟨hq1730, h⟩ := h.req
        refine RP.s 12 rfl rfl hS (fun w hS => Vl.indexAddr Tryd.underlying28 Tryd.sizeOf5 rfl rfl ((hr1723.2.world hS.sub).adr (by decide) hq1730) (by decide) hq1730 rfl) rfl ?_
        refine RP.s 13 rfl rfl hS (fun w hS => Vl.load Tryd.isAgg5 rfl ((hr1723.2.world hS.sub).cell (j := 0) (by decide) hq1730 rfl)) rfl ?_
        refine RP.s 14 rfl rfl hS (fun w hS => Vl.conv Tryd.underlying5 Tryd.underlying3 rfl) rfl ?_
        refine RP.s 15 rfl rfl hS (fun w hS => Vl.build (v := .agg #[.int .i64 (IntKind.i64.wrap (nth (subL a576 x1583 (IntKind.i64.wrap (x1583 + 9))) 0)), .int .i64 (IntKind.i64.wrap (nth (subL a576 x1583 (IntKind.i64.wrap (x1583 + 9))) 1)), .int .i64 (IntKind.i64.wrap (IntKind.i32.wrap (IntKind.u32.wrap (BitVec.ofInt IntKind.u32.bits (IntKind.u32.wrap (BitVec.ofInt IntKind.u32.bits (IntKind.u32.wrap (BitVec.ofInt IntKind.u32.bits (IntKind.u32.wrap ((IntKind.u32.wrap (nth (subL a576 x1583 (IntKind.i64.wrap (x1583 + 9))) 2)) * 2 ^ (min (24 : Int).toNat IntKind.u32.bits))) ||| BitVec.ofInt IntKind.u32.bits (IntKind.u32.wrap ((IntKind.u32.wrap (nth (subL a576 x1583 (IntKind.i64.wrap (x1583 + 9))) 3)) * 2 ^ (min (16 : Int).toNat IntKind.u32.bits)))).toNat) ||| BitVec.ofInt IntKind.u32.bits (IntKind.u32.wrap ((IntKind.u32.wrap (nth (subL a576 x1583 (IntKind.i64.wrap (x1583 + 9))) 4)) * 2 ^ (min (8 : Int).toNat IntKind.u32.bits)))).toNat) ||| BitVec.ofInt IntKind.u32.bits (IntKind.u32.wrap (nth (subL a576 x1583 (IntKind.i64.wrap (x1583 + 9))) 5))).toNat))), .int .i64 (IntKind.i64.wrap (nth (subL a576 x1583 (IntKind.i64.wrap (x1583 + 9))) 6))]) (parts := [(0, .tmp 65), (1, .tmp 69), (2, .tmp 72), (3, .tmp 76)]) rfl (by kernel_rfl)) rfl ?_
        refine RP.e 16 rfl (OW.alloc (cs := [.int .i64 0, .int .i64 0, .int .i64 0, .int .i64 0]) hS Tryd.zeroValue23 rfl) rfl rfl ?_
        rintro _ w ⟨b1732, rfl, hS⟩
        have hS : St B w (Cl b1732 [.int .i64 0, .int .i64 0, .int .i64 0, .int .i64 0] 23 :: OSf E_api_Instr 23 (.slice A1580 l1579.length c1581) l1579 :: l) hf := hS
        refine ⟨fun _ => (hS.dropAt 0 rfl), ?_⟩
        refine RP.e0 17 rfl (OW.store (cs := [.int .i64 0, .int .i64 0, .int .i64 0, .int .i64 0]) (vs := [.int .i64 (IntKind.i64.wrap (nth (subL a576 x1583 (IntKind.i64.wrap (x1583 + 9))) 0)), .int .i64 (IntKind.i64.wrap (nth (subL a576 x1583 (IntKind.i64.wrap (x1583 + 9))) 1)), .int .i64 (IntKind.i64.wrap (IntKind.i32.wrap (IntKind.u32.wrap (BitVec.ofInt IntKind.u32.bits (IntKind.u32.wrap (BitVec.ofInt IntKind.u32.bits (IntKind.u32.wrap (BitVec.ofInt IntKind.u32.bits (IntKind.u32.wrap ((IntKind.u32.wrap (nth (subL a576 x1583 (IntKind.i64.wrap (x1583 + 9))) 2)) * 2 ^ (min (24 : Int).toNat IntKind.u32.bits))) ||| BitVec.ofInt IntKind.u32.bits (IntKind.u32.wrap ((IntKind.u32.wrap (nth (subL a576 x1583 (IntKind.i64.wrap (x1583 + 9))) 3)) * 2 ^ (min (16 : Int).toNat IntKind.u32.bits)))).toNat) ||| BitVec.ofInt IntKind.u32.bits (IntKind.u32.wrap ((IntKind.u32.wrap (nth (subL a576 x1583 (IntKind.i64.wrap (x1583 + 9))) 4)) * 2 ^ (min (8 : Int).toNat IntKind.u32.bits)))).toNat) ||| BitVec.ofInt IntKind.u32.bits (IntKind.u32.wrap (nth (subL a576 x1583 (IntKind.i64.wrap (x1583 + 9))) 5))).toNat))), .int .i64 (IntKind.i64.wrap (nth (subL a576 x1583 (IntKind.i64.wrap (x1583 + 9))) 6))]) (l' := Cl b1732 [.int .i64 (IntKind.i64.wrap (nth (subL a576 x1583 (IntKind.i64.wrap (x1583 + 9))) 0)), .int .i64 (IntKind.i64.wrap (nth (subL a576 x1583 (IntKind.i64.wrap (x1583 + 9))) 1)), .int .i64 (IntKind.i64.wrap (IntKind.i32.wrap (IntKind.u32.wrap (BitVec.ofInt IntKind.u32.bits (IntKind.u32.wrap (BitVec.ofInt IntKind.u32.bits (IntKind.u32.wrap (BitVec.ofInt IntKind.u32.bits (IntKind.u32.wrap ((IntKind.u32.wrap (nth (subL a576 x1583 (IntKind.i64.wrap (x1583 + 9))) 2)) * 2 ^ (min (24 : Int).toNat IntKind.u32.bits))) ||| BitVec.ofInt IntKind.u32.bits (IntKind.u32.wrap ((IntKind.u32.wrap (nth (subL a576 x1583 (IntKind.i64.wrap (x1583 + 9))) 3)) * 2 ^ (min (16 : Int).toNat IntKind.u32.bits)))).toNat) ||| BitVec.ofInt IntKind.u32.bits (IntKind.u32.wrap ((IntKind.u32.wrap (nth (subL a576 x1583 (IntKind.i64.wrap (x1583 + 9))) 4)) * 2 ^ (min (8 : Int).toNat IntKind.u32.bits)))).toNat) ||| BitVec.ofInt IntKind.u32.bits (IntKind.u32.wrap (nth (subL a576 x1583 (IntKind.i64.wrap (x1583 + 9))) 5))).toNat))), .int .i64 (IntKind.i64.wrap (nth (subL a576 x1583 (IntKind.i64.wrap (x1583 + 9))) 6))] 23 :: OSf E_api_Instr 23 (.slice A1580 l1579.length c1581) l1579 :: l) 0 hS rfl rfl rfl rfl Tryd.sizeOf23 rfl rfl rfl rfl) rfl ?_
        rintro _ w ⟨rfl, hS⟩
        have hS : St B w (Cl b1732 [.int .i64 (IntKind.i64.wrap (nth (subL a576 x1583 (IntKind.i64.wrap (x1583 + 9))) 0)), .int .i64 (IntKind.i64.wrap (nth (subL a576 x1583 (IntKind.i64.wrap (x1583 + 9))) 1)), .int .i64 (IntKind.i64.wrap (IntKind.i32.wrap (IntKind.u32.wrap (BitVec.ofInt IntKind.u32.bits (IntKind.u32.wrap (BitVec.ofInt IntKind.u32.bits (IntKind.u32.wrap (BitVec.ofInt IntKind.u32.bits (IntKind.u32.wrap ((IntKind.u32.wrap (nth (subL a576 x1583 (IntKind.i64.wrap (x1583 + 9))) 2)) * 2 ^ (min (24 : Int).toNat IntKind.u32.bits))) ||| BitVec.ofInt IntKind.u32.bits (IntKind.u32.wrap ((IntKind.u32.wrap (nth (subL a576 x1583 (IntKind.i64.wrap (x1583 + 9))) 3)) * 2 ^ (min (16 : Int).toNat IntKind.u32.bits)))).toNat) ||| BitVec.ofInt IntKind.u32.bits (IntKind.u32.wrap ((IntKind.u32.wrap (nth (subL a576 x1583 (IntKind.i64.wrap (x1583 + 9))) 4)) * 2 ^ (min (8 : Int).toNat IntKind.u32.bits)))).toNat) ||| BitVec.ofInt IntKind.u32.bits (IntKind.u32.wrap (nth (subL a576 x1583 (IntKind.i64.wrap (x1583 + 9))) 5))).toNat))), .int .i64 (IntKind.i64.wrap (nth (subL a576 x1583 (IntKind.i64.wrap (x1583 + 9))) 6))] 23 :: OSf E_api_Instr 23 (.slice A1580 l1579.length c1581) l1579 :: l) hf := hS
        refine ⟨(by intro hx; cases hx), ?_⟩
        refine RP.nil ?_
        refine RQ.then_n ?_
        refine RC.seq ?_
        refine RC.region ?_
        refine RL.s (Vl.move rfl) rfl ?_
        obtain ⟨hq1733, h⟩ := h.req
        refine RL.s (Vl.indexAddr Tryd.underlying28 Tryd.sizeOf5 rfl rfl ((hr1723.2.world hS.sub).adr (by decide) hq1733) (by decide) hq1733 rfl) rfl ?_
        refine RL.s (Vl.load Tryd.isAgg5 rfl ((hr1723.2.world hS.sub).cell (j := 0) (by decide) hq1733 rfl)) rfl ?_
        refine RL.s (Vl.int rfl rfl rfl) rfl ?_
        refine RL.s (Vl.move rfl) rfl ?_
        by_cases hc1734 : nth (subL a576 x1583 (IntKind.i64.wrap (x1583 + 9))) 7 = 0
        case pos =>
          have h := h.pos hc1734
          refine RL.re 82 rfl (congrArg Value.bool (decide_eq_true hc1734)) ?_
          refine RL.sg (Vl.move rfl) rfl rfl ?_
          obtain ⟨hq1735, h⟩ := h.req
          refine RL.sg (Vl.indexAddr Tryd.underlying28 Tryd.sizeOf5 rfl rfl ((hr1723.2.world hS.sub).adr (by decide) hq1735) (by decide) hq1735 rfl) rfl rfl ?_
          refine RL.sg (Vl.load Tryd.isAgg5 rfl ((hr1723.2.world hS.sub).cell (j := 0) (by decide) hq1735 rfl)) rfl rfl ?_
          refine RL.sg (Vl.int rfl rfl rfl) rfl rfl ?_
          refine RL.s (Vl.pickT rfl rfl) rfl ?_
          refine RL.s (Vl.assign rfl) rfl ?_
          refine RL.nil ?_
          refine RQ.then_n ?_
          refine RC.join (fun (s : Int × Int × Bool) a w => ∃ (x1738 : Int) (x1739 : Int) (q1740 : Bool), s = (x1738, x1739, q1740) ∧ Has 117 [(0, .slice A577 a576.length c578), (5, .int .i64 (IntKind.i64.wrap (Int.tdiv (a576.length : Int) 9))), (6, .slice A1580 l1579.length c1581), (7, .int .i64 x1583), (10, .pointer (some ⟨b1732, 0, none⟩)), (11, .bool q1740), (83, .slice (subA A577 c578 (x1583 : Int).toNat 1) (subL a576 x1583 (IntKind.i64.wrap (x1583 + 9))).length (c578 - (x1583 : Int).toNat)), (84, .pointer (some ((ad (subA A577 c578 (x1583 : Int).toNat 1)).add ((8 : Int).toNat * 1)))), (85, .int .u8 (nth (subL a576 x1583 (IntKind.i64.wrap (x1583 + 9))) 8)), (86, .bool (decide (nth (subL a576 x1583 (IntKind.i64.wrap (x1583 + 9))) 8 = 0)))] a ∧ St B w (OSf E_api_Instr 23 (.slice A1580 l1579.length c1581) l1579 :: Cl b1732 [.int .i64 (IntKind.i64.wrap (nth (subL a576 x1583 (IntKind.i64.wrap (x1583 + 9))) 0)), .int .i64 x1738, .int .i64 x1739, .int .i64 (IntKind.i64.wrap (nth (subL a576 x1583 (IntKind.i64.wrap (x1583 + 9))) 6))] 23 :: l) hf ∧ Holds (Sum.elim G1675 (· = r)) (code_Decode.j51 a576 l1579 x1583 x1738 x1739 q1740)) ?_ ?_
          · rintro _ a w ⟨x1738, x1739, q1740, rfl, ha, hS, h⟩
            revert a
            show RC _ _ _ _ _ _
            refine RC.seq ?_
            refine RC.seq ?_
            refine RC.region ?_
            refine RL.s (Vl.move rfl) rfl ?_
            refine RL.s (Vl.not rfl) rfl ?_
            refine RL.s (Vl.move rfl) rfl ?_
            by_cases hc1745 : q1740 = true
            case pos =>
              have h := h.pos hc1745
              refine RL.re 103 rfl (congrArg Value.bool (notb_pos hc1745)) ?_
              refine RL.sg (Vl.loadA (vs := [.int .i64 (IntKind.i64.wrap (nth (subL a576 x1583 (IntKind.i64.wrap (x1583 + 9))) 0)), .int .i64 x1738, .int .i64 x1739, .int .i64 (IntKind.i64.wrap (nth (subL a576 x1583 (IntKind.i64.wrap (x1583 + 9))) 6))]) Tryd.isAgg23 Tryd.sizeOf23 rfl rfl (hS.cellsAt 1 rfl rfl)) rfl rfl ?_
              refine RL.sg (Vl.move rfl) rfl rfl ?_
              obtain ⟨t1746, hg1747, h⟩ := h.bind
              refine RL.e (OW.callF (ls := [.tmp 104, .tmp 105]) rfl Tryd.call25 (code_may.ok (⟨IntKind.i64.wrap (nth (subL a576 x1583 (IntKind.i64.wrap (x1583 + 9))) 0), x1738, x1739, IntKind.i64.wrap (nth (subL a576 x1583 (IntKind.i64.wrap (x1583 + 9))) 6)⟩ : api_Instr) (IntKind.i64.wrap (Int.tdiv (a576.length : Int) 9)) _ hg1747 hS)) rfl rfl ?_
              rintro _ w ⟨rfl, hS⟩
              have hS : St B w (OSf E_api_Instr 23 (.slice A1580 l1579.length c1581) l1579 :: Cl b1732 [.int .i64 (IntKind.i64.wrap (nth (subL a576 x1583 (IntKind.i64.wrap (x1583 + 9))) 0)), .int .i64 x1738, .int .i64 x1739, .int .i64 (IntKind.i64.wrap (nth (subL a576 x1583 (IntKind.i64.wrap (x1583 + 9))) 6))] 23 :: l) hf := hS
              refine RL.sg (Vl.not rfl) rfl rfl ?_
              refine RL.s (Vl.pickF rfl rfl) rfl ?_
              refine RL.nil ?_
              refine RQ.then_n ?_
              by_cases hc1748 : t1746 = true
              case pos =>
                have h := h.pos hc1748
                refine RC.re 108 rfl (congrArg Value.bool (notb_pos hc1748)) ?_
                refine RC.condF rfl ?_
                refine RC.skip ?_
                refine RQ.then_n ?_
                refine RC.region ?_
                refine RL.s (Vl.move rfl) rfl ?_
                refine RL.s (Vl.loadA (vs := [.int .i64 (IntKind.i64.wrap (nth (subL a576 x1583 (IntKind.i64.wrap (x1583 + 9))) 0)), .int .i64 x1738, .int .i64 x1739, .int .i64 (IntKind.i64.wrap (nth (subL a576 x1583 (IntKind.i64.wrap (x1583 + 9))) 6))]) Tryd.isAgg23 Tryd.sizeOf23 rfl rfl (hS.cellsAt 1 rfl rfl)) rfl ?_
                refine RL.e (OW.buildSlice (E := E_api_Instr) (xs := [(⟨IntKind.i64.wrap (nth (subL a576 x1583 (IntKind.i64.wrap (x1583 + 9))) 0), x1738, x1739, IntKind.i64.wrap (nth (subL a576 x1583 (IntKind.i64.wrap (x1583 + 9))) 6)⟩ : api_Instr)]) (cs := [.int .i64 (IntKind.i64.wrap (nth (subL a576 x1583 (IntKind.i64.wrap (x1583 + 9))) 0)), .int .i64 x1738, .int .i64 x1739, .int .i64 (IntKind.i64.wrap (nth (subL a576 x1583 (IntKind.i64.wrap (x1583 + 9))) 6))]) hS Tryd.underlying29 Tryd.zeroValue23 Tryd.sizeOf23 (parts := [(0, .tmp 111)]) rfl rfl (by decide) (by decide) (by kernel_rfl) rfl) rfl rfl ?_
                rintro _ w ⟨b1750, rfl, hS⟩
                have hS : St B w (OSf E_api_Instr 23 (.slice (some ⟨b1750, 0, none⟩) ([(⟨IntKind.i64.wrap (nth (subL a576 x1583 (IntKind.i64.wrap (x1583 + 9))) 0), x1738, x1739, IntKind.i64.wrap (nth (subL a576 x1583 (IntKind.i64.wrap (x1583 + 9))) 6)⟩ : api_Instr)]).length 1) ([(⟨IntKind.i64.wrap (nth (subL a576 x1583 (IntKind.i64.wrap (x1583 + 9))) 0), x1738, x1739, IntKind.i64.wrap (nth (subL a576 x1583 (IntKind.i64.wrap (x1583 + 9))) 6)⟩ : api_Instr)]) :: OSf E_api_Instr 23 (.slice A1580 l1579.length c1581) l1579 :: Cl b1732 [.int .i64 (IntKind.i64.wrap (nth (subL a576 x1583 (IntKind.i64.wrap (x1583 + 9))) 0)), .int .i64 x1738, .int .i64 x1739, .int .i64 (IntKind.i64.wrap (nth (subL a576 x1583 (IntKind.i64.wrap (x1583 + 9))) 6))] 23 :: l) hf := hS
                obtain ⟨hq1751, h⟩ := h.req
                refine RL.e (OW.append (E := E_api_Instr) (xs := l1579) (ys := [(⟨IntKind.i64.wrap (nth (subL a576 x1583 (IntKind.i64.wrap (x1583 + 9))) 0), x1738, x1739, IntKind.i64.wrap (nth (subL a576 x1583 (IntKind.i64.wrap (x1583 + 9))) 6)⟩ : api_Instr)]) 1 hS rfl Tryd.underlying29 Tryd.type23 rfl rfl rfl rfl (by decide) rfl rfl rfl (hS.slW 0 rfl).2.2.flat (by simp only [maxLen, List.length_cons, List.length_nil] at *; omega) hq1751 rfl) rfl rfl ?_
                rintro v1755 w hS
                obtain ⟨A1752, c1753, rfl, _⟩ := hS.osShape 0 rfl
                have hS : St B w (OSf E_api_Instr 23 (.slice A1752 (l1579 ++ ([(⟨IntKind.i64.wrap (nth (subL a576 x1583 (IntKind.i64.wrap (x1583 + 9))) 0), x1738, x1739, IntKind.i64.wrap (nth (subL a576 x1583 (IntKind.i64.wrap (x1583 + 9))) 6)⟩ : api_Instr)])).length c1753) (l1579 ++ ([(⟨IntKind.i64.wrap (nth (subL a576 x1583 (IntKind.i64.wrap (x1583 + 9))) 0), x1738, x1739, IntKind.i64.wrap (nth (subL a576 x1583 (IntKind.i64.wrap (x1583 + 9))) 6)⟩ : api_Instr)])) :: OSf E_api_Instr 23 (.slice (some ⟨b1750, 0, none⟩) ([(⟨IntKind.i64.wrap (nth (subL a576 x1583 (IntKind.i64.wrap (x1583 + 9))) 0), x1738, x1739, IntKind.i64.wrap (nth (subL a576 x1583 (IntKind.i64.wrap (x1583 + 9))) 6)⟩ : api_Instr)]).length 1) ([(⟨IntKind.i64.wrap (nth (subL a576 x1583 (IntKind.i64.wrap (x1583 + 9))) 0), x1738, x1739, IntKind.i64.wrap (nth (subL a576 x1583 (IntKind.i64.wrap (x1583 + 9))) 6)⟩ : api_Instr)]) :: Cl b1732 [.int .i64 (IntKind.i64.wrap (nth (subL a576 x1583 (IntKind.i64.wrap (x1583 + 9))) 0)), .int .i64 x1738, .int .i64 x1739, .int .i64 (IntKind.i64.wrap (nth (subL a576 x1583 (IntKind.i64.wrap (x1583 + 9))) 6))] 23 :: l) hf := hS
                refine RL.s (Vl.assign rfl) rfl ?_
                refine RL.nil ?_
                refine RQ.inB_n ?_
                refine RQ.then_n ?_
                refine RC.region ?_
                refine RL.s (Vl.move rfl) rfl ?_
                refine RL.s (Vl.int rfl rfl rfl) rfl ?_
                refine RL.s (Vl.assign rfl) rfl ?_
                refine RL.nil ?_
                exact fun a ha => ⟨((l1579 ++ ([(⟨IntKind.i64.wrap (nth (subL a576 x1583 (IntKind.i64.wrap (x1583 + 9))) 0), x1738, x1739, IntKind.i64.wrap (nth (subL a576 x1583 (IntKind.i64.wrap (x1583 + 9))) 6)⟩ : api_Instr)])), IntKind.i64.wrap (x1583 + 9)), ⟨(l1579 ++ ([(⟨IntKind.i64.wrap (nth (subL a576 x1583 (IntKind.i64.wrap (x1583 + 9))) 0), x1738, x1739, IntKind.i64.wrap (nth (subL a576 x1583 (IntKind.i64.wrap (x1583 + 9))) 6)⟩ : api_Instr)])), (IntKind.i64.wrap (x1583 + 9)), rfl, A1752, c1753, ha.to ⟨rfl, rfl, rfl, rfl, trivial⟩, ((hS.dropAt 1 rfl).dropAt 1 rfl)⟩, h.some⟩
              case neg =>
                have h := h.neg hc1748
                refine RC.re 108 rfl (congrArg Value.bool (notb_neg hc1748)) ?_
                refine RC.condT rfl ?_
                refine RC.seq ?_
                refine RC.region ?_
                refine RL.s (Vl.move rfl) rfl ?_
                refine RL.s (Vl.assign rfl) rfl ?_
                refine RL.s (Vl.assign rfl) rfl ?_
                refine RL.s (Vl.assign rfl) rfl ?_
                refine RL.nil ?_
                refine RQ.then_n ?_
                refine RC.ret ?_
                refine RQ.ret ?_
                refine RQ.inB_ret ?_
                refine RQ.ret ?_
                have h := h.inrS
                refine RQ.ret ?_
                refine RQ.inB_ret ?_
                refine RQ.ret ?_
                have hS := hS.nilSl E_api_Instr 23
                have e := h.some
                subst e
                refine RQ.ret0 (vs := [.slice none 0 0, .int .i64 x1583, .int .i64 4]) Tryd.results14 ⟨rfl, rfl, rfl, trivial⟩ ?_
                exact ⟨none, 0, rfl, ((hS.dropAt 1 rfl).dropAt 1 rfl)⟩
            case neg =>
              have h := h.neg hc1745
              refine RL.re 103 rfl (congrArg Value.bool (notb_neg hc1745)) ?_
              refine RL.nn rfl rfl ?_
              refine RL.nn rfl rfl ?_
              refine RL.nn rfl rfl ?_
              refine RL.nn rfl rfl ?_
              refine RL.s (Vl.pickT rfl rfl) rfl ?_
              refine RL.nil ?_
              refine RQ.then_n ?_
              refine RC.condT rfl ?_
              refine RC.seq ?_
              refine RC.region ?_
              refine RL.s (Vl.move rfl) rfl ?_
              refine RL.s (Vl.assign rfl) rfl ?_
              refine RL.s (Vl.assign rfl) rfl ?_
              refine RL.s (Vl.assign rfl) rfl ?_
              refine RL.nil ?_
              refine RQ.then_n ?_
              refine RC.ret ?_
              refine RQ.ret ?_
              refine RQ.inB_ret ?_
              refine RQ.ret ?_
              have h := h.inrS
              refine RQ.ret ?_
              refine RQ.inB_ret ?_
              refine RQ.ret ?_
              have hS := hS.nilSl E_api_Instr 23
              have e := h.some
              subst e
              refine RQ.ret0 (vs := [.slice none 0 0, .int .i64 x1583, .int .i64 4]) Tryd.results14 ⟨rfl, rfl, rfl, trivial⟩ ?_
              exact ⟨none, 0, rfl, ((hS.dropAt 1 rfl).dropAt 1 rfl)⟩
          · refine RC.seq ?_
            refine RC.region ?_
            refine RL.s (Vl.fieldAddr (a'' := ⟨b1732, 0, none⟩) Tryd.underlying23 rfl Tryd.sizeOf3 rfl rfl) rfl ?_
            refine RL.s (Vl.load Tryd.isAgg3 rfl (hS.cell 0 rfl rfl)) rfl ?_
            refine RL.s (Vl.int rfl rfl rfl) rfl ?_
            refine RL.nil ?_
            refine RQ.then_n ?_
            by_cases hc1758 : IntKind.i64.wrap (nth (subL a576 x1583 (IntKind.i64.wrap (x1583 + 9))) 0) = 10
            case pos =>
              have h := h.pos hc1758
              refine RC.re 90 rfl (congrArg Value.bool (decide_eq_true hc1758)) ?_
              refine RC.condT rfl ?_
              refine RC.seq ?_
              refine RC.region ?_
              refine RL.s (Vl.move rfl) rfl ?_
              refine RL.s (Vl.move rfl) rfl ?_
              by_cases hc1759 : nth (subL a576 x1583 (IntKind.i64.wrap (x1583 + 9))) 8 = 0
              case pos =>
                have h := h.pos hc1759
                refine RL.re 92 rfl (congrArg Value.bool (decide_eq_true hc1759)) ?_
                refine RL.sg (Vl.fieldAddr (a'' := ⟨b1732, 1, none⟩) Tryd.underlying23 rfl Tryd.sizeOf3 rfl rfl) rfl rfl ?_
                refine RL.sg (Vl.load Tryd.isAgg3 rfl (hS.cell 0 rfl rfl)) rfl rfl ?_
                refine RL.sg (Vl.int rfl rfl rfl) rfl rfl ?_
                refine RL.s (Vl.pickT rfl rfl) rfl ?_
                refine RL.s (Vl.assign rfl) rfl ?_
                refine RL.nil ?_
                refine RQ.then_n ?_
                refine RC.region ?_
                refine RL.s (Vl.fieldAddr (a'' := ⟨b1732, 2, none⟩) Tryd.underlying23 rfl Tryd.sizeOf3 rfl rfl) rfl ?_
                refine RL.s (Vl.load Tryd.isAgg3 rfl (hS.cell 0 rfl rfl)) rfl ?_
                refine RL.s (Vl.fieldAddr (a'' := ⟨b1732, 1, none⟩) Tryd.underlying23 rfl Tryd.sizeOf3 rfl rfl) rfl ?_
                refine RL.e0 (OW.store (cs := [.int .i64 (IntKind.i64.wrap (nth (subL a576 x1583 (IntKind.i64.wrap (x1583 + 9))) 0)), .int .i64 (IntKind.i64.wrap (nth (subL a576 x1583 (IntKind.i64.wrap (x1583 + 9))) 1)), .int .i64 (IntKind.i64.wrap (IntKind.i32.wrap (IntKind.u32.wrap (BitVec.ofInt IntKind.u32.bits (IntKind.u32.wrap (BitVec.ofInt IntKind.u32.bits (IntKind.u32.wrap (BitVec.ofInt IntKind.u32.bits (IntKind.u32.wrap ((IntKind.u32.wrap (nth (subL a576 x1583 (IntKind.i64.wrap (x1583 + 9))) 2)) * 2 ^ (min (24 : Int).toNat IntKind.u32.bits))) ||| BitVec.ofInt IntKind.u32.bits (IntKind.u32.wrap ((IntKind.u32.wrap (nth (subL a576 x1583 (IntKind.i64.wrap (x1583 + 9))) 3)) * 2 ^ (min (16 : Int).toNat IntKind.u32.bits)))).toNat) ||| BitVec.ofInt IntKind.u32.bits (IntKind.u32.wrap ((IntKind.u32.wrap (nth (subL a576 x1583 (IntKind.i64.wrap (x1583 + 9))) 4)) * 2 ^ (min (8 : Int).toNat IntKind.u32.bits)))).toNat) ||| BitVec.ofInt IntKind.u32.bits (IntKind.u32.wrap (nth (subL a576 x1583 (IntKind.i64.wrap (x1583 + 9))) 5))).toNat))), .int .i64 (IntKind.i64.wrap (nth (subL a576 x1583 (IntKind.i64.wrap (x1583 + 9))) 6))]) (vs := [.int .i64 (IntKind.i64.wrap (IntKind.i32.wrap (IntKind.u32.wrap (BitVec.ofInt IntKind.u32.bits (IntKind.u32.wrap (BitVec.ofInt IntKind.u32.bits (IntKind.u32.wrap (BitVec.ofInt IntKind.u32.bits (IntKind.u32.wrap ((IntKind.u32.wrap (nth (subL a576 x1583 (IntKind.i64.wrap (x1583 + 9))) 2)) * 2 ^ (min (24 : Int).toNat IntKind.u32.bits))) ||| BitVec.ofInt IntKind.u32.bits (IntKind.u32.wrap ((IntKind.u32.wrap (nth (subL a576 x1583 (IntKind.i64.wrap (x1583 + 9))) 3)) * 2 ^ (min (16 : Int).toNat IntKind.u32.bits)))).toNat) ||| BitVec.ofInt IntKind.u32.bits (IntKind.u32.wrap ((IntKind.u32.wrap (nth (subL a576 x1583 (IntKind.i64.wrap (x1583 + 9))) 4)) * 2 ^ (min (8 : Int).toNat IntKind.u32.bits)))).toNat) ||| BitVec.ofInt IntKind.u32.bits (IntKind.u32.wrap (nth (subL a576 x1583 (IntKind.i64.wrap (x1583 + 9))) 5))).toNat)))]) (l' := Cl b1732 [.int .i64 (IntKind.i64.wrap (nth (subL a576 x1583 (IntKind.i64.wrap (x1583 + 9))) 0)), .int .i64 (IntKind.i64.wrap (IntKind.i32.wrap (IntKind.u32.wrap (BitVec.ofInt IntKind.u32.bits (IntKind.u32.wrap (BitVec.ofInt IntKind.u32.bits (IntKind.u32.wrap (BitVec.ofInt IntKind.u32.bits (IntKind.u32.wrap ((IntKind.u32.wrap (nth (subL a576 x1583 (IntKind.i64.wrap (x1583 + 9))) 2)) * 2 ^ (min (24 : Int).toNat IntKind.u32.bits))) ||| BitVec.ofInt IntKind.u32.bits (IntKind.u32.wrap ((IntKind.u32.wrap (nth (subL a576 x1583 (IntKind.i64.wrap (x1583 + 9))) 3)) * 2 ^ (min (16 : Int).toNat IntKind.u32.bits)))).toNat) ||| BitVec.ofInt IntKind.u32.bits (IntKind.u32.wrap ((IntKind.u32.wrap (nth (subL a576 x1583 (IntKind.i64.wrap (x1583 + 9))) 4)) * 2 ^ (min (8 : Int).toNat IntKind.u32.bits)))).toNat) ||| BitVec.ofInt IntKind.u32.bits (IntKind.u32.wrap (nth (subL a576 x1583 (IntKind.i64.wrap (x1583 + 9))) 5))).toNat))), .int .i64 (IntKind.i64.wrap (IntKind.i32.wrap (IntKind.u32.wrap (BitVec.ofInt IntKind.u32.bits (IntKind.u32.wrap (BitVec.ofInt IntKind.u32.bits (IntKind.u32.wrap (BitVec.ofInt IntKind.u32.bits (IntKind.u32.wrap ((IntKind.u32.wrap (nth (subL a576 x1583 (IntKind.i64.wrap (x1583 + 9))) 2)) * 2 ^ (min (24 : Int).toNat IntKind.u32.bits))) ||| BitVec.ofInt IntKind.u32.bits (IntKind.u32.wrap ((IntKind.u32.wrap (nth (subL a576 x1583 (IntKind.i64.wrap (x1583 + 9))) 3)) * 2 ^ (min (16 : Int).toNat IntKind.u32.bits)))).toNat) ||| BitVec.ofInt IntKind.u32.bits (IntKind.u32.wrap ((IntKind.u32.wrap (nth (subL a576 x1583 (IntKind.i64.wrap (x1583 + 9))) 4)) * 2 ^ (min (8 : Int).toNat IntKind.u32.bits)))).toNat) ||| BitVec.ofInt IntKind.u32.bits (IntKind.u32.wrap (nth (subL a576 x1583 (IntKind.i64.wrap (x1583 + 9))) 5))).toNat))), .int .i64 (IntKind.i64.wrap (nth (subL a576 x1583 (IntKind.i64.wrap (x1583 + 9))) 6))] 23 :: OSf E_api_Instr 23 (.slice A1580 l1579.length c1581) l1579 :: l) 0 hS rfl rfl rfl rfl Tryd.sizeOf3 rfl rfl rfl rfl) rfl ?_
                rintro _ w ⟨rfl, hS⟩
                have hS : St B w (Cl b1732 [.int .i64 (IntKind.i64.wrap (nth (subL a576 x1583 (IntKind.i64.wrap (x1583 + 9))) 0)), .int .i64 (IntKind.i64.wrap (IntKind.i32.wrap (IntKind.u32.wrap (BitVec.ofInt IntKind.u32.bits (IntKind.u32.wrap (BitVec.ofInt IntKind.u32.bits (IntKind.u32.wrap (BitVec.ofInt IntKind.u32.bits (IntKind.u32.wrap ((IntKind.u32.wrap (nth (subL a576 x1583 (IntKind.i64.wrap (x1583 + 9))) 2)) * 2 ^ (min (24 : Int).toNat IntKind.u32.bits))) ||| BitVec.ofInt IntKind.u32.bits (IntKind.u32.wrap ((IntKind.u32.wrap (nth (subL a576 x1583 (IntKind.i64.wrap (x1583 + 9))) 3)) * 2 ^ (min (16 : Int).toNat IntKind.u32.bits)))).toNat) ||| BitVec.ofInt IntKind.u32.bits (IntKind.u32.wrap ((IntKind.u32.wrap (nth (subL a576 x1583 (IntKind.i64.wrap (x1583 + 9))) 4)) * 2 ^ (min (8 : Int).toNat IntKind.u32.bits)))).toNat) ||| BitVec.ofInt IntKind.u32.bits (IntKind.u32.wrap (nth (subL a576 x1583 (IntKind.i64.wrap (x1583 + 9))) 5))).toNat))), .int .i64 (IntKind.i64.wrap (IntKind.i32.wrap (IntKind.u32.wrap (BitVec.ofInt IntKind.u32.bits (IntKind.u32.wrap (BitVec.ofInt IntKind.u32.bits (IntKind.u32.wrap (BitVec.ofInt IntKind.u32.bits (IntKind.u32.wrap ((IntKind.u32.wrap (nth (subL a576 x1583 (IntKind.i64.wrap (x1583 + 9))) 2)) * 2 ^ (min (24 : Int).toNat IntKind.u32.bits))) ||| BitVec.ofInt IntKind.u32.bits (IntKind.u32.wrap ((IntKind.u32.wrap (nth (subL a576 x1583 (IntKind.i64.wrap (x1583 + 9))) 3)) * 2 ^ (min (16 : Int).toNat IntKind.u32.bits)))).toNat) ||| BitVec.ofInt IntKind.u32.bits (IntKind.u32.wrap ((IntKind.u32.wrap (nth (subL a576 x1583 (IntKind.i64.wrap (x1583 + 9))) 4)) * 2 ^ (min (8 : Int).toNat IntKind.u32.bits)))).toNat) ||| BitVec.ofInt IntKind.u32.bits (IntKind.u32.wrap (nth (subL a576 x1583 (IntKind.i64.wrap (x1583 + 9))) 5))).toNat))), .int .i64 (IntKind.i64.wrap (nth (subL a576 x1583 (IntKind.i64.wrap (x1583 + 9))) 6))] 23 :: OSf E_api_Instr 23 (.slice A1580 l1579.length c1581) l1579 :: l) hf := hS
                refine RL.s (Vl.fieldAddr (a'' := ⟨b1732, 2, none⟩) Tryd.underlying23 rfl Tryd.sizeOf3 rfl rfl) rfl ?_
                refine RL.e0 (OW.store (cs := [.int .i64 (IntKind.i64.wrap (nth (subL a576 x1583 (IntKind.i64.wrap (x1583 + 9))) 0)), .int .i64 (IntKind.i64.wrap (IntKind.i32.wrap (IntKind.u32.wrap (BitVec.ofInt IntKind.u32.bits (IntKind.u32.wrap (BitVec.ofInt IntKind.u32.bits (IntKind.u32.wrap (BitVec.ofInt IntKind.u32.bits (IntKind.u32.wrap ((IntKind.u32.wrap (nth (subL a576 x1583 (IntKind.i64.wrap (x1583 + 9))) 2)) * 2 ^ (min (24 : Int).toNat IntKind.u32.bits))) ||| BitVec.ofInt IntKind.u32.bits (IntKind.u32.wrap ((IntKind.u32.wrap (nth (subL a576 x1583 (IntKind.i64.wrap (x1583 + 9))) 3)) * 2 ^ (min (16 : Int).toNat IntKind.u32.bits)))).toNat) ||| BitVec.ofInt IntKind.u32.bits (IntKind.u32.wrap ((IntKind.u32.wrap (nth (subL a576 x1583 (IntKind.i64.wrap (x1583 + 9))) 4)) * 2 ^ (min (8 : Int).toNat IntKind.u32.bits)))).toNat) ||| BitVec.ofInt IntKind.u32.bits (IntKind.u32.wrap (nth (subL a576 x1583 (IntKind.i64.wrap (x1583 + 9))) 5))).toNat))), .int .i64 (IntKind.i64.wrap (IntKind.i32.wrap (IntKind.u32.wrap (BitVec.ofInt IntKind.u32.bits (IntKind.u32.wrap (BitVec.ofInt IntKind.u32.bits (IntKind.u32.wrap (BitVec.ofInt IntKind.u32.bits (IntKind.u32.wrap ((IntKind.u32.wrap (nth (subL a576 x1583 (IntKind.i64.wrap (x1583 + 9))) 2)) * 2 ^ (min (24 : Int).toNat IntKind.u32.bits))) ||| BitVec.ofInt IntKind.u32.bits (IntKind.u32.wrap ((IntKind.u32.wrap (nth (subL a576 x1583 (IntKind.i64.wrap (x1583 + 9))) 3)) * 2 ^ (min (16 : Int).toNat IntKind.u32.bits)))).toNat) ||| BitVec.ofInt IntKind.u32.bits (IntKind.u32.wrap ((IntKind.u32.wrap (nth (subL a576 x1583 (IntKind.i64.wrap (x1583 + 9))) 4)) * 2 ^ (min (8 : Int).toNat IntKind.u32.bits)))).toNat) ||| BitVec.ofInt IntKind.u32.bits (IntKind.u32.wrap (nth (subL a576 x1583 (IntKind.i64.wrap (x1583 + 9))) 5))).toNat))), .int .i64 (IntKind.i64.wrap (nth (subL a576 x1583 (IntKind.i64.wrap (x1583 + 9))) 6))]) (vs := [.int .i64 0]) (l' := Cl b1732 [.int .i64 (IntKind.i64.wrap (nth (subL a576 x1583 (IntKind.i64.wrap (x1583 + 9))) 0)), .int .i64 (IntKind.i64.wrap (IntKind.i32.wrap (IntKind.u32.wrap (BitVec.ofInt IntKind.u32.bits (IntKind.u32.wrap (BitVec.ofInt IntKind.u32.bits (IntKind.u32.wrap (BitVec.ofInt IntKind.u32.bits (IntKind.u32.wrap ((IntKind.u32.wrap (nth (subL a576 x1583 (IntKind.i64.wrap (x1583 + 9))) 2)) * 2 ^ (min (24 : Int).toNat IntKind.u32.bits))) ||| BitVec.ofInt IntKind.u32.bits (IntKind.u32.wrap ((IntKind.u32.wrap (nth (subL a576 x1583 (IntKind.i64.wrap (x1583 + 9))) 3)) * 2 ^ (min (16 : Int).toNat IntKind.u32.bits)))).toNat) ||| BitVec.ofInt IntKind.u32.bits (IntKind.u32.wrap ((IntKind.u32.wrap (nth (subL a576 x1583 (IntKind.i64.wrap (x1583 + 9))) 4)) * 2 ^ (min (8 : Int).toNat IntKind.u32.bits)))).toNat) ||| BitVec.ofInt IntKind.u32.bits (IntKind.u32.wrap (nth (subL a576 x1583 (IntKind.i64.wrap (x1583 + 9))) 5))).toNat))), .int .i64 0, .int .i64 (IntKind.i64.wrap (nth (subL a576 x1583 (IntKind.i64.wrap (x1583 + 9))) 6))] 23 :: OSf E_api_Instr 23 (.slice A1580 l1579.length c1581) l1579 :: l) 0 hS rfl rfl rfl rfl Tryd.sizeOf3 rfl rfl rfl rfl) rfl ?_
                rintro _ w ⟨rfl, hS⟩
                have hS : St B w (Cl b1732 [.int .i64 (IntKind.i64.wrap (nth (subL a576 x1583 (IntKind.i64.wrap (x1583 + 9))) 0)), .int .i64 (IntKind.i64.wrap (IntKind.i32.wrap (IntKind.u32.wrap (BitVec.ofInt IntKind.u32.bits (IntKind.u32.wrap (BitVec.ofInt IntKind.u32.bits (IntKind.u32.wrap (BitVec.ofInt IntKind.u32.bits (IntKind.u32.wrap ((IntKind.u32.wrap (nth (subL a576 x1583 (IntKind.i64.wrap (x1583 + 9))) 2)) * 2 ^ (min (24 : Int).toNat IntKind.u32.bits))) ||| BitVec.ofInt IntKind.u32.bits (IntKind.u32.wrap ((IntKind.u32.wrap (nth (subL a576 x1583 (IntKind.i64.wrap (x1583 + 9))) 3)) * 2 ^ (min (16 : Int).toNat IntKind.u32.bits)))).toNat) ||| BitVec.ofInt IntKind.u32.bits (IntKind.u32.wrap ((IntKind.u32.wrap (nth (subL a576 x1583 (IntKind.i64.wrap (x1583 + 9))) 4)) * 2 ^ (min (8 : Int).toNat IntKind.u32.bits)))).toNat) ||| BitVec.ofInt IntKind.u32.bits (IntKind.u32.wrap (nth (subL a576 x1583 (IntKind.i64.wrap (x1583 + 9))) 5))).toNat))), .int .i64 0, .int .i64 (IntKind.i64.wrap (nth (subL a576 x1583 (IntKind.i64.wrap (x1583 + 9))) 6))] 23 :: OSf E_api_Instr 23 (.slice A1580 l1579.length c1581) l1579 :: l) hf := hS
                refine RL.nil ?_
                exact fun a ha => ⟨(IntKind.i64.wrap (IntKind.i32.wrap (IntKind.u32.wrap (BitVec.ofInt IntKind.u32.bits (IntKind.u32.wrap (BitVec.ofInt IntKind.u32.bits (IntKind.u32.wrap (BitVec.ofInt IntKind.u32.bits (IntKind.u32.wrap ((IntKind.u32.wrap (nth (subL a576 x1583 (IntKind.i64.wrap (x1583 + 9))) 2)) * 2 ^ (min (24 : Int).toNat IntKind.u32.bits))) ||| BitVec.ofInt IntKind.u32.bits (IntKind.u32.wrap ((IntKind.u32.wrap (nth (subL a576 x1583 (IntKind.i64.wrap (x1583 + 9))) 3)) * 2 ^ (min (16 : Int).toNat IntKind.u32.bits)))).toNat) ||| BitVec.ofInt IntKind.u32.bits (IntKind.u32.wrap ((IntKind.u32.wrap (nth (subL a576 x1583 (IntKind.i64.wrap (x1583 + 9))) 4)) * 2 ^ (min (8 : Int).toNat IntKind.u32.bits)))).toNat) ||| BitVec.ofInt IntKind.u32.bits (IntKind.u32.wrap (nth (subL a576 x1583 (IntKind.i64.wrap (x1583 + 9))) 5))).toNat)), 0, (decide (IntKind.i64.wrap (nth (subL a576 x1583 (IntKind.i64.wrap (x1583 + 9))) 1) = 0))), (IntKind.i64.wrap (IntKind.i32.wrap (IntKind.u32.wrap (BitVec.ofInt IntKind.u32.bits (IntKind.u32.wrap (BitVec.ofInt IntKind.u32.bits (IntKind.u32.wrap (BitVec.ofInt IntKind.u32.bits (IntKind.u32.wrap ((IntKind.u32.wrap (nth (subL a576 x1583 (IntKind.i64.wrap (x1583 + 9))) 2)) * 2 ^ (min (24 : Int).toNat IntKind.u32.bits))) ||| BitVec.ofInt IntKind.u32.bits (IntKind.u32.wrap ((IntKind.u32.wrap (nth (subL a576 x1583 (IntKind.i64.wrap (x1583 + 9))) 3)) * 2 ^ (min (16 : Int).toNat IntKind.u32.bits)))).toNat) ||| BitVec.ofInt IntKind.u32.bits (IntKind.u32.wrap ((IntKind.u32.wrap (nth (subL a576 x1583 (IntKind.i64.wrap (x1583 + 9))) 4)) * 2 ^ (min (8 : Int).toNat IntKind.u32.bits)))).toNat) ||| BitVec.ofInt IntKind.u32.bits (IntKind.u32.wrap (nth (subL a576 x1583 (IntKind.i64.wrap (x1583 + 9))) 5))).toNat))), 0, (decide (IntKind.i64.wrap (nth (subL a576 x1583 (IntKind.i64.wrap (x1583 + 9))) 1) = 0)), rfl, ha.to ⟨rfl, rfl, rfl, rfl, rfl, rfl, rfl, rfl, rfl, rfl, trivial⟩, ((hS.pull 0 rfl rfl).pull 1 rfl rfl), h⟩
              case neg =>
                have h := h.neg hc1759
                refine RL.re 92 rfl (congrArg Value.bool (decide_eq_false hc1759)) ?_
                refine RL.nn rfl rfl ?_
                refine RL.nn rfl rfl ?_
                refine RL.nn rfl rfl ?_
                refine RL.s (Vl.pickF rfl rfl) rfl ?_
                refine RL.s (Vl.assign rfl) rfl ?_
                refine RL.nil ?_
                refine RQ.then_n ?_
                refine RC.region ?_
                refine RL.s (Vl.fieldAddr (a'' := ⟨b1732, 2, none⟩) Tryd.underlying23 rfl Tryd.sizeOf3 rfl rfl) rfl ?_
                refine RL.s (Vl.load Tryd.isAgg3 rfl (hS.cell 0 rfl rfl)) rfl ?_
                refine RL.s (Vl.fieldAddr (a'' := ⟨b1732, 1, none⟩) Tryd.underlying23 rfl Tryd.sizeOf3 rfl rfl) rfl ?_
                refine RL.e0 (OW.store (cs := [.int .i64 (IntKind.i64.wrap (nth (subL a576 x1583 (IntKind.i64.wrap (x1583 + 9))) 0)), .int .i64 (IntKind.i64.wrap (nth (subL a576 x1583 (IntKind.i64.wrap (x1583 + 9))) 1)), .int .i64 (IntKind.i64.wrap (IntKind.i32.wrap (IntKind.u32.wrap (BitVec.ofInt IntKind.u32.bits (IntKind.u32.wrap (BitVec.ofInt IntKind.u32.bits (IntKind.u32.wrap (BitVec.ofInt IntKind.u32.bits (IntKind.u32.wrap ((IntKind.u32.wrap (nth (subL a576 x1583 (IntKind.i64.wrap (x1583 + 9))) 2)) * 2 ^ (min (24 : Int).toNat IntKind.u32.bits))) ||| BitVec.ofInt IntKind.u32.bits (IntKind.u32.wrap ((IntKind.u32.wrap (nth (subL a576 x1583 (IntKind.i64.wrap (x1583 + 9))) 3)) * 2 ^ (min (16 : Int).toNat IntKind.u32.bits)))).toNat) ||| BitVec.ofInt IntKind.u32.bits (IntKind.u32.wrap ((IntKind.u32.wrap (nth (subL a576 x1583 (IntKind.i64.wrap (x1583 + 9))) 4)) * 2 ^ (min (8 : Int).toNat IntKind.u32.bits)))).toNat) ||| BitVec.ofInt IntKind.u32.bits (IntKind.u32.wrap (nth (subL a576 x1583 (IntKind.i64.wrap (x1583 + 9))) 5))).toNat))), .int .i64 (IntKind.i64.wrap (nth (subL a576 x1583 (IntKind.i64.wrap (x1583 + 9))) 6))]) (vs := [.int .i64 (IntKind.i64.wrap (IntKind.i32.wrap (IntKind.u32.wrap (BitVec.ofInt IntKind.u32.bits (IntKind.u32.wrap (BitVec.ofInt IntKind.u32.bits (IntKind.u32.wrap (BitVec.ofInt IntKind.u32.bits (IntKind.u32.wrap ((IntKind.u32.wrap (nth (subL a576 x1583 (IntKind.i64.wrap (x1583 + 9))) 2)) * 2 ^ (min (24 : Int).toNat IntKind.u32.bits))) ||| BitVec.ofInt IntKind.u32.bits (IntKind.u32.wrap ((IntKind.u32.wrap (nth (subL a576 x1583 (IntKind.i64.wrap (x1583 + 9))) 3)) * 2 ^ (min (16 : Int).toNat IntKind.u32.bits)))).toNat) ||| BitVec.ofInt IntKind.u32.bits (IntKind.u32.wrap ((IntKind.u32.wrap (nth (subL a576 x1583 (IntKind.i64.wrap (x1583 + 9))) 4)) * 2 ^ (min (8 : Int).toNat IntKind.u32.bits)))).toNat) ||| BitVec.ofInt IntKind.u32.bits (IntKind.u32.wrap (nth (subL a576 x1583 (IntKind.i64.wrap (x1583 + 9))) 5))).toNat)))]) (l' := Cl b1732 [.int .i64 (IntKind.i64.wrap (nth (subL a576 x1583 (IntKind.i64.wrap (x1583 + 9))) 0)), .int .i64 (IntKind.i64.wrap (IntKind.i32.wrap (IntKind.u32.wrap (BitVec.ofInt IntKind.u32.bits (IntKind.u32.wrap (BitVec.ofInt IntKind.u32.bits (IntKind.u32.wrap (BitVec.ofInt IntKind.u32.bits (IntKind.u32.wrap ((IntKind.u32.wrap (nth (subL a576 x1583 (IntKind.i64.wrap (x1583 + 9))) 2)) * 2 ^ (min (24 : Int).toNat IntKind.u32.bits))) ||| BitVec.ofInt IntKind.u32.bits (IntKind.u32.wrap ((IntKind.u32.wrap (nth (subL a576 x1583 (IntKind.i64.wrap (x1583 + 9))) 3)) * 2 ^ (min (16 : Int).toNat IntKind.u32.bits)))).toNat) ||| BitVec.ofInt IntKind.u32.bits (IntKind.u32.wrap ((IntKind.u32.wrap (nth (subL a576 x1583 (IntKind.i64.wrap (x1583 + 9))) 4)) * 2 ^ (min (8 : Int).toNat IntKind.u32.bits)))).toNat) ||| BitVec.ofInt IntKind.u32.bits (IntKind.u32.wrap (nth (subL a576 x1583 (IntKind.i64.wrap (x1583 + 9))) 5))).toNat))), .int .i64 (IntKind.i64.wrap (IntKind.i32.wrap (IntKind.u32.wrap (BitVec.ofInt IntKind.u32.bits (IntKind.u32.wrap (BitVec.ofInt IntKind.u32.bits (IntKind.u32.wrap (BitVec.ofInt IntKind.u32.bits (IntKind.u32.wrap ((IntKind.u32.wrap (nth (subL a576 x1583 (IntKind.i64.wrap (x1583 + 9))) 2)) * 2 ^ (min (24 : Int).toNat IntKind.u32.bits))) ||| BitVec.ofInt IntKind.u32.bits (IntKind.u32.wrap ((IntKind.u32.wrap (nth (subL a576 x1583 (IntKind.i64.wrap (x1583 + 9))) 3)) * 2 ^ (min (16 : Int).toNat IntKind.u32.bits)))).toNat) ||| BitVec.ofInt IntKind.u32.bits (IntKind.u32.wrap ((IntKind.u32.wrap (nth (subL a576 x1583 (IntKind.i64.wrap (x1583 + 9))) 4)) * 2 ^ (min (8 : Int).toNat IntKind.u32.bits)))).toNat) ||| BitVec.ofInt IntKind.u32.bits (IntKind.u32.wrap (nth (subL a576 x1583 (IntKind.i64.wrap (x1583 + 9))) 5))).toNat))), .int .i64 (IntKind.i64.wrap (nth (subL a576 x1583 (IntKind.i64.wrap (x1583 + 9))) 6))] 23 :: OSf E_api_Instr 23 (.slice A1580 l1579.length c1581) l1579 :: l) 0 hS rfl rfl rfl rfl Tryd.sizeOf3 rfl rfl rfl rfl) rfl ?_
                rintro _ w ⟨rfl, hS⟩
                have hS : St B w (Cl b1732 [.int .i64 (IntKind.i64.wrap (nth (subL a576 x1583 (IntKind.i64.wrap (x1583 + 9))) 0)), .int .i64 (IntKind.i64.wrap (IntKind.i32.wrap (IntKind.u32.wrap (BitVec.ofInt IntKind.u32.bits (IntKind.u32.wrap (BitVec.ofInt IntKind.u32.bits (IntKind.u32.wrap (BitVec.ofInt IntKind.u32.bits (IntKind.u32.wrap ((IntKind.u32.wrap (nth (subL a576 x1583 (IntKind.i64.wrap (x1583 + 9))) 2)) * 2 ^ (min (24 : Int).toNat IntKind.u32.bits))) ||| BitVec.ofInt IntKind.u32.bits (IntKind.u32.wrap ((IntKind.u32.wrap (nth (subL a576 x1583 (IntKind.i64.wrap (x1583 + 9))) 3)) * 2 ^ (min (16 : Int).toNat IntKind.u32.bits)))).toNat) ||| BitVec.ofInt IntKind.u32.bits (IntKind.u32.wrap ((IntKind.u32.wrap (nth (subL a576 x1583 (IntKind.i64.wrap (x1583 + 9))) 4)) * 2 ^ (min (8 : Int).toNat IntKind.u32.bits)))).toNat) ||| BitVec.ofInt IntKind.u32.bits (IntKind.u32.wrap (nth (subL a576 x1583 (IntKind.i64.wrap (x1583 + 9))) 5))).toNat))), .int .i64 (IntKind.i64.wrap (IntKind.i32.wrap (IntKind.u32.wrap (BitVec.ofInt IntKind.u32.bits (IntKind.u32.wrap (BitVec.ofInt IntKind.u32.bits (IntKind.u32.wrap (BitVec.ofInt IntKind.u32.bits (IntKind.u32.wrap ((IntKind.u32.wrap (nth (subL a576 x1583 (IntKind.i64.wrap (x1583 + 9))) 2)) * 2 ^ (min (24 : Int).toNat IntKind.u32.bits))) ||| BitVec.ofInt IntKind.u32.bits (IntKind.u32.wrap ((IntKind.u32.wrap (nth (subL a576 x1583 (IntKind.i64.wrap (x1583 + 9))) 3)) * 2 ^ (min (16 : Int).toNat IntKind.u32.bits)))).toNat) ||| BitVec.ofInt IntKind.u32.bits (IntKind.u32.wrap ((IntKind.u32.wrap (nth (subL a576 x1583 (IntKind.i64.wrap (x1583 + 9))) 4)) * 2 ^ (min (8 : Int).toNat IntKind.u32.bits)))).toNat) ||| BitVec.ofInt IntKind.u32.bits (IntKind.u32.wrap (nth (subL a576 x1583 (IntKind.i64.wrap (x1583 + 9))) 5))).toNat))), .int .i64 (IntKind.i64.wrap (nth (subL a576 x1583 (IntKind.i64.wrap (x1583 + 9))) 6))] 23 :: OSf E_api_Instr 23 (.slice A1580 l1579.length c1581) l1579 :: l) hf := hS
                refine RL.s (Vl.fieldAddr (a'' := ⟨b1732, 2, none⟩) Tryd.underlying23 rfl Tryd.sizeOf3 rfl rfl) rfl ?_
                refine RL.e0 (OW.store (cs := [.int .i64 (IntKind.i64.wrap (nth (subL a576 x1583 (IntKind.i64.wrap (x1583 + 9))) 0)), .int .i64 (IntKind.i64.wrap (IntKind.i32.wrap (IntKind.u32.wrap (BitVec.ofInt IntKind.u32.bits (IntKind.u32.wrap (BitVec.ofInt IntKind.u32.bits (IntKind.u32.wrap (BitVec.ofInt IntKind.u32.bits (IntKind.u32.wrap ((IntKind.u32.wrap (nth (subL a576 x1583 (IntKind.i64.wrap (x1583 + 9))) 2)) * 2 ^ (min (24 : Int).toNat IntKind.u32.bits))) ||| BitVec.ofInt IntKind.u32.bits (IntKind.u32.wrap ((IntKind.u32.wrap (nth (subL a576 x1583 (IntKind.i64.wrap (x1583 + 9))) 3)) * 2 ^ (min (16 : Int).toNat IntKind.u32.bits)))).toNat) ||| BitVec.ofInt IntKind.u32.bits (IntKind.u32.wrap ((IntKind.u32.wrap (nth (subL a576 x1583 (IntKind.i64.wrap (x1583 + 9))) 4)) * 2 ^ (min (8 : Int).toNat IntKind.u32.bits)))).toNat) ||| BitVec.ofInt IntKind.u32.bits (IntKind.u32.wrap (nth (subL a576 x1583 (IntKind.i64.wrap (x1583 + 9))) 5))).toNat))), .int .i64 (IntKind.i64.wrap (IntKind.i32.wrap (IntKind.u32.wrap (BitVec.ofInt IntKind.u32.bits (IntKind.u32.wrap (BitVec.ofInt IntKind.u32.bits (IntKind.u32.wrap (BitVec.ofInt IntKind.u32.bits (IntKind.u32.wrap ((IntKind.u32.wrap (nth (subL a576 x1583 (IntKind.i64.wrap (x1583 + 9))) 2)) * 2 ^ (min (24 : Int).toNat IntKind.u32.bits))) ||| BitVec.ofInt IntKind.u32.bits (IntKind.u32.wrap ((IntKind.u32.wrap (nth (subL a576 x1583 (IntKind.i64.wrap (x1583 + 9))) 3)) * 2 ^ (min (16 : Int).toNat IntKind.u32.bits)))).toNat) ||| BitVec.ofInt IntKind.u32.bits (IntKind.u32.wrap ((IntKind.u32.wrap (nth (subL a576 x1583 (IntKind.i64.wrap (x1583 + 9))) 4)) * 2 ^ (min (8 : Int).toNat IntKind.u32.bits)))).toNat) ||| BitVec.ofInt IntKind.u32.bits (IntKind.u32.wrap (nth (subL a576 x1583 (IntKind.i64.wrap (x1583 + 9))) 5))).toNat))), .int .i64 (IntKind.i64.wrap (nth (subL a576 x1583 (IntKind.i64.wrap (x1583 + 9))) 6))]) (vs := [.int .i64 0]) (l' := Cl b1732 [.int .i64 (IntKind.i64.wrap (nth (subL a576 x1583 (IntKind.i64.wrap (x1583 + 9))) 0)), .int .i64 (IntKind.i64.wrap (IntKind.i32.wrap (IntKind.u32.wrap (BitVec.ofInt IntKind.u32.bits (IntKind.u32.wrap (BitVec.ofInt IntKind.u32.bits (IntKind.u32.wrap (BitVec.ofInt IntKind.u32.bits (IntKind.u32.wrap ((IntKind.u32.wrap (nth (subL a576 x1583 (IntKind.i64.wrap (x1583 + 9))) 2)) * 2 ^ (min (24 : Int).toNat IntKind.u32.bits))) ||| BitVec.ofInt IntKind.u32.bits (IntKind.u32.wrap ((IntKind.u32.wrap (nth (subL a576 x1583 (IntKind.i64.wrap (x1583 + 9))) 3)) * 2 ^ (min (16 : Int).toNat IntKind.u32.bits)))).toNat) ||| BitVec.ofInt IntKind.u32.bits (IntKind.u32.wrap ((IntKind.u32.wrap (nth (subL a576 x1583 (IntKind.i64.wrap (x1583 + 9))) 4)) * 2 ^ (min (8 : Int).toNat IntKind.u32.bits)))).toNat) ||| BitVec.ofInt IntKind.u32.bits (IntKind.u32.wrap (nth (subL a576 x1583 (IntKind.i64.wrap (x1583 + 9))) 5))).toNat))), .int .i64 0, .int .i64 (IntKind.i64.wrap (nth (subL a576 x1583 (IntKind.i64.wrap (x1583 + 9))) 6))] 23 :: OSf E_api_Instr 23 (.slice A1580 l1579.length c1581) l1579 :: l) 0 hS rfl rfl rfl rfl Tryd.sizeOf3 rfl rfl rfl rfl) rfl ?_
                rintro _ w ⟨rfl, hS⟩
                have hS : St B w (Cl b1732 [.int .i64 (IntKind.i64.wrap (nth (subL a576 x1583 (IntKind.i64.wrap (x1583 + 9))) 0)), .int .i64 (IntKind.i64.wrap (IntKind.i32.wrap (IntKind.u32.wrap (BitVec.ofInt IntKind.u32.bits (IntKind.u32.wrap (BitVec.ofInt IntKind.u32.bits (IntKind.u32.wrap (BitVec.ofInt IntKind.u32.bits (IntKind.u32.wrap ((IntKind.u32.wrap (nth (subL a576 x1583 (IntKind.i64.wrap (x1583 + 9))) 2)) * 2 ^ (min (24 : Int).toNat IntKind.u32.bits))) ||| BitVec.ofInt IntKind.u32.bits (IntKind.u32.wrap ((IntKind.u32.wrap (nth (subL a576 x1583 (IntKind.i64.wrap (x1583 + 9))) 3)) * 2 ^ (min (16 : Int).toNat IntKind.u32.bits)))).toNat) ||| BitVec.ofInt IntKind.u32.bits (IntKind.u32.wrap ((IntKind.u32.wrap (nth (subL a576 x1583 (IntKind.i64.wrap (x1583 + 9))) 4)) * 2 ^ (min (8 : Int).toNat IntKind.u32.bits)))).toNat) ||| BitVec.ofInt IntKind.u32.bits (IntKind.u32.wrap (nth (subL a576 x1583 (IntKind.i64.wrap (x1583 + 9))) 5))).toNat))), .int .i64 0, .int .i64 (IntKind.i64.wrap (nth (subL a576 x1583 (IntKind.i64.wrap (x1583 + 9))) 6))] 23 :: OSf E_api_Instr 23 (.slice A1580 l1579.length c1581) l1579 :: l) hf := hS
                refine RL.nil ?_
                exact fun a ha => ⟨(IntKind.i64.wrap (IntKind.i32.wrap (IntKind.u32.wrap (BitVec.ofInt IntKind.u32.bits (IntKind.u32.wrap (BitVec.ofInt IntKind.u32.bits (IntKind.u32.wrap (BitVec.ofInt IntKind.u32.bits (IntKind.u32.wrap ((IntKind.u32.wrap (nth (subL a576 x1583 (IntKind.i64.wrap (x1583 + 9))) 2)) * 2 ^ (min (24 : Int).toNat IntKind.u32.bits))) ||| BitVec.ofInt IntKind.u32.bits (IntKind.u32.wrap ((IntKind.u32.wrap (nth (subL a576 x1583 (IntKind.i64.wrap (x1583 + 9))) 3)) * 2 ^ (min (16 : Int).toNat IntKind.u32.bits)))).toNat) ||| BitVec.ofInt IntKind.u32.bits (IntKind.u32.wrap ((IntKind.u32.wrap (nth (subL a576 x1583 (IntKind.i64.wrap (x1583 + 9))) 4)) * 2 ^ (min (8 : Int).toNat IntKind.u32.bits)))).toNat) ||| BitVec.ofInt IntKind.u32.bits (IntKind.u32.wrap (nth (subL a576 x1583 (IntKind.i64.wrap (x1583 + 9))) 5))).toNat)), 0, false), (IntKind.i64.wrap (IntKind.i32.wrap (IntKind.u32.wrap (BitVec.ofInt IntKind.u32.bits (IntKind.u32.wrap (BitVec.ofInt IntKind.u32.bits (IntKind.u32.wrap (BitVec.ofInt IntKind.u32.bits (IntKind.u32.wrap ((IntKind.u32.wrap (nth (subL a576 x1583 (IntKind.i64.wrap (x1583 + 9))) 2)) * 2 ^ (min (24 : Int).toNat IntKind.u32.bits))) ||| BitVec.ofInt IntKind.u32.bits (IntKind.u32.wrap ((IntKind.u32.wrap (nth (subL a576 x1583 (IntKind.i64.wrap (x1583 + 9))) 3)) * 2 ^ (min (16 : Int).toNat IntKind.u32.bits)))).toNat) ||| BitVec.ofInt IntKind.u32.bits (IntKind.u32.wrap ((IntKind.u32.wrap (nth (subL a576 x1583 (IntKind.i64.wrap (x1583 + 9))) 4)) * 2 ^ (min (8 : Int).toNat IntKind.u32.bits)))).toNat) ||| BitVec.ofInt IntKind.u32.bits (IntKind.u32.wrap (nth (subL a576 x1583 (IntKind.i64.wrap (x1583 + 9))) 5))).toNat))), 0, false, rfl, ha.to ⟨rfl, rfl, rfl, rfl, rfl, rfl, rfl, rfl, rfl, rfl, trivial⟩, ((hS.pull 0 rfl rfl).pull 1 rfl rfl), h⟩
            case neg =>
              have h := h.neg hc1758
              refine RC.re 90 rfl (congrArg Value.bool (decide_eq_false hc1758)) ?_
              refine RC.condF rfl ?_
              refine RC.skip ?_
              exact fun a ha => ⟨(IntKind.i64.wrap (nth (subL a576 x1583 (IntKind.i64.wrap (x1583 + 9))) 1), IntKind.i64.wrap (IntKind.i32.wrap (IntKind.u32.wrap (BitVec.ofInt IntKind.u32.bits (IntKind.u32.wrap (BitVec.ofInt IntKind.u32.bits (IntKind.u32.wrap (BitVec.ofInt IntKind.u32.bits (IntKind.u32.wrap ((IntKind.u32.wrap (nth (subL a576 x1583 (IntKind.i64.wrap (x1583 + 9))) 2)) * 2 ^ (min (24 : Int).toNat IntKind.u32.bits))) ||| BitVec.ofInt IntKind.u32.bits (IntKind.u32.wrap ((IntKind.u32.wrap (nth (subL a576 x1583 (IntKind.i64.wrap (x1583 + 9))) 3)) * 2 ^ (min (16 : Int).toNat IntKind.u32.bits)))).toNat) ||| BitVec.ofInt IntKind.u32.bits (IntKind.u32.wrap ((IntKind.u32.wrap (nth (subL a576 x1583 (IntKind.i64.wrap (x1583 + 9))) 4)) * 2 ^ (min (8 : Int).toNat IntKind.u32.bits)))).toNat) ||| BitVec.ofInt IntKind.u32.bits (IntKind.u32.wrap (nth (subL a576 x1583 (IntKind.i64.wrap (x1583 + 9))) 5))).toNat)), (decide (nth (subL a576 x1583 (IntKind.i64.wrap (x1583 + 9))) 8 = 0))), (IntKind.i64.wrap (nth (subL a576 x1583 (IntKind.i64.wrap (x1583 + 9))) 1)), (IntKind.i64.wrap (IntKind.i32.wrap (IntKind.u32.wrap (BitVec.ofInt IntKind.u32.bits (IntKind.u32.wrap (BitVec.ofInt IntKind.u32.bits (IntKind.u32.wrap (BitVec.ofInt IntKind.u32.bits (IntKind.u32.wrap ((IntKind.u32.wrap (nth (subL a576 x1583 (IntKind.i64.wrap (x1583 + 9))) 2)) * 2 ^ (min (24 : Int).toNat IntKind.u32.bits))) ||| BitVec.ofInt IntKind.u32.bits (IntKind.u32.wrap ((IntKind.u32.wrap (nth (subL a576 x1583 (IntKind.i64.wrap (x1583 + 9))) 3)) * 2 ^ (min (16 : Int).toNat IntKind.u32.bits)))).toNat) ||| BitVec.ofInt IntKind.u32.bits (IntKind.u32.wrap ((IntKind.u32.wrap (nth (subL a576 x1583 (IntKind.i64.wrap (x1583 + 9))) 4)) * 2 ^ (min (8 : Int).toNat IntKind.u32.bits)))).toNat) ||| BitVec.ofInt IntKind.u32.bits (IntKind.u32.wrap (nth (subL a576 x1583 (IntKind.i64.wrap (x1583 + 9))) 5))).toNat))), (decide (nth (subL a576 x1583 (IntKind.i64.wrap (x1583 + 9))) 8 = 0)), rfl, ha.to ⟨rfl, rfl, rfl, rfl, rfl, rfl, rfl, rfl, rfl, rfl, trivial⟩, ((hS.pull 0 rfl rfl).pull 1 rfl rfl), h⟩
        case neg =>
          have h := h.neg hc1734
          refine RL.re 82 rfl (congrArg Value.bool (decide_eq_false hc1734)) ?_
          refine RL.nn rfl rfl ?_
          refine RL.nn rfl rfl ?_
          refine RL.nn rfl rfl ?_
          refine RL.nn rfl rfl ?_
          refine RL.s (Vl.pickF rfl rfl) rfl ?_
          refine RL.s (Vl.assign rfl) rfl ?_
          refine RL.nil ?_
          refine RQ.then_n ?_
          refine RC.join (fun (s : Int × Int) a w => ∃ (x1761 : Int) (x1762 : Int), s = (x1761, x1762) ∧ Has 117 [(0, .slice A577 a576.length c578), (5, .int .i64 (IntKind.i64.wrap (Int.tdiv (a576.length : Int) 9))), (6, .slice A1580 l1579.length c1581), (7, .int .i64 x1583), (10, .pointer (some ⟨b1732, 0, none⟩)), (11, .bool false), (83, undef), (84, undef), (85, undef), (86, undef)] a ∧ St B w (OSf E_api_Instr 23 (.slice A1580 l1579.length c1581) l1579 :: Cl b1732 [.int .i64 (IntKind.i64.wrap (nth (subL a576 x1583 (IntKind.i64.wrap (x1583 + 9))) 0)), .int .i64 x1761, .int .i64 x1762, .int .i64 (IntKind.i64.wrap (nth (subL a576 x1583 (IntKind.i64.wrap (x1583 + 9))) 6))] 23 :: l) hf ∧ Holds (Sum.elim G1675 (· = r)) (code_Decode.j52 x1583 x1761 x1762)) ?_ ?_
          · rintro _ a w ⟨x1761, x1762, rfl, ha, hS, h⟩
            revert a
            show RC _ _ _ _ _ _
            refine RC.seq ?_
            refine RC.seq ?_
            refine RC.region ?_
            refine RL.s (Vl.move rfl) rfl ?_
            refine RL.s (Vl.not rfl) rfl ?_
            refine RL.s (Vl.move rfl) rfl ?_
            refine RL.nn rfl rfl ?_
            refine RL.nn rfl rfl ?_
            refine RL.nn rfl rfl ?_
            refine RL.nn rfl rfl ?_
            refine RL.s (Vl.pickT rfl rfl) rfl ?_
            refine RL.nil ?_
            refine RQ.then_n ?_
            refine RC.condT rfl ?_
            refine RC.seq ?_
            refine RC.region ?_
            refine RL.s (Vl.move rfl) rfl ?_
            refine RL.s (Vl.assign rfl) rfl ?_
            refine RL.s (Vl.assign rfl) rfl ?_
            refine RL.s (Vl.assign rfl) rfl ?_
            refine RL.nil ?_
            refine RQ.then_n ?_
            refine RC.ret ?_
            refine RQ.ret ?_
            refine RQ.inB_ret ?_
            refine RQ.ret ?_
            have h := h.inrS
            refine RQ.ret ?_
            refine RQ.inB_ret ?_
            refine RQ.ret ?_
            have hS := hS.nilSl E_api_Instr 23
            have e := h.some
            subst e
            refine RQ.ret0 (vs := [.slice none 0 0, .int .i64 x1583, .int .i64 4]) Tryd.results14 ⟨rfl, rfl, rfl, trivial⟩ ?_
            exact ⟨none, 0, rfl, ((hS.dropAt 1 rfl).dropAt 1 rfl)⟩
          · refine RC.seq ?_
            refine RC.region ?_
            refine RL.s (Vl.fieldAddr (a'' := ⟨b1732, 0, none⟩) Tryd.underlying23 rfl Tryd.sizeOf3 rfl rfl) rfl ?_
            refine RL.s (Vl.load Tryd.isAgg3 rfl (hS.cell 0 rfl rfl)) rfl ?_
            refine RL.s (Vl.int rfl rfl rfl) rfl ?_
            refine RL.nil ?_
            refine RQ.then_n ?_
            by_cases hc1764 : IntKind.i64.wrap (nth (subL a576 x1583 (IntKind.i64.wrap (x1583 + 9))) 0) = 10
            case pos =>
              have h := h.pos hc1764
              refine RC.re 90 rfl (congrArg Value.bool (decide_eq_true hc1764)) ?_
              refine RC.condT rfl ?_
              refine RC.seq ?_
              refine RC.region ?_
              refine RL.s (Vl.move rfl) rfl ?_
              refine RL.s (Vl.move rfl) rfl ?_
              refine RL.nn rfl rfl ?_
              refine RL.nn rfl rfl ?_
              refine RL.nn rfl rfl ?_
              refine RL.s (Vl.pickF rfl rfl) rfl ?_
              refine RL.s (Vl.assign rfl) rfl ?_
              refine RL.nil ?_
              refine RQ.then_n ?_
              refine RC.region ?_
              refine RL.s (Vl.fieldAddr (a'' := ⟨b1732, 2, none⟩) Tryd.underlying23 rfl Tryd.sizeOf3 rfl rfl) rfl ?_
              refine RL.s (Vl.load Tryd.isAgg3 rfl (hS.cell 0 rfl rfl)) rfl ?_
              refine RL.s (Vl.fieldAddr (a'' := ⟨b1732, 1, none⟩) Tryd.underlying23 rfl Tryd.sizeOf3 rfl rfl) rfl ?_
              refine RL.e0 (OW.store (cs := [.int .i64 (IntKind.i64.wrap (nth (subL a576 x1583 (IntKind.i64.wrap (x1583 + 9))) 0)), .int .i64 (IntKind.i64.wrap (nth (subL a576 x1583 (IntKind.i64.wrap (x1583 + 9))) 1)), .int .i64 (IntKind.i64.wrap (IntKind.i32.wrap (IntKind.u32.wrap (BitVec.ofInt IntKind.u32.bits (IntKind.u32.wrap (BitVec.ofInt IntKind.u32.bits (IntKind.u32.wrap (BitVec.ofInt IntKind.u32.bits (IntKind.u32.wrap ((IntKind.u32.wrap (nth (subL a576 x1583 (IntKind.i64.wrap (x1583 + 9))) 2)) * 2 ^ (min (24 : Int).toNat IntKind.u32.bits))) ||| BitVec.ofInt IntKind.u32.bits (IntKind.u32.wrap ((IntKind.u32.wrap (nth (subL a576 x1583 (IntKind.i64.wrap (x1583 + 9))) 3)) * 2 ^ (min (16 : Int).toNat IntKind.u32.bits)))).toNat) ||| BitVec.ofInt IntKind.u32.bits (IntKind.u32.wrap ((IntKind.u32.wrap (nth (subL a576 x1583 (IntKind.i64.wrap (x1583 + 9))) 4)) * 2 ^ (min (8 : Int).toNat IntKind.u32.bits)))).toNat) ||| BitVec.ofInt IntKind.u32.bits (IntKind.u32.wrap (nth (subL a576 x1583 (IntKind.i64.wrap (x1583 + 9))) 5))).toNat))), .int .i64 (IntKind.i64.wrap (nth (subL a576 x1583 (IntKind.i64.wrap (x1583 + 9))) 6))]) (vs := [.int .i64 (IntKind.i64.wrap (IntKind.i32.wrap (IntKind.u32.wrap (BitVec.ofInt IntKind.u32.bits (IntKind.u32.wrap (BitVec.ofInt IntKind.u32.bits (IntKind.u32.wrap (BitVec.ofInt IntKind.u32.bits (IntKind.u32.wrap ((IntKind.u32.wrap (nth (subL a576 x1583 (IntKind.i64.wrap (x1583 + 9))) 2)) * 2 ^ (min (24 : Int).toNat IntKind.u32.bits))) ||| BitVec.ofInt IntKind.u32.bits (IntKind.u32.wrap ((IntKind.u32.wrap (nth (subL a576 x1583 (IntKind.i64.wrap (x1583 + 9))) 3)) * 2 ^ (min (16 : Int).toNat IntKind.u32.bits)))).toNat) ||| BitVec.ofInt IntKind.u32.bits (IntKind.u32.wrap ((IntKind.u32.wrap (nth (subL a576 x1583 (IntKind.i64.wrap (x1583 + 9))) 4)) * 2 ^ (min (8 : Int).toNat IntKind.u32.bits)))).toNat) ||| BitVec.ofInt IntKind.u32.bits (IntKind.u32.wrap (nth (subL a576 x1583 (IntKind.i64.wrap (x1583 + 9))) 5))).toNat)))]) (l' := Cl b1732 [.int .i64 (IntKind.i64.wrap (nth (subL a576 x1583 (IntKind.i64.wrap (x1583 + 9))) 0)), .int .i64 (IntKind.i64.wrap (IntKind.i32.wrap (IntKind.u32.wrap (BitVec.ofInt IntKind.u32.bits (IntKind.u32.wrap (BitVec.ofInt IntKind.u32.bits (IntKind.u32.wrap (BitVec.ofInt IntKind.u32.bits (IntKind.u32.wrap ((IntKind.u32.wrap (nth (subL a576 x1583 (IntKind.i64.wrap (x1583 + 9))) 2)) * 2 ^ (min (24 : Int).toNat IntKind.u32.bits))) ||| BitVec.ofInt IntKind.u32.bits (IntKind.u32.wrap ((IntKind.u32.wrap (nth (subL a576 x1583 (IntKind.i64.wrap (x1583 + 9))) 3)) * 2 ^ (min (16 : Int).toNat IntKind.u32.bits)))).toNat) ||| BitVec.ofInt IntKind.u32.bits (IntKind.u32.wrap ((IntKind.u32.wrap (nth (subL a576 x1583 (IntKind.i64.wrap (x1583 + 9))) 4)) * 2 ^ (min (8 : Int).toNat IntKind.u32.bits)))).toNat) ||| BitVec.ofInt IntKind.u32.bits (IntKind.u32.wrap (nth (subL a576 x1583 (IntKind.i64.wrap (x1583 + 9))) 5))).toNat))), .int .i64 (IntKind.i64.wrap (IntKind.i32.wrap (IntKind.u32.wrap (BitVec.ofInt IntKind.u32.bits (IntKind.u32.wrap (BitVec.ofInt IntKind.u32.bits (IntKind.u32.wrap (BitVec.ofInt IntKind.u32.bits (IntKind.u32.wrap ((IntKind.u32.wrap (nth (subL a576 x1583 (IntKind.i64.wrap (x1583 + 9))) 2)) * 2 ^ (min (24 : Int).toNat IntKind.u32.bits))) ||| BitVec.ofInt IntKind.u32.bits (IntKind.u32.wrap ((IntKind.u32.wrap (nth (subL a576 x1583 (IntKind.i64.wrap (x1583 + 9))) 3)) * 2 ^ (min (16 : Int).toNat IntKind.u32.bits)))).toNat) ||| BitVec.ofInt IntKind.u32.bits (IntKind.u32.wrap ((IntKind.u32.wrap (nth (subL a576 x1583 (IntKind.i64.wrap (x1583 + 9))) 4)) * 2 ^ (min (8 : Int).toNat IntKind.u32.bits)))).toNat) ||| BitVec.ofInt IntKind.u32.bits (IntKind.u32.wrap (nth (subL a576 x1583 (IntKind.i64.wrap (x1583 + 9))) 5))).toNat))), .int .i64 (IntKind.i64.wrap (nth (subL a576 x1583 (IntKind.i64.wrap (x1583 + 9))) 6))] 23 :: OSf E_api_Instr 23 (.slice A1580 l1579.length c1581) l1579 :: l) 0 hS rfl rfl rfl rfl Tryd.sizeOf3 rfl rfl rfl rfl) rfl ?_
              rintro _ w ⟨rfl, hS⟩
              have hS : St B w (Cl b1732 [.int .i64 (IntKind.i64.wrap (nth (subL a576 x1583 (IntKind.i64.wrap (x1583 + 9))) 0)), .int .i64 (IntKind.i64.wrap (IntKind.i32.wrap (IntKind.u32.wrap (BitVec.ofInt IntKind.u32.bits (IntKind.u32.wrap (BitVec.ofInt IntKind.u32.bits (IntKind.u32.wrap (BitVec.ofInt IntKind.u32.bits (IntKind.u32.wrap ((IntKind.u32.wrap (nth (subL a576 x1583 (IntKind.i64.wrap (x1583 + 9))) 2)) * 2 ^ (min (24 : Int).toNat IntKind.u32.bits))) ||| BitVec.ofInt IntKind.u32.bits (IntKind.u32.wrap ((IntKind.u32.wrap (nth (subL a576 x1583 (IntKind.i64.wrap (x1583 + 9))) 3)) * 2 ^ (min (16 : Int).toNat IntKind.u32.bits)))).toNat) ||| BitVec.ofInt IntKind.u32.bits (IntKind.u32.wrap ((IntKind.u32.wrap (nth (subL a576 x1583 (IntKind.i64.wrap (x1583 + 9))) 4)) * 2 ^ (min (8 : Int).toNat IntKind.u32.bits)))).toNat) ||| BitVec.ofInt IntKind.u32.bits (IntKind.u32.wrap (nth (subL a576 x1583 (IntKind.i64.wrap (x1583 + 9))) 5))).toNat))), .int .i64 (IntKind.i64.wrap (IntKind.i32.wrap (IntKind.u32.wrap (BitVec.ofInt IntKind.u32.bits (IntKind.u32.wrap (BitVec.ofInt IntKind.u32.bits (IntKind.u32.wrap (BitVec.ofInt IntKind.u32.bits (IntKind.u32.wrap ((IntKind.u32.wrap (nth (subL a576 x1583 (IntKind.i64.wrap (x1583 + 9))) 2)) * 2 ^ (min (24 : Int).toNat IntKind.u32.bits))) ||| BitVec.ofInt IntKind.u32.bits (IntKind.u32.wrap ((IntKind.u32.wrap (nth (subL a576 x1583 (IntKind.i64.wrap (x1583 + 9))) 3)) * 2 ^ (min (16 : Int).toNat IntKind.u32.bits)))).toNat) ||| BitVec.ofInt IntKind.u32.bits (IntKind.u32.wrap ((IntKind.u32.wrap (nth (subL a576 x1583 (IntKind.i64.wrap (x1583 + 9))) 4)) * 2 ^ (min (8 : Int).toNat IntKind.u32.bits)))).toNat) ||| BitVec.ofInt IntKind.u32.bits (IntKind.u32.wrap (nth (subL a576 x1583 (IntKind.i64.wrap (x1583 + 9))) 5))).toNat))), .int .i64 (IntKind.i64.wrap (nth (subL a576 x1583 (IntKind.i64.wrap (x1583 + 9))) 6))] 23 :: OSf E_api_Instr 23 (.slice A1580 l1579.length c1581) l1579 :: l) hf := hS
              refine RL.s (Vl.fieldAddr (a'' := ⟨b1732, 2, none⟩) Tryd.underlying23 rfl Tryd.sizeOf3 rfl rfl) rfl ?_
              refine RL.e0 (OW.store (cs := [.int .i64 (IntKind.i64.wrap (nth (subL a576 x1583 (IntKind.i64.wrap (x1583 + 9))) 0)), .int .i64 (IntKind.i64.wrap (IntKind.i32.wrap (IntKind.u32.wrap (BitVec.ofInt IntKind.u32.bits (IntKind.u32.wrap (BitVec.ofInt IntKind.u32.bits (IntKind.u32.wrap (BitVec.ofInt IntKind.u32.bits (IntKind.u32.wrap ((IntKind.u32.wrap (nth (subL a576 x1583 (IntKind.i64.wrap (x1583 + 9))) 2)) * 2 ^ (min (24 : Int).toNat IntKind.u32.bits))) ||| BitVec.ofInt IntKind.u32.bits (IntKind.u32.wrap ((IntKind.u32.wrap (nth (subL a576 x1583 (IntKind.i64.wrap (x1583 + 9))) 3)) * 2 ^ (min (16 : Int).toNat IntKind.u32.bits)))).toNat) ||| BitVec.ofInt IntKind.u32.bits (IntKind.u32.wrap ((IntKind.u32.wrap (nth (subL a576 x1583 (IntKind.i64.wrap (x1583 + 9))) 4)) * 2 ^ (min (8 : Int).toNat IntKind.u32.bits)))).toNat) ||| BitVec.ofInt IntKind.u32.bits (IntKind.u32.wrap (nth (subL a576 x1583 (IntKind.i64.wrap (x1583 + 9))) 5))).toNat))), .int .i64 (IntKind.i64.wrap (IntKind.i32.wrap (IntKind.u32.wrap (BitVec.ofInt IntKind.u32.bits (IntKind.u32.wrap (BitVec.ofInt IntKind.u32.bits (IntKind.u32.wrap (BitVec.ofInt IntKind.u32.bits (IntKind.u32.wrap ((IntKind.u32.wrap (nth (subL a576 x1583 (IntKind.i64.wrap (x1583 + 9))) 2)) * 2 ^ (min (24 : Int).toNat IntKind.u32.bits))) ||| BitVec.ofInt IntKind.u32.bits (IntKind.u32.wrap ((IntKind.u32.wrap (nth (subL a576 x1583 (IntKind.i64.wrap (x1583 + 9))) 3)) * 2 ^ (min (16 : Int).toNat IntKind.u32.bits)))).toNat) ||| BitVec.ofInt IntKind.u32.bits (IntKind.u32.wrap ((IntKind.u32.wrap (nth (subL a576 x1583 (IntKind.i64.wrap (x1583 + 9))) 4)) * 2 ^ (min (8 : Int).toNat IntKind.u32.bits)))).toNat) ||| BitVec.ofInt IntKind.u32.bits (IntKind.u32.wrap (nth (subL a576 x1583 (IntKind.i64.wrap (x1583 + 9))) 5))).toNat))), .int .i64 (IntKind.i64.wrap (nth (subL a576 x1583 (IntKind.i64.wrap (x1583 + 9))) 6))]) (vs := [.int .i64 0]) (l' := Cl b1732 [.int .i64 (IntKind.i64.wrap (nth (subL a576 x1583 (IntKind.i64.wrap (x1583 + 9))) 0)), .int .i64 (IntKind.i64.wrap (IntKind.i32.wrap (IntKind.u32.wrap (BitVec.ofInt IntKind.u32.bits (IntKind.u32.wrap (BitVec.ofInt IntKind.u32.bits (IntKind.u32.wrap (BitVec.ofInt IntKind.u32.bits (IntKind.u32.wrap ((IntKind.u32.wrap (nth (subL a576 x1583 (IntKind.i64.wrap (x1583 + 9))) 2)) * 2 ^ (min (24 : Int).toNat IntKind.u32.bits))) ||| BitVec.ofInt IntKind.u32.bits (IntKind.u32.wrap ((IntKind.u32.wrap (nth (subL a576 x1583 (IntKind.i64.wrap (x1583 + 9))) 3)) * 2 ^ (min (16 : Int).toNat IntKind.u32.bits)))).toNat) ||| BitVec.ofInt IntKind.u32.bits (IntKind.u32.wrap ((IntKind.u32.wrap (nth (subL a576 x1583 (IntKind.i64.wrap (x1583 + 9))) 4)) * 2 ^ (min (8 : Int).toNat IntKind.u32.bits)))).toNat) ||| BitVec.ofInt IntKind.u32.bits (IntKind.u32.wrap (nth (subL a576 x1583 (IntKind.i64.wrap (x1583 + 9))) 5))).toNat))), .int .i64 0, .int .i64 (IntKind.i64.wrap (nth (subL a576 x1583 (IntKind.i64.wrap (x1583 + 9))) 6))] 23 :: OSf E_api_Instr 23 (.slice A1580 l1579.length c1581) l1579 :: l) 0 hS rfl rfl rfl rfl Tryd.sizeOf3 rfl rfl rfl rfl) rfl ?_
              rintro _ w ⟨rfl, hS⟩
              have hS : St B w (Cl b1732 [.int .i64 (IntKind.i64.wrap (nth (subL a576 x1583 (IntKind.i64.wrap (x1583 + 9))) 0)), .int .i64 (IntKind.i64.wrap (IntKind.i32.wrap (IntKind.u32.wrap (BitVec.ofInt IntKind.u32.bits (IntKind.u32.wrap (BitVec.ofInt IntKind.u32.bits (IntKind.u32.wrap (BitVec.ofInt IntKind.u32.bits (IntKind.u32.wrap ((IntKind.u32.wrap (nth (subL a576 x1583 (IntKind.i64.wrap (x1583 + 9))) 2)) * 2 ^ (min (24 : Int).toNat IntKind.u32.bits))) ||| BitVec.ofInt IntKind.u32.bits (IntKind.u32.wrap ((IntKind.u32.wrap (nth (subL a576 x1583 (IntKind.i64.wrap (x1583 + 9))) 3)) * 2 ^ (min (16 : Int).toNat IntKind.u32.bits)))).toNat) ||| BitVec.ofInt IntKind.u32.bits (IntKind.u32.wrap ((IntKind.u32.wrap (nth (subL a576 x1583 (IntKind.i64.wrap (x1583 + 9))) 4)) * 2 ^ (min (8 : Int).toNat IntKind.u32.bits)))).toNat) ||| BitVec.ofInt IntKind.u32.bits (IntKind.u32.wrap (nth (subL a576 x1583 (IntKind.i64.wrap (x1583 + 9))) 5))).toNat))), .int .i64 0, .int .i64 (IntKind.i64.wrap (nth (subL a576 x1583 (IntKind.i64.wrap (x1583 + 9))) 6))] 23 :: OSf E_api_Instr 23 (.slice A1580 l1579.length c1581) l1579 :: l) hf := hS
              refine RL.nil ?_
              exact fun a ha => ⟨(IntKind.i64.wrap (IntKind.i32.wrap (IntKind.u32.wrap (BitVec.ofInt IntKind.u32.bits (IntKind.u32.wrap (BitVec.ofInt IntKind.u32.bits (IntKind.u32.wrap (BitVec.ofInt IntKind.u32.bits (IntKind.u32.wrap ((IntKind.u32.wrap (nth (subL a576 x1583 (IntKind.i64.wrap (x1583 + 9))) 2)) * 2 ^ (min (24 : Int).toNat IntKind.u32.bits))) ||| BitVec.ofInt IntKind.u32.bits (IntKind.u32.wrap ((IntKind.u32.wrap (nth (subL a576 x1583 (IntKind.i64.wrap (x1583 + 9))) 3)) * 2 ^ (min (16 : Int).toNat IntKind.u32.bits)))).toNat) ||| BitVec.ofInt IntKind.u32.bits (IntKind.u32.wrap ((IntKind.u32.wrap (nth (subL a576 x1583 (IntKind.i64.wrap (x1583 + 9))) 4)) * 2 ^ (min (8 : Int).toNat IntKind.u32.bits)))).toNat) ||| BitVec.ofInt IntKind.u32.bits (IntKind.u32.wrap (nth (subL a576 x1583 (IntKind.i64.wrap (x1583 + 9))) 5))).toNat)), 0), (IntKind.i64.wrap (IntKind.i32.wrap (IntKind.u32.wrap (BitVec.ofInt IntKind.u32.bits (IntKind.u32.wrap (BitVec.ofInt IntKind.u32.bits (IntKind.u32.wrap (BitVec.ofInt IntKind.u32.bits (IntKind.u32.wrap ((IntKind.u32.wrap (nth (subL a576 x1583 (IntKind.i64.wrap (x1583 + 9))) 2)) * 2 ^ (min (24 : Int).toNat IntKind.u32.bits))) ||| BitVec.ofInt IntKind.u32.bits (IntKind.u32.wrap ((IntKind.u32.wrap (nth (subL a576 x1583 (IntKind.i64.wrap (x1583 + 9))) 3)) * 2 ^ (min (16 : Int).toNat IntKind.u32.bits)))).toNat) ||| BitVec.ofInt IntKind.u32.bits (IntKind.u32.wrap ((IntKind.u32.wrap (nth (subL a576 x1583 (IntKind.i64.wrap (x1583 + 9))) 4)) * 2 ^ (min (8 : Int).toNat IntKind.u32.bits)))).toNat) ||| BitVec.ofInt IntKind.u32.bits (IntKind.u32.wrap (nth (subL a576 x1583 (IntKind.i64.wrap (x1583 + 9))) 5))).toNat))), 0, rfl, ha.to ⟨rfl, rfl, rfl, rfl, rfl, rfl, rfl, rfl, rfl, rfl, trivial⟩, ((hS.pull 0 rfl rfl).pull 1 rfl rfl), h⟩
            case neg =>
              have h := h.neg hc1764
              refine RC.re 90 rfl (congrArg Value.bool (decide_eq_false hc1764)) ?_
              refine RC.condF rfl ?_
              refine RC.skip ?_
              exact fun a ha => ⟨(IntKind.i64.wrap (nth (subL a576 x1583 (IntKind.i64.wrap (x1583 + 9))) 1), IntKind.i64.wrap (IntKind.i32.wrap (IntKind.u32.wrap (BitVec.ofInt IntKind.u32.bits (IntKind.u32.wrap (BitVec.ofInt IntKind.u32.bits (IntKind.u32.wrap (BitVec.ofInt IntKind.u32.bits (IntKind.u32.wrap ((IntKind.u32.wrap (nth (subL a576 x1583 (IntKind.i64.wrap (x1583 + 9))) 2)) * 2 ^ (min (24 : Int).toNat IntKind.u32.bits))) ||| BitVec.ofInt IntKind.u32.bits (IntKind.u32.wrap ((IntKind.u32.wrap (nth (subL a576 x1583 (IntKind.i64.wrap (x1583 + 9))) 3)) * 2 ^ (min (16 : Int).toNat IntKind.u32.bits)))).toNat) ||| BitVec.ofInt IntKind.u32.bits (IntKind.u32.wrap ((IntKind.u32.wrap (nth (subL a576 x1583 (IntKind.i64.wrap (x1583 + 9))) 4)) * 2 ^ (min (8 : Int).toNat IntKind.u32.bits)))).toNat) ||| BitVec.ofInt IntKind.u32.bits (IntKind.u32.wrap (nth (subL a576 x1583 (IntKind.i64.wrap (x1583 + 9))) 5))).toNat))), (IntKind.i64.wrap (nth (subL a576 x1583 (IntKind.i64.wrap (x1583 + 9))) 1)), (IntKind.i64.wrap (IntKind.i32.wrap (IntKind.u32.wrap (BitVec.ofInt IntKind.u32.bits (IntKind.u32.wrap (BitVec.ofInt IntKind.u32.bits (IntKind.u32.wrap (BitVec.ofInt IntKind.u32.bits (IntKind.u32.wrap ((IntKind.u32.wrap (nth (subL a576 x1583 (IntKind.i64.wrap (x1583 + 9))) 2)) * 2 ^ (min (24 : Int).toNat IntKind.u32.bits))) ||| BitVec.ofInt IntKind.u32.bits (IntKind.u32.wrap ((IntKind.u32.wrap (nth (subL a576 x1583 (IntKind.i64.wrap (x1583 + 9))) 3)) * 2 ^ (min (16 : Int).toNat IntKind.u32.bits)))).toNat) ||| BitVec.ofInt IntKind.u32.bits (IntKind.u32.wrap ((IntKind.u32.wrap (nth (subL a576 x1583 (IntKind.i64.wrap (x1583 + 9))) 4)) * 2 ^ (min (8 : Int).toNat IntKind.u32.bits)))).toNat) ||| BitVec.ofInt IntKind.u32.bits (IntKind.u32.wrap (nth (subL a576 x1583 (IntKind.i64.wrap (x1583 + 9))) 5))).toNat))), rfl, ha.to ⟨rfl, rfl, rfl, rfl, rfl, rfl, rfl, rfl, rfl, rfl, trivial⟩, ((hS.pull 0 rfl rfl).pull 1 rfl rfl), h⟩
      case neg =>
        have h := h.neg hc1677
        refine RC.re 32 rfl (congrArg Value.bool (decide_eq_false hc1677)) ?_
        refine RC.condF rfl ?_
        refine RC.exit ?_
        refine RQ.exitT ?_
        have h := h.inrS
        refine RQ.exitT ?_
        refine RQ.inB_hit ?_
        refine RQ.then_n ?_
        refine RC.seq ?_
        refine RC.region ?_
        refine RL.s (Vl.move rfl) rfl ?_
        refine RL.s (Vl.move rfl) rfl ?_
        refine RL.s (Vl.lenSl Tryd.underlying28 rfl) rfl ?_
        refine RL.s (Vl.assign rfl) rfl ?_
        refine RL.s (Vl.assign rfl) rfl ?_
        refine RL.s (Vl.assign rfl) rfl ?_
        refine RL.nil ?_
        refine RQ.then_n ?_
        refine RC.ret ?_
        have e := h.some
        subst e
        refine RQ.ret0 (vs := [.slice A1580 l1579.length c1581, .int .i64 (a576.length : Int), .int .i64 0]) Tryd.results14 ⟨rfl, rfl, rfl, trivial⟩ ?_
        exact ⟨A1580, c1581, rfl, hS⟩
    case neg =>
      have h := h.neg hc1211
      refine RC.re 19 rfl (congrArg Value.bool (notdec_neg hc1211)) ?_
      refine RC.condT rfl ?_
      refine RC.seq ?_
      refine RC.region ?_
      refine RL.s (Vl.move rfl) rfl ?_
      refine RL.s (Vl.int rfl rfl rfl) rfl ?_
      refine RL.s (Vl.assign rfl) rfl ?_
      refine RL.s (Vl.assign rfl) rfl ?_
      refine RL.s (Vl.assign rfl) rfl ?_
      refine RL.nil ?_
      refine RQ.then_n ?_
      refine RC.ret ?_
      refine RQ.inB_ret ?_
      refine RQ.ret ?_
      have hS := hS.nilSl E_api_Instr 23
      have e := h.some
      subst e
      refine RQ.ret0 (vs := [.slice none 0 0, .int .i64 (IntKind.i64.wrap ((IntKind.i64.wrap (Int.tdiv (a576.length : Int) 9)) * 9)), .int .i64 3]) Tryd.results14 ⟨rfl, rfl, rfl, trivial⟩ ?_
      exact ⟨none, 0, rfl, hS⟩

/-! ### isochron/isochronref03.reg: function 31 -/
noncomputable def isochronref03vreg.f (a1822 : Int) : Option (Bool) := (if 0 ≤ a1822 then some (decide (a1822 ≤ 15)) else some false)
set_option maxRecDepth 100000 in
set_option maxHeartbeats 4000000 in
theorem isochronref03vreg.ok {B : Base} {w : World} {l : List HProp} {hf : Hp} (a1822 : Int) (r : Bool) (h : isochronref03vreg.f a1822 = some r) (hS : St B w (l) hf) :
    Calls Tryd.prog 31 #[.int .i64 a1822] w (Ret fun v w => v = .bool r ∧ St B w (l) hf) := by
  have h := Holds.of h
  refine enter (args := [.int .i64 a1822]) Tryd.func31 rfl Tryd.ntmps31 (Nat.le_of_ble_eq_true rfl) ?_
  refine RC.seq ?_
  refine RC.region ?_
  refine RL.s (Vl.assign rfl) rfl ?_
  refine RL.nil ?_
  refine RQ.then_n ?_
  refine RC.seq ?_
  refine RC.region ?_
  refine RL.s (Vl.move rfl) rfl ?_
  refine RL.s (Vl.int rfl rfl rfl) rfl ?_
  refine RL.s (Vl.move rfl) rfl ?_
  by_cases hc1824 : 0 ≤ a1822
  case pos =>
    have h := h.pos hc1824
    refine RL.re 5 rfl (congrArg Value.bool (decide_eq_true hc1824)) ?_
    refine RL.sg (Vl.move rfl) rfl rfl ?_
    refine RL.sg (Vl.int rfl rfl rfl) rfl rfl ?_
    refine RL.s (Vl.pickT rfl rfl) rfl ?_
    refine RL.s (Vl.assign rfl) rfl ?_
    refine RL.nil ?_
    refine RQ.then_n ?_
    refine RC.ret ?_
    have e := h.some
    subst e
    refine RQ.ret0 (vs := [.bool (decide (a1822 ≤ 15))]) Tryd.results31 ⟨rfl, trivial⟩ ?_
    exact ⟨rfl, hS⟩
  case neg =>
    have h := h.neg hc1824
    refine RL.re 5 rfl (congrArg Value.bool (decide_eq_false hc1824)) ?_
    refine RL.nn rfl rfl ?_
    refine RL.nn rfl rfl ?_
    refine RL.s (Vl.pickF rfl rfl) rfl ?_
    refine RL.s (Vl.assign rfl) rfl ?_
    refine RL.nil ?_
    refine RQ.then_n ?_
    refine RC.ret ?_
    have e := h.some
    subst e
    refine RQ.ret0 (vs := [.bool false]) Tryd.results31 ⟨rfl, trivial⟩ ?_
    exact ⟨rfl, hS⟩

end Go.Proofs.Gx
