/-
  The walks of functions, each with what it computes: printed by wip/gx.py.
-/
import Derived.Test.YtjdachfjlajjjaaDoorW0
set_option linter.unusedVariables false
namespace Go.Proofs.Gx
open Go.Sl
/-! ### isochron/code.shapes: function 79 -/
noncomputable def code_shapes.f  : Option (Unit) := some ()
set_option maxRecDepth 100000 in
set_option maxHeartbeats 4000000 in
theorem code_shapes.ok {B : Base} {w : World} {l : List HProp} {hf : Hp} (r : Unit) (h : code_shapes.f = some r) (hS : St B w (l) hf) :
    Calls Tryd.prog 79 #[] w (Ret fun v w => v = .agg #[.string lit_2d2d2d, .string lit_726e2d, .string lit_72722d, .string lit_rrr, .string lit_rrr, .string lit_rrr, .string lit_rrr, .string lit_rrr, .string lit_rrr, .string lit_rrr, .string lit_702d2d, .string lit_72702d, .string lit_rrr, .string lit_72722d, .string lit_722d2d, .string lit_722d2d, .string lit_722d2d] ∧ St B w (l) hf) := by
  have h := Holds.of h
  refine enter (args := []) Tryd.func79 rfl Tryd.ntmps79 (Nat.le_of_ble_eq_true rfl) ?_
  refine RC.seq ?_
  refine RC.region ?_
  refine RL.e (OW.alloc (cs := [.string lit_, .string lit_, .string lit_, .string lit_, .string lit_, .string lit_, .string lit_, .string lit_, .string lit_, .string lit_, .string lit_, .string lit_, .string lit_, .string lit_, .string lit_, .string lit_, .string lit_]) hS Tryd.zeroValue140 rfl) rfl rfl ?_
  rintro _ w ⟨b60, rfl, hS⟩
  have hS : St B w (Cl b60 [.string lit_, .string lit_, .string lit_, .string lit_, .string lit_, .string lit_, .string lit_, .string lit_, .string lit_, .string lit_, .string lit_, .string lit_, .string lit_, .string lit_, .string lit_, .string lit_, .string lit_] 140 :: l) hf := hS
  refine RL.nil ?_
  refine RQ.then_n ?_
  refine RC.seq ?_
  refine RC.region ?_
  refine RL.s (Vl.build (v := .agg #[.string lit_2d2d2d, .string lit_726e2d, .string lit_72722d, .string lit_rrr, .string lit_rrr, .string lit_rrr, .string lit_rrr, .string lit_rrr, .string lit_rrr, .string lit_rrr, .string lit_702d2d, .string lit_72702d, .string lit_rrr, .string lit_72722d, .string lit_722d2d, .string lit_722d2d, .string lit_722d2d]) (parts := [(0, .const (.string lit_2d2d2d)), (1, .const (.string lit_726e2d)), (2, .const (.string lit_72722d)), (3, .const (.string lit_rrr)), (4, .const (.string lit_rrr)), (5, .const (.string lit_rrr)), (6, .const (.string lit_rrr)), (7, .const (.string lit_rrr)), (8, .const (.string lit_rrr)), (9, .const (.string lit_rrr)), (10, .const (.string lit_702d2d)), (11, .const (.string lit_72702d)), (12, .const (.string lit_rrr)), (13, .const (.string lit_72722d)), (14, .const (.string lit_722d2d)), (15, .const (.string lit_722d2d)), (16, .const (.string lit_722d2d))]) rfl (by kernel_rfl)) rfl ?_
  refine RL.e0 (OW.store (cs := [.string lit_, .string lit_, .string lit_, .string lit_, .string lit_, .string lit_, .string lit_, .string lit_, .string lit_, .string lit_, .string lit_, .string lit_, .string lit_, .string lit_, .string lit_, .string lit_, .string lit_]) (vs := [.string lit_2d2d2d, .string lit_726e2d, .string lit_72722d, .string lit_rrr, .string lit_rrr, .string lit_rrr, .string lit_rrr, .string lit_rrr, .string lit_rrr, .string lit_rrr, .string lit_702d2d, .string lit_72702d, .string lit_rrr, .string lit_72722d, .string lit_722d2d, .string lit_722d2d, .string lit_722d2d]) (l' := Cl b60 [.string lit_2d2d2d, .string lit_726e2d, .string lit_72722d, .string lit_rrr, .string lit_rrr, .string lit_rrr, .string lit_rrr, .string lit_rrr, .string lit_rrr, .string lit_rrr, .string lit_702d2d, .string lit_72702d, .string lit_rrr, .string lit_72722d, .string lit_722d2d, .string lit_722d2d, .string lit_722d2d] 140 :: l) 0 hS rfl rfl rfl rfl Tryd.sizeOf140 rfl rfl rfl rfl) rfl ?_
  rintro _ w ⟨rfl, hS⟩
  have hS : St B w (Cl b60 [.string lit_2d2d2d, .string lit_726e2d, .string lit_72722d, .string lit_rrr, .string lit_rrr, .string lit_rrr, .string lit_rrr, .string lit_rrr, .string lit_rrr, .string lit_rrr, .string lit_702d2d, .string lit_72702d, .string lit_rrr, .string lit_72722d, .string lit_722d2d, .string lit_722d2d, .string lit_722d2d] 140 :: l) hf := hS
  refine RL.nil ?_
  refine RQ.then_n ?_
  refine RC.ret ?_
  have e := h.some
  skip
  refine RQ.ret0 (vs := [.agg #[.string lit_2d2d2d, .string lit_726e2d, .string lit_72722d, .string lit_rrr, .string lit_rrr, .string lit_rrr, .string lit_rrr, .string lit_rrr, .string lit_rrr, .string lit_rrr, .string lit_702d2d, .string lit_72702d, .string lit_rrr, .string lit_72722d, .string lit_722d2d, .string lit_722d2d, .string lit_722d2d]]) Tryd.results79 ⟨⟨_, rfl, run_loadVarA (vs := [.string lit_2d2d2d, .string lit_726e2d, .string lit_72722d, .string lit_rrr, .string lit_rrr, .string lit_rrr, .string lit_rrr, .string lit_rrr, .string lit_rrr, .string lit_rrr, .string lit_702d2d, .string lit_72702d, .string lit_rrr, .string lit_72722d, .string lit_722d2d, .string lit_722d2d, .string lit_722d2d]) Tryd.isAgg140 Tryd.sizeOf140 rfl (hS.cellsAt 0 rfl rfl)⟩, trivial⟩ ?_
  exact ⟨rfl, (hS.dropAt 0 rfl)⟩

/-! ### isochron/code.right: function 80 -/
noncomputable def code_right.j2 (a66 : Int) (x87 : Int) (x88 : Int) : Option (Bool) := (if x87 ≤ a66 then some (decide (a66 ≤ x88)) else some false)
noncomputable def code_right.f (a66 : Int) (a67 : Int) (a68 : Int) : Option (Bool) := (if a67 = 110 then code_right.j2 a66 (-2147483648) 2147483647 else (if a67 = 112 then code_right.j2 a66 0 a68 else (if a67 = 114 then code_right.j2 a66 0 15 else code_right.j2 a66 0 0)))
set_option maxRecDepth 100000 in
set_option maxHeartbeats 4000000 in
theorem code_right.ok {B : Base} {w : World} {l : List HProp} {hf : Hp} (a66 : Int) (a67 : Int) (a68 : Int) (r : Bool) (h : code_right.f a66 a67 a68 = some r) (hS : St B w (l) hf) :
    Calls Tryd.prog 80 #[.int .i64 a66, .int .u8 a67, .int .i64 a68] w (Ret fun v w => v = .bool r ∧ St B w (l) hf) := by
  have h := Holds.of h
  refine enter (args := [.int .i64 a66, .int .u8 a67, .int .i64 a68]) Tryd.func80 rfl Tryd.ntmps80 (Nat.le_of_ble_eq_true rfl) ?_
  refine RC.seq ?_
  refine RC.region ?_
  refine RL.s (Vl.assign rfl) rfl ?_
  refine RL.nil ?_
  refine RQ.then_n ?_
  refine RC.seq ?_
  refine RC.region ?_
  refine RL.s (Vl.assign rfl) rfl ?_
  refine RL.s (Vl.assign rfl) rfl ?_
  refine RL.nil ?_
  refine RQ.then_n ?_
  refine RC.join (fun (s : Int × Int) a w => ∃ (x87 : Int) (x88 : Int), s = (x87, x88) ∧ Has 25 [(0, .int .i64 a66), (7, .int .i64 x87), (8, .int .i64 x88)] a ∧ St B w (l) hf ∧ Holds (· = r) (code_right.j2 a66 x87 x88)) ?_ ?_
  · rintro _ a w ⟨x87, x88, rfl, ha, hS, h⟩
    revert a
    show RC _ _ _ _ _ _
    refine RC.seq ?_
    refine RC.region ?_
    refine RL.s (Vl.move rfl) rfl ?_
    refine RL.s (Vl.move rfl) rfl ?_
    refine RL.s (Vl.int rfl rfl rfl) rfl ?_
    refine RL.s (Vl.move rfl) rfl ?_
    by_cases hc89 : x87 ≤ a66
    case pos =>
     have h := h.pos hc89
     refine RL.re 20 rfl (congrArg Value.bool (decide_eq_true hc89)) ?_
     refine RL.sg (Vl.move rfl) rfl rfl ?_
     refine RL.sg (Vl.move rfl) rfl rfl ?_
     refine RL.sg (Vl.int rfl rfl rfl) rfl rfl ?_
     refine RL.s (Vl.pickT rfl rfl) rfl ?_
     refine RL.s (Vl.assign rfl) rfl ?_
     refine RL.nil ?_
     refine RQ.then_n ?_
     refine RC.ret ?_
     have e := h.some
     subst e
     refine RQ.ret0 (vs := [.bool (decide (a66 ≤ x88))]) Tryd.results80 ⟨rfl, trivial⟩ ?_
     exact ⟨rfl, hS⟩
    case neg =>
     have h := h.neg hc89
     refine RL.re 20 rfl (congrArg Value.bool (decide_eq_false hc89)) ?_
     refine RL.nn rfl rfl ?_
     refine RL.nn rfl rfl ?_
     refine RL.nn rfl rfl ?_
     refine RL.s (Vl.pickF rfl rfl) rfl ?_
     refine RL.s (Vl.assign rfl) rfl ?_
     refine RL.nil ?_
     refine RQ.then_n ?_
     refine RC.ret ?_
     have e := h.some
     subst e
     refine RQ.ret0 (vs := [.bool false]) Tryd.results80 ⟨rfl, trivial⟩ ?_
     exact ⟨rfl, hS⟩
  · refine RC.seq ?_
    refine RC.region ?_
    refine RL.s (Vl.move rfl) rfl ?_
    refine RL.nil ?_
    refine RQ.then_n ?_
    refine RC.block ?_
    refine RC.seq ?_
    refine RC.block ?_
    refine RC.seq ?_
    refine RC.block ?_
    refine RC.seq ?_
    refine RC.block ?_
    refine RC.seq ?_
    refine RC.block ?_
    refine RC.seq ?_
    refine RC.seq ?_
    refine RC.seq ?_
    refine RC.region ?_
    refine RL.s (Vl.int rfl rfl rfl) rfl ?_
    refine RL.s (Vl.assign rfl) rfl ?_
    refine RL.nil ?_
    refine RQ.then_n ?_
    by_cases hc91 : a67 = 110
    case pos =>
     have h := h.pos hc91
     refine RC.re 10 rfl (congrArg Value.bool (decide_eq_true hc91)) ?_
     refine RC.condT rfl ?_
     refine RC.exit ?_
     refine RQ.exitT ?_
     refine RQ.exitT ?_
     refine RQ.inB_hit ?_
     refine RQ.then_n ?_
     refine RC.seq ?_
     refine RC.region ?_
     refine RL.s (Vl.assign rfl) rfl ?_
     refine RL.s (Vl.assign rfl) rfl ?_
     refine RL.nil ?_
     refine RQ.then_n ?_
     refine RC.exit ?_
     refine RQ.inB_miss rfl ?_
     refine RQ.exitT ?_
     refine RQ.inB_miss rfl ?_
     refine RQ.exitT ?_
     refine RQ.inB_miss rfl ?_
     refine RQ.exitT ?_
     refine RQ.inB_hit ?_
     exact fun a ha => ⟨((-2147483648), 2147483647), (-2147483648), 2147483647, rfl, ha.to ⟨rfl, rfl, rfl, trivial⟩, hS, h⟩
    case neg =>
     have h := h.neg hc91
     refine RC.re 10 rfl (congrArg Value.bool (decide_eq_false hc91)) ?_
     refine RC.condF rfl ?_
     refine RC.skip ?_
     refine RQ.then_n ?_
     refine RC.seq ?_
     refine RC.seq ?_
     refine RC.region ?_
     refine RL.s (Vl.int rfl rfl rfl) rfl ?_
     refine RL.s (Vl.assign rfl) rfl ?_
     refine RL.nil ?_
     refine RQ.then_n ?_
     by_cases hc93 : a67 = 112
     case pos =>
      have h := h.pos hc93
      refine RC.re 12 rfl (congrArg Value.bool (decide_eq_true hc93)) ?_
      refine RC.condT rfl ?_
      refine RC.exit ?_
      refine RQ.exitT ?_
      refine RQ.exitT ?_
      refine RQ.inB_miss rfl ?_
      refine RQ.exitT ?_
      refine RQ.inB_hit ?_
      refine RQ.then_n ?_
      refine RC.seq ?_
      refine RC.region ?_
      refine RL.s (Vl.move rfl) rfl ?_
      refine RL.s (Vl.assign rfl) rfl ?_
      refine RL.nil ?_
      refine RQ.then_n ?_
      refine RC.exit ?_
      refine RQ.inB_miss rfl ?_
      refine RQ.exitT ?_
      refine RQ.inB_miss rfl ?_
      refine RQ.exitT ?_
      refine RQ.inB_hit ?_
      exact fun a ha => ⟨(0, a68), 0, a68, rfl, ha.to ⟨rfl, rfl, rfl, trivial⟩, hS, h⟩
     case neg =>
      have h := h.neg hc93
      refine RC.re 12 rfl (congrArg Value.bool (decide_eq_false hc93)) ?_
      refine RC.condF rfl ?_
      refine RC.skip ?_
      refine RQ.then_n ?_
      refine RC.seq ?_
      refine RC.region ?_
      refine RL.s (Vl.int rfl rfl rfl) rfl ?_
      refine RL.s (Vl.assign rfl) rfl ?_
      refine RL.nil ?_
      refine RQ.then_n ?_
      by_cases hc94 : a67 = 114
      case pos =>
       have h := h.pos hc94
       refine RC.re 14 rfl (congrArg Value.bool (decide_eq_true hc94)) ?_
       refine RC.condT rfl ?_
       refine RC.exit ?_
       refine RQ.exitT ?_
       refine RQ.inB_miss rfl ?_
       refine RQ.exitT ?_
       refine RQ.inB_miss rfl ?_
       refine RQ.exitT ?_
       refine RQ.inB_hit ?_
       refine RQ.then_n ?_
       refine RC.region ?_
       refine RL.s (Vl.assign rfl) rfl ?_
       refine RL.nil ?_
       refine RQ.inB_n ?_
       refine RQ.then_n ?_
       refine RC.seq ?_
       refine RC.region ?_
       refine RL.s (Vl.assign rfl) rfl ?_
       refine RL.nil ?_
       refine RQ.then_n ?_
       refine RC.exit ?_
       refine RQ.inB_hit ?_
       exact fun a ha => ⟨(0, 15), 0, 15, rfl, ha.to ⟨rfl, rfl, rfl, trivial⟩, hS, h⟩
      case neg =>
       have h := h.neg hc94
       refine RC.re 14 rfl (congrArg Value.bool (decide_eq_false hc94)) ?_
       refine RC.condF rfl ?_
       refine RC.skip ?_
       refine RQ.then_n ?_
       refine RC.exit ?_
       refine RQ.inB_miss rfl ?_
       refine RQ.exitT ?_
       refine RQ.inB_miss rfl ?_
       refine RQ.exitT ?_
       refine RQ.inB_miss rfl ?_
       refine RQ.exitT ?_
       refine RQ.inB_hit ?_
       refine RQ.then_n ?_
       refine RC.seq ?_
       refine RC.region ?_
       refine RL.s (Vl.assign rfl) rfl ?_
       refine RL.nil ?_
       refine RQ.then_n ?_
       refine RC.exit ?_
       refine RQ.inB_hit ?_
       exact fun a ha => ⟨(0, 0), 0, 0, rfl, ha.to ⟨rfl, rfl, rfl, trivial⟩, hS, h⟩

/-! ### isochron/code.may: function 71 -/
noncomputable def code_may.f (a49 : api_Instr) (a50 : Int) : Option (Bool) := (if a49.Op < 0 then some false else (if 17 ≤ a49.Op then some false else ((code_shapes.f).bind fun _ => (if 0 ≤ a49.Op ∧ a49.Op < 17 then (if 0 < ((nth ([lit_2d2d2d, lit_726e2d, lit_72722d, lit_rrr, lit_rrr, lit_rrr, lit_rrr, lit_rrr, lit_rrr, lit_rrr, lit_702d2d, lit_72702d, lit_rrr, lit_72722d, lit_722d2d, lit_722d2d, lit_722d2d] : List ByteArray) a49.Op).size : Int) then ((code_right.f a49.A (bt (nth ([lit_2d2d2d, lit_726e2d, lit_72722d, lit_rrr, lit_rrr, lit_rrr, lit_rrr, lit_rrr, lit_rrr, lit_rrr, lit_702d2d, lit_72702d, lit_rrr, lit_72722d, lit_722d2d, lit_722d2d, lit_722d2d] : List ByteArray) a49.Op) 0) a50).bind fun t116 => (if t116 = true then (if 1 < ((nth ([lit_2d2d2d, lit_726e2d, lit_72722d, lit_rrr, lit_rrr, lit_rrr, lit_rrr, lit_rrr, lit_rrr, lit_rrr, lit_702d2d, lit_72702d, lit_rrr, lit_72722d, lit_722d2d, lit_722d2d, lit_722d2d] : List ByteArray) a49.Op).size : Int) then ((code_right.f a49.B (bt (nth ([lit_2d2d2d, lit_726e2d, lit_72722d, lit_rrr, lit_rrr, lit_rrr, lit_rrr, lit_rrr, lit_rrr, lit_rrr, lit_702d2d, lit_72702d, lit_rrr, lit_72722d, lit_722d2d, lit_722d2d, lit_722d2d] : List ByteArray) a49.Op) 1) a50).bind fun t120 => (if t120 = true then (if 2 < ((nth ([lit_2d2d2d, lit_726e2d, lit_72722d, lit_rrr, lit_rrr, lit_rrr, lit_rrr, lit_rrr, lit_rrr, lit_rrr, lit_702d2d, lit_72702d, lit_rrr, lit_72722d, lit_722d2d, lit_722d2d, lit_722d2d] : List ByteArray) a49.Op).size : Int) then ((code_right.f a49.C (bt (nth ([lit_2d2d2d, lit_726e2d, lit_72722d, lit_rrr, lit_rrr, lit_rrr, lit_rrr, lit_rrr, lit_rrr, lit_rrr, lit_702d2d, lit_72702d, lit_rrr, lit_72722d, lit_722d2d, lit_722d2d, lit_722d2d] : List ByteArray) a49.Op) 2) a50).bind fun t124 => some t124) else none) else some false)) else none) else some false)) else none) else none))))
set_option maxRecDepth 100000 in
set_option maxHeartbeats 4000000 in
theorem code_may.ok {B : Base} {w : World} {l : List HProp} {hf : Hp} (a49 : api_Instr) (a50 : Int) (r : Bool) (h : code_may.f a49 a50 = some r) (hS : St B w (l) hf) :
    Calls Tryd.prog 71 #[.agg #[.int .i64 a49.Op, .int .i64 a49.A, .int .i64 a49.B, .int .i64 a49.C], .int .i64 a50] w (Ret fun v w => v = .bool r ∧ St B w (l) hf) := by
  have h := Holds.of h
  refine enter (args := [.agg #[.int .i64 a49.Op, .int .i64 a49.A, .int .i64 a49.B, .int .i64 a49.C], .int .i64 a50]) Tryd.func71 rfl Tryd.ntmps71 (Nat.le_of_ble_eq_true rfl) ?_
  refine RC.seq ?_
  refine RC.region ?_
  refine RL.e (OW.box (cs := [.int .i64 a49.Op, .int .i64 a49.A, .int .i64 a49.B, .int .i64 a49.C]) hS rfl rfl) rfl rfl ?_
  rintro _ w ⟨b106, rfl, hS⟩
  have hS : St B w (Cl b106 [.int .i64 a49.Op, .int .i64 a49.A, .int .i64 a49.B, .int .i64 a49.C] 48 :: l) hf := hS
  refine RL.s (Vl.assign rfl) rfl ?_
  refine RL.nil ?_
  refine RQ.then_n ?_
  refine RC.seq ?_
  refine RC.seq ?_
  refine RC.region ?_
  refine RL.s (Vl.fieldAddr (a'' := ⟨b106, 0, none⟩) Tryd.underlying48 rfl Tryd.sizeOf3 rfl rfl) rfl ?_
  refine RL.s (Vl.load Tryd.isAgg3 rfl (hS.cell 0 rfl rfl)) rfl ?_
  refine RL.s (Vl.int rfl rfl rfl) rfl ?_
  refine RL.s (Vl.move rfl) rfl ?_
  by_cases hc109 : a49.Op < 0
  case pos =>
   have h := h.pos hc109
   refine RL.re 9 rfl (congrArg Value.bool (decide_eq_true hc109)) ?_
   refine RL.nn rfl rfl ?_
   refine RL.nn rfl rfl ?_
   refine RL.nn rfl rfl ?_
   refine RL.s (Vl.pickT rfl rfl) rfl ?_
   refine RL.nil ?_
   refine RQ.then_n ?_
   refine RC.condT rfl ?_
   refine RC.seq ?_
   refine RC.region ?_
   refine RL.s (Vl.assign rfl) rfl ?_
   refine RL.nil ?_
   refine RQ.then_n ?_
   refine RC.ret ?_
   refine RQ.ret ?_
   have e := h.some
   subst e
   refine RQ.ret0 (vs := [.bool false]) Tryd.results71 ⟨rfl, trivial⟩ ?_
   exact ⟨rfl, (hS.dropAt 0 rfl)⟩
  case neg =>
   have h := h.neg hc109
   refine RL.re 9 rfl (congrArg Value.bool (decide_eq_false hc109)) ?_
   refine RL.sg (Vl.fieldAddr (a'' := ⟨b106, 0, none⟩) Tryd.underlying48 rfl Tryd.sizeOf3 rfl rfl) rfl rfl ?_
   refine RL.sg (Vl.load Tryd.isAgg3 rfl (hS.cell 0 rfl rfl)) rfl rfl ?_
   refine RL.sg (Vl.int rfl rfl rfl) rfl rfl ?_
   refine RL.s (Vl.pickF rfl rfl) rfl ?_
   refine RL.nil ?_
   refine RQ.then_n ?_
   by_cases hc110 : 17 ≤ a49.Op
   case pos =>
    have h := h.pos hc110
    refine RC.re 13 rfl (congrArg Value.bool (decide_eq_true hc110)) ?_
    refine RC.condT rfl ?_
    refine RC.seq ?_
    refine RC.region ?_
    refine RL.s (Vl.assign rfl) rfl ?_
    refine RL.nil ?_
    refine RQ.then_n ?_
    refine RC.ret ?_
    refine RQ.ret ?_
    have e := h.some
    subst e
    refine RQ.ret0 (vs := [.bool false]) Tryd.results71 ⟨rfl, trivial⟩ ?_
    exact ⟨rfl, (hS.dropAt 0 rfl)⟩
   case neg =>
    have h := h.neg hc110
    refine RC.re 13 rfl (congrArg Value.bool (decide_eq_false hc110)) ?_
    refine RC.condF rfl ?_
    refine RC.skip ?_
    refine RQ.then_n ?_
    refine RC.seq ?_
    refine RC.plan (.pure 1 (.cons 2 true (.cons 0 false (.cons 3 false (.cons 4 false .nil))))) [3, 4] (fun w => St B w (Cl b106 [.int .i64 a49.Op, .int .i64 a49.A, .int .i64 a49.B, .int .i64 a49.C] 48 :: l) hf) follows rfl (by kernel_rfl) (NoTmp.then NoTmp.body) ?_
    have hS := hS.same (w' := { w with drawn := w.drawn + 1 }) rfl rfl
    revert hS
    generalize { w with drawn := w.drawn + 1 } = w
    intro hS
    refine RP.s0 1 rfl (fun w => Vl.fieldAddr (a'' := ⟨b106, 0, none⟩) Tryd.underlying48 rfl Tryd.sizeOf3 rfl rfl) rfl ?_
    refine RP.s 2 rfl rfl hS (fun w hS => Vl.load Tryd.isAgg3 rfl (hS.cell 0 rfl rfl)) rfl ?_
    obtain ⟨t111, hg112, h⟩ := h.bind
    refine RP.e 0 rfl (OW.callF (ls := []) rfl Tryd.call79 (code_shapes.ok _ hg112 hS)) rfl rfl ?_
    rintro _ w ⟨rfl, hS⟩
    have hS : St B w (Cl b106 [.int .i64 a49.Op, .int .i64 a49.A, .int .i64 a49.B, .int .i64 a49.C] 48 :: l) hf := hS
    refine ⟨fun _ => hS, ?_⟩
    obtain ⟨⟨hq113, hq114⟩, h⟩ := h.req
    refine RP.v1 3 rfl (Vl.indexMap (f := Value.string) (l := ([lit_2d2d2d, lit_726e2d, lit_72722d, lit_rrr, lit_rrr, lit_rrr, lit_rrr, lit_rrr, lit_rrr, lit_rrr, lit_702d2d, lit_72702d, lit_rrr, lit_72722d, lit_722d2d, lit_722d2d, lit_722d2d] : List ByteArray)) Tryd.underlying140 Tryd.sizeOf9 Tryd.isAgg9 rfl rfl rfl hq113 hq114) rfl rfl ?_
    refine RP.v1 4 rfl (Vl.assign rfl) rfl rfl ?_
    refine RP.nil ?_
    refine RQ.then_n ?_
    refine RC.seq ?_
    refine RC.plan (.pure 0 (.cons 1 true (.pure 2 (.cons 3 true (.pure 4 (.cons 5 false (.pure 6 (.pure 7 (.cons 8 true (.pure 9 (.cons 10 true (.pure 11 (.cons 12 false (.pure 13 (.pure 14 (.pure 15 (.cons 16 true (.pure 17 (.cons 18 true (.cons 19 false (.cons 20 false (.cons 21 false (.cons 22 false .nil))))))))))))))))))))))) [22] (fun w => St B w (Cl b106 [.int .i64 a49.Op, .int .i64 a49.A, .int .i64 a49.B, .int .i64 a49.C] 48 :: l) hf) follows rfl (by kernel_rfl) (NoTmp.then NoTmp.body) ?_
    have hS := hS.same (w' := { w with drawn := w.drawn + 1 }) rfl rfl
    revert hS
    generalize { w with drawn := w.drawn + 1 } = w
    intro hS
    refine RP.s0 0 rfl (fun w => Vl.fieldAddr (a'' := ⟨b106, 1, none⟩) Tryd.underlying48 rfl Tryd.sizeOf3 rfl rfl) rfl ?_
    refine RP.s 1 rfl rfl hS (fun w hS => Vl.load Tryd.isAgg3 rfl (hS.cell 0 rfl rfl)) rfl ?_
    refine RP.s0 2 rfl (fun w => Vl.move rfl) rfl ?_
    obtain ⟨hq115, h⟩ := h.req
    refine RP.s 3 rfl rfl hS (fun w hS => Vl.indexS Tryd.underlying9 rfl rfl (by decide) hq115) rfl ?_
    refine RP.s0 4 rfl (fun w => Vl.move rfl) rfl ?_
    obtain ⟨t116, hg117, h⟩ := h.bind
    refine RP.e 5 rfl (OW.callF (ls := [.tmp 19, .tmp 21, .tmp 22]) rfl Tryd.call80 (code_right.ok a49.A (bt (nth ([lit_2d2d2d, lit_726e2d, lit_72722d, lit_rrr, lit_rrr, lit_rrr, lit_rrr, lit_rrr, lit_rrr, lit_rrr, lit_702d2d, lit_72702d, lit_rrr, lit_72722d, lit_722d2d, lit_722d2d, lit_722d2d] : List ByteArray) a49.Op) 0) a50 _ hg117 hS)) rfl rfl ?_
    rintro _ w ⟨rfl, hS⟩
    have hS : St B w (Cl b106 [.int .i64 a49.Op, .int .i64 a49.A, .int .i64 a49.B, .int .i64 a49.C] 48 :: l) hf := hS
    refine ⟨fun _ => hS, ?_⟩
    refine RP.s0 6 rfl (fun w => Vl.move rfl) rfl ?_
    by_cases hc118 : t116 = true
    case pos =>
     have h := h.pos hc118
     refine RP.re 24 rfl (congrArg Value.bool (id hc118)) ?_
     refine RP.sg0 7 rfl (fun w => Vl.fieldAddr (a'' := ⟨b106, 2, none⟩) Tryd.underlying48 rfl Tryd.sizeOf3 rfl rfl) rfl rfl ?_
     refine RP.sg 8 rfl rfl hS (fun w hS => Vl.load Tryd.isAgg3 rfl (hS.cell 0 rfl rfl)) rfl rfl ?_
     refine RP.sg0 9 rfl (fun w => Vl.move rfl) rfl rfl ?_
     obtain ⟨hq119, h⟩ := h.req
     refine RP.sg 10 rfl rfl hS (fun w hS => Vl.indexS Tryd.underlying9 rfl rfl (by decide) hq119) rfl rfl ?_
     refine RP.sg0 11 rfl (fun w => Vl.move rfl) rfl rfl ?_
     obtain ⟨t120, hg121, h⟩ := h.bind
     refine RP.e 12 rfl (OW.callF (ls := [.tmp 26, .tmp 28, .tmp 29]) rfl Tryd.call80 (code_right.ok a49.B (bt (nth ([lit_2d2d2d, lit_726e2d, lit_72722d, lit_rrr, lit_rrr, lit_rrr, lit_rrr, lit_rrr, lit_rrr, lit_rrr, lit_702d2d, lit_72702d, lit_rrr, lit_72722d, lit_722d2d, lit_722d2d, lit_722d2d] : List ByteArray) a49.Op) 1) a50 _ hg121 hS)) rfl rfl ?_
     rintro _ w ⟨rfl, hS⟩
     have hS : St B w (Cl b106 [.int .i64 a49.Op, .int .i64 a49.A, .int .i64 a49.B, .int .i64 a49.C] 48 :: l) hf := hS
     refine ⟨fun _ => hS, ?_⟩
     refine RP.s0 13 rfl (fun w => Vl.pickT rfl rfl) rfl ?_
     refine RP.s0 14 rfl (fun w => Vl.move rfl) rfl ?_
     by_cases hc122 : t120 = true
     case pos =>
      have h := h.pos hc122
      refine RP.re 32 rfl (congrArg Value.bool (id hc122)) ?_
      refine RP.sg0 15 rfl (fun w => Vl.fieldAddr (a'' := ⟨b106, 3, none⟩) Tryd.underlying48 rfl Tryd.sizeOf3 rfl rfl) rfl rfl ?_
      refine RP.sg 16 rfl rfl hS (fun w hS => Vl.load Tryd.isAgg3 rfl (hS.cell 0 rfl rfl)) rfl rfl ?_
      refine RP.sg0 17 rfl (fun w => Vl.move rfl) rfl rfl ?_
      obtain ⟨hq123, h⟩ := h.req
      refine RP.sg 18 rfl rfl hS (fun w hS => Vl.indexS Tryd.underlying9 rfl rfl (by decide) hq123) rfl rfl ?_
      refine RP.v1 19 rfl (Vl.move rfl) rfl rfl ?_
      obtain ⟨t124, hg125, h⟩ := h.bind
      refine RP.e 20 rfl (OW.callF (ls := [.tmp 34, .tmp 36, .tmp 37]) rfl Tryd.call80 (code_right.ok a49.C (bt (nth ([lit_2d2d2d, lit_726e2d, lit_72722d, lit_rrr, lit_rrr, lit_rrr, lit_rrr, lit_rrr, lit_rrr, lit_rrr, lit_702d2d, lit_72702d, lit_rrr, lit_72722d, lit_722d2d, lit_722d2d, lit_722d2d] : List ByteArray) a49.Op) 2) a50 _ hg125 hS)) rfl rfl ?_
      rintro _ w ⟨rfl, hS⟩
      have hS : St B w (Cl b106 [.int .i64 a49.Op, .int .i64 a49.A, .int .i64 a49.B, .int .i64 a49.C] 48 :: l) hf := hS
      refine ⟨fun _ => hS, ?_⟩
      refine RP.v1 21 rfl (Vl.pickT rfl rfl) rfl rfl ?_
      refine RP.v1 22 rfl (Vl.assign rfl) rfl rfl ?_
      refine RP.nil ?_
      refine RQ.then_n ?_
      refine RC.ret ?_
      have e := h.some
      subst e
      refine RQ.ret0 (vs := [.bool t124]) Tryd.results71 ⟨rfl, trivial⟩ ?_
      exact ⟨rfl, (hS.dropAt 0 rfl)⟩
     case neg =>
      have h := h.neg hc122
      refine RP.re 32 rfl (congrArg Value.bool (eq_false_of hc122)) ?_
      refine RP.nn0 15 rfl rfl rfl ?_
      refine RP.nn 16 rfl rfl rfl ?_
      refine RP.nn0 17 rfl rfl rfl ?_
      refine RP.nn 18 rfl rfl rfl ?_
      refine RP.n1 19 rfl rfl rfl ?_
      refine RP.n1 20 rfl rfl rfl ?_
      refine RP.v1 21 rfl (Vl.pickF rfl rfl) rfl rfl ?_
      refine RP.v1 22 rfl (Vl.assign rfl) rfl rfl ?_
      refine RP.nil ?_
      refine RQ.then_n ?_
      refine RC.ret ?_
      have e := h.some
      subst e
      refine RQ.ret0 (vs := [.bool false]) Tryd.results71 ⟨rfl, trivial⟩ ?_
      exact ⟨rfl, (hS.dropAt 0 rfl)⟩
    case neg =>
     have h := h.neg hc118
     refine RP.re 24 rfl (congrArg Value.bool (eq_false_of hc118)) ?_
     refine RP.nn0 7 rfl rfl rfl ?_
     refine RP.nn 8 rfl rfl rfl ?_
     refine RP.nn0 9 rfl rfl rfl ?_
     refine RP.nn 10 rfl rfl rfl ?_
     refine RP.nn0 11 rfl rfl rfl ?_
     refine RP.n1 12 rfl rfl rfl ?_
     refine RP.s0 13 rfl (fun w => Vl.pickF rfl rfl) rfl ?_
     refine RP.s0 14 rfl (fun w => Vl.move rfl) rfl ?_
     refine RP.nn0 15 rfl rfl rfl ?_
     refine RP.nn 16 rfl rfl rfl ?_
     refine RP.nn0 17 rfl rfl rfl ?_
     refine RP.nn 18 rfl rfl rfl ?_
     refine RP.n1 19 rfl rfl rfl ?_
     refine RP.n1 20 rfl rfl rfl ?_
     refine RP.v1 21 rfl (Vl.pickF rfl rfl) rfl rfl ?_
     refine RP.v1 22 rfl (Vl.assign rfl) rfl rfl ?_
     refine RP.nil ?_
     refine RQ.then_n ?_
     refine RC.ret ?_
     have e := h.some
     subst e
     refine RQ.ret0 (vs := [.bool false]) Tryd.results71 ⟨rfl, trivial⟩ ?_
     exact ⟨rfl, (hS.dropAt 0 rfl)⟩

/-! ### isochron/code.check: function 44 -/
noncomputable def code_check.l2b (a39 : List api_Instr) : Int → Option ((Int) ⊕ ((Int) ⊕ (Int × Int) ⊕ (Unit)))
  | (x197) => (if x197 < (a39.length : Int) then (if 0 ≤ x197 then ((code_may.f (nth a39 x197) (a39.length : Int)).bind fun t231 => (if t231 = true then some (.inl (IntKind.i64.wrap (x197 + 1))) else some (.inr (.inr (.inl (x197, 130)))))) else none) else some (.inr (.inr (.inr (())))))
noncomputable def code_check.l2 (a39 : List api_Instr) (s : Int) : Option ((Int) ⊕ (Int × Int) ⊕ (Unit)) := loopR (code_check.l2b a39) s
noncomputable def code_check.f (a39 : List api_Instr) : Option ((Int) ⊕ (Int × Int) ⊕ (Unit)) := (if 256 < (a39.length : Int) then some (.inl 2) else code_check.l2 a39 (0))
set_option maxRecDepth 100000 in
set_option maxHeartbeats 4000000 in
theorem code_check.ok {B : Base} {w : World} {l : List HProp} {hf : Hp} (a39 : List api_Instr) (A40 : Option Addr) (c41 : Nat) (hr42 : SlR E_api_Instr.rep hf A40 c41 a39) (r : (Int) ⊕ (Int × Int) ⊕ (Unit)) (h : code_check.f a39 = some r) (hS : St B w (l) hf) :
    Calls Tryd.prog 44 #[.slice A40 a39.length c41] w (Ret fun v w => match r with | .inl r_ => v = .iface 35 (.int .i64 r_) ∧ St B w (l) hf | .inr (.inl r_) => ∃ (b_1 : Nat), v = .iface 130 (.pointer (some ⟨b_1, 0, none⟩)) ∧ St B w (Cl b_1 [.int .i64 r_.1, .iface 35 (.int .i64 r_.2)] 132 :: l) hf | .inr (.inr (r_)) => v = .nilIface ∧ St B w (l) hf) := by
  have h := Holds.of h
  refine enter (args := [.slice A40 a39.length c41]) Tryd.func44 rfl Tryd.ntmps44 (Nat.le_of_ble_eq_true rfl) ?_
  refine RC.seq ?_
  refine RC.region ?_
  refine RL.s (Vl.assign rfl) rfl ?_
  refine RL.nil ?_
  refine RQ.then_n ?_
  refine RC.seq ?_
  refine RC.seq ?_
  refine RC.region ?_
  refine RL.s (Vl.move rfl) rfl ?_
  refine RL.s (Vl.lenSl Tryd.underlying22 rfl) rfl ?_
  refine RL.s (Vl.int rfl rfl rfl) rfl ?_
  refine RL.nil ?_
  refine RQ.then_n ?_
  by_cases hc179 : 256 < (a39.length : Int)
  case pos =>
   have h := h.pos hc179
   refine RC.re 7 rfl (congrArg Value.bool (decide_eq_true hc179)) ?_
   refine RC.condT rfl ?_
   refine RC.seq ?_
   refine RC.region ?_
   refine RL.s (Vl.makeIface Tryd.underlying35 rfl rfl) rfl ?_
   refine RL.s (Vl.assign rfl) rfl ?_
   refine RL.nil ?_
   refine RQ.then_n ?_
   refine RC.ret ?_
   refine RQ.ret ?_
   have e := h.some
   subst e
   refine RQ.ret0 (vs := [.iface 35 (.int .i64 2)]) Tryd.results44 ⟨rfl, trivial⟩ ?_
   exact ⟨rfl, hS⟩
  case neg =>
   have h := h.neg hc179
   refine RC.re 7 rfl (congrArg Value.bool (decide_eq_false hc179)) ?_
   refine RC.condF rfl ?_
   refine RC.skip ?_
   refine RQ.then_n ?_
   refine RC.seq ?_
   refine RC.seq ?_
   refine RC.region ?_
   refine RL.s (Vl.move rfl) rfl ?_
   refine RL.s (Vl.lenSl Tryd.underlying22 rfl) rfl ?_
   refine RL.s (Vl.move rfl) rfl ?_
   refine RL.nil ?_
   refine RQ.then_n ?_
   refine RC.block ?_
   refine fun a ha => RC.loop (N := 27) (body := (code_check.l2b a39)) (φ := (· = r)) (fun (s : Int) a w => ∃ (x197 : Int), s = (x197) ∧ Has 27 [(0, .slice A40 a39.length c41), (9, .slice A40 a39.length c41), (10, .int .i64 (a39.length : Int)), (11, .int .i64 x197)] a ∧ St B w (l) hf) ?_ (s0 := (0)) h ⟨0, rfl, ha.to ⟨rfl, rfl, rfl, rfl, trivial⟩, hS⟩
   rintro G217 x197 a w ⟨_, rfl, ha, hS⟩ h
   revert a
   show RC _ _ _ _ _ _
   refine RC.seq ?_
   refine RC.region ?_
   refine RL.s (Vl.int rfl rfl rfl) rfl ?_
   refine RL.nil ?_
   refine RQ.then_n ?_
   refine RC.seq ?_
   by_cases hc219 : x197 < (a39.length : Int)
   case pos =>
    have h := h.pos hc219
    refine RC.re 12 rfl (congrArg Value.bool (decide_eq_true hc219)) ?_
    refine RC.condT rfl ?_
    refine RC.skip ?_
    refine RQ.then_n ?_
    refine RC.seq ?_
    refine RC.block ?_
    refine RC.seq ?_
    refine RC.region ?_
    refine RL.s (Vl.move rfl) rfl ?_
    obtain ⟨hq228, h⟩ := h.req
    refine RL.s (Vl.indexAddr Tryd.underlying22 Tryd.sizeOf48 rfl rfl ((hr42.2.world hS.sub).adr hq228 hc219) hq228 hc219 rfl) rfl ?_
    refine RL.s (Vl.loadA Tryd.isAgg48 Tryd.sizeOf48 rfl rfl ((hr42.2.world hS.sub).cells hq228 hc219)) rfl ?_
    refine RL.e (OW.alloc (cs := [.int .i64 0, .int .i64 0, .int .i64 0, .int .i64 0]) hS Tryd.zeroValue48 rfl) rfl rfl ?_
    rintro _ w ⟨b230, rfl, hS⟩
    have hS : St B w (Cl b230 [.int .i64 0, .int .i64 0, .int .i64 0, .int .i64 0] 48 :: l) hf := hS
    refine RL.s (Vl.assign rfl) rfl ?_
    refine RL.e0 (OW.store (cs := [.int .i64 0, .int .i64 0, .int .i64 0, .int .i64 0]) (vs := [.int .i64 ((nth a39 x197).Op), .int .i64 ((nth a39 x197).A), .int .i64 ((nth a39 x197).B), .int .i64 ((nth a39 x197).C)]) (l' := Cl b230 [.int .i64 ((nth a39 x197).Op), .int .i64 ((nth a39 x197).A), .int .i64 ((nth a39 x197).B), .int .i64 ((nth a39 x197).C)] 48 :: l) 0 hS rfl rfl rfl rfl Tryd.sizeOf48 rfl rfl rfl rfl) rfl ?_
    rintro _ w ⟨rfl, hS⟩
    have hS : St B w (Cl b230 [.int .i64 ((nth a39 x197).Op), .int .i64 ((nth a39 x197).A), .int .i64 ((nth a39 x197).B), .int .i64 ((nth a39 x197).C)] 48 :: l) hf := hS
    refine RL.nil ?_
    refine RQ.then_n ?_
    refine RC.seq ?_
    refine RC.region ?_
    refine RL.s (Vl.loadA (vs := [.int .i64 ((nth a39 x197).Op), .int .i64 ((nth a39 x197).A), .int .i64 ((nth a39 x197).B), .int .i64 ((nth a39 x197).C)]) Tryd.isAgg48 Tryd.sizeOf48 rfl rfl (hS.cellsAt 0 rfl rfl)) rfl ?_
    refine RL.s (Vl.move rfl) rfl ?_
    refine RL.s (Vl.lenSl Tryd.underlying22 rfl) rfl ?_
    obtain ⟨t231, hg232, h⟩ := h.bind
    refine RL.e (OW.callF (ls := [.tmp 16, .tmp 18]) rfl Tryd.call71 (code_may.ok (nth a39 x197) (a39.length : Int) _ hg232 hS)) rfl rfl ?_
    rintro _ w ⟨rfl, hS⟩
    have hS : St B w (Cl b230 [.int .i64 ((nth a39 x197).Op), .int .i64 ((nth a39 x197).A), .int .i64 ((nth a39 x197).B), .int .i64 ((nth a39 x197).C)] 48 :: l) hf := hS
    refine RL.s (Vl.not rfl) rfl ?_
    refine RL.nil ?_
    refine RQ.then_n ?_
    by_cases hc233 : t231 = true
    case pos =>
     have h := h.pos hc233
     refine RC.re 20 rfl (congrArg Value.bool (notb_pos hc233)) ?_
     refine RC.condF rfl ?_
     refine RC.skip ?_
     refine RQ.inB_n ?_
     refine RQ.then_n ?_
     refine RC.region ?_
     refine RL.s (Vl.int rfl rfl rfl) rfl ?_
     refine RL.s (Vl.move rfl) rfl ?_
     refine RL.nil ?_
     exact fun a ha => ⟨(IntKind.i64.wrap (x197 + 1)), ⟨(IntKind.i64.wrap (x197 + 1)), rfl, ha.to ⟨rfl, rfl, rfl, rfl, trivial⟩, (hS.dropAt 0 rfl)⟩, h.some⟩
    case neg =>
     have h := h.neg hc233
     refine RC.re 20 rfl (congrArg Value.bool (notb_neg hc233)) ?_
     refine RC.condT rfl ?_
     refine RC.seq ?_
     refine RC.region ?_
     refine RL.s (Vl.move rfl) rfl ?_
     refine RL.s (Vl.makeIface Tryd.underlying35 rfl rfl) rfl ?_
     refine RL.s (Vl.build (v := .agg #[.int .i64 x197, .iface 35 (.int .i64 130)]) (parts := [(0, .tmp 21), (1, .tmp 22)]) rfl (by kernel_rfl)) rfl ?_
     refine RL.e (OW.box (cs := [.int .i64 x197, .iface 35 (.int .i64 130)]) hS rfl rfl) rfl rfl ?_
     rintro _ w ⟨b235, rfl, hS⟩
     have hS : St B w (Cl b235 [.int .i64 x197, .iface 35 (.int .i64 130)] 132 :: Cl b230 [.int .i64 ((nth a39 x197).Op), .int .i64 ((nth a39 x197).A), .int .i64 ((nth a39 x197).B), .int .i64 ((nth a39 x197).C)] 48 :: l) hf := hS
     refine RL.s (Vl.makeIface Tryd.underlying130 rfl rfl) rfl ?_
     refine RL.s (Vl.assign rfl) rfl ?_
     refine RL.nil ?_
     refine RQ.then_n ?_
     refine RC.ret ?_
     refine RQ.inB_ret ?_
     refine RQ.ret ?_
     have h := h.inrS
     refine RQ.ret ?_
     refine RQ.inB_ret ?_
     refine RQ.ret ?_
     have e := h.some
     subst e
     refine RQ.ret0 (vs := [.iface 130 (.pointer (some ⟨b235, 0, none⟩))]) Tryd.results44 ⟨rfl, trivial⟩ ?_
     exact ⟨b235, rfl, (hS.dropAt 1 rfl)⟩
   case neg =>
    have h := h.neg hc219
    refine RC.re 12 rfl (congrArg Value.bool (decide_eq_false hc219)) ?_
    refine RC.condF rfl ?_
    refine RC.exit ?_
    refine RQ.exitT ?_
    have h := h.inrS
    refine RQ.exitT ?_
    refine RQ.inB_hit ?_
    refine RQ.then_n ?_
    refine RC.seq ?_
    refine RC.region ?_
    refine RL.s (Vl.assign rfl) rfl ?_
    refine RL.nil ?_
    refine RQ.then_n ?_
    refine RC.ret ?_
    have e := h.some
    subst e
    refine RQ.ret0 (vs := [.nilIface]) Tryd.results44 ⟨rfl, trivial⟩ ?_
    exact ⟨rfl, hS⟩

/-! ### errors.is: function 72 -/
noncomputable def errors_is.f (a242 : Int) (a243 : Int) (a244 : Bool) : Option (Bool) := (if a244 = true then (if a242 = a243 then some true else some false) else some false)
set_option maxRecDepth 100000 in
set_option maxHeartbeats 4000000 in
theorem errors_is.ok {B : Base} {w : World} {l : List HProp} {hf : Hp} (a242 : Int) (a243 : Int) (a244 : Bool) (r : Bool) (h : errors_is.f a242 a243 a244 = some r) (hS : St B w (l) hf) :
    Calls Tryd.prog 72 #[.iface 35 (.int .i64 a242), .iface 35 (.int .i64 a243), .bool a244] w (Ret fun v w => v = .bool r ∧ St B w (l) hf) := by
  have h := Holds.of h
  refine enter (args := [.iface 35 (.int .i64 a242), .iface 35 (.int .i64 a243), .bool a244]) Tryd.func72 rfl Tryd.ntmps72 (Nat.le_of_ble_eq_true rfl) ?_
  refine RC.seq ?_
  refine RC.region ?_
  refine RL.s (Vl.assign rfl) rfl ?_
  refine RL.nil ?_
  refine RQ.then_n ?_
  refine RC.block ?_
  refine RC.unroll ?_
  refine RQ.round ?_
  refine RC.block ?_
  refine RC.seq ?_
  refine RC.seq ?_
  refine RC.region ?_
  refine RL.s (Vl.move rfl) rfl ?_
  refine RL.s (Vl.move rfl) rfl ?_
  by_cases hc251 : a244 = true
  case pos =>
   have h := h.pos hc251
   refine RL.re 15 rfl (congrArg Value.bool (id hc251)) ?_
   refine RL.sg (Vl.move rfl) rfl rfl ?_
   refine RL.sg (Vl.move rfl) rfl rfl ?_
   refine RL.sg (Vl.ifaceInt rfl rfl Tryd.underlying71 Tryd.underlying35 Tryd.type35 rfl) rfl rfl ?_
   refine RL.s (Vl.pickT rfl rfl) rfl ?_
   refine RL.nil ?_
   refine RQ.then_n ?_
   by_cases hc252 : a242 = a243
   case pos =>
    have h := h.pos hc252
    refine RC.re 19 rfl (congrArg Value.bool (decide_eq_true hc252)) ?_
    refine RC.condT rfl ?_
    refine RC.seq ?_
    refine RC.region ?_
    refine RL.s (Vl.assign rfl) rfl ?_
    refine RL.nil ?_
    refine RQ.then_n ?_
    refine RC.ret ?_
    refine RQ.ret ?_
    refine RQ.inB_ret ?_
    refine RQ.ret ?_
    refine RQ.inB_ret ?_
    have e := h.some
    subst e
    refine RQ.ret0 (vs := [.bool true]) Tryd.results72 ⟨rfl, trivial⟩ ?_
    exact ⟨rfl, hS⟩
   case neg =>
    have h := h.neg hc252
    refine RC.re 19 rfl (congrArg Value.bool (decide_eq_false hc252)) ?_
    refine RC.condF rfl ?_
    refine RC.skip ?_
    refine RQ.then_n ?_
    refine RC.seq ?_
    refine RC.seq ?_
    refine RC.region ?_
    refine RL.s (Vl.move rfl) rfl ?_
    refine RL.s (Vl.tassert (r := .tuple #[.nilIface, .bool false]) rfl (fun w => run_typeAssert_lacksB Tryd.underlying143 (by kernel_rfl) (by kernel_rfl) _ _ w)) rfl ?_
    refine RL.s (Vl.move rfl) rfl ?_
    refine RL.s (Vl.extract rfl rfl) rfl ?_
    refine RL.s (Vl.extract rfl rfl) rfl ?_
    refine RL.s (Vl.assign rfl) rfl ?_
    refine RL.s (Vl.assign rfl) rfl ?_
    refine RL.nil ?_
    refine RQ.then_n ?_
    refine RC.seq ?_
    refine RC.region ?_
    refine RL.s (Vl.move rfl) rfl ?_
    refine RL.s (Vl.move rfl) rfl ?_
    refine RL.nn rfl rfl ?_
    refine RL.nn rfl rfl ?_
    refine RL.nn rfl rfl ?_
    refine RL.s (Vl.pickF rfl rfl) rfl ?_
    refine RL.nil ?_
    refine RQ.then_n ?_
    refine RC.condF rfl ?_
    refine RC.skip ?_
    refine RQ.then_n ?_
    refine RC.seq ?_
    refine RC.region ?_
    refine RL.s (Vl.move rfl) rfl ?_
    refine RL.nil ?_
    refine RQ.then_n ?_
    refine RC.block ?_
    refine RC.seq ?_
    refine RC.region ?_
    refine RL.s (Vl.tassert (r := .tuple #[.nilIface, .bool false]) rfl (fun w => run_typeAssert_lacksB Tryd.underlying126 (by kernel_rfl) (by kernel_rfl) _ _ w)) rfl ?_
    refine RL.s (Vl.extract rfl rfl) rfl ?_
    refine RL.s (Vl.extract rfl rfl) rfl ?_
    refine RL.nil ?_
    refine RQ.then_n ?_
    refine RC.condF rfl ?_
    refine RC.seq ?_
    refine RC.region ?_
    refine RL.s (Vl.tassert (r := .tuple #[.nilIface, .bool false]) rfl (fun w => run_typeAssert_lacksB Tryd.underlying127 (by kernel_rfl) (by kernel_rfl) _ _ w)) rfl ?_
    refine RL.s (Vl.extract rfl rfl) rfl ?_
    refine RL.s (Vl.extract rfl rfl) rfl ?_
    refine RL.nil ?_
    refine RQ.then_n ?_
    refine RC.condF rfl ?_
    refine RC.seq ?_
    refine RC.region ?_
    refine RL.s (Vl.assign rfl) rfl ?_
    refine RL.nil ?_
    refine RQ.then_n ?_
    refine RC.seq ?_
    refine RC.region ?_
    refine RL.s (Vl.assign rfl) rfl ?_
    refine RL.nil ?_
    refine RQ.then_n ?_
    refine RC.ret ?_
    refine RQ.inB_ret ?_
    refine RQ.inB_ret ?_
    refine RQ.ret ?_
    refine RQ.inB_ret ?_
    have e := h.some
    subst e
    refine RQ.ret0 (vs := [.bool false]) Tryd.results72 ⟨rfl, trivial⟩ ?_
    exact ⟨rfl, hS⟩
  case neg =>
   have h := h.neg hc251
   refine RL.re 15 rfl (congrArg Value.bool (eq_false_of hc251)) ?_
   refine RL.nn rfl rfl ?_
   refine RL.nn rfl rfl ?_
   refine RL.nn rfl rfl ?_
   refine RL.s (Vl.pickF rfl rfl) rfl ?_
   refine RL.nil ?_
   refine RQ.then_n ?_
   refine RC.condF rfl ?_
   refine RC.skip ?_
   refine RQ.then_n ?_
   refine RC.seq ?_
   refine RC.seq ?_
   refine RC.region ?_
   refine RL.s (Vl.move rfl) rfl ?_
   refine RL.s (Vl.tassert (r := .tuple #[.nilIface, .bool false]) rfl (fun w => run_typeAssert_lacksB Tryd.underlying143 (by kernel_rfl) (by kernel_rfl) _ _ w)) rfl ?_
   refine RL.s (Vl.move rfl) rfl ?_
   refine RL.s (Vl.extract rfl rfl) rfl ?_
   refine RL.s (Vl.extract rfl rfl) rfl ?_
   refine RL.s (Vl.assign rfl) rfl ?_
   refine RL.s (Vl.assign rfl) rfl ?_
   refine RL.nil ?_
   refine RQ.then_n ?_
   refine RC.seq ?_
   refine RC.region ?_
   refine RL.s (Vl.move rfl) rfl ?_
   refine RL.s (Vl.move rfl) rfl ?_
   refine RL.nn rfl rfl ?_
   refine RL.nn rfl rfl ?_
   refine RL.nn rfl rfl ?_
   refine RL.s (Vl.pickF rfl rfl) rfl ?_
   refine RL.nil ?_
   refine RQ.then_n ?_
   refine RC.condF rfl ?_
   refine RC.skip ?_
   refine RQ.then_n ?_
   refine RC.seq ?_
   refine RC.region ?_
   refine RL.s (Vl.move rfl) rfl ?_
   refine RL.nil ?_
   refine RQ.then_n ?_
   refine RC.block ?_
   refine RC.seq ?_
   refine RC.region ?_
   refine RL.s (Vl.tassert (r := .tuple #[.nilIface, .bool false]) rfl (fun w => run_typeAssert_lacksB Tryd.underlying126 (by kernel_rfl) (by kernel_rfl) _ _ w)) rfl ?_
   refine RL.s (Vl.extract rfl rfl) rfl ?_
   refine RL.s (Vl.extract rfl rfl) rfl ?_
   refine RL.nil ?_
   refine RQ.then_n ?_
   refine RC.condF rfl ?_
   refine RC.seq ?_
   refine RC.region ?_
   refine RL.s (Vl.tassert (r := .tuple #[.nilIface, .bool false]) rfl (fun w => run_typeAssert_lacksB Tryd.underlying127 (by kernel_rfl) (by kernel_rfl) _ _ w)) rfl ?_
   refine RL.s (Vl.extract rfl rfl) rfl ?_
   refine RL.s (Vl.extract rfl rfl) rfl ?_
   refine RL.nil ?_
   refine RQ.then_n ?_
   refine RC.condF rfl ?_
   refine RC.seq ?_
   refine RC.region ?_
   refine RL.s (Vl.assign rfl) rfl ?_
   refine RL.nil ?_
   refine RQ.then_n ?_
   refine RC.seq ?_
   refine RC.region ?_
   refine RL.s (Vl.assign rfl) rfl ?_
   refine RL.nil ?_
   refine RQ.then_n ?_
   refine RC.ret ?_
   refine RQ.inB_ret ?_
   refine RQ.inB_ret ?_
   refine RQ.ret ?_
   refine RQ.inB_ret ?_
   have e := h.some
   subst e
   refine RQ.ret0 (vs := [.bool false]) Tryd.results72 ⟨rfl, trivial⟩ ?_
   exact ⟨rfl, hS⟩

/-! ### errors.Is: function 45 -/
noncomputable def errors_Is.f (a240 : Int) (a241 : Int) : Option (Bool) := ((errors_is.f a240 a241 true).bind fun t255 => some t255)
set_option maxRecDepth 100000 in
set_option maxHeartbeats 4000000 in
theorem errors_Is.ok {B : Base} {w : World} {l : List HProp} {hf : Hp} (a240 : Int) (a241 : Int) (r : Bool) (h : errors_Is.f a240 a241 = some r) (hS : St B w (l) hf) :
    Calls Tryd.prog 45 #[.iface 35 (.int .i64 a240), .iface 35 (.int .i64 a241)] w (Ret fun v w => v = .bool r ∧ St B w (l) hf) := by
  have h := Holds.of h
  refine enter (args := [.iface 35 (.int .i64 a240), .iface 35 (.int .i64 a241)]) Tryd.func45 rfl Tryd.ntmps45 (Nat.le_of_ble_eq_true rfl) ?_
  refine RC.seq ?_
  refine RC.region ?_
  refine RL.s (Vl.assign rfl) rfl ?_
  refine RL.nil ?_
  refine RQ.then_n ?_
  refine RC.seq ?_
  refine RC.seq ?_
  refine RC.region ?_
  refine RL.s (Vl.move rfl) rfl ?_
  refine RL.s (Vl.bin (v := .bool false) rfl rfl (by kernel_rfl)) rfl ?_
  refine RL.s (Vl.move rfl) rfl ?_
  refine RL.sg (Vl.move rfl) rfl rfl ?_
  refine RL.sg (Vl.bin (v := .bool false) rfl rfl (by kernel_rfl)) rfl rfl ?_
  refine RL.s (Vl.pickF rfl rfl) rfl ?_
  refine RL.nil ?_
  refine RQ.then_n ?_
  refine RC.condF rfl ?_
  refine RC.skip ?_
  refine RQ.then_n ?_
  refine RC.seq ?_
  refine RC.region ?_
  refine RL.s (Vl.move rfl) rfl ?_
  refine RL.s (Vl.extern (ls := [.tmp 15]) (v := .iface 118 (.agg #[.pointer (some ⟨1, 35, none⟩)])) rfl Tryd.func66 (by kernel_rfl) (by kernel_rfl) (by kernel_rfl) (e := Extern.ReflectliteType.typeOf) (by kernel_rfl) (fun w => by kernel_rfl)) rfl ?_
  refine RL.s (Vl.invokeX (F := 111) (ls := []) (v := .bool true) (u' := .agg #[.pointer (some ⟨1, 35, none⟩)]) rfl rfl (fun w => by kernel_rfl) Tryd.func111 (by kernel_rfl) (by kernel_rfl) (by kernel_rfl) (e := (Extern.ReflectliteType.method fun t => do Extern.Rtype.noPackHeld "Comparable" t; pure (.bool (← typeInfo t).comparable))) (by kernel_rfl) (fun w => by kernel_rfl)) rfl ?_
  refine RL.s (Vl.assign rfl) rfl ?_
  refine RL.nil ?_
  refine RQ.then_n ?_
  refine RC.seq ?_
  refine RC.region ?_
  refine RL.s (Vl.move rfl) rfl ?_
  refine RL.s (Vl.move rfl) rfl ?_
  refine RL.s (Vl.move rfl) rfl ?_
  obtain ⟨t255, hg256, h⟩ := h.bind
  refine RL.e (OW.callF (ls := [.tmp 18, .tmp 19, .tmp 20]) rfl Tryd.call72 (errors_is.ok a240 a241 true _ hg256 hS)) rfl rfl ?_
  rintro _ w ⟨rfl, hS⟩
  have hS : St B w (l) hf := hS
  refine RL.s (Vl.assign rfl) rfl ?_
  refine RL.nil ?_
  refine RQ.then_n ?_
  refine RC.ret ?_
  have e := h.some
  subst e
  refine RQ.ret0 (vs := [.bool t255]) Tryd.results45 ⟨rfl, trivial⟩ ?_
  exact ⟨rfl, hS⟩

/-! ### (*isochron/code.wrong).Unwrap: function 121 -/
noncomputable def code_wrong_Unwrap.f (a279 : Int) (a280 : Int) : Option (Int) := some a280
set_option maxRecDepth 100000 in
set_option maxHeartbeats 4000000 in
theorem code_wrong_Unwrap.ok {B : Base} {w : World} {l : List HProp} {hf : Hp} (a279 : Int) (a280 : Int) (b278 : Nat) (r : Int) (h : code_wrong_Unwrap.f a279 a280 = some r) (hS : St B w (Cl b278 [.int .i64 a279, .iface 35 (.int .i64 a280)] 132 :: l) hf) :
    Calls Tryd.prog 121 #[.pointer (some ⟨b278, 0, none⟩)] w (Ret fun v w => v = .iface 35 (.int .i64 r) ∧ St B w (Cl b278 [.int .i64 a279, .iface 35 (.int .i64 a280)] 132 :: l) hf) := by
  have h := Holds.of h
  refine enter (args := [.pointer (some ⟨b278, 0, none⟩)]) Tryd.func121 rfl Tryd.ntmps121 (Nat.le_of_ble_eq_true rfl) ?_
  refine RC.seq ?_
  refine RC.region ?_
  refine RL.s (Vl.assign rfl) rfl ?_
  refine RL.nil ?_
  refine RQ.then_n ?_
  refine RC.seq ?_
  refine RC.region ?_
  refine RL.s (Vl.move rfl) rfl ?_
  refine RL.s (Vl.nilCheck rfl) rfl ?_
  refine RL.s (Vl.fieldAddr (a'' := ⟨b278, 1, none⟩) Tryd.underlying132 rfl Tryd.sizeOf71 rfl rfl) rfl ?_
  refine RL.s (Vl.load Tryd.isAgg71 rfl (hS.cell 0 rfl rfl)) rfl ?_
  refine RL.s (Vl.assign rfl) rfl ?_
  refine RL.nil ?_
  refine RQ.then_n ?_
  refine RC.ret ?_
  have e := h.some
  subst e
  refine RQ.ret0 (vs := [.iface 35 (.int .i64 a280)]) Tryd.results121 ⟨rfl, trivial⟩ ?_
  exact ⟨rfl, hS⟩

/-! ### errors.is: function 72 -/
noncomputable def errors_is_2.f (a271 : Int) (a272 : Int) (a273 : Int) (a274 : Bool) : Option (Bool) := (if a274 = true then ((code_wrong_Unwrap.f a271 a272).bind fun t289 => (if t289 = a273 then some true else some false)) else ((code_wrong_Unwrap.f a271 a272).bind fun t293 => some false))
set_option maxRecDepth 100000 in
set_option maxHeartbeats 4000000 in
theorem errors_is_2.ok {B : Base} {w : World} {l : List HProp} {hf : Hp} (a271 : Int) (a272 : Int) (a273 : Int) (a274 : Bool) (b270 : Nat) (r : Bool) (h : errors_is_2.f a271 a272 a273 a274 = some r) (hS : St B w (Cl b270 [.int .i64 a271, .iface 35 (.int .i64 a272)] 132 :: l) hf) :
    Calls Tryd.prog 72 #[.iface 130 (.pointer (some ⟨b270, 0, none⟩)), .iface 35 (.int .i64 a273), .bool a274] w (Ret fun v w => v = .bool r ∧ St B w (Cl b270 [.int .i64 a271, .iface 35 (.int .i64 a272)] 132 :: l) hf) := by
  have h := Holds.of h
  refine enter (args := [.iface 130 (.pointer (some ⟨b270, 0, none⟩)), .iface 35 (.int .i64 a273), .bool a274]) Tryd.func72 rfl Tryd.ntmps72 (Nat.le_of_ble_eq_true rfl) ?_
  refine RC.seq ?_
  refine RC.region ?_
  refine RL.s (Vl.assign rfl) rfl ?_
  refine RL.nil ?_
  refine RQ.then_n ?_
  refine RC.block ?_
  refine RC.unroll ?_
  refine RQ.round ?_
  refine RC.block ?_
  refine RC.seq ?_
  refine RC.seq ?_
  refine RC.region ?_
  refine RL.s (Vl.move rfl) rfl ?_
  refine RL.s (Vl.move rfl) rfl ?_
  by_cases hc288 : a274 = true
  case pos =>
   have h := h.pos hc288
   refine RL.re 15 rfl (congrArg Value.bool (id hc288)) ?_
   refine RL.sg (Vl.move rfl) rfl rfl ?_
   refine RL.sg (Vl.move rfl) rfl rfl ?_
   refine RL.sg (Vl.ifaceNeq rfl rfl Tryd.underlying71 rfl) rfl rfl ?_
   refine RL.s (Vl.pickT rfl rfl) rfl ?_
   refine RL.nil ?_
   refine RQ.then_n ?_
   refine RC.condF rfl ?_
   refine RC.skip ?_
   refine RQ.then_n ?_
   refine RC.seq ?_
   refine RC.seq ?_
   refine RC.region ?_
   refine RL.s (Vl.move rfl) rfl ?_
   refine RL.s (Vl.tassert (r := .tuple #[.nilIface, .bool false]) rfl (fun w => run_typeAssert_lacksB Tryd.underlying143 (by kernel_rfl) (by kernel_rfl) _ _ w)) rfl ?_
   refine RL.s (Vl.move rfl) rfl ?_
   refine RL.s (Vl.extract rfl rfl) rfl ?_
   refine RL.s (Vl.extract rfl rfl) rfl ?_
   refine RL.s (Vl.assign rfl) rfl ?_
   refine RL.s (Vl.assign rfl) rfl ?_
   refine RL.nil ?_
   refine RQ.then_n ?_
   refine RC.seq ?_
   refine RC.region ?_
   refine RL.s (Vl.move rfl) rfl ?_
   refine RL.s (Vl.move rfl) rfl ?_
   refine RL.nn rfl rfl ?_
   refine RL.nn rfl rfl ?_
   refine RL.nn rfl rfl ?_
   refine RL.s (Vl.pickF rfl rfl) rfl ?_
   refine RL.nil ?_
   refine RQ.then_n ?_
   refine RC.condF rfl ?_
   refine RC.skip ?_
   refine RQ.then_n ?_
   refine RC.seq ?_
   refine RC.region ?_
   refine RL.s (Vl.move rfl) rfl ?_
   refine RL.nil ?_
   refine RQ.then_n ?_
   refine RC.block ?_
   refine RC.seq ?_
   refine RC.region ?_
   refine RL.s (Vl.tassert (r := .tuple #[.iface 130 (.pointer (some ⟨b270, 0, none⟩)), .bool true]) rfl (fun w => run_typeAssert_hasB Tryd.underlying126 (by kernel_rfl) _ _ w)) rfl ?_
   refine RL.s (Vl.extract rfl rfl) rfl ?_
   refine RL.s (Vl.extract rfl rfl) rfl ?_
   refine RL.nil ?_
   refine RQ.then_n ?_
   refine RC.condT rfl ?_
   refine RC.seq ?_
   refine RC.region ?_
   refine RL.s (Vl.assign rfl) rfl ?_
   refine RL.nil ?_
   refine RQ.then_n ?_
   refine RC.seq ?_
   refine RC.region ?_
   refine RL.s (Vl.move rfl) rfl ?_
   obtain ⟨t289, hg290, h⟩ := h.bind
   refine RL.e (OW.invoke (F := 121) (u' := .pointer (some ⟨b270, 0, none⟩)) (ls := []) rfl rfl (fun w => by kernel_rfl) Tryd.call121 rfl (code_wrong_Unwrap.ok a271 a272 b270 _ hg290 hS)) rfl rfl ?_
   rintro _ w ⟨rfl, hS⟩
   have hS : St B w (Cl b270 [.int .i64 a271, .iface 35 (.int .i64 a272)] 132 :: l) hf := hS
   refine RL.s (Vl.assign rfl) rfl ?_
   refine RL.nil ?_
   refine RQ.then_n ?_
   refine RC.seq ?_
   refine RC.region ?_
   refine RL.s (Vl.move rfl) rfl ?_
   refine RL.s (Vl.bin (v := .bool false) rfl rfl (by kernel_rfl)) rfl ?_
   refine RL.nil ?_
   refine RQ.then_n ?_
   refine RC.condF rfl ?_
   refine RC.skip ?_
   refine RQ.inB_n ?_
   refine RQ.inB_n ?_
   refine RQ.then_n ?_
   refine RQ.round ?_
   refine RC.block ?_
   refine RC.seq ?_
   refine RC.seq ?_
   refine RC.region ?_
   refine RL.s (Vl.move rfl) rfl ?_
   refine RL.s (Vl.move rfl) rfl ?_
   refine RL.re 15 rfl (congrArg Value.bool (id hc288)) ?_
   refine RL.sg (Vl.move rfl) rfl rfl ?_
   refine RL.sg (Vl.move rfl) rfl rfl ?_
   refine RL.sg (Vl.ifaceInt rfl rfl Tryd.underlying71 Tryd.underlying35 Tryd.type35 rfl) rfl rfl ?_
   refine RL.s (Vl.pickT rfl rfl) rfl ?_
   refine RL.nil ?_
   refine RQ.then_n ?_
   by_cases hc292 : t289 = a273
   case pos =>
    have h := h.pos hc292
    refine RC.re 19 rfl (congrArg Value.bool (decide_eq_true hc292)) ?_
    refine RC.condT rfl ?_
    refine RC.seq ?_
    refine RC.region ?_
    refine RL.s (Vl.assign rfl) rfl ?_
    refine RL.nil ?_
    refine RQ.then_n ?_
    refine RC.ret ?_
    refine RQ.ret ?_
    refine RQ.inB_ret ?_
    refine RQ.ret ?_
    refine RQ.inB_ret ?_
    have e := h.some
    subst e
    refine RQ.ret0 (vs := [.bool true]) Tryd.results72 ⟨rfl, trivial⟩ ?_
    exact ⟨rfl, hS⟩
   case neg =>
    have h := h.neg hc292
    refine RC.re 19 rfl (congrArg Value.bool (decide_eq_false hc292)) ?_
    refine RC.condF rfl ?_
    refine RC.skip ?_
    refine RQ.then_n ?_
    refine RC.seq ?_
    refine RC.seq ?_
    refine RC.region ?_
    refine RL.s (Vl.move rfl) rfl ?_
    refine RL.s (Vl.tassert (r := .tuple #[.nilIface, .bool false]) rfl (fun w => run_typeAssert_lacksB Tryd.underlying143 (by kernel_rfl) (by kernel_rfl) _ _ w)) rfl ?_
    refine RL.s (Vl.move rfl) rfl ?_
    refine RL.s (Vl.extract rfl rfl) rfl ?_
    refine RL.s (Vl.extract rfl rfl) rfl ?_
    refine RL.s (Vl.assign rfl) rfl ?_
    refine RL.s (Vl.assign rfl) rfl ?_
    refine RL.nil ?_
    refine RQ.then_n ?_
    refine RC.seq ?_
    refine RC.region ?_
    refine RL.s (Vl.move rfl) rfl ?_
    refine RL.s (Vl.move rfl) rfl ?_
    refine RL.nn rfl rfl ?_
    refine RL.nn rfl rfl ?_
    refine RL.nn rfl rfl ?_
    refine RL.s (Vl.pickF rfl rfl) rfl ?_
    refine RL.nil ?_
    refine RQ.then_n ?_
    refine RC.condF rfl ?_
    refine RC.skip ?_
    refine RQ.then_n ?_
    refine RC.seq ?_
    refine RC.region ?_
    refine RL.s (Vl.move rfl) rfl ?_
    refine RL.nil ?_
    refine RQ.then_n ?_
    refine RC.block ?_
    refine RC.seq ?_
    refine RC.region ?_
    refine RL.s (Vl.tassert (r := .tuple #[.nilIface, .bool false]) rfl (fun w => run_typeAssert_lacksB Tryd.underlying126 (by kernel_rfl) (by kernel_rfl) _ _ w)) rfl ?_
    refine RL.s (Vl.extract rfl rfl) rfl ?_
    refine RL.s (Vl.extract rfl rfl) rfl ?_
    refine RL.nil ?_
    refine RQ.then_n ?_
    refine RC.condF rfl ?_
    refine RC.seq ?_
    refine RC.region ?_
    refine RL.s (Vl.tassert (r := .tuple #[.nilIface, .bool false]) rfl (fun w => run_typeAssert_lacksB Tryd.underlying127 (by kernel_rfl) (by kernel_rfl) _ _ w)) rfl ?_
    refine RL.s (Vl.extract rfl rfl) rfl ?_
    refine RL.s (Vl.extract rfl rfl) rfl ?_
    refine RL.nil ?_
    refine RQ.then_n ?_
    refine RC.condF rfl ?_
    refine RC.seq ?_
    refine RC.region ?_
    refine RL.s (Vl.assign rfl) rfl ?_
    refine RL.nil ?_
    refine RQ.then_n ?_
    refine RC.seq ?_
    refine RC.region ?_
    refine RL.s (Vl.assign rfl) rfl ?_
    refine RL.nil ?_
    refine RQ.then_n ?_
    refine RC.ret ?_
    refine RQ.inB_ret ?_
    refine RQ.inB_ret ?_
    refine RQ.ret ?_
    refine RQ.inB_ret ?_
    have e := h.some
    subst e
    refine RQ.ret0 (vs := [.bool false]) Tryd.results72 ⟨rfl, trivial⟩ ?_
    exact ⟨rfl, hS⟩
  case neg =>
   have h := h.neg hc288
   refine RL.re 15 rfl (congrArg Value.bool (eq_false_of hc288)) ?_
   refine RL.nn rfl rfl ?_
   refine RL.nn rfl rfl ?_
   refine RL.nn rfl rfl ?_
   refine RL.s (Vl.pickF rfl rfl) rfl ?_
   refine RL.nil ?_
   refine RQ.then_n ?_
   refine RC.condF rfl ?_
   refine RC.skip ?_
   refine RQ.then_n ?_
   refine RC.seq ?_
   refine RC.seq ?_
   refine RC.region ?_
   refine RL.s (Vl.move rfl) rfl ?_
   refine RL.s (Vl.tassert (r := .tuple #[.nilIface, .bool false]) rfl (fun w => run_typeAssert_lacksB Tryd.underlying143 (by kernel_rfl) (by kernel_rfl) _ _ w)) rfl ?_
   refine RL.s (Vl.move rfl) rfl ?_
   refine RL.s (Vl.extract rfl rfl) rfl ?_
   refine RL.s (Vl.extract rfl rfl) rfl ?_
   refine RL.s (Vl.assign rfl) rfl ?_
   refine RL.s (Vl.assign rfl) rfl ?_
   refine RL.nil ?_
   refine RQ.then_n ?_
   refine RC.seq ?_
   refine RC.region ?_
   refine RL.s (Vl.move rfl) rfl ?_
   refine RL.s (Vl.move rfl) rfl ?_
   refine RL.nn rfl rfl ?_
   refine RL.nn rfl rfl ?_
   refine RL.nn rfl rfl ?_
   refine RL.s (Vl.pickF rfl rfl) rfl ?_
   refine RL.nil ?_
   refine RQ.then_n ?_
   refine RC.condF rfl ?_
   refine RC.skip ?_
   refine RQ.then_n ?_
   refine RC.seq ?_
   refine RC.region ?_
   refine RL.s (Vl.move rfl) rfl ?_
   refine RL.nil ?_
   refine RQ.then_n ?_
   refine RC.block ?_
   refine RC.seq ?_
   refine RC.region ?_
   refine RL.s (Vl.tassert (r := .tuple #[.iface 130 (.pointer (some ⟨b270, 0, none⟩)), .bool true]) rfl (fun w => run_typeAssert_hasB Tryd.underlying126 (by kernel_rfl) _ _ w)) rfl ?_
   refine RL.s (Vl.extract rfl rfl) rfl ?_
   refine RL.s (Vl.extract rfl rfl) rfl ?_
   refine RL.nil ?_
   refine RQ.then_n ?_
   refine RC.condT rfl ?_
   refine RC.seq ?_
   refine RC.region ?_
   refine RL.s (Vl.assign rfl) rfl ?_
   refine RL.nil ?_
   refine RQ.then_n ?_
   refine RC.seq ?_
   refine RC.region ?_
   refine RL.s (Vl.move rfl) rfl ?_
   obtain ⟨t293, hg294, h⟩ := h.bind
   refine RL.e (OW.invoke (F := 121) (u' := .pointer (some ⟨b270, 0, none⟩)) (ls := []) rfl rfl (fun w => by kernel_rfl) Tryd.call121 rfl (code_wrong_Unwrap.ok a271 a272 b270 _ hg294 hS)) rfl rfl ?_
   rintro _ w ⟨rfl, hS⟩
   have hS : St B w (Cl b270 [.int .i64 a271, .iface 35 (.int .i64 a272)] 132 :: l) hf := hS
   refine RL.s (Vl.assign rfl) rfl ?_
   refine RL.nil ?_
   refine RQ.then_n ?_
   refine RC.seq ?_
   refine RC.region ?_
   refine RL.s (Vl.move rfl) rfl ?_
   refine RL.s (Vl.bin (v := .bool false) rfl rfl (by kernel_rfl)) rfl ?_
   refine RL.nil ?_
   refine RQ.then_n ?_
   refine RC.condF rfl ?_
   refine RC.skip ?_
   refine RQ.inB_n ?_
   refine RQ.inB_n ?_
   refine RQ.then_n ?_
   refine RQ.round ?_
   refine RC.block ?_
   refine RC.seq ?_
   refine RC.seq ?_
   refine RC.region ?_
   refine RL.s (Vl.move rfl) rfl ?_
   refine RL.s (Vl.move rfl) rfl ?_
   refine RL.re 15 rfl (congrArg Value.bool (eq_false_of hc288)) ?_
   refine RL.nn rfl rfl ?_
   refine RL.nn rfl rfl ?_
   refine RL.nn rfl rfl ?_
   refine RL.s (Vl.pickF rfl rfl) rfl ?_
   refine RL.nil ?_
   refine RQ.then_n ?_
   refine RC.condF rfl ?_
   refine RC.skip ?_
   refine RQ.then_n ?_
   refine RC.seq ?_
   refine RC.seq ?_
   refine RC.region ?_
   refine RL.s (Vl.move rfl) rfl ?_
   refine RL.s (Vl.tassert (r := .tuple #[.nilIface, .bool false]) rfl (fun w => run_typeAssert_lacksB Tryd.underlying143 (by kernel_rfl) (by kernel_rfl) _ _ w)) rfl ?_
   refine RL.s (Vl.move rfl) rfl ?_
   refine RL.s (Vl.extract rfl rfl) rfl ?_
   refine RL.s (Vl.extract rfl rfl) rfl ?_
   refine RL.s (Vl.assign rfl) rfl ?_
   refine RL.s (Vl.assign rfl) rfl ?_
   refine RL.nil ?_
   refine RQ.then_n ?_
   refine RC.seq ?_
   refine RC.region ?_
   refine RL.s (Vl.move rfl) rfl ?_
   refine RL.s (Vl.move rfl) rfl ?_
   refine RL.nn rfl rfl ?_
   refine RL.nn rfl rfl ?_
   refine RL.nn rfl rfl ?_
   refine RL.s (Vl.pickF rfl rfl) rfl ?_
   refine RL.nil ?_
   refine RQ.then_n ?_
   refine RC.condF rfl ?_
   refine RC.skip ?_
   refine RQ.then_n ?_
   refine RC.seq ?_
   refine RC.region ?_
   refine RL.s (Vl.move rfl) rfl ?_
   refine RL.nil ?_
   refine RQ.then_n ?_
   refine RC.block ?_
   refine RC.seq ?_
   refine RC.region ?_
   refine RL.s (Vl.tassert (r := .tuple #[.nilIface, .bool false]) rfl (fun w => run_typeAssert_lacksB Tryd.underlying126 (by kernel_rfl) (by kernel_rfl) _ _ w)) rfl ?_
   refine RL.s (Vl.extract rfl rfl) rfl ?_
   refine RL.s (Vl.extract rfl rfl) rfl ?_
   refine RL.nil ?_
   refine RQ.then_n ?_
   refine RC.condF rfl ?_
   refine RC.seq ?_
   refine RC.region ?_
   refine RL.s (Vl.tassert (r := .tuple #[.nilIface, .bool false]) rfl (fun w => run_typeAssert_lacksB Tryd.underlying127 (by kernel_rfl) (by kernel_rfl) _ _ w)) rfl ?_
   refine RL.s (Vl.extract rfl rfl) rfl ?_
   refine RL.s (Vl.extract rfl rfl) rfl ?_
   refine RL.nil ?_
   refine RQ.then_n ?_
   refine RC.condF rfl ?_
   refine RC.seq ?_
   refine RC.region ?_
   refine RL.s (Vl.assign rfl) rfl ?_
   refine RL.nil ?_
   refine RQ.then_n ?_
   refine RC.seq ?_
   refine RC.region ?_
   refine RL.s (Vl.assign rfl) rfl ?_
   refine RL.nil ?_
   refine RQ.then_n ?_
   refine RC.ret ?_
   refine RQ.inB_ret ?_
   refine RQ.inB_ret ?_
   refine RQ.ret ?_
   refine RQ.inB_ret ?_
   have e := h.some
   subst e
   refine RQ.ret0 (vs := [.bool false]) Tryd.results72 ⟨rfl, trivial⟩ ?_
   exact ⟨rfl, hS⟩

/-! ### errors.Is: function 45 -/
noncomputable def errors_Is_2.f (a266 : Int) (a267 : Int) (a268 : Int) : Option (Bool) := ((errors_is_2.f a266 a267 a268 true).bind fun t297 => some t297)
set_option maxRecDepth 100000 in
set_option maxHeartbeats 4000000 in
theorem errors_Is_2.ok {B : Base} {w : World} {l : List HProp} {hf : Hp} (a266 : Int) (a267 : Int) (a268 : Int) (b265 : Nat) (r : Bool) (h : errors_Is_2.f a266 a267 a268 = some r) (hS : St B w (Cl b265 [.int .i64 a266, .iface 35 (.int .i64 a267)] 132 :: l) hf) :
    Calls Tryd.prog 45 #[.iface 130 (.pointer (some ⟨b265, 0, none⟩)), .iface 35 (.int .i64 a268)] w (Ret fun v w => v = .bool r ∧ St B w (Cl b265 [.int .i64 a266, .iface 35 (.int .i64 a267)] 132 :: l) hf) := by
  have h := Holds.of h
  refine enter (args := [.iface 130 (.pointer (some ⟨b265, 0, none⟩)), .iface 35 (.int .i64 a268)]) Tryd.func45 rfl Tryd.ntmps45 (Nat.le_of_ble_eq_true rfl) ?_
  refine RC.seq ?_
  refine RC.region ?_
  refine RL.s (Vl.assign rfl) rfl ?_
  refine RL.nil ?_
  refine RQ.then_n ?_
  refine RC.seq ?_
  refine RC.seq ?_
  refine RC.region ?_
  refine RL.s (Vl.move rfl) rfl ?_
  refine RL.s (Vl.bin (v := .bool false) rfl rfl (by kernel_rfl)) rfl ?_
  refine RL.s (Vl.move rfl) rfl ?_
  refine RL.sg (Vl.move rfl) rfl rfl ?_
  refine RL.sg (Vl.bin (v := .bool false) rfl rfl (by kernel_rfl)) rfl rfl ?_
  refine RL.s (Vl.pickF rfl rfl) rfl ?_
  refine RL.nil ?_
  refine RQ.then_n ?_
  refine RC.condF rfl ?_
  refine RC.skip ?_
  refine RQ.then_n ?_
  refine RC.seq ?_
  refine RC.region ?_
  refine RL.s (Vl.move rfl) rfl ?_
  refine RL.s (Vl.extern (ls := [.tmp 15]) (v := .iface 118 (.agg #[.pointer (some ⟨1, 35, none⟩)])) rfl Tryd.func66 (by kernel_rfl) (by kernel_rfl) (by kernel_rfl) (e := Extern.ReflectliteType.typeOf) (by kernel_rfl) (fun w => by kernel_rfl)) rfl ?_
  refine RL.s (Vl.invokeX (F := 111) (ls := []) (v := .bool true) (u' := .agg #[.pointer (some ⟨1, 35, none⟩)]) rfl rfl (fun w => by kernel_rfl) Tryd.func111 (by kernel_rfl) (by kernel_rfl) (by kernel_rfl) (e := (Extern.ReflectliteType.method fun t => do Extern.Rtype.noPackHeld "Comparable" t; pure (.bool (← typeInfo t).comparable))) (by kernel_rfl) (fun w => by kernel_rfl)) rfl ?_
  refine RL.s (Vl.assign rfl) rfl ?_
  refine RL.nil ?_
  refine RQ.then_n ?_
  refine RC.seq ?_
  refine RC.region ?_
  refine RL.s (Vl.move rfl) rfl ?_
  refine RL.s (Vl.move rfl) rfl ?_
  refine RL.s (Vl.move rfl) rfl ?_
  obtain ⟨t297, hg298, h⟩ := h.bind
  refine RL.e (OW.callF (ls := [.tmp 18, .tmp 19, .tmp 20]) rfl Tryd.call72 (errors_is_2.ok a266 a267 a268 true b265 _ hg298 hS)) rfl rfl ?_
  rintro _ w ⟨rfl, hS⟩
  have hS : St B w (Cl b265 [.int .i64 a266, .iface 35 (.int .i64 a267)] 132 :: l) hf := hS
  refine RL.s (Vl.assign rfl) rfl ?_
  refine RL.nil ?_
  refine RQ.then_n ?_
  refine RC.ret ?_
  have e := h.some
  subst e
  refine RQ.ret0 (vs := [.bool t297]) Tryd.results45 ⟨rfl, trivial⟩ ?_
  exact ⟨rfl, hS⟩

/-! ### errors.Is: function 45 -/
noncomputable def errors_Is_3.f (a302 : Int) : Option (Bool) := some false
set_option maxRecDepth 100000 in
set_option maxHeartbeats 4000000 in
theorem errors_Is_3.ok {B : Base} {w : World} {l : List HProp} {hf : Hp} (a302 : Int) (r : Bool) (h : errors_Is_3.f a302 = some r) (hS : St B w (l) hf) :
    Calls Tryd.prog 45 #[.nilIface, .iface 35 (.int .i64 a302)] w (Ret fun v w => v = .bool r ∧ St B w (l) hf) := by
  have h := Holds.of h
  refine enter (args := [.nilIface, .iface 35 (.int .i64 a302)]) Tryd.func45 rfl Tryd.ntmps45 (Nat.le_of_ble_eq_true rfl) ?_
  refine RC.seq ?_
  refine RC.region ?_
  refine RL.s (Vl.assign rfl) rfl ?_
  refine RL.nil ?_
  refine RQ.then_n ?_
  refine RC.seq ?_
  refine RC.seq ?_
  refine RC.region ?_
  refine RL.s (Vl.move rfl) rfl ?_
  refine RL.s (Vl.bin (v := .bool true) rfl rfl (by kernel_rfl)) rfl ?_
  refine RL.s (Vl.move rfl) rfl ?_
  refine RL.nn rfl rfl ?_
  refine RL.nn rfl rfl ?_
  refine RL.s (Vl.pickT rfl rfl) rfl ?_
  refine RL.nil ?_
  refine RQ.then_n ?_
  refine RC.condT rfl ?_
  refine RC.seq ?_
  refine RC.region ?_
  refine RL.s (Vl.move rfl) rfl ?_
  refine RL.s (Vl.move rfl) rfl ?_
  refine RL.s (Vl.bin (v := .bool false) rfl rfl (by kernel_rfl)) rfl ?_
  refine RL.s (Vl.assign rfl) rfl ?_
  refine RL.nil ?_
  refine RQ.then_n ?_
  refine RC.ret ?_
  refine RQ.ret ?_
  have e := h.some
  subst e
  refine RQ.ret0 (vs := [.bool false]) Tryd.results45 ⟨rfl, trivial⟩ ?_
  exact ⟨rfl, hS⟩

/-! ### isochron/code.Check: function 25 -/
noncomputable def code_Check.f (a35 : List api_Instr) : Option (Int) := ((code_check.f a35).bind fun t306 => match t306 with | .inl y308 => ((errors_Is.f y308 2).bind fun t309 => (if t309 = true then some 2 else some 130)) | .inr (.inl (y312, y313)) => ((errors_Is_2.f y312 y313 2).bind fun t316 => (if t316 = true then some 2 else some 130)) | .inr (.inr (_)) => ((errors_Is_3.f 2).bind fun t319 => (if t319 = true then some 2 else some 0)))
set_option maxRecDepth 100000 in
set_option maxHeartbeats 4000000 in
theorem code_Check.ok {B : Base} {w : World} {l : List HProp} {hf : Hp} (a35 : List api_Instr) (A36 : Option Addr) (c37 : Nat) (hr38 : SlR E_api_Instr.rep hf A36 c37 a35) (r : Int) (h : code_Check.f a35 = some r) (hS : St B w (l) hf) :
    Calls Tryd.prog 25 #[.slice A36 a35.length c37] w (Ret fun v w => v = .int .i64 r ∧ St B w (l) hf) := by
  have h := Holds.of h
  refine enter (args := [.slice A36 a35.length c37]) Tryd.func25 rfl Tryd.ntmps25 (Nat.le_of_ble_eq_true rfl) ?_
  refine RC.seq ?_
  refine RC.region ?_
  refine RL.s (Vl.assign rfl) rfl ?_
  refine RL.nil ?_
  refine RQ.then_n ?_
  refine RC.seq ?_
  refine RC.seq ?_
  refine RC.region ?_
  refine RL.s (Vl.move rfl) rfl ?_
  obtain ⟨t306, hg307, h⟩ := h.bind
  rcases t306 with y308 | ⟨y312, y313⟩ | _
  · refine RL.e (OW.callF (ls := [.tmp 4]) rfl Tryd.call44 (code_check.ok a35 A36 c37 hr38 _ hg307 hS)) rfl rfl ?_
    rintro _ w ⟨rfl, hS⟩
    have hS : St B w (l) hf := hS
    refine RL.s (Vl.assign rfl) rfl ?_
    refine RL.nil ?_
    refine RQ.then_n ?_
    refine RC.block ?_
    refine RC.seq ?_
    refine RC.region ?_
    refine RL.s (Vl.move rfl) rfl ?_
    refine RL.s (Vl.makeIface Tryd.underlying35 rfl rfl) rfl ?_
    obtain ⟨t309, hg310, h⟩ := h.bind
    refine RL.e (OW.callF (ls := [.tmp 7, .tmp 8]) rfl Tryd.call45 (errors_Is.ok y308 2 _ hg310 hS)) rfl rfl ?_
    rintro _ w ⟨rfl, hS⟩
    have hS : St B w (l) hf := hS
    refine RL.s (Vl.assign rfl) rfl ?_
    refine RL.nil ?_
    refine RQ.then_n ?_
    by_cases hc311 : t309 = true
    case pos =>
     have h := h.pos hc311
     refine RC.re 6 rfl (congrArg Value.bool (id hc311)) ?_
     refine RC.condT rfl ?_
     refine RC.seq ?_
     refine RC.region ?_
     refine RL.s (Vl.assign rfl) rfl ?_
     refine RL.nil ?_
     refine RQ.then_n ?_
     refine RC.ret ?_
     refine RQ.inB_ret ?_
     refine RQ.ret ?_
     have e := h.some
     subst e
     refine RQ.ret0 (vs := [.int .i64 2]) Tryd.results25 ⟨rfl, trivial⟩ ?_
     exact ⟨rfl, hS⟩
    case neg =>
     have h := h.neg hc311
     refine RC.re 6 rfl (congrArg Value.bool (eq_false_of hc311)) ?_
     refine RC.condF rfl ?_
     refine RC.seq ?_
     refine RC.region ?_
     refine RL.s (Vl.move rfl) rfl ?_
     refine RL.s (Vl.bin (v := .bool true) rfl rfl (by kernel_rfl)) rfl ?_
     refine RL.s (Vl.assign rfl) rfl ?_
     refine RL.nil ?_
     refine RQ.then_n ?_
     refine RC.condT rfl ?_
     refine RC.seq ?_
     refine RC.region ?_
     refine RL.s (Vl.assign rfl) rfl ?_
     refine RL.nil ?_
     refine RQ.then_n ?_
     refine RC.ret ?_
     refine RQ.inB_ret ?_
     refine RQ.ret ?_
     have e := h.some
     subst e
     refine RQ.ret0 (vs := [.int .i64 130]) Tryd.results25 ⟨rfl, trivial⟩ ?_
     exact ⟨rfl, hS⟩
  · refine RL.e (OW.callF (ls := [.tmp 4]) rfl Tryd.call44 (code_check.ok a35 A36 c37 hr38 _ hg307 hS)) rfl rfl ?_
    rintro _ w ⟨b314, rfl, hS⟩
    have hS : St B w (Cl b314 [.int .i64 y312, .iface 35 (.int .i64 y313)] 132 :: l) hf := hS
    refine RL.s (Vl.assign rfl) rfl ?_
    refine RL.nil ?_
    refine RQ.then_n ?_
    refine RC.block ?_
    refine RC.seq ?_
    refine RC.region ?_
    refine RL.s (Vl.move rfl) rfl ?_
    refine RL.s (Vl.makeIface Tryd.underlying35 rfl rfl) rfl ?_
    obtain ⟨t316, hg317, h⟩ := h.bind
    refine RL.e (OW.callF (ls := [.tmp 7, .tmp 8]) rfl Tryd.call45 (errors_Is_2.ok y312 y313 2 b314 _ hg317 hS)) rfl rfl ?_
    rintro _ w ⟨rfl, hS⟩
    have hS : St B w (Cl b314 [.int .i64 y312, .iface 35 (.int .i64 y313)] 132 :: l) hf := hS
    refine RL.s (Vl.assign rfl) rfl ?_
    refine RL.nil ?_
    refine RQ.then_n ?_
    by_cases hc318 : t316 = true
    case pos =>
     have h := h.pos hc318
     refine RC.re 6 rfl (congrArg Value.bool (id hc318)) ?_
     refine RC.condT rfl ?_
     refine RC.seq ?_
     refine RC.region ?_
     refine RL.s (Vl.assign rfl) rfl ?_
     refine RL.nil ?_
     refine RQ.then_n ?_
     refine RC.ret ?_
     refine RQ.inB_ret ?_
     refine RQ.ret ?_
     have e := h.some
     subst e
     refine RQ.ret0 (vs := [.int .i64 2]) Tryd.results25 ⟨rfl, trivial⟩ ?_
     exact ⟨rfl, (hS.dropAt 0 rfl)⟩
    case neg =>
     have h := h.neg hc318
     refine RC.re 6 rfl (congrArg Value.bool (eq_false_of hc318)) ?_
     refine RC.condF rfl ?_
     refine RC.seq ?_
     refine RC.region ?_
     refine RL.s (Vl.move rfl) rfl ?_
     refine RL.s (Vl.bin (v := .bool true) rfl rfl (by kernel_rfl)) rfl ?_
     refine RL.s (Vl.assign rfl) rfl ?_
     refine RL.nil ?_
     refine RQ.then_n ?_
     refine RC.condT rfl ?_
     refine RC.seq ?_
     refine RC.region ?_
     refine RL.s (Vl.assign rfl) rfl ?_
     refine RL.nil ?_
     refine RQ.then_n ?_
     refine RC.ret ?_
     refine RQ.inB_ret ?_
     refine RQ.ret ?_
     have e := h.some
     subst e
     refine RQ.ret0 (vs := [.int .i64 130]) Tryd.results25 ⟨rfl, trivial⟩ ?_
     exact ⟨rfl, (hS.dropAt 0 rfl)⟩
  · refine RL.e (OW.callF (ls := [.tmp 4]) rfl Tryd.call44 (code_check.ok a35 A36 c37 hr38 _ hg307 hS)) rfl rfl ?_
    rintro _ w ⟨rfl, hS⟩
    have hS : St B w (l) hf := hS
    refine RL.s (Vl.assign rfl) rfl ?_
    refine RL.nil ?_
    refine RQ.then_n ?_
    refine RC.block ?_
    refine RC.seq ?_
    refine RC.region ?_
    refine RL.s (Vl.move rfl) rfl ?_
    refine RL.s (Vl.makeIface Tryd.underlying35 rfl rfl) rfl ?_
    obtain ⟨t319, hg320, h⟩ := h.bind
    refine RL.e (OW.callF (ls := [.tmp 7, .tmp 8]) rfl Tryd.call45 (errors_Is_3.ok 2 _ hg320 hS)) rfl rfl ?_
    rintro _ w ⟨rfl, hS⟩
    have hS : St B w (l) hf := hS
    refine RL.s (Vl.assign rfl) rfl ?_
    refine RL.nil ?_
    refine RQ.then_n ?_
    by_cases hc321 : t319 = true
    case pos =>
     have h := h.pos hc321
     refine RC.re 6 rfl (congrArg Value.bool (id hc321)) ?_
     refine RC.condT rfl ?_
     refine RC.seq ?_
     refine RC.region ?_
     refine RL.s (Vl.assign rfl) rfl ?_
     refine RL.nil ?_
     refine RQ.then_n ?_
     refine RC.ret ?_
     refine RQ.inB_ret ?_
     refine RQ.ret ?_
     have e := h.some
     subst e
     refine RQ.ret0 (vs := [.int .i64 2]) Tryd.results25 ⟨rfl, trivial⟩ ?_
     exact ⟨rfl, hS⟩
    case neg =>
     have h := h.neg hc321
     refine RC.re 6 rfl (congrArg Value.bool (eq_false_of hc321)) ?_
     refine RC.condF rfl ?_
     refine RC.seq ?_
     refine RC.region ?_
     refine RL.s (Vl.move rfl) rfl ?_
     refine RL.s (Vl.bin (v := .bool false) rfl rfl (by kernel_rfl)) rfl ?_
     refine RL.s (Vl.assign rfl) rfl ?_
     refine RL.nil ?_
     refine RQ.then_n ?_
     refine RC.condF rfl ?_
     refine RC.skip ?_
     refine RQ.inB_n ?_
     refine RQ.then_n ?_
     refine RC.seq ?_
     refine RC.region ?_
     refine RL.s (Vl.assign rfl) rfl ?_
     refine RL.nil ?_
     refine RQ.then_n ?_
     refine RC.ret ?_
     have e := h.some
     subst e
     refine RQ.ret0 (vs := [.int .i64 0]) Tryd.results25 ⟨rfl, trivial⟩ ?_
     exact ⟨rfl, hS⟩

/-! ### isochron/vm.lane: function 26 -/
noncomputable def vm_lane.f (a328 : Int) : Option (Bool) := (if 0 ≤ a328 then some (decide (a328 < 16)) else some false)
set_option maxRecDepth 100000 in
set_option maxHeartbeats 4000000 in
theorem vm_lane.ok {B : Base} {w : World} {l : List HProp} {hf : Hp} (a328 : Int) (r : Bool) (h : vm_lane.f a328 = some r) (hS : St B w (l) hf) :
    Calls Tryd.prog 26 #[.int .i64 a328] w (Ret fun v w => v = .bool r ∧ St B w (l) hf) := by
  have h := Holds.of h
  refine enter (args := [.int .i64 a328]) Tryd.func26 rfl Tryd.ntmps26 (Nat.le_of_ble_eq_true rfl) ?_
  refine RC.seq ?_
  refine RC.region ?_
  refine RL.s (Vl.assign rfl) rfl ?_
  refine RL.nil ?_
  refine RQ.then_n ?_
  refine RC.seq ?_
  refine RC.region ?_
  refine RL.s (Vl.move rfl) rfl ?_
  refine RL.s (Vl.int rfl rfl rfl) rfl ?_
  refine RL.s (Vl.move rfl) rfl ?_
  by_cases hc330 : 0 ≤ a328
  case pos =>
   have h := h.pos hc330
   refine RL.re 5 rfl (congrArg Value.bool (decide_eq_true hc330)) ?_
   refine RL.sg (Vl.move rfl) rfl rfl ?_
   refine RL.sg (Vl.int rfl rfl rfl) rfl rfl ?_
   refine RL.s (Vl.pickT rfl rfl) rfl ?_
   refine RL.s (Vl.assign rfl) rfl ?_
   refine RL.nil ?_
   refine RQ.then_n ?_
   refine RC.ret ?_
   have e := h.some
   subst e
   refine RQ.ret0 (vs := [.bool (decide (a328 < 16))]) Tryd.results26 ⟨rfl, trivial⟩ ?_
   exact ⟨rfl, hS⟩
  case neg =>
   have h := h.neg hc330
   refine RL.re 5 rfl (congrArg Value.bool (decide_eq_false hc330)) ?_
   refine RL.nn rfl rfl ?_
   refine RL.nn rfl rfl ?_
   refine RL.s (Vl.pickF rfl rfl) rfl ?_
   refine RL.s (Vl.assign rfl) rfl ?_
   refine RL.nil ?_
   refine RQ.then_n ?_
   refine RC.ret ?_
   have e := h.some
   subst e
   refine RQ.ret0 (vs := [.bool false]) Tryd.results26 ⟨rfl, trivial⟩ ?_
   exact ⟨rfl, hS⟩

/-! ### isochron/vtime.Valid: function 27 -/
noncomputable def vtime_Valid.f (a347 : Int) : Option (Bool) := (if 0 ≤ a347 then some (decide (a347 ≤ 4611686018427387903)) else some false)
set_option maxRecDepth 100000 in
set_option maxHeartbeats 4000000 in
theorem vtime_Valid.ok {B : Base} {w : World} {l : List HProp} {hf : Hp} (a347 : Int) (r : Bool) (h : vtime_Valid.f a347 = some r) (hS : St B w (l) hf) :
    Calls Tryd.prog 27 #[.int .i64 a347] w (Ret fun v w => v = .bool r ∧ St B w (l) hf) := by
  have h := Holds.of h
  refine enter (args := [.int .i64 a347]) Tryd.func27 rfl Tryd.ntmps27 (Nat.le_of_ble_eq_true rfl) ?_
  refine RC.seq ?_
  refine RC.region ?_
  refine RL.s (Vl.assign rfl) rfl ?_
  refine RL.nil ?_
  refine RQ.then_n ?_
  refine RC.seq ?_
  refine RC.region ?_
  refine RL.s (Vl.move rfl) rfl ?_
  refine RL.s (Vl.int rfl rfl rfl) rfl ?_
  refine RL.s (Vl.move rfl) rfl ?_
  by_cases hc349 : 0 ≤ a347
  case pos =>
   have h := h.pos hc349
   refine RL.re 5 rfl (congrArg Value.bool (decide_eq_true hc349)) ?_
   refine RL.sg (Vl.move rfl) rfl rfl ?_
   refine RL.sg (Vl.int rfl rfl rfl) rfl rfl ?_
   refine RL.s (Vl.pickT rfl rfl) rfl ?_
   refine RL.s (Vl.assign rfl) rfl ?_
   refine RL.nil ?_
   refine RQ.then_n ?_
   refine RC.ret ?_
   have e := h.some
   subst e
   refine RQ.ret0 (vs := [.bool (decide (a347 ≤ 4611686018427387903))]) Tryd.results27 ⟨rfl, trivial⟩ ?_
   exact ⟨rfl, hS⟩
  case neg =>
   have h := h.neg hc349
   refine RL.re 5 rfl (congrArg Value.bool (decide_eq_false hc349)) ?_
   refine RL.nn rfl rfl ?_
   refine RL.nn rfl rfl ?_
   refine RL.s (Vl.pickF rfl rfl) rfl ?_
   refine RL.s (Vl.assign rfl) rfl ?_
   refine RL.nil ?_
   refine RQ.then_n ?_
   refine RC.ret ?_
   have e := h.some
   subst e
   refine RQ.ret0 (vs := [.bool false]) Tryd.results27 ⟨rfl, trivial⟩ ?_
   exact ⟨rfl, hS⟩

/-! ### isochron/vm.Check: function 15 -/
noncomputable def vm_Check.l2b (a26 : api_World) : Int → Option ((Int) ⊕ (Int))
  | (x447) => (if x447 < (a26.Links.length : Int) then (if 0 ≤ x447 then ((vm_lane.f ((nth a26.Links x447).To)).bind fun t487 => (if t487 = true then (if (nth a26.Links x447).Look < 1 then some (.inr 1) else ((vtime_Valid.f ((nth a26.Links x447).Look)).bind fun t491 => (if t491 = true then some (.inl (IntKind.i64.wrap (x447 + 1))) else some (.inr 1)))) else some (.inr 1))) else none) else some (.inr 0))
noncomputable def vm_Check.l2 (a26 : api_World) (s : Int) : Option (Int) := loopR (vm_Check.l2b a26) s
noncomputable def vm_Check.f (a26 : api_World) : Option (Int) := ((code_Check.f a26.Prog).bind fun t415 => (if t415 = 0 then ((vm_lane.f a26.Self).bind fun t422 => (if t422 = true then (if 1024 < (a26.Links.length : Int) then some 1 else vm_Check.l2 a26 (0)) else some 1)) else some t415))
set_option maxRecDepth 100000 in
set_option maxHeartbeats 4000000 in
theorem vm_Check.ok {B : Base} {w : World} {l : List HProp} {hf : Hp} (a26 : api_World) (A27 : Option Addr) (c28 : Nat) (A30 : Option Addr) (c31 : Nat) (hr29 : SlR E_api_Instr.rep hf A27 c28 a26.Prog) (hr32 : SlR E_api_Link.rep hf A30 c31 a26.Links) (r : Int) (h : vm_Check.f a26 = some r) (hS : St B w (l) hf) :
    Calls Tryd.prog 15 #[.agg #[.slice A27 a26.Prog.length c28, .int .i64 a26.Self, .slice A30 a26.Links.length c31, .int .u64 a26.Seed]] w (Ret fun v w => v = .int .i64 r ∧ St B w (l) hf) := by
  have h := Holds.of h
  refine enter (args := [.agg #[.slice A27 a26.Prog.length c28, .int .i64 a26.Self, .slice A30 a26.Links.length c31, .int .u64 a26.Seed]]) Tryd.func15 rfl Tryd.ntmps15 (Nat.le_of_ble_eq_true rfl) ?_
  refine RC.seq ?_
  refine RC.region ?_
  refine RL.e (OW.box (cs := [.slice A27 a26.Prog.length c28, .int .i64 a26.Self, .slice A30 a26.Links.length c31, .int .u64 a26.Seed]) hS rfl rfl) rfl rfl ?_
  rintro _ w ⟨b411, rfl, hS⟩
  have hS : St B w (Cl b411 [.slice A27 a26.Prog.length c28, .int .i64 a26.Self, .slice A30 a26.Links.length c31, .int .u64 a26.Seed] 26 :: l) hf := hS
  refine RL.s (Vl.assign rfl) rfl ?_
  refine RL.nil ?_
  refine RQ.then_n ?_
  refine RC.seq ?_
  refine RC.seq ?_
  refine RC.region ?_
  refine RL.s (Vl.fieldAddr (a'' := ⟨b411, 0, none⟩) Tryd.underlying26 rfl Tryd.sizeOf22 rfl rfl) rfl ?_
  refine RL.s (Vl.load Tryd.isAgg22 rfl (hS.cell 0 rfl rfl)) rfl ?_
  obtain ⟨t415, hg416, h⟩ := h.bind
  refine RL.e (OW.callF (ls := [.tmp 7]) rfl Tryd.call25 (code_Check.ok a26.Prog A27 c28 hr29 _ hg416 hS)) rfl rfl ?_
  rintro _ w ⟨rfl, hS⟩
  have hS : St B w (Cl b411 [.slice A27 a26.Prog.length c28, .int .i64 a26.Self, .slice A30 a26.Links.length c31, .int .u64 a26.Seed] 26 :: l) hf := hS
  refine RL.s (Vl.assign rfl) rfl ?_
  refine RL.nil ?_
  refine RQ.then_n ?_
  refine RC.seq ?_
  refine RC.region ?_
  refine RL.s (Vl.move rfl) rfl ?_
  refine RL.s (Vl.int rfl rfl rfl) rfl ?_
  refine RL.nil ?_
  refine RQ.then_n ?_
  by_cases hc417 : t415 = 0
  case pos =>
   have h := h.pos hc417
   refine RC.re 10 rfl (congrArg Value.bool (notdec_pos hc417)) ?_
   refine RC.condF rfl ?_
   refine RC.skip ?_
   refine RQ.then_n ?_
   refine RC.seq ?_
   refine RC.seq ?_
   refine RC.region ?_
   refine RL.s (Vl.fieldAddr (a'' := ⟨b411, 1, none⟩) Tryd.underlying26 rfl Tryd.sizeOf3 rfl rfl) rfl ?_
   refine RL.s (Vl.load Tryd.isAgg3 rfl (hS.cell 0 rfl rfl)) rfl ?_
   obtain ⟨t422, hg423, h⟩ := h.bind
   refine RL.e (OW.callF (ls := [.tmp 13]) rfl Tryd.call26 (vm_lane.ok a26.Self _ hg423 hS)) rfl rfl ?_
   rintro _ w ⟨rfl, hS⟩
   have hS : St B w (Cl b411 [.slice A27 a26.Prog.length c28, .int .i64 a26.Self, .slice A30 a26.Links.length c31, .int .u64 a26.Seed] 26 :: l) hf := hS
   refine RL.s (Vl.not rfl) rfl ?_
   refine RL.s (Vl.move rfl) rfl ?_
   by_cases hc424 : t422 = true
   case pos =>
    have h := h.pos hc424
    refine RL.re 16 rfl (congrArg Value.bool (notb_pos hc424)) ?_
    refine RL.sg (Vl.fieldAddr (a'' := ⟨b411, 2, none⟩) Tryd.underlying26 rfl Tryd.sizeOf23 rfl rfl) rfl rfl ?_
    refine RL.sg (Vl.load Tryd.isAgg23 rfl (hS.cell 0 rfl rfl)) rfl rfl ?_
    refine RL.sg (Vl.lenSl Tryd.underlying23 rfl) rfl rfl ?_
    refine RL.sg (Vl.int rfl rfl rfl) rfl rfl ?_
    refine RL.s (Vl.pickF rfl rfl) rfl ?_
    refine RL.nil ?_
    refine RQ.then_n ?_
    by_cases hc425 : 1024 < (a26.Links.length : Int)
    case pos =>
     have h := h.pos hc425
     refine RC.re 21 rfl (congrArg Value.bool (decide_eq_true hc425)) ?_
     refine RC.condT rfl ?_
     refine RC.seq ?_
     refine RC.region ?_
     refine RL.s (Vl.assign rfl) rfl ?_
     refine RL.nil ?_
     refine RQ.then_n ?_
     refine RC.ret ?_
     refine RQ.ret ?_
     have e := h.some
     subst e
     refine RQ.ret0 (vs := [.int .i64 1]) Tryd.results15 ⟨rfl, trivial⟩ ?_
     exact ⟨rfl, (hS.dropAt 0 rfl)⟩
    case neg =>
     have h := h.neg hc425
     refine RC.re 21 rfl (congrArg Value.bool (decide_eq_false hc425)) ?_
     refine RC.condF rfl ?_
     refine RC.skip ?_
     refine RQ.then_n ?_
     refine RC.seq ?_
     refine RC.seq ?_
     refine RC.region ?_
     refine RL.s (Vl.fieldAddr (a'' := ⟨b411, 2, none⟩) Tryd.underlying26 rfl Tryd.sizeOf23 rfl rfl) rfl ?_
     refine RL.s (Vl.load Tryd.isAgg23 rfl (hS.cell 0 rfl rfl)) rfl ?_
     refine RL.s (Vl.lenSl Tryd.underlying23 rfl) rfl ?_
     refine RL.s (Vl.move rfl) rfl ?_
     refine RL.nil ?_
     refine RQ.then_n ?_
     refine RC.block ?_
     refine fun a ha => RC.loop (N := 45) (body := (vm_Check.l2b a26)) (φ := (· = r)) (fun (s : Int) a w => ∃ (x447 : Int), s = (x447) ∧ Has 45 [(23, .slice A30 a26.Links.length c31), (24, .int .i64 (a26.Links.length : Int)), (25, .int .i64 x447)] a ∧ St B w (l) hf) ?_ (s0 := (0)) h ⟨0, rfl, ha.to ⟨rfl, rfl, rfl, trivial⟩, (hS.dropAt 0 rfl)⟩
     rintro G471 x447 a w ⟨_, rfl, ha, hS⟩ h
     revert a
     show RC _ _ _ _ _ _
     refine RC.seq ?_
     refine RC.region ?_
     refine RL.s (Vl.int rfl rfl rfl) rfl ?_
     refine RL.nil ?_
     refine RQ.then_n ?_
     refine RC.seq ?_
     by_cases hc473 : x447 < (a26.Links.length : Int)
     case pos =>
      have h := h.pos hc473
      refine RC.re 26 rfl (congrArg Value.bool (decide_eq_true hc473)) ?_
      refine RC.condT rfl ?_
      refine RC.skip ?_
      refine RQ.then_n ?_
      refine RC.seq ?_
      refine RC.block ?_
      refine RC.seq ?_
      refine RC.region ?_
      obtain ⟨hq484, h⟩ := h.req
      refine RL.s (Vl.indexAddr Tryd.underlying23 Tryd.sizeOf56 rfl rfl ((hr32.2.world hS.sub).adr hq484 hc473) hq484 hc473 rfl) rfl ?_
      refine RL.s (Vl.loadA Tryd.isAgg56 Tryd.sizeOf56 rfl rfl ((hr32.2.world hS.sub).cells hq484 hc473)) rfl ?_
      refine RL.e (OW.alloc (cs := [.int .i64 0, .int .i64 0, .int .i64 0, .bool false]) hS Tryd.zeroValue56 rfl) rfl rfl ?_
      rintro _ w ⟨b486, rfl, hS⟩
      have hS : St B w (Cl b486 [.int .i64 0, .int .i64 0, .int .i64 0, .bool false] 56 :: l) hf := hS
      refine RL.e0 (OW.store (cs := [.int .i64 0, .int .i64 0, .int .i64 0, .bool false]) (vs := [.int .i64 ((nth a26.Links x447).From), .int .i64 ((nth a26.Links x447).To), .int .i64 ((nth a26.Links x447).Look), .bool ((nth a26.Links x447).Loose)]) (l' := Cl b486 [.int .i64 ((nth a26.Links x447).From), .int .i64 ((nth a26.Links x447).To), .int .i64 ((nth a26.Links x447).Look), .bool ((nth a26.Links x447).Loose)] 56 :: l) 0 hS rfl rfl rfl rfl Tryd.sizeOf56 rfl rfl rfl rfl) rfl ?_
      rintro _ w ⟨rfl, hS⟩
      have hS : St B w (Cl b486 [.int .i64 ((nth a26.Links x447).From), .int .i64 ((nth a26.Links x447).To), .int .i64 ((nth a26.Links x447).Look), .bool ((nth a26.Links x447).Loose)] 56 :: l) hf := hS
      refine RL.nil ?_
      refine RQ.then_n ?_
      refine RC.seq ?_
      refine RC.region ?_
      refine RL.s (Vl.fieldAddr (a'' := ⟨b486, 1, none⟩) Tryd.underlying56 rfl Tryd.sizeOf3 rfl rfl) rfl ?_
      refine RL.s (Vl.load Tryd.isAgg3 rfl (hS.cell 0 rfl rfl)) rfl ?_
      obtain ⟨t487, hg488, h⟩ := h.bind
      refine RL.e (OW.callF (ls := [.tmp 30]) rfl Tryd.call26 (vm_lane.ok ((nth a26.Links x447).To) _ hg488 hS)) rfl rfl ?_
      rintro _ w ⟨rfl, hS⟩
      have hS : St B w (Cl b486 [.int .i64 ((nth a26.Links x447).From), .int .i64 ((nth a26.Links x447).To), .int .i64 ((nth a26.Links x447).Look), .bool ((nth a26.Links x447).Loose)] 56 :: l) hf := hS
      refine RL.s (Vl.not rfl) rfl ?_
      refine RL.s (Vl.move rfl) rfl ?_
      by_cases hc489 : t487 = true
      case pos =>
       have h := h.pos hc489
       refine RL.re 33 rfl (congrArg Value.bool (notb_pos hc489)) ?_
       refine RL.sg (Vl.fieldAddr (a'' := ⟨b486, 2, none⟩) Tryd.underlying56 rfl Tryd.sizeOf2 rfl rfl) rfl rfl ?_
       refine RL.sg (Vl.load Tryd.isAgg2 rfl (hS.cell 0 rfl rfl)) rfl rfl ?_
       refine RL.sg (Vl.int rfl rfl rfl) rfl rfl ?_
       refine RL.s (Vl.pickF rfl rfl) rfl ?_
       refine RL.s (Vl.move rfl) rfl ?_
       by_cases hc490 : (nth a26.Links x447).Look < 1
       case pos =>
        have h := h.pos hc490
        refine RL.re 38 rfl (congrArg Value.bool (decide_eq_true hc490)) ?_
        refine RL.nn rfl rfl ?_
        refine RL.nn rfl rfl ?_
        refine RL.nn rfl rfl ?_
        refine RL.nn rfl rfl ?_
        refine RL.s (Vl.pickT rfl rfl) rfl ?_
        refine RL.nil ?_
        refine RQ.then_n ?_
        refine RC.condT rfl ?_
        refine RC.seq ?_
        refine RC.region ?_
        refine RL.s (Vl.assign rfl) rfl ?_
        refine RL.nil ?_
        refine RQ.then_n ?_
        refine RC.ret ?_
        refine RQ.inB_ret ?_
        refine RQ.ret ?_
        have h := h.inrS
        refine RQ.ret ?_
        refine RQ.inB_ret ?_
        refine RQ.ret ?_
        have e := h.some
        subst e
        refine RQ.ret0 (vs := [.int .i64 1]) Tryd.results15 ⟨rfl, trivial⟩ ?_
        exact ⟨rfl, (hS.dropAt 0 rfl)⟩
       case neg =>
        have h := h.neg hc490
        refine RL.re 38 rfl (congrArg Value.bool (decide_eq_false hc490)) ?_
        refine RL.sg (Vl.fieldAddr (a'' := ⟨b486, 2, none⟩) Tryd.underlying56 rfl Tryd.sizeOf2 rfl rfl) rfl rfl ?_
        refine RL.sg (Vl.load Tryd.isAgg2 rfl (hS.cell 0 rfl rfl)) rfl rfl ?_
        obtain ⟨t491, hg492, h⟩ := h.bind
        refine RL.e (OW.callF (ls := [.tmp 40]) rfl Tryd.call27 (vtime_Valid.ok ((nth a26.Links x447).Look) _ hg492 hS)) rfl rfl ?_
        rintro _ w ⟨rfl, hS⟩
        have hS : St B w (Cl b486 [.int .i64 ((nth a26.Links x447).From), .int .i64 ((nth a26.Links x447).To), .int .i64 ((nth a26.Links x447).Look), .bool ((nth a26.Links x447).Loose)] 56 :: l) hf := hS
        refine RL.sg (Vl.not rfl) rfl rfl ?_
        refine RL.s (Vl.pickF rfl rfl) rfl ?_
        refine RL.nil ?_
        refine RQ.then_n ?_
        by_cases hc493 : t491 = true
        case pos =>
         have h := h.pos hc493
         refine RC.re 43 rfl (congrArg Value.bool (notb_pos hc493)) ?_
         refine RC.condF rfl ?_
         refine RC.skip ?_
         refine RQ.inB_n ?_
         refine RQ.then_n ?_
         refine RC.region ?_
         refine RL.s (Vl.int rfl rfl rfl) rfl ?_
         refine RL.s (Vl.move rfl) rfl ?_
         refine RL.nil ?_
         exact fun a ha => ⟨(IntKind.i64.wrap (x447 + 1)), ⟨(IntKind.i64.wrap (x447 + 1)), rfl, ha.to ⟨rfl, rfl, rfl, trivial⟩, (hS.dropAt 0 rfl)⟩, h.some⟩
        case neg =>
         have h := h.neg hc493
         refine RC.re 43 rfl (congrArg Value.bool (notb_neg hc493)) ?_
         refine RC.condT rfl ?_
         refine RC.seq ?_
         refine RC.region ?_
         refine RL.s (Vl.assign rfl) rfl ?_
         refine RL.nil ?_
         refine RQ.then_n ?_
         refine RC.ret ?_
         refine RQ.inB_ret ?_
         refine RQ.ret ?_
         have h := h.inrS
         refine RQ.ret ?_
         refine RQ.inB_ret ?_
         refine RQ.ret ?_
         have e := h.some
         subst e
         refine RQ.ret0 (vs := [.int .i64 1]) Tryd.results15 ⟨rfl, trivial⟩ ?_
         exact ⟨rfl, (hS.dropAt 0 rfl)⟩
      case neg =>
       have h := h.neg hc489
       refine RL.re 33 rfl (congrArg Value.bool (notb_neg hc489)) ?_
       refine RL.nn rfl rfl ?_
       refine RL.nn rfl rfl ?_
       refine RL.nn rfl rfl ?_
       refine RL.s (Vl.pickT rfl rfl) rfl ?_
       refine RL.s (Vl.move rfl) rfl ?_
       refine RL.nn rfl rfl ?_
       refine RL.nn rfl rfl ?_
       refine RL.nn rfl rfl ?_
       refine RL.nn rfl rfl ?_
       refine RL.s (Vl.pickT rfl rfl) rfl ?_
       refine RL.nil ?_
       refine RQ.then_n ?_
       refine RC.condT rfl ?_
       refine RC.seq ?_
       refine RC.region ?_
       refine RL.s (Vl.assign rfl) rfl ?_
       refine RL.nil ?_
       refine RQ.then_n ?_
       refine RC.ret ?_
       refine RQ.inB_ret ?_
       refine RQ.ret ?_
       have h := h.inrS
       refine RQ.ret ?_
       refine RQ.inB_ret ?_
       refine RQ.ret ?_
       have e := h.some
       subst e
       refine RQ.ret0 (vs := [.int .i64 1]) Tryd.results15 ⟨rfl, trivial⟩ ?_
       exact ⟨rfl, (hS.dropAt 0 rfl)⟩
     case neg =>
      have h := h.neg hc473
      refine RC.re 26 rfl (congrArg Value.bool (decide_eq_false hc473)) ?_
      refine RC.condF rfl ?_
      refine RC.exit ?_
      refine RQ.exitT ?_
      have h := h.inrS
      refine RQ.exitT ?_
      refine RQ.inB_hit ?_
      refine RQ.then_n ?_
      refine RC.seq ?_
      refine RC.region ?_
      refine RL.s (Vl.assign rfl) rfl ?_
      refine RL.nil ?_
      refine RQ.then_n ?_
      refine RC.ret ?_
      have e := h.some
      subst e
      refine RQ.ret0 (vs := [.int .i64 0]) Tryd.results15 ⟨rfl, trivial⟩ ?_
      exact ⟨rfl, hS⟩
   case neg =>
    have h := h.neg hc424
    refine RL.re 16 rfl (congrArg Value.bool (notb_neg hc424)) ?_
    refine RL.nn rfl rfl ?_
    refine RL.nn rfl rfl ?_
    refine RL.nn rfl rfl ?_
    refine RL.nn rfl rfl ?_
    refine RL.s (Vl.pickT rfl rfl) rfl ?_
    refine RL.nil ?_
    refine RQ.then_n ?_
    refine RC.condT rfl ?_
    refine RC.seq ?_
    refine RC.region ?_
    refine RL.s (Vl.assign rfl) rfl ?_
    refine RL.nil ?_
    refine RQ.then_n ?_
    refine RC.ret ?_
    refine RQ.ret ?_
    have e := h.some
    subst e
    refine RQ.ret0 (vs := [.int .i64 1]) Tryd.results15 ⟨rfl, trivial⟩ ?_
    exact ⟨rfl, (hS.dropAt 0 rfl)⟩
  case neg =>
   have h := h.neg hc417
   refine RC.re 10 rfl (congrArg Value.bool (notdec_neg hc417)) ?_
   refine RC.condT rfl ?_
   refine RC.seq ?_
   refine RC.region ?_
   refine RL.s (Vl.move rfl) rfl ?_
   refine RL.s (Vl.assign rfl) rfl ?_
   refine RL.nil ?_
   refine RQ.then_n ?_
   refine RC.ret ?_
   refine RQ.ret ?_
   have e := h.some
   subst e
   refine RQ.ret0 (vs := [.int .i64 t415]) Tryd.results15 ⟨rfl, trivial⟩ ?_
   exact ⟨rfl, (hS.dropAt 0 rfl)⟩

/-! ### isochron/event.lane: function 29 -/
noncomputable def event_lane.f (a506 : Int) : Option (Bool) := (if 0 ≤ a506 then some (decide (a506 < 16)) else some false)
set_option maxRecDepth 100000 in
set_option maxHeartbeats 4000000 in
theorem event_lane.ok {B : Base} {w : World} {l : List HProp} {hf : Hp} (a506 : Int) (r : Bool) (h : event_lane.f a506 = some r) (hS : St B w (l) hf) :
    Calls Tryd.prog 29 #[.int .i64 a506] w (Ret fun v w => v = .bool r ∧ St B w (l) hf) := by
  have h := Holds.of h
  refine enter (args := [.int .i64 a506]) Tryd.func29 rfl Tryd.ntmps29 (Nat.le_of_ble_eq_true rfl) ?_
  refine RC.seq ?_
  refine RC.region ?_
  refine RL.s (Vl.assign rfl) rfl ?_
  refine RL.nil ?_
  refine RQ.then_n ?_
  refine RC.seq ?_
  refine RC.region ?_
  refine RL.s (Vl.move rfl) rfl ?_
  refine RL.s (Vl.int rfl rfl rfl) rfl ?_
  refine RL.s (Vl.move rfl) rfl ?_
  by_cases hc508 : 0 ≤ a506
  case pos =>
   have h := h.pos hc508
   refine RL.re 5 rfl (congrArg Value.bool (decide_eq_true hc508)) ?_
   refine RL.sg (Vl.move rfl) rfl rfl ?_
   refine RL.sg (Vl.int rfl rfl rfl) rfl rfl ?_
   refine RL.s (Vl.pickT rfl rfl) rfl ?_
   refine RL.s (Vl.assign rfl) rfl ?_
   refine RL.nil ?_
   refine RQ.then_n ?_
   refine RC.ret ?_
   have e := h.some
   subst e
   refine RQ.ret0 (vs := [.bool (decide (a506 < 16))]) Tryd.results29 ⟨rfl, trivial⟩ ?_
   exact ⟨rfl, hS⟩
  case neg =>
   have h := h.neg hc508
   refine RL.re 5 rfl (congrArg Value.bool (decide_eq_false hc508)) ?_
   refine RL.nn rfl rfl ?_
   refine RL.nn rfl rfl ?_
   refine RL.s (Vl.pickF rfl rfl) rfl ?_
   refine RL.s (Vl.assign rfl) rfl ?_
   refine RL.nil ?_
   refine RQ.then_n ?_
   refine RC.ret ?_
   have e := h.some
   subst e
   refine RQ.ret0 (vs := [.bool false]) Tryd.results29 ⟨rfl, trivial⟩ ?_
   exact ⟨rfl, hS⟩

/-! ### isochron/event.Check: function 17 -/
noncomputable def event_Check.f (a500 : api_Message) : Option (Int) := ((vtime_Valid.f a500.Key.Time).bind fun t523 => (if t523 = true then ((event_lane.f a500.Key.From).bind fun t526 => (if t526 = true then ((event_lane.f a500.To).bind fun t529 => (if t529 = true then (if 0 ≤ (if a500.Uid < a500.Key.Seq then a500.Uid else a500.Key.Seq) then some 0 else some 1) else some 1)) else (if a500.Key.From = (-1) then ((event_lane.f a500.To).bind fun t534 => (if t534 = true then (if 0 ≤ (if a500.Uid < a500.Key.Seq then a500.Uid else a500.Key.Seq) then some 0 else some 1) else some 1)) else some 1))) else some 1))
set_option maxRecDepth 100000 in
set_option maxHeartbeats 4000000 in
theorem event_Check.ok {B : Base} {w : World} {l : List HProp} {hf : Hp} (a500 : api_Message) (r : Int) (h : event_Check.f a500 = some r) (hS : St B w (l) hf) :
    Calls Tryd.prog 17 #[.agg #[.int .i64 a500.Key.Time, .int .i64 a500.Key.From, .int .i64 a500.Key.Seq, .int .i64 a500.To, .int .i64 a500.Value, .int .i64 a500.Uid, .bool a500.Anti]] w (Ret fun v w => v = .int .i64 r ∧ St B w (l) hf) := by
  have h := Holds.of h
  refine enter (args := [.agg #[.int .i64 a500.Key.Time, .int .i64 a500.Key.From, .int .i64 a500.Key.Seq, .int .i64 a500.To, .int .i64 a500.Value, .int .i64 a500.Uid, .bool a500.Anti]]) Tryd.func17 rfl Tryd.ntmps17 (Nat.le_of_ble_eq_true rfl) ?_
  refine RC.seq ?_
  refine RC.region ?_
  refine RL.e (OW.box (cs := [.int .i64 a500.Key.Time, .int .i64 a500.Key.From, .int .i64 a500.Key.Seq, .int .i64 a500.To, .int .i64 a500.Value, .int .i64 a500.Uid, .bool a500.Anti]) hS rfl rfl) rfl rfl ?_
  rintro _ w ⟨b522, rfl, hS⟩
  have hS : St B w (Cl b522 [.int .i64 a500.Key.Time, .int .i64 a500.Key.From, .int .i64 a500.Key.Seq, .int .i64 a500.To, .int .i64 a500.Value, .int .i64 a500.Uid, .bool a500.Anti] 33 :: l) hf := hS
  refine RL.s (Vl.assign rfl) rfl ?_
  refine RL.nil ?_
  refine RQ.then_n ?_
  refine RC.seq ?_
  refine RC.seq ?_
  refine RC.region ?_
  refine RL.s (Vl.fieldAddr (a'' := ⟨b522, 0, none⟩) Tryd.underlying33 rfl Tryd.sizeOf31 rfl rfl) rfl ?_
  refine RL.s (Vl.fieldAddr (a'' := ⟨b522, 0, none⟩) Tryd.underlying31 rfl Tryd.sizeOf2 rfl rfl) rfl ?_
  refine RL.s (Vl.load Tryd.isAgg2 rfl (hS.cell 0 rfl rfl)) rfl ?_
  obtain ⟨t523, hg524, h⟩ := h.bind
  refine RL.e (OW.callF (ls := [.tmp 5]) rfl Tryd.call27 (vtime_Valid.ok a500.Key.Time _ hg524 hS)) rfl rfl ?_
  rintro _ w ⟨rfl, hS⟩
  have hS : St B w (Cl b522 [.int .i64 a500.Key.Time, .int .i64 a500.Key.From, .int .i64 a500.Key.Seq, .int .i64 a500.To, .int .i64 a500.Value, .int .i64 a500.Uid, .bool a500.Anti] 33 :: l) hf := hS
  refine RL.s (Vl.move rfl) rfl ?_
  by_cases hc525 : t523 = true
  case pos =>
   have h := h.pos hc525
   refine RL.re 7 rfl (congrArg Value.bool (id hc525)) ?_
   refine RL.sg (Vl.fieldAddr (a'' := ⟨b522, 0, none⟩) Tryd.underlying33 rfl Tryd.sizeOf31 rfl rfl) rfl rfl ?_
   refine RL.sg (Vl.fieldAddr (a'' := ⟨b522, 1, none⟩) Tryd.underlying31 rfl Tryd.sizeOf3 rfl rfl) rfl rfl ?_
   refine RL.sg (Vl.load Tryd.isAgg3 rfl (hS.cell 0 rfl rfl)) rfl rfl ?_
   obtain ⟨t526, hg527, h⟩ := h.bind
   refine RL.e (OW.callF (ls := [.tmp 10]) rfl Tryd.call29 (event_lane.ok a500.Key.From _ hg527 hS)) rfl rfl ?_
   rintro _ w ⟨rfl, hS⟩
   have hS : St B w (Cl b522 [.int .i64 a500.Key.Time, .int .i64 a500.Key.From, .int .i64 a500.Key.Seq, .int .i64 a500.To, .int .i64 a500.Value, .int .i64 a500.Uid, .bool a500.Anti] 33 :: l) hf := hS
   refine RL.sg (Vl.move rfl) rfl rfl ?_
   by_cases hc528 : t526 = true
   case pos =>
    have h := h.pos hc528
    refine RL.re 12 rfl (congrArg Value.bool (id hc528)) ?_
    refine RL.nn rfl rfl ?_
    refine RL.nn rfl rfl ?_
    refine RL.nn rfl rfl ?_
    refine RL.nn rfl rfl ?_
    refine RL.sg (Vl.pickT rfl rfl) rfl rfl ?_
    refine RL.s (Vl.pickT rfl rfl) rfl ?_
    refine RL.s (Vl.move rfl) rfl ?_
    refine RL.sg (Vl.fieldAddr (a'' := ⟨b522, 3, none⟩) Tryd.underlying33 rfl Tryd.sizeOf3 rfl rfl) rfl rfl ?_
    refine RL.sg (Vl.load Tryd.isAgg3 rfl (hS.cell 0 rfl rfl)) rfl rfl ?_
    obtain ⟨t529, hg530, h⟩ := h.bind
    refine RL.e (OW.callF (ls := [.tmp 21]) rfl Tryd.call29 (event_lane.ok a500.To _ hg530 hS)) rfl rfl ?_
    rintro _ w ⟨rfl, hS⟩
    have hS : St B w (Cl b522 [.int .i64 a500.Key.Time, .int .i64 a500.Key.From, .int .i64 a500.Key.Seq, .int .i64 a500.To, .int .i64 a500.Value, .int .i64 a500.Uid, .bool a500.Anti] 33 :: l) hf := hS
    refine RL.s (Vl.pickT rfl rfl) rfl ?_
    refine RL.s (Vl.move rfl) rfl ?_
    by_cases hc531 : t529 = true
    case pos =>
     have h := h.pos hc531
     refine RL.re 24 rfl (congrArg Value.bool (id hc531)) ?_
     refine RL.sg (Vl.fieldAddr (a'' := ⟨b522, 0, none⟩) Tryd.underlying33 rfl Tryd.sizeOf31 rfl rfl) rfl rfl ?_
     refine RL.sg (Vl.fieldAddr (a'' := ⟨b522, 2, none⟩) Tryd.underlying31 rfl Tryd.sizeOf3 rfl rfl) rfl rfl ?_
     refine RL.sg (Vl.load Tryd.isAgg3 rfl (hS.cell 0 rfl rfl)) rfl rfl ?_
     refine RL.sg (Vl.fieldAddr (a'' := ⟨b522, 5, none⟩) Tryd.underlying33 rfl Tryd.sizeOf3 rfl rfl) rfl rfl ?_
     refine RL.sg (Vl.load Tryd.isAgg3 rfl (hS.cell 0 rfl rfl)) rfl rfl ?_
     refine RL.sg (Vl.min2 rfl rfl) rfl rfl ?_
     refine RL.sg (Vl.int rfl rfl rfl) rfl rfl ?_
     refine RL.s (Vl.pickT rfl rfl) rfl ?_
     refine RL.nil ?_
     refine RQ.then_n ?_
     by_cases hc532 : 0 ≤ (if a500.Uid < a500.Key.Seq then a500.Uid else a500.Key.Seq)
     case pos =>
      have h := h.pos hc532
      refine RC.re 32 rfl (congrArg Value.bool (decide_eq_true hc532)) ?_
      refine RC.condT rfl ?_
      refine RC.seq ?_
      refine RC.region ?_
      refine RL.s (Vl.assign rfl) rfl ?_
      refine RL.nil ?_
      refine RQ.then_n ?_
      refine RC.ret ?_
      refine RQ.ret ?_
      have e := h.some
      subst e
      refine RQ.ret0 (vs := [.int .i64 0]) Tryd.results17 ⟨rfl, trivial⟩ ?_
      exact ⟨rfl, (hS.dropAt 0 rfl)⟩
     case neg =>
      have h := h.neg hc532
      refine RC.re 32 rfl (congrArg Value.bool (decide_eq_false hc532)) ?_
      refine RC.condF rfl ?_
      refine RC.skip ?_
      refine RQ.then_n ?_
      refine RC.seq ?_
      refine RC.region ?_
      refine RL.s (Vl.assign rfl) rfl ?_
      refine RL.nil ?_
      refine RQ.then_n ?_
      refine RC.ret ?_
      have e := h.some
      subst e
      refine RQ.ret0 (vs := [.int .i64 1]) Tryd.results17 ⟨rfl, trivial⟩ ?_
      exact ⟨rfl, (hS.dropAt 0 rfl)⟩
    case neg =>
     have h := h.neg hc531
     refine RL.re 24 rfl (congrArg Value.bool (eq_false_of hc531)) ?_
     refine RL.nn rfl rfl ?_
     refine RL.nn rfl rfl ?_
     refine RL.nn rfl rfl ?_
     refine RL.nn rfl rfl ?_
     refine RL.nn rfl rfl ?_
     refine RL.nn rfl rfl ?_
     refine RL.nn rfl rfl ?_
     refine RL.s (Vl.pickF rfl rfl) rfl ?_
     refine RL.nil ?_
     refine RQ.then_n ?_
     refine RC.condF rfl ?_
     refine RC.skip ?_
     refine RQ.then_n ?_
     refine RC.seq ?_
     refine RC.region ?_
     refine RL.s (Vl.assign rfl) rfl ?_
     refine RL.nil ?_
     refine RQ.then_n ?_
     refine RC.ret ?_
     have e := h.some
     subst e
     refine RQ.ret0 (vs := [.int .i64 1]) Tryd.results17 ⟨rfl, trivial⟩ ?_
     exact ⟨rfl, (hS.dropAt 0 rfl)⟩
   case neg =>
    have h := h.neg hc528
    refine RL.re 12 rfl (congrArg Value.bool (eq_false_of hc528)) ?_
    refine RL.sg (Vl.fieldAddr (a'' := ⟨b522, 0, none⟩) Tryd.underlying33 rfl Tryd.sizeOf31 rfl rfl) rfl rfl ?_
    refine RL.sg (Vl.fieldAddr (a'' := ⟨b522, 1, none⟩) Tryd.underlying31 rfl Tryd.sizeOf3 rfl rfl) rfl rfl ?_
    refine RL.sg (Vl.load Tryd.isAgg3 rfl (hS.cell 0 rfl rfl)) rfl rfl ?_
    refine RL.sg (Vl.int rfl rfl rfl) rfl rfl ?_
    refine RL.sg (Vl.pickF rfl rfl) rfl rfl ?_
    refine RL.s (Vl.pickT rfl rfl) rfl ?_
    refine RL.s (Vl.move rfl) rfl ?_
    by_cases hc533 : a500.Key.From = (-1)
    case pos =>
     have h := h.pos hc533
     refine RL.re 19 rfl (congrArg Value.bool (decide_eq_true hc533)) ?_
     refine RL.sg (Vl.fieldAddr (a'' := ⟨b522, 3, none⟩) Tryd.underlying33 rfl Tryd.sizeOf3 rfl rfl) rfl rfl ?_
     refine RL.sg (Vl.load Tryd.isAgg3 rfl (hS.cell 0 rfl rfl)) rfl rfl ?_
     obtain ⟨t534, hg535, h⟩ := h.bind
     refine RL.e (OW.callF (ls := [.tmp 21]) rfl Tryd.call29 (event_lane.ok a500.To _ hg535 hS)) rfl rfl ?_
     rintro _ w ⟨rfl, hS⟩
     have hS : St B w (Cl b522 [.int .i64 a500.Key.Time, .int .i64 a500.Key.From, .int .i64 a500.Key.Seq, .int .i64 a500.To, .int .i64 a500.Value, .int .i64 a500.Uid, .bool a500.Anti] 33 :: l) hf := hS
     refine RL.s (Vl.pickT rfl rfl) rfl ?_
     refine RL.s (Vl.move rfl) rfl ?_
     by_cases hc536 : t534 = true
     case pos =>
      have h := h.pos hc536
      refine RL.re 24 rfl (congrArg Value.bool (id hc536)) ?_
      refine RL.sg (Vl.fieldAddr (a'' := ⟨b522, 0, none⟩) Tryd.underlying33 rfl Tryd.sizeOf31 rfl rfl) rfl rfl ?_
      refine RL.sg (Vl.fieldAddr (a'' := ⟨b522, 2, none⟩) Tryd.underlying31 rfl Tryd.sizeOf3 rfl rfl) rfl rfl ?_
      refine RL.sg (Vl.load Tryd.isAgg3 rfl (hS.cell 0 rfl rfl)) rfl rfl ?_
      refine RL.sg (Vl.fieldAddr (a'' := ⟨b522, 5, none⟩) Tryd.underlying33 rfl Tryd.sizeOf3 rfl rfl) rfl rfl ?_
      refine RL.sg (Vl.load Tryd.isAgg3 rfl (hS.cell 0 rfl rfl)) rfl rfl ?_
      refine RL.sg (Vl.min2 rfl rfl) rfl rfl ?_
      refine RL.sg (Vl.int rfl rfl rfl) rfl rfl ?_
      refine RL.s (Vl.pickT rfl rfl) rfl ?_
      refine RL.nil ?_
      refine RQ.then_n ?_
      by_cases hc537 : 0 ≤ (if a500.Uid < a500.Key.Seq then a500.Uid else a500.Key.Seq)
      case pos =>
       have h := h.pos hc537
       refine RC.re 32 rfl (congrArg Value.bool (decide_eq_true hc537)) ?_
       refine RC.condT rfl ?_
       refine RC.seq ?_
       refine RC.region ?_
       refine RL.s (Vl.assign rfl) rfl ?_
       refine RL.nil ?_
       refine RQ.then_n ?_
       refine RC.ret ?_
       refine RQ.ret ?_
       have e := h.some
       subst e
       refine RQ.ret0 (vs := [.int .i64 0]) Tryd.results17 ⟨rfl, trivial⟩ ?_
       exact ⟨rfl, (hS.dropAt 0 rfl)⟩
      case neg =>
       have h := h.neg hc537
       refine RC.re 32 rfl (congrArg Value.bool (decide_eq_false hc537)) ?_
       refine RC.condF rfl ?_
       refine RC.skip ?_
       refine RQ.then_n ?_
       refine RC.seq ?_
       refine RC.region ?_
       refine RL.s (Vl.assign rfl) rfl ?_
       refine RL.nil ?_
       refine RQ.then_n ?_
       refine RC.ret ?_
       have e := h.some
       subst e
       refine RQ.ret0 (vs := [.int .i64 1]) Tryd.results17 ⟨rfl, trivial⟩ ?_
       exact ⟨rfl, (hS.dropAt 0 rfl)⟩
     case neg =>
      have h := h.neg hc536
      refine RL.re 24 rfl (congrArg Value.bool (eq_false_of hc536)) ?_
      refine RL.nn rfl rfl ?_
      refine RL.nn rfl rfl ?_
      refine RL.nn rfl rfl ?_
      refine RL.nn rfl rfl ?_
      refine RL.nn rfl rfl ?_
      refine RL.nn rfl rfl ?_
      refine RL.nn rfl rfl ?_
      refine RL.s (Vl.pickF rfl rfl) rfl ?_
      refine RL.nil ?_
      refine RQ.then_n ?_
      refine RC.condF rfl ?_
      refine RC.skip ?_
      refine RQ.then_n ?_
      refine RC.seq ?_
      refine RC.region ?_
      refine RL.s (Vl.assign rfl) rfl ?_
      refine RL.nil ?_
      refine RQ.then_n ?_
      refine RC.ret ?_
      have e := h.some
      subst e
      refine RQ.ret0 (vs := [.int .i64 1]) Tryd.results17 ⟨rfl, trivial⟩ ?_
      exact ⟨rfl, (hS.dropAt 0 rfl)⟩
    case neg =>
     have h := h.neg hc533
     refine RL.re 19 rfl (congrArg Value.bool (decide_eq_false hc533)) ?_
     refine RL.nn rfl rfl ?_
     refine RL.nn rfl rfl ?_
     refine RL.nn rfl rfl ?_
     refine RL.s (Vl.pickF rfl rfl) rfl ?_
     refine RL.s (Vl.move rfl) rfl ?_
     refine RL.nn rfl rfl ?_
     refine RL.nn rfl rfl ?_
     refine RL.nn rfl rfl ?_
     refine RL.nn rfl rfl ?_
     refine RL.nn rfl rfl ?_
     refine RL.nn rfl rfl ?_
     refine RL.nn rfl rfl ?_
     refine RL.s (Vl.pickF rfl rfl) rfl ?_
     refine RL.nil ?_
     refine RQ.then_n ?_
     refine RC.condF rfl ?_
     refine RC.skip ?_
     refine RQ.then_n ?_
     refine RC.seq ?_
     refine RC.region ?_
     refine RL.s (Vl.assign rfl) rfl ?_
     refine RL.nil ?_
     refine RQ.then_n ?_
     refine RC.ret ?_
     have e := h.some
     subst e
     refine RQ.ret0 (vs := [.int .i64 1]) Tryd.results17 ⟨rfl, trivial⟩ ?_
     exact ⟨rfl, (hS.dropAt 0 rfl)⟩
  case neg =>
   have h := h.neg hc525
   refine RL.re 7 rfl (congrArg Value.bool (eq_false_of hc525)) ?_
   refine RL.nn rfl rfl ?_
   refine RL.nn rfl rfl ?_
   refine RL.nn rfl rfl ?_
   refine RL.nn rfl rfl ?_
   refine RL.nn rfl rfl ?_
   refine RL.nn rfl rfl ?_
   refine RL.nn rfl rfl ?_
   refine RL.nn rfl rfl ?_
   refine RL.nn rfl rfl ?_
   refine RL.nn rfl rfl ?_
   refine RL.s (Vl.pickF rfl rfl) rfl ?_
   refine RL.s (Vl.move rfl) rfl ?_
   refine RL.nn rfl rfl ?_
   refine RL.nn rfl rfl ?_
   refine RL.nn rfl rfl ?_
   refine RL.s (Vl.pickF rfl rfl) rfl ?_
   refine RL.s (Vl.move rfl) rfl ?_
   refine RL.nn rfl rfl ?_
   refine RL.nn rfl rfl ?_
   refine RL.nn rfl rfl ?_
   refine RL.nn rfl rfl ?_
   refine RL.nn rfl rfl ?_
   refine RL.nn rfl rfl ?_
   refine RL.nn rfl rfl ?_
   refine RL.s (Vl.pickF rfl rfl) rfl ?_
   refine RL.nil ?_
   refine RQ.then_n ?_
   refine RC.condF rfl ?_
   refine RC.skip ?_
   refine RQ.then_n ?_
   refine RC.seq ?_
   refine RC.region ?_
   refine RL.s (Vl.assign rfl) rfl ?_
   refine RL.nil ?_
   refine RQ.then_n ?_
   refine RC.ret ?_
   have e := h.some
   subst e
   refine RQ.ret0 (vs := [.int .i64 1]) Tryd.results17 ⟨rfl, trivial⟩ ?_
   exact ⟨rfl, (hS.dropAt 0 rfl)⟩

/-! ### isochron/vm.operators: function 35 -/
noncomputable def vm_operators.f  : Option (Unit) := some ()
set_option maxRecDepth 100000 in
set_option maxHeartbeats 4000000 in
theorem vm_operators.ok {B : Base} {w : World} {l : List HProp} {hf : Hp} (r : Unit) (h : vm_operators.f = some r) (hS : St B w (l) hf) :
    Calls Tryd.prog 35 #[] w (Ret fun v w => ∃ (b_1 : Nat), v = .map (some b_1) ∧ St B w (MapL b_1 [({ key := .int .i64 0, val := .func (.func 49) #[] #[], born := 0 } : MapEntry), ({ key := .int .i64 1, val := .func (.func 50) #[] #[], born := 1 } : MapEntry), ({ key := .int .i64 2, val := .func (.func 51) #[] #[], born := 2 } : MapEntry), ({ key := .int .i64 3, val := .func (.func 52) #[] #[], born := 3 } : MapEntry), ({ key := .int .i64 4, val := .func (.func 53) #[] #[], born := 4 } : MapEntry), ({ key := .int .i64 5, val := .func (.func 54) #[] #[], born := 5 } : MapEntry), ({ key := .int .i64 6, val := .func (.func 55) #[] #[], born := 6 } : MapEntry), ({ key := .int .i64 7, val := .func (.func 56) #[] #[], born := 7 } : MapEntry), ({ key := .int .i64 8, val := .func (.func 57) #[] #[], born := 8 } : MapEntry), ({ key := .int .i64 9, val := .func (.func 58) #[] #[], born := 9 } : MapEntry), ({ key := .int .i64 10, val := .func (.func 59) #[] #[], born := 10 } : MapEntry), ({ key := .int .i64 11, val := .func (.func 60) #[] #[], born := 11 } : MapEntry), ({ key := .int .i64 12, val := .func (.func 61) #[] #[], born := 12 } : MapEntry), ({ key := .int .i64 13, val := .func (.func 62) #[] #[], born := 13 } : MapEntry), ({ key := .int .i64 14, val := .func (.func 63) #[] #[], born := 14 } : MapEntry), ({ key := .int .i64 15, val := .func (.func 64) #[] #[], born := 15 } : MapEntry), ({ key := .int .i64 16, val := .func (.func 65) #[] #[], born := 16 } : MapEntry)] 17 :: l) hf) := by
  have h := Holds.of h
  refine enter (args := []) Tryd.func35 rfl Tryd.ntmps35 (Nat.le_of_ble_eq_true rfl) ?_
  refine RC.seq ?_
  refine RC.region ?_
  refine RL.s (Vl.assign rfl) rfl ?_
  refine RL.nil ?_
  refine RQ.then_n ?_
  refine RC.seq ?_
  refine RC.region ?_
  refine RL.e (OW.makeMapL hS) rfl rfl ?_
  rintro _ w ⟨b584, rfl, hS⟩
  have hS : St B w (MapL b584 [] 0 :: l) hf := hS
  refine RL.e0 (OW.insertL (l' := MapL b584 [({ key := .int .i64 0, val := .func (.func 49) #[] #[], born := 0 } : MapEntry)] 1 :: l) 0 hS rfl Tryd.underlying90 Tryd.underlying3 rfl rfl rfl rfl rfl rfl rfl) rfl ?_
  rintro _ w ⟨rfl, hS⟩
  have hS : St B w (MapL b584 [({ key := .int .i64 0, val := .func (.func 49) #[] #[], born := 0 } : MapEntry)] 1 :: l) hf := hS
  refine RL.e0 (OW.insertL (l' := MapL b584 [({ key := .int .i64 0, val := .func (.func 49) #[] #[], born := 0 } : MapEntry), ({ key := .int .i64 1, val := .func (.func 50) #[] #[], born := 1 } : MapEntry)] 2 :: l) 0 hS rfl Tryd.underlying90 Tryd.underlying3 rfl rfl rfl rfl rfl rfl rfl) rfl ?_
  rintro _ w ⟨rfl, hS⟩
  have hS : St B w (MapL b584 [({ key := .int .i64 0, val := .func (.func 49) #[] #[], born := 0 } : MapEntry), ({ key := .int .i64 1, val := .func (.func 50) #[] #[], born := 1 } : MapEntry)] 2 :: l) hf := hS
  refine RL.e0 (OW.insertL (l' := MapL b584 [({ key := .int .i64 0, val := .func (.func 49) #[] #[], born := 0 } : MapEntry), ({ key := .int .i64 1, val := .func (.func 50) #[] #[], born := 1 } : MapEntry), ({ key := .int .i64 2, val := .func (.func 51) #[] #[], born := 2 } : MapEntry)] 3 :: l) 0 hS rfl Tryd.underlying90 Tryd.underlying3 rfl rfl rfl rfl rfl rfl rfl) rfl ?_
  rintro _ w ⟨rfl, hS⟩
  have hS : St B w (MapL b584 [({ key := .int .i64 0, val := .func (.func 49) #[] #[], born := 0 } : MapEntry), ({ key := .int .i64 1, val := .func (.func 50) #[] #[], born := 1 } : MapEntry), ({ key := .int .i64 2, val := .func (.func 51) #[] #[], born := 2 } : MapEntry)] 3 :: l) hf := hS
  refine RL.e0 (OW.insertL (l' := MapL b584 [({ key := .int .i64 0, val := .func (.func 49) #[] #[], born := 0 } : MapEntry), ({ key := .int .i64 1, val := .func (.func 50) #[] #[], born := 1 } : MapEntry), ({ key := .int .i64 2, val := .func (.func 51) #[] #[], born := 2 } : MapEntry), ({ key := .int .i64 3, val := .func (.func 52) #[] #[], born := 3 } : MapEntry)] 4 :: l) 0 hS rfl Tryd.underlying90 Tryd.underlying3 rfl rfl rfl rfl rfl rfl rfl) rfl ?_
  rintro _ w ⟨rfl, hS⟩
  have hS : St B w (MapL b584 [({ key := .int .i64 0, val := .func (.func 49) #[] #[], born := 0 } : MapEntry), ({ key := .int .i64 1, val := .func (.func 50) #[] #[], born := 1 } : MapEntry), ({ key := .int .i64 2, val := .func (.func 51) #[] #[], born := 2 } : MapEntry), ({ key := .int .i64 3, val := .func (.func 52) #[] #[], born := 3 } : MapEntry)] 4 :: l) hf := hS
  refine RL.e0 (OW.insertL (l' := MapL b584 [({ key := .int .i64 0, val := .func (.func 49) #[] #[], born := 0 } : MapEntry), ({ key := .int .i64 1, val := .func (.func 50) #[] #[], born := 1 } : MapEntry), ({ key := .int .i64 2, val := .func (.func 51) #[] #[], born := 2 } : MapEntry), ({ key := .int .i64 3, val := .func (.func 52) #[] #[], born := 3 } : MapEntry), ({ key := .int .i64 4, val := .func (.func 53) #[] #[], born := 4 } : MapEntry)] 5 :: l) 0 hS rfl Tryd.underlying90 Tryd.underlying3 rfl rfl rfl rfl rfl rfl rfl) rfl ?_
  rintro _ w ⟨rfl, hS⟩
  have hS : St B w (MapL b584 [({ key := .int .i64 0, val := .func (.func 49) #[] #[], born := 0 } : MapEntry), ({ key := .int .i64 1, val := .func (.func 50) #[] #[], born := 1 } : MapEntry), ({ key := .int .i64 2, val := .func (.func 51) #[] #[], born := 2 } : MapEntry), ({ key := .int .i64 3, val := .func (.func 52) #[] #[], born := 3 } : MapEntry), ({ key := .int .i64 4, val := .func (.func 53) #[] #[], born := 4 } : MapEntry)] 5 :: l) hf := hS
  refine RL.e0 (OW.insertL (l' := MapL b584 [({ key := .int .i64 0, val := .func (.func 49) #[] #[], born := 0 } : MapEntry), ({ key := .int .i64 1, val := .func (.func 50) #[] #[], born := 1 } : MapEntry), ({ key := .int .i64 2, val := .func (.func 51) #[] #[], born := 2 } : MapEntry), ({ key := .int .i64 3, val := .func (.func 52) #[] #[], born := 3 } : MapEntry), ({ key := .int .i64 4, val := .func (.func 53) #[] #[], born := 4 } : MapEntry), ({ key := .int .i64 5, val := .func (.func 54) #[] #[], born := 5 } : MapEntry)] 6 :: l) 0 hS rfl Tryd.underlying90 Tryd.underlying3 rfl rfl rfl rfl rfl rfl rfl) rfl ?_
  rintro _ w ⟨rfl, hS⟩
  have hS : St B w (MapL b584 [({ key := .int .i64 0, val := .func (.func 49) #[] #[], born := 0 } : MapEntry), ({ key := .int .i64 1, val := .func (.func 50) #[] #[], born := 1 } : MapEntry), ({ key := .int .i64 2, val := .func (.func 51) #[] #[], born := 2 } : MapEntry), ({ key := .int .i64 3, val := .func (.func 52) #[] #[], born := 3 } : MapEntry), ({ key := .int .i64 4, val := .func (.func 53) #[] #[], born := 4 } : MapEntry), ({ key := .int .i64 5, val := .func (.func 54) #[] #[], born := 5 } : MapEntry)] 6 :: l) hf := hS
  refine RL.e0 (OW.insertL (l' := MapL b584 [({ key := .int .i64 0, val := .func (.func 49) #[] #[], born := 0 } : MapEntry), ({ key := .int .i64 1, val := .func (.func 50) #[] #[], born := 1 } : MapEntry), ({ key := .int .i64 2, val := .func (.func 51) #[] #[], born := 2 } : MapEntry), ({ key := .int .i64 3, val := .func (.func 52) #[] #[], born := 3 } : MapEntry), ({ key := .int .i64 4, val := .func (.func 53) #[] #[], born := 4 } : MapEntry), ({ key := .int .i64 5, val := .func (.func 54) #[] #[], born := 5 } : MapEntry), ({ key := .int .i64 6, val := .func (.func 55) #[] #[], born := 6 } : MapEntry)] 7 :: l) 0 hS rfl Tryd.underlying90 Tryd.underlying3 rfl rfl rfl rfl rfl rfl rfl) rfl ?_
  rintro _ w ⟨rfl, hS⟩
  have hS : St B w (MapL b584 [({ key := .int .i64 0, val := .func (.func 49) #[] #[], born := 0 } : MapEntry), ({ key := .int .i64 1, val := .func (.func 50) #[] #[], born := 1 } : MapEntry), ({ key := .int .i64 2, val := .func (.func 51) #[] #[], born := 2 } : MapEntry), ({ key := .int .i64 3, val := .func (.func 52) #[] #[], born := 3 } : MapEntry), ({ key := .int .i64 4, val := .func (.func 53) #[] #[], born := 4 } : MapEntry), ({ key := .int .i64 5, val := .func (.func 54) #[] #[], born := 5 } : MapEntry), ({ key := .int .i64 6, val := .func (.func 55) #[] #[], born := 6 } : MapEntry)] 7 :: l) hf := hS
  refine RL.e0 (OW.insertL (l' := MapL b584 [({ key := .int .i64 0, val := .func (.func 49) #[] #[], born := 0 } : MapEntry), ({ key := .int .i64 1, val := .func (.func 50) #[] #[], born := 1 } : MapEntry), ({ key := .int .i64 2, val := .func (.func 51) #[] #[], born := 2 } : MapEntry), ({ key := .int .i64 3, val := .func (.func 52) #[] #[], born := 3 } : MapEntry), ({ key := .int .i64 4, val := .func (.func 53) #[] #[], born := 4 } : MapEntry), ({ key := .int .i64 5, val := .func (.func 54) #[] #[], born := 5 } : MapEntry), ({ key := .int .i64 6, val := .func (.func 55) #[] #[], born := 6 } : MapEntry), ({ key := .int .i64 7, val := .func (.func 56) #[] #[], born := 7 } : MapEntry)] 8 :: l) 0 hS rfl Tryd.underlying90 Tryd.underlying3 rfl rfl rfl rfl rfl rfl rfl) rfl ?_
  rintro _ w ⟨rfl, hS⟩
  have hS : St B w (MapL b584 [({ key := .int .i64 0, val := .func (.func 49) #[] #[], born := 0 } : MapEntry), ({ key := .int .i64 1, val := .func (.func 50) #[] #[], born := 1 } : MapEntry), ({ key := .int .i64 2, val := .func (.func 51) #[] #[], born := 2 } : MapEntry), ({ key := .int .i64 3, val := .func (.func 52) #[] #[], born := 3 } : MapEntry), ({ key := .int .i64 4, val := .func (.func 53) #[] #[], born := 4 } : MapEntry), ({ key := .int .i64 5, val := .func (.func 54) #[] #[], born := 5 } : MapEntry), ({ key := .int .i64 6, val := .func (.func 55) #[] #[], born := 6 } : MapEntry), ({ key := .int .i64 7, val := .func (.func 56) #[] #[], born := 7 } : MapEntry)] 8 :: l) hf := hS
  refine RL.e0 (OW.insertL (l' := MapL b584 [({ key := .int .i64 0, val := .func (.func 49) #[] #[], born := 0 } : MapEntry), ({ key := .int .i64 1, val := .func (.func 50) #[] #[], born := 1 } : MapEntry), ({ key := .int .i64 2, val := .func (.func 51) #[] #[], born := 2 } : MapEntry), ({ key := .int .i64 3, val := .func (.func 52) #[] #[], born := 3 } : MapEntry), ({ key := .int .i64 4, val := .func (.func 53) #[] #[], born := 4 } : MapEntry), ({ key := .int .i64 5, val := .func (.func 54) #[] #[], born := 5 } : MapEntry), ({ key := .int .i64 6, val := .func (.func 55) #[] #[], born := 6 } : MapEntry), ({ key := .int .i64 7, val := .func (.func 56) #[] #[], born := 7 } : MapEntry), ({ key := .int .i64 8, val := .func (.func 57) #[] #[], born := 8 } : MapEntry)] 9 :: l) 0 hS rfl Tryd.underlying90 Tryd.underlying3 rfl rfl rfl rfl rfl rfl rfl) rfl ?_
  rintro _ w ⟨rfl, hS⟩
  have hS : St B w (MapL b584 [({ key := .int .i64 0, val := .func (.func 49) #[] #[], born := 0 } : MapEntry), ({ key := .int .i64 1, val := .func (.func 50) #[] #[], born := 1 } : MapEntry), ({ key := .int .i64 2, val := .func (.func 51) #[] #[], born := 2 } : MapEntry), ({ key := .int .i64 3, val := .func (.func 52) #[] #[], born := 3 } : MapEntry), ({ key := .int .i64 4, val := .func (.func 53) #[] #[], born := 4 } : MapEntry), ({ key := .int .i64 5, val := .func (.func 54) #[] #[], born := 5 } : MapEntry), ({ key := .int .i64 6, val := .func (.func 55) #[] #[], born := 6 } : MapEntry), ({ key := .int .i64 7, val := .func (.func 56) #[] #[], born := 7 } : MapEntry), ({ key := .int .i64 8, val := .func (.func 57) #[] #[], born := 8 } : MapEntry)] 9 :: l) hf := hS
  refine RL.e0 (OW.insertL (l' := MapL b584 [({ key := .int .i64 0, val := .func (.func 49) #[] #[], born := 0 } : MapEntry), ({ key := .int .i64 1, val := .func (.func 50) #[] #[], born := 1 } : MapEntry), ({ key := .int .i64 2, val := .func (.func 51) #[] #[], born := 2 } : MapEntry), ({ key := .int .i64 3, val := .func (.func 52) #[] #[], born := 3 } : MapEntry), ({ key := .int .i64 4, val := .func (.func 53) #[] #[], born := 4 } : MapEntry), ({ key := .int .i64 5, val := .func (.func 54) #[] #[], born := 5 } : MapEntry), ({ key := .int .i64 6, val := .func (.func 55) #[] #[], born := 6 } : MapEntry), ({ key := .int .i64 7, val := .func (.func 56) #[] #[], born := 7 } : MapEntry), ({ key := .int .i64 8, val := .func (.func 57) #[] #[], born := 8 } : MapEntry), ({ key := .int .i64 9, val := .func (.func 58) #[] #[], born := 9 } : MapEntry)] 10 :: l) 0 hS rfl Tryd.underlying90 Tryd.underlying3 rfl rfl rfl rfl rfl rfl rfl) rfl ?_
  rintro _ w ⟨rfl, hS⟩
  have hS : St B w (MapL b584 [({ key := .int .i64 0, val := .func (.func 49) #[] #[], born := 0 } : MapEntry), ({ key := .int .i64 1, val := .func (.func 50) #[] #[], born := 1 } : MapEntry), ({ key := .int .i64 2, val := .func (.func 51) #[] #[], born := 2 } : MapEntry), ({ key := .int .i64 3, val := .func (.func 52) #[] #[], born := 3 } : MapEntry), ({ key := .int .i64 4, val := .func (.func 53) #[] #[], born := 4 } : MapEntry), ({ key := .int .i64 5, val := .func (.func 54) #[] #[], born := 5 } : MapEntry), ({ key := .int .i64 6, val := .func (.func 55) #[] #[], born := 6 } : MapEntry), ({ key := .int .i64 7, val := .func (.func 56) #[] #[], born := 7 } : MapEntry), ({ key := .int .i64 8, val := .func (.func 57) #[] #[], born := 8 } : MapEntry), ({ key := .int .i64 9, val := .func (.func 58) #[] #[], born := 9 } : MapEntry)] 10 :: l) hf := hS
  refine RL.e0 (OW.insertL (l' := MapL b584 [({ key := .int .i64 0, val := .func (.func 49) #[] #[], born := 0 } : MapEntry), ({ key := .int .i64 1, val := .func (.func 50) #[] #[], born := 1 } : MapEntry), ({ key := .int .i64 2, val := .func (.func 51) #[] #[], born := 2 } : MapEntry), ({ key := .int .i64 3, val := .func (.func 52) #[] #[], born := 3 } : MapEntry), ({ key := .int .i64 4, val := .func (.func 53) #[] #[], born := 4 } : MapEntry), ({ key := .int .i64 5, val := .func (.func 54) #[] #[], born := 5 } : MapEntry), ({ key := .int .i64 6, val := .func (.func 55) #[] #[], born := 6 } : MapEntry), ({ key := .int .i64 7, val := .func (.func 56) #[] #[], born := 7 } : MapEntry), ({ key := .int .i64 8, val := .func (.func 57) #[] #[], born := 8 } : MapEntry), ({ key := .int .i64 9, val := .func (.func 58) #[] #[], born := 9 } : MapEntry), ({ key := .int .i64 10, val := .func (.func 59) #[] #[], born := 10 } : MapEntry)] 11 :: l) 0 hS rfl Tryd.underlying90 Tryd.underlying3 rfl rfl rfl rfl rfl rfl rfl) rfl ?_
  rintro _ w ⟨rfl, hS⟩
  have hS : St B w (MapL b584 [({ key := .int .i64 0, val := .func (.func 49) #[] #[], born := 0 } : MapEntry), ({ key := .int .i64 1, val := .func (.func 50) #[] #[], born := 1 } : MapEntry), ({ key := .int .i64 2, val := .func (.func 51) #[] #[], born := 2 } : MapEntry), ({ key := .int .i64 3, val := .func (.func 52) #[] #[], born := 3 } : MapEntry), ({ key := .int .i64 4, val := .func (.func 53) #[] #[], born := 4 } : MapEntry), ({ key := .int .i64 5, val := .func (.func 54) #[] #[], born := 5 } : MapEntry), ({ key := .int .i64 6, val := .func (.func 55) #[] #[], born := 6 } : MapEntry), ({ key := .int .i64 7, val := .func (.func 56) #[] #[], born := 7 } : MapEntry), ({ key := .int .i64 8, val := .func (.func 57) #[] #[], born := 8 } : MapEntry), ({ key := .int .i64 9, val := .func (.func 58) #[] #[], born := 9 } : MapEntry), ({ key := .int .i64 10, val := .func (.func 59) #[] #[], born := 10 } : MapEntry)] 11 :: l) hf := hS
  refine RL.e0 (OW.insertL (l' := MapL b584 [({ key := .int .i64 0, val := .func (.func 49) #[] #[], born := 0 } : MapEntry), ({ key := .int .i64 1, val := .func (.func 50) #[] #[], born := 1 } : MapEntry), ({ key := .int .i64 2, val := .func (.func 51) #[] #[], born := 2 } : MapEntry), ({ key := .int .i64 3, val := .func (.func 52) #[] #[], born := 3 } : MapEntry), ({ key := .int .i64 4, val := .func (.func 53) #[] #[], born := 4 } : MapEntry), ({ key := .int .i64 5, val := .func (.func 54) #[] #[], born := 5 } : MapEntry), ({ key := .int .i64 6, val := .func (.func 55) #[] #[], born := 6 } : MapEntry), ({ key := .int .i64 7, val := .func (.func 56) #[] #[], born := 7 } : MapEntry), ({ key := .int .i64 8, val := .func (.func 57) #[] #[], born := 8 } : MapEntry), ({ key := .int .i64 9, val := .func (.func 58) #[] #[], born := 9 } : MapEntry), ({ key := .int .i64 10, val := .func (.func 59) #[] #[], born := 10 } : MapEntry), ({ key := .int .i64 11, val := .func (.func 60) #[] #[], born := 11 } : MapEntry)] 12 :: l) 0 hS rfl Tryd.underlying90 Tryd.underlying3 rfl rfl rfl rfl rfl rfl rfl) rfl ?_
  rintro _ w ⟨rfl, hS⟩
  have hS : St B w (MapL b584 [({ key := .int .i64 0, val := .func (.func 49) #[] #[], born := 0 } : MapEntry), ({ key := .int .i64 1, val := .func (.func 50) #[] #[], born := 1 } : MapEntry), ({ key := .int .i64 2, val := .func (.func 51) #[] #[], born := 2 } : MapEntry), ({ key := .int .i64 3, val := .func (.func 52) #[] #[], born := 3 } : MapEntry), ({ key := .int .i64 4, val := .func (.func 53) #[] #[], born := 4 } : MapEntry), ({ key := .int .i64 5, val := .func (.func 54) #[] #[], born := 5 } : MapEntry), ({ key := .int .i64 6, val := .func (.func 55) #[] #[], born := 6 } : MapEntry), ({ key := .int .i64 7, val := .func (.func 56) #[] #[], born := 7 } : MapEntry), ({ key := .int .i64 8, val := .func (.func 57) #[] #[], born := 8 } : MapEntry), ({ key := .int .i64 9, val := .func (.func 58) #[] #[], born := 9 } : MapEntry), ({ key := .int .i64 10, val := .func (.func 59) #[] #[], born := 10 } : MapEntry), ({ key := .int .i64 11, val := .func (.func 60) #[] #[], born := 11 } : MapEntry)] 12 :: l) hf := hS
  refine RL.e0 (OW.insertL (l' := MapL b584 [({ key := .int .i64 0, val := .func (.func 49) #[] #[], born := 0 } : MapEntry), ({ key := .int .i64 1, val := .func (.func 50) #[] #[], born := 1 } : MapEntry), ({ key := .int .i64 2, val := .func (.func 51) #[] #[], born := 2 } : MapEntry), ({ key := .int .i64 3, val := .func (.func 52) #[] #[], born := 3 } : MapEntry), ({ key := .int .i64 4, val := .func (.func 53) #[] #[], born := 4 } : MapEntry), ({ key := .int .i64 5, val := .func (.func 54) #[] #[], born := 5 } : MapEntry), ({ key := .int .i64 6, val := .func (.func 55) #[] #[], born := 6 } : MapEntry), ({ key := .int .i64 7, val := .func (.func 56) #[] #[], born := 7 } : MapEntry), ({ key := .int .i64 8, val := .func (.func 57) #[] #[], born := 8 } : MapEntry), ({ key := .int .i64 9, val := .func (.func 58) #[] #[], born := 9 } : MapEntry), ({ key := .int .i64 10, val := .func (.func 59) #[] #[], born := 10 } : MapEntry), ({ key := .int .i64 11, val := .func (.func 60) #[] #[], born := 11 } : MapEntry), ({ key := .int .i64 12, val := .func (.func 61) #[] #[], born := 12 } : MapEntry)] 13 :: l) 0 hS rfl Tryd.underlying90 Tryd.underlying3 rfl rfl rfl rfl rfl rfl rfl) rfl ?_
  rintro _ w ⟨rfl, hS⟩
  have hS : St B w (MapL b584 [({ key := .int .i64 0, val := .func (.func 49) #[] #[], born := 0 } : MapEntry), ({ key := .int .i64 1, val := .func (.func 50) #[] #[], born := 1 } : MapEntry), ({ key := .int .i64 2, val := .func (.func 51) #[] #[], born := 2 } : MapEntry), ({ key := .int .i64 3, val := .func (.func 52) #[] #[], born := 3 } : MapEntry), ({ key := .int .i64 4, val := .func (.func 53) #[] #[], born := 4 } : MapEntry), ({ key := .int .i64 5, val := .func (.func 54) #[] #[], born := 5 } : MapEntry), ({ key := .int .i64 6, val := .func (.func 55) #[] #[], born := 6 } : MapEntry), ({ key := .int .i64 7, val := .func (.func 56) #[] #[], born := 7 } : MapEntry), ({ key := .int .i64 8, val := .func (.func 57) #[] #[], born := 8 } : MapEntry), ({ key := .int .i64 9, val := .func (.func 58) #[] #[], born := 9 } : MapEntry), ({ key := .int .i64 10, val := .func (.func 59) #[] #[], born := 10 } : MapEntry), ({ key := .int .i64 11, val := .func (.func 60) #[] #[], born := 11 } : MapEntry), ({ key := .int .i64 12, val := .func (.func 61) #[] #[], born := 12 } : MapEntry)] 13 :: l) hf := hS
  refine RL.e0 (OW.insertL (l' := MapL b584 [({ key := .int .i64 0, val := .func (.func 49) #[] #[], born := 0 } : MapEntry), ({ key := .int .i64 1, val := .func (.func 50) #[] #[], born := 1 } : MapEntry), ({ key := .int .i64 2, val := .func (.func 51) #[] #[], born := 2 } : MapEntry), ({ key := .int .i64 3, val := .func (.func 52) #[] #[], born := 3 } : MapEntry), ({ key := .int .i64 4, val := .func (.func 53) #[] #[], born := 4 } : MapEntry), ({ key := .int .i64 5, val := .func (.func 54) #[] #[], born := 5 } : MapEntry), ({ key := .int .i64 6, val := .func (.func 55) #[] #[], born := 6 } : MapEntry), ({ key := .int .i64 7, val := .func (.func 56) #[] #[], born := 7 } : MapEntry), ({ key := .int .i64 8, val := .func (.func 57) #[] #[], born := 8 } : MapEntry), ({ key := .int .i64 9, val := .func (.func 58) #[] #[], born := 9 } : MapEntry), ({ key := .int .i64 10, val := .func (.func 59) #[] #[], born := 10 } : MapEntry), ({ key := .int .i64 11, val := .func (.func 60) #[] #[], born := 11 } : MapEntry), ({ key := .int .i64 12, val := .func (.func 61) #[] #[], born := 12 } : MapEntry), ({ key := .int .i64 13, val := .func (.func 62) #[] #[], born := 13 } : MapEntry)] 14 :: l) 0 hS rfl Tryd.underlying90 Tryd.underlying3 rfl rfl rfl rfl rfl rfl rfl) rfl ?_
  rintro _ w ⟨rfl, hS⟩
  have hS : St B w (MapL b584 [({ key := .int .i64 0, val := .func (.func 49) #[] #[], born := 0 } : MapEntry), ({ key := .int .i64 1, val := .func (.func 50) #[] #[], born := 1 } : MapEntry), ({ key := .int .i64 2, val := .func (.func 51) #[] #[], born := 2 } : MapEntry), ({ key := .int .i64 3, val := .func (.func 52) #[] #[], born := 3 } : MapEntry), ({ key := .int .i64 4, val := .func (.func 53) #[] #[], born := 4 } : MapEntry), ({ key := .int .i64 5, val := .func (.func 54) #[] #[], born := 5 } : MapEntry), ({ key := .int .i64 6, val := .func (.func 55) #[] #[], born := 6 } : MapEntry), ({ key := .int .i64 7, val := .func (.func 56) #[] #[], born := 7 } : MapEntry), ({ key := .int .i64 8, val := .func (.func 57) #[] #[], born := 8 } : MapEntry), ({ key := .int .i64 9, val := .func (.func 58) #[] #[], born := 9 } : MapEntry), ({ key := .int .i64 10, val := .func (.func 59) #[] #[], born := 10 } : MapEntry), ({ key := .int .i64 11, val := .func (.func 60) #[] #[], born := 11 } : MapEntry), ({ key := .int .i64 12, val := .func (.func 61) #[] #[], born := 12 } : MapEntry), ({ key := .int .i64 13, val := .func (.func 62) #[] #[], born := 13 } : MapEntry)] 14 :: l) hf := hS
  refine RL.e0 (OW.insertL (l' := MapL b584 [({ key := .int .i64 0, val := .func (.func 49) #[] #[], born := 0 } : MapEntry), ({ key := .int .i64 1, val := .func (.func 50) #[] #[], born := 1 } : MapEntry), ({ key := .int .i64 2, val := .func (.func 51) #[] #[], born := 2 } : MapEntry), ({ key := .int .i64 3, val := .func (.func 52) #[] #[], born := 3 } : MapEntry), ({ key := .int .i64 4, val := .func (.func 53) #[] #[], born := 4 } : MapEntry), ({ key := .int .i64 5, val := .func (.func 54) #[] #[], born := 5 } : MapEntry), ({ key := .int .i64 6, val := .func (.func 55) #[] #[], born := 6 } : MapEntry), ({ key := .int .i64 7, val := .func (.func 56) #[] #[], born := 7 } : MapEntry), ({ key := .int .i64 8, val := .func (.func 57) #[] #[], born := 8 } : MapEntry), ({ key := .int .i64 9, val := .func (.func 58) #[] #[], born := 9 } : MapEntry), ({ key := .int .i64 10, val := .func (.func 59) #[] #[], born := 10 } : MapEntry), ({ key := .int .i64 11, val := .func (.func 60) #[] #[], born := 11 } : MapEntry), ({ key := .int .i64 12, val := .func (.func 61) #[] #[], born := 12 } : MapEntry), ({ key := .int .i64 13, val := .func (.func 62) #[] #[], born := 13 } : MapEntry), ({ key := .int .i64 14, val := .func (.func 63) #[] #[], born := 14 } : MapEntry)] 15 :: l) 0 hS rfl Tryd.underlying90 Tryd.underlying3 rfl rfl rfl rfl rfl rfl rfl) rfl ?_
  rintro _ w ⟨rfl, hS⟩
  have hS : St B w (MapL b584 [({ key := .int .i64 0, val := .func (.func 49) #[] #[], born := 0 } : MapEntry), ({ key := .int .i64 1, val := .func (.func 50) #[] #[], born := 1 } : MapEntry), ({ key := .int .i64 2, val := .func (.func 51) #[] #[], born := 2 } : MapEntry), ({ key := .int .i64 3, val := .func (.func 52) #[] #[], born := 3 } : MapEntry), ({ key := .int .i64 4, val := .func (.func 53) #[] #[], born := 4 } : MapEntry), ({ key := .int .i64 5, val := .func (.func 54) #[] #[], born := 5 } : MapEntry), ({ key := .int .i64 6, val := .func (.func 55) #[] #[], born := 6 } : MapEntry), ({ key := .int .i64 7, val := .func (.func 56) #[] #[], born := 7 } : MapEntry), ({ key := .int .i64 8, val := .func (.func 57) #[] #[], born := 8 } : MapEntry), ({ key := .int .i64 9, val := .func (.func 58) #[] #[], born := 9 } : MapEntry), ({ key := .int .i64 10, val := .func (.func 59) #[] #[], born := 10 } : MapEntry), ({ key := .int .i64 11, val := .func (.func 60) #[] #[], born := 11 } : MapEntry), ({ key := .int .i64 12, val := .func (.func 61) #[] #[], born := 12 } : MapEntry), ({ key := .int .i64 13, val := .func (.func 62) #[] #[], born := 13 } : MapEntry), ({ key := .int .i64 14, val := .func (.func 63) #[] #[], born := 14 } : MapEntry)] 15 :: l) hf := hS
  refine RL.e0 (OW.insertL (l' := MapL b584 [({ key := .int .i64 0, val := .func (.func 49) #[] #[], born := 0 } : MapEntry), ({ key := .int .i64 1, val := .func (.func 50) #[] #[], born := 1 } : MapEntry), ({ key := .int .i64 2, val := .func (.func 51) #[] #[], born := 2 } : MapEntry), ({ key := .int .i64 3, val := .func (.func 52) #[] #[], born := 3 } : MapEntry), ({ key := .int .i64 4, val := .func (.func 53) #[] #[], born := 4 } : MapEntry), ({ key := .int .i64 5, val := .func (.func 54) #[] #[], born := 5 } : MapEntry), ({ key := .int .i64 6, val := .func (.func 55) #[] #[], born := 6 } : MapEntry), ({ key := .int .i64 7, val := .func (.func 56) #[] #[], born := 7 } : MapEntry), ({ key := .int .i64 8, val := .func (.func 57) #[] #[], born := 8 } : MapEntry), ({ key := .int .i64 9, val := .func (.func 58) #[] #[], born := 9 } : MapEntry), ({ key := .int .i64 10, val := .func (.func 59) #[] #[], born := 10 } : MapEntry), ({ key := .int .i64 11, val := .func (.func 60) #[] #[], born := 11 } : MapEntry), ({ key := .int .i64 12, val := .func (.func 61) #[] #[], born := 12 } : MapEntry), ({ key := .int .i64 13, val := .func (.func 62) #[] #[], born := 13 } : MapEntry), ({ key := .int .i64 14, val := .func (.func 63) #[] #[], born := 14 } : MapEntry), ({ key := .int .i64 15, val := .func (.func 64) #[] #[], born := 15 } : MapEntry)] 16 :: l) 0 hS rfl Tryd.underlying90 Tryd.underlying3 rfl rfl rfl rfl rfl rfl rfl) rfl ?_
  rintro _ w ⟨rfl, hS⟩
  have hS : St B w (MapL b584 [({ key := .int .i64 0, val := .func (.func 49) #[] #[], born := 0 } : MapEntry), ({ key := .int .i64 1, val := .func (.func 50) #[] #[], born := 1 } : MapEntry), ({ key := .int .i64 2, val := .func (.func 51) #[] #[], born := 2 } : MapEntry), ({ key := .int .i64 3, val := .func (.func 52) #[] #[], born := 3 } : MapEntry), ({ key := .int .i64 4, val := .func (.func 53) #[] #[], born := 4 } : MapEntry), ({ key := .int .i64 5, val := .func (.func 54) #[] #[], born := 5 } : MapEntry), ({ key := .int .i64 6, val := .func (.func 55) #[] #[], born := 6 } : MapEntry), ({ key := .int .i64 7, val := .func (.func 56) #[] #[], born := 7 } : MapEntry), ({ key := .int .i64 8, val := .func (.func 57) #[] #[], born := 8 } : MapEntry), ({ key := .int .i64 9, val := .func (.func 58) #[] #[], born := 9 } : MapEntry), ({ key := .int .i64 10, val := .func (.func 59) #[] #[], born := 10 } : MapEntry), ({ key := .int .i64 11, val := .func (.func 60) #[] #[], born := 11 } : MapEntry), ({ key := .int .i64 12, val := .func (.func 61) #[] #[], born := 12 } : MapEntry), ({ key := .int .i64 13, val := .func (.func 62) #[] #[], born := 13 } : MapEntry), ({ key := .int .i64 14, val := .func (.func 63) #[] #[], born := 14 } : MapEntry), ({ key := .int .i64 15, val := .func (.func 64) #[] #[], born := 15 } : MapEntry)] 16 :: l) hf := hS
  refine RL.e0 (OW.insertL (l' := MapL b584 [({ key := .int .i64 0, val := .func (.func 49) #[] #[], born := 0 } : MapEntry), ({ key := .int .i64 1, val := .func (.func 50) #[] #[], born := 1 } : MapEntry), ({ key := .int .i64 2, val := .func (.func 51) #[] #[], born := 2 } : MapEntry), ({ key := .int .i64 3, val := .func (.func 52) #[] #[], born := 3 } : MapEntry), ({ key := .int .i64 4, val := .func (.func 53) #[] #[], born := 4 } : MapEntry), ({ key := .int .i64 5, val := .func (.func 54) #[] #[], born := 5 } : MapEntry), ({ key := .int .i64 6, val := .func (.func 55) #[] #[], born := 6 } : MapEntry), ({ key := .int .i64 7, val := .func (.func 56) #[] #[], born := 7 } : MapEntry), ({ key := .int .i64 8, val := .func (.func 57) #[] #[], born := 8 } : MapEntry), ({ key := .int .i64 9, val := .func (.func 58) #[] #[], born := 9 } : MapEntry), ({ key := .int .i64 10, val := .func (.func 59) #[] #[], born := 10 } : MapEntry), ({ key := .int .i64 11, val := .func (.func 60) #[] #[], born := 11 } : MapEntry), ({ key := .int .i64 12, val := .func (.func 61) #[] #[], born := 12 } : MapEntry), ({ key := .int .i64 13, val := .func (.func 62) #[] #[], born := 13 } : MapEntry), ({ key := .int .i64 14, val := .func (.func 63) #[] #[], born := 14 } : MapEntry), ({ key := .int .i64 15, val := .func (.func 64) #[] #[], born := 15 } : MapEntry), ({ key := .int .i64 16, val := .func (.func 65) #[] #[], born := 16 } : MapEntry)] 17 :: l) 0 hS rfl Tryd.underlying90 Tryd.underlying3 rfl rfl rfl rfl rfl rfl rfl) rfl ?_
  rintro _ w ⟨rfl, hS⟩
  have hS : St B w (MapL b584 [({ key := .int .i64 0, val := .func (.func 49) #[] #[], born := 0 } : MapEntry), ({ key := .int .i64 1, val := .func (.func 50) #[] #[], born := 1 } : MapEntry), ({ key := .int .i64 2, val := .func (.func 51) #[] #[], born := 2 } : MapEntry), ({ key := .int .i64 3, val := .func (.func 52) #[] #[], born := 3 } : MapEntry), ({ key := .int .i64 4, val := .func (.func 53) #[] #[], born := 4 } : MapEntry), ({ key := .int .i64 5, val := .func (.func 54) #[] #[], born := 5 } : MapEntry), ({ key := .int .i64 6, val := .func (.func 55) #[] #[], born := 6 } : MapEntry), ({ key := .int .i64 7, val := .func (.func 56) #[] #[], born := 7 } : MapEntry), ({ key := .int .i64 8, val := .func (.func 57) #[] #[], born := 8 } : MapEntry), ({ key := .int .i64 9, val := .func (.func 58) #[] #[], born := 9 } : MapEntry), ({ key := .int .i64 10, val := .func (.func 59) #[] #[], born := 10 } : MapEntry), ({ key := .int .i64 11, val := .func (.func 60) #[] #[], born := 11 } : MapEntry), ({ key := .int .i64 12, val := .func (.func 61) #[] #[], born := 12 } : MapEntry), ({ key := .int .i64 13, val := .func (.func 62) #[] #[], born := 13 } : MapEntry), ({ key := .int .i64 14, val := .func (.func 63) #[] #[], born := 14 } : MapEntry), ({ key := .int .i64 15, val := .func (.func 64) #[] #[], born := 15 } : MapEntry), ({ key := .int .i64 16, val := .func (.func 65) #[] #[], born := 16 } : MapEntry)] 17 :: l) hf := hS
  refine RL.s (Vl.move rfl) rfl ?_
  refine RL.s (Vl.assign rfl) rfl ?_
  refine RL.nil ?_
  refine RQ.then_n ?_
  refine RC.ret ?_
  have e := h.some
  skip
  refine RQ.ret0 (vs := [.map (some b584)]) Tryd.results35 ⟨rfl, trivial⟩ ?_
  exact ⟨b584, rfl, hS⟩

/-! ### (*isochron/vm.cpu).halt: function 49 -/
noncomputable def vm_cpu_halt.f (a598 : List api_Instr) (a602 : Int) (a603 : List api_Link) (a607 : Int) (a608 : Int) (a609 : Int) (a610 : Int) (a611 : Int) (a612 : Int) (a613 : Int) (a614 : Bool) (a615 : Int) (a619 : List api_Out) (a620 : Int) (fn621 : (Nat → Int)) (a622 : api_Instr) : Option (Int) := some (a598.length : Int)
set_option maxRecDepth 100000 in
set_option maxHeartbeats 4000000 in
theorem vm_cpu_halt.ok {B : Base} {w : World} {l : List HProp} {hf : Hp} (a598 : List api_Instr) (a602 : Int) (a603 : List api_Link) (a607 : Int) (a608 : Int) (a609 : Int) (a610 : Int) (a611 : Int) (a612 : Int) (a613 : Int) (a614 : Bool) (a615 : Int) (a619 : List api_Out) (a620 : Int) (fn621 : (Nat → Int)) (a622 : api_Instr) (b597 : Nat) (A599 : Option Addr) (c600 : Nat) (A604 : Option Addr) (c605 : Nat) (A617 : Option Addr) (c618 : Nat) (hr601 : SlR E_api_Instr.rep hf A599 c600 a598) (hr606 : SlR E_api_Link.rep hf A604 c605 a603) (r : Int) (h : vm_cpu_halt.f a598 a602 a603 a607 a608 a609 a610 a611 a612 a613 a614 a615 a619 a620 fn621 a622 = some r) (hS : St B w (Cl b597 [.slice A599 a598.length c600, .int .i64 a602, .slice A604 a603.length c605, .int .u64 a607, .int .i64 a608, .int .i64 a609, .int .i64 a610, .int .i64 a611, .int .i64 a612, .int .i64 a613, .bool a614, .int .i64 (fn621 0), .int .i64 (fn621 1), .int .i64 (fn621 2), .int .i64 (fn621 3), .int .i64 (fn621 4), .int .i64 (fn621 5), .int .i64 (fn621 6), .int .i64 (fn621 7), .int .i64 (fn621 8), .int .i64 (fn621 9), .int .i64 (fn621 10), .int .i64 (fn621 11), .int .i64 (fn621 12), .int .i64 (fn621 13), .int .i64 (fn621 14), .int .i64 (fn621 15), .int .i64 a615, .slice A617 a619.length c618, .int .i64 a620] 66 :: OSf E_api_Out 58 (.slice A617 a619.length c618) a619 :: l) hf) :
    Calls Tryd.prog 49 #[.pointer (some ⟨b597, 0, none⟩), .agg #[.int .i64 a622.Op, .int .i64 a622.A, .int .i64 a622.B, .int .i64 a622.C]] w (Ret fun v w => v = .tuple #[] ∧ St B w (Cl b597 [.slice A599 a598.length c600, .int .i64 a602, .slice A604 a603.length c605, .int .u64 a607, .int .i64 a608, .int .i64 a609, .int .i64 a610, .int .i64 a611, .int .i64 a612, .int .i64 a613, .bool a614, .int .i64 (fn621 0), .int .i64 (fn621 1), .int .i64 (fn621 2), .int .i64 (fn621 3), .int .i64 (fn621 4), .int .i64 (fn621 5), .int .i64 (fn621 6), .int .i64 (fn621 7), .int .i64 (fn621 8), .int .i64 (fn621 9), .int .i64 (fn621 10), .int .i64 (fn621 11), .int .i64 (fn621 12), .int .i64 (fn621 13), .int .i64 (fn621 14), .int .i64 (fn621 15), .int .i64 a615, .slice A617 a619.length c618, .int .i64 r] 66 :: OSf E_api_Out 58 (.slice A617 a619.length c618) a619 :: l) hf) := by
  have h := Holds.of h
  refine enter (args := [.pointer (some ⟨b597, 0, none⟩), .agg #[.int .i64 a622.Op, .int .i64 a622.A, .int .i64 a622.B, .int .i64 a622.C]]) Tryd.func49 rfl Tryd.ntmps49 (Nat.le_of_ble_eq_true rfl) ?_
  refine RC.seq ?_
  refine RC.region ?_
  refine RL.e (OW.box (cs := [.int .i64 a622.Op, .int .i64 a622.A, .int .i64 a622.B, .int .i64 a622.C]) hS rfl rfl) rfl rfl ?_
  rintro _ w ⟨b626, rfl, hS⟩
  have hS : St B w (Cl b626 [.int .i64 a622.Op, .int .i64 a622.A, .int .i64 a622.B, .int .i64 a622.C] 48 :: Cl b597 [.slice A599 a598.length c600, .int .i64 a602, .slice A604 a603.length c605, .int .u64 a607, .int .i64 a608, .int .i64 a609, .int .i64 a610, .int .i64 a611, .int .i64 a612, .int .i64 a613, .bool a614, .int .i64 (fn621 0), .int .i64 (fn621 1), .int .i64 (fn621 2), .int .i64 (fn621 3), .int .i64 (fn621 4), .int .i64 (fn621 5), .int .i64 (fn621 6), .int .i64 (fn621 7), .int .i64 (fn621 8), .int .i64 (fn621 9), .int .i64 (fn621 10), .int .i64 (fn621 11), .int .i64 (fn621 12), .int .i64 (fn621 13), .int .i64 (fn621 14), .int .i64 (fn621 15), .int .i64 a615, .slice A617 a619.length c618, .int .i64 a620] 66 :: OSf E_api_Out 58 (.slice A617 a619.length c618) a619 :: l) hf := hS
  refine RL.nil ?_
  refine RQ.then_n ?_
  refine RC.region ?_
  refine RL.s (Vl.move rfl) rfl ?_
  refine RL.s (Vl.move rfl) rfl ?_
  refine RL.s (Vl.nilCheck rfl) rfl ?_
  refine RL.s (Vl.fieldAddr (a'' := ⟨b597, 0, none⟩) Tryd.underlying66 rfl Tryd.sizeOf26 rfl rfl) rfl ?_
  refine RL.s (Vl.fieldAddr (a'' := ⟨b597, 0, none⟩) Tryd.underlying26 rfl Tryd.sizeOf22 rfl rfl) rfl ?_
  refine RL.s (Vl.load Tryd.isAgg22 rfl (hS.cell 1 rfl rfl)) rfl ?_
  refine RL.s (Vl.lenSl Tryd.underlying22 rfl) rfl ?_
  refine RL.s (Vl.nilCheck rfl) rfl ?_
  refine RL.s (Vl.fieldAddr (a'' := ⟨b597, 29, none⟩) Tryd.underlying66 rfl Tryd.sizeOf3 rfl rfl) rfl ?_
  refine RL.e0 (OW.store (cs := [.slice A599 a598.length c600, .int .i64 a602, .slice A604 a603.length c605, .int .u64 a607, .int .i64 a608, .int .i64 a609, .int .i64 a610, .int .i64 a611, .int .i64 a612, .int .i64 a613, .bool a614, .int .i64 (fn621 0), .int .i64 (fn621 1), .int .i64 (fn621 2), .int .i64 (fn621 3), .int .i64 (fn621 4), .int .i64 (fn621 5), .int .i64 (fn621 6), .int .i64 (fn621 7), .int .i64 (fn621 8), .int .i64 (fn621 9), .int .i64 (fn621 10), .int .i64 (fn621 11), .int .i64 (fn621 12), .int .i64 (fn621 13), .int .i64 (fn621 14), .int .i64 (fn621 15), .int .i64 a615, .slice A617 a619.length c618, .int .i64 a620]) (vs := [.int .i64 (a598.length : Int)]) (l' := Cl b626 [.int .i64 a622.Op, .int .i64 a622.A, .int .i64 a622.B, .int .i64 a622.C] 48 :: Cl b597 [.slice A599 a598.length c600, .int .i64 a602, .slice A604 a603.length c605, .int .u64 a607, .int .i64 a608, .int .i64 a609, .int .i64 a610, .int .i64 a611, .int .i64 a612, .int .i64 a613, .bool a614, .int .i64 (fn621 0), .int .i64 (fn621 1), .int .i64 (fn621 2), .int .i64 (fn621 3), .int .i64 (fn621 4), .int .i64 (fn621 5), .int .i64 (fn621 6), .int .i64 (fn621 7), .int .i64 (fn621 8), .int .i64 (fn621 9), .int .i64 (fn621 10), .int .i64 (fn621 11), .int .i64 (fn621 12), .int .i64 (fn621 13), .int .i64 (fn621 14), .int .i64 (fn621 15), .int .i64 a615, .slice A617 a619.length c618, .int .i64 (a598.length : Int)] 66 :: OSf E_api_Out 58 (.slice A617 a619.length c618) a619 :: l) 1 hS rfl rfl rfl rfl Tryd.sizeOf3 rfl rfl rfl rfl) rfl ?_
  rintro _ w ⟨rfl, hS⟩
  have hS : St B w (Cl b626 [.int .i64 a622.Op, .int .i64 a622.A, .int .i64 a622.B, .int .i64 a622.C] 48 :: Cl b597 [.slice A599 a598.length c600, .int .i64 a602, .slice A604 a603.length c605, .int .u64 a607, .int .i64 a608, .int .i64 a609, .int .i64 a610, .int .i64 a611, .int .i64 a612, .int .i64 a613, .bool a614, .int .i64 (fn621 0), .int .i64 (fn621 1), .int .i64 (fn621 2), .int .i64 (fn621 3), .int .i64 (fn621 4), .int .i64 (fn621 5), .int .i64 (fn621 6), .int .i64 (fn621 7), .int .i64 (fn621 8), .int .i64 (fn621 9), .int .i64 (fn621 10), .int .i64 (fn621 11), .int .i64 (fn621 12), .int .i64 (fn621 13), .int .i64 (fn621 14), .int .i64 (fn621 15), .int .i64 a615, .slice A617 a619.length c618, .int .i64 (a598.length : Int)] 66 :: OSf E_api_Out 58 (.slice A617 a619.length c618) a619 :: l) hf := hS
  refine RL.nil ?_
  have e := h.some
  subst e
  refine RQ.end0 (vs := []) Tryd.results49 trivial ?_
  exact ⟨rfl, (hS.dropAt 0 rfl)⟩

/-! ### (*isochron/vm.cpu).set: function 50 -/
noncomputable def vm_cpu_set.f (a632 : List api_Instr) (a636 : Int) (a637 : List api_Link) (a641 : Int) (a642 : Int) (a643 : Int) (a644 : Int) (a645 : Int) (a646 : Int) (a647 : Int) (a648 : Bool) (a649 : Int) (a653 : List api_Out) (a654 : Int) (fn655 : (Nat → Int)) (a656 : api_Instr) : Option ((Nat → Int)) := (if 0 ≤ a656.A ∧ a656.A < 16 then some (upd fn655 (a656.A.toNat * 1) a656.B) else none)
set_option maxRecDepth 100000 in
set_option maxHeartbeats 4000000 in
theorem vm_cpu_set.ok {B : Base} {w : World} {l : List HProp} {hf : Hp} (a632 : List api_Instr) (a636 : Int) (a637 : List api_Link) (a641 : Int) (a642 : Int) (a643 : Int) (a644 : Int) (a645 : Int) (a646 : Int) (a647 : Int) (a648 : Bool) (a649 : Int) (a653 : List api_Out) (a654 : Int) (fn655 : (Nat → Int)) (a656 : api_Instr) (b631 : Nat) (A633 : Option Addr) (c634 : Nat) (A638 : Option Addr) (c639 : Nat) (A651 : Option Addr) (c652 : Nat) (hr635 : SlR E_api_Instr.rep hf A633 c634 a632) (hr640 : SlR E_api_Link.rep hf A638 c639 a637) (r : (Nat → Int)) (h : vm_cpu_set.f a632 a636 a637 a641 a642 a643 a644 a645 a646 a647 a648 a649 a653 a654 fn655 a656 = some r) (hS : St B w (Cl b631 [.slice A633 a632.length c634, .int .i64 a636, .slice A638 a637.length c639, .int .u64 a641, .int .i64 a642, .int .i64 a643, .int .i64 a644, .int .i64 a645, .int .i64 a646, .int .i64 a647, .bool a648, .int .i64 (fn655 0), .int .i64 (fn655 1), .int .i64 (fn655 2), .int .i64 (fn655 3), .int .i64 (fn655 4), .int .i64 (fn655 5), .int .i64 (fn655 6), .int .i64 (fn655 7), .int .i64 (fn655 8), .int .i64 (fn655 9), .int .i64 (fn655 10), .int .i64 (fn655 11), .int .i64 (fn655 12), .int .i64 (fn655 13), .int .i64 (fn655 14), .int .i64 (fn655 15), .int .i64 a649, .slice A651 a653.length c652, .int .i64 a654] 66 :: OSf E_api_Out 58 (.slice A651 a653.length c652) a653 :: l) hf) :
    Calls Tryd.prog 50 #[.pointer (some ⟨b631, 0, none⟩), .agg #[.int .i64 a656.Op, .int .i64 a656.A, .int .i64 a656.B, .int .i64 a656.C]] w (Ret fun v w => v = .tuple #[] ∧ St B w (Cl b631 [.slice A633 a632.length c634, .int .i64 a636, .slice A638 a637.length c639, .int .u64 a641, .int .i64 a642, .int .i64 a643, .int .i64 a644, .int .i64 a645, .int .i64 a646, .int .i64 a647, .bool a648, .int .i64 (r 0), .int .i64 (r 1), .int .i64 (r 2), .int .i64 (r 3), .int .i64 (r 4), .int .i64 (r 5), .int .i64 (r 6), .int .i64 (r 7), .int .i64 (r 8), .int .i64 (r 9), .int .i64 (r 10), .int .i64 (r 11), .int .i64 (r 12), .int .i64 (r 13), .int .i64 (r 14), .int .i64 (r 15), .int .i64 a649, .slice A651 a653.length c652, .int .i64 a654] 66 :: OSf E_api_Out 58 (.slice A651 a653.length c652) a653 :: l) hf) := by
  have h := Holds.of h
  refine enter (args := [.pointer (some ⟨b631, 0, none⟩), .agg #[.int .i64 a656.Op, .int .i64 a656.A, .int .i64 a656.B, .int .i64 a656.C]]) Tryd.func50 rfl Tryd.ntmps50 (Nat.le_of_ble_eq_true rfl) ?_
  refine RC.seq ?_
  refine RC.region ?_
  refine RL.e (OW.box (cs := [.int .i64 a656.Op, .int .i64 a656.A, .int .i64 a656.B, .int .i64 a656.C]) hS rfl rfl) rfl rfl ?_
  rintro _ w ⟨b662, rfl, hS⟩
  have hS : St B w (Cl b662 [.int .i64 a656.Op, .int .i64 a656.A, .int .i64 a656.B, .int .i64 a656.C] 48 :: Cl b631 [.slice A633 a632.length c634, .int .i64 a636, .slice A638 a637.length c639, .int .u64 a641, .int .i64 a642, .int .i64 a643, .int .i64 a644, .int .i64 a645, .int .i64 a646, .int .i64 a647, .bool a648, .int .i64 (fn655 0), .int .i64 (fn655 1), .int .i64 (fn655 2), .int .i64 (fn655 3), .int .i64 (fn655 4), .int .i64 (fn655 5), .int .i64 (fn655 6), .int .i64 (fn655 7), .int .i64 (fn655 8), .int .i64 (fn655 9), .int .i64 (fn655 10), .int .i64 (fn655 11), .int .i64 (fn655 12), .int .i64 (fn655 13), .int .i64 (fn655 14), .int .i64 (fn655 15), .int .i64 a649, .slice A651 a653.length c652, .int .i64 a654] 66 :: OSf E_api_Out 58 (.slice A651 a653.length c652) a653 :: l) hf := hS
  refine RL.nil ?_
  refine RQ.then_n ?_
  refine RC.plan (.pure 0 (.pure 1 (.cons 2 true (.pure 3 (.cons 4 true (.cons 5 false (.cons 6 false (.cons 7 false (.cons 8 false .nil))))))))) [7, 8] (fun w => St B w (Cl b662 [.int .i64 a656.Op, .int .i64 a656.A, .int .i64 a656.B, .int .i64 a656.C] 48 :: Cl b631 [.slice A633 a632.length c634, .int .i64 a636, .slice A638 a637.length c639, .int .u64 a641, .int .i64 a642, .int .i64 a643, .int .i64 a644, .int .i64 a645, .int .i64 a646, .int .i64 a647, .bool a648, .int .i64 (fn655 0), .int .i64 (fn655 1), .int .i64 (fn655 2), .int .i64 (fn655 3), .int .i64 (fn655 4), .int .i64 (fn655 5), .int .i64 (fn655 6), .int .i64 (fn655 7), .int .i64 (fn655 8), .int .i64 (fn655 9), .int .i64 (fn655 10), .int .i64 (fn655 11), .int .i64 (fn655 12), .int .i64 (fn655 13), .int .i64 (fn655 14), .int .i64 (fn655 15), .int .i64 a649, .slice A651 a653.length c652, .int .i64 a654] 66 :: OSf E_api_Out 58 (.slice A651 a653.length c652) a653 :: l) hf) follows rfl (by kernel_rfl) NoTmp.body ?_
  have hS := hS.same (w' := { w with drawn := w.drawn + 1 }) rfl rfl
  revert hS
  generalize { w with drawn := w.drawn + 1 } = w
  intro hS
  refine RP.s0 0 rfl (fun w => Vl.move rfl) rfl ?_
  refine RP.s0 1 rfl (fun w => Vl.fieldAddr (a'' := ⟨b662, 1, none⟩) Tryd.underlying48 rfl Tryd.sizeOf3 rfl rfl) rfl ?_
  refine RP.s 2 rfl rfl hS (fun w hS => Vl.load Tryd.isAgg3 rfl (hS.cell 0 rfl rfl)) rfl ?_
  refine RP.s0 3 rfl (fun w => Vl.fieldAddr (a'' := ⟨b662, 2, none⟩) Tryd.underlying48 rfl Tryd.sizeOf3 rfl rfl) rfl ?_
  refine RP.s 4 rfl rfl hS (fun w hS => Vl.load Tryd.isAgg3 rfl (hS.cell 0 rfl rfl)) rfl ?_
  refine RP.v1 5 rfl (Vl.nilCheck rfl) rfl rfl ?_
  refine RP.v1 6 rfl (Vl.fieldAddr (a'' := ⟨b631, 11, none⟩) Tryd.underlying66 rfl Tryd.sizeOf64 rfl rfl) rfl rfl ?_
  obtain ⟨⟨hq663, hq664⟩, h⟩ := h.req
  refine RP.v1 7 rfl (Vl.indexAddrA (a'' := ⟨b631, 11 + a656.A.toNat * 1, none⟩) Tryd.underlying64 Tryd.sizeOf2 rfl rfl hq663 hq664 (add_mk _ _ _)) rfl rfl ?_
  refine RP.e0 8 rfl (OW.storeSeg (mk := (Value.int .i64)) (f := fn655) (n := 16) (m := 11) (pre := [.slice A633 a632.length c634, .int .i64 a636, .slice A638 a637.length c639, .int .u64 a641, .int .i64 a642, .int .i64 a643, .int .i64 a644, .int .i64 a645, .int .i64 a646, .int .i64 a647, .bool a648]) (post := [.int .i64 a649, .slice A651 a653.length c652, .int .i64 a654]) (l' := Cl b662 [.int .i64 a656.Op, .int .i64 a656.A, .int .i64 a656.B, .int .i64 a656.C] 48 :: Cl b631 [.slice A633 a632.length c634, .int .i64 a636, .slice A638 a637.length c639, .int .u64 a641, .int .i64 a642, .int .i64 a643, .int .i64 a644, .int .i64 a645, .int .i64 a646, .int .i64 a647, .bool a648, .int .i64 ((upd fn655 (a656.A.toNat * 1) a656.B) 0), .int .i64 ((upd fn655 (a656.A.toNat * 1) a656.B) 1), .int .i64 ((upd fn655 (a656.A.toNat * 1) a656.B) 2), .int .i64 ((upd fn655 (a656.A.toNat * 1) a656.B) 3), .int .i64 ((upd fn655 (a656.A.toNat * 1) a656.B) 4), .int .i64 ((upd fn655 (a656.A.toNat * 1) a656.B) 5), .int .i64 ((upd fn655 (a656.A.toNat * 1) a656.B) 6), .int .i64 ((upd fn655 (a656.A.toNat * 1) a656.B) 7), .int .i64 ((upd fn655 (a656.A.toNat * 1) a656.B) 8), .int .i64 ((upd fn655 (a656.A.toNat * 1) a656.B) 9), .int .i64 ((upd fn655 (a656.A.toNat * 1) a656.B) 10), .int .i64 ((upd fn655 (a656.A.toNat * 1) a656.B) 11), .int .i64 ((upd fn655 (a656.A.toNat * 1) a656.B) 12), .int .i64 ((upd fn655 (a656.A.toNat * 1) a656.B) 13), .int .i64 ((upd fn655 (a656.A.toNat * 1) a656.B) 14), .int .i64 ((upd fn655 (a656.A.toNat * 1) a656.B) 15), .int .i64 a649, .slice A651 a653.length c652, .int .i64 a654] 66 :: OSf E_api_Out 58 (.slice A651 a653.length c652) a653 :: l) 1 hS rfl rfl rfl rfl Tryd.sizeOf2 (by omega) (fun _ => rfl) (fun _ => rfl) rfl) rfl ?_
  rintro _ w ⟨rfl, hS⟩
  have hS : St B w (Cl b662 [.int .i64 a656.Op, .int .i64 a656.A, .int .i64 a656.B, .int .i64 a656.C] 48 :: Cl b631 [.slice A633 a632.length c634, .int .i64 a636, .slice A638 a637.length c639, .int .u64 a641, .int .i64 a642, .int .i64 a643, .int .i64 a644, .int .i64 a645, .int .i64 a646, .int .i64 a647, .bool a648, .int .i64 ((upd fn655 (a656.A.toNat * 1) a656.B) 0), .int .i64 ((upd fn655 (a656.A.toNat * 1) a656.B) 1), .int .i64 ((upd fn655 (a656.A.toNat * 1) a656.B) 2), .int .i64 ((upd fn655 (a656.A.toNat * 1) a656.B) 3), .int .i64 ((upd fn655 (a656.A.toNat * 1) a656.B) 4), .int .i64 ((upd fn655 (a656.A.toNat * 1) a656.B) 5), .int .i64 ((upd fn655 (a656.A.toNat * 1) a656.B) 6), .int .i64 ((upd fn655 (a656.A.toNat * 1) a656.B) 7), .int .i64 ((upd fn655 (a656.A.toNat * 1) a656.B) 8), .int .i64 ((upd fn655 (a656.A.toNat * 1) a656.B) 9), .int .i64 ((upd fn655 (a656.A.toNat * 1) a656.B) 10), .int .i64 ((upd fn655 (a656.A.toNat * 1) a656.B) 11), .int .i64 ((upd fn655 (a656.A.toNat * 1) a656.B) 12), .int .i64 ((upd fn655 (a656.A.toNat * 1) a656.B) 13), .int .i64 ((upd fn655 (a656.A.toNat * 1) a656.B) 14), .int .i64 ((upd fn655 (a656.A.toNat * 1) a656.B) 15), .int .i64 a649, .slice A651 a653.length c652, .int .i64 a654] 66 :: OSf E_api_Out 58 (.slice A651 a653.length c652) a653 :: l) hf := hS
  refine ⟨(by intro hx; cases hx), ?_⟩
  refine RP.nil ?_
  have e := h.some
  subst e
  refine RQ.end0 (vs := []) Tryd.results50 trivial ?_
  exact ⟨rfl, (hS.dropAt 0 rfl)⟩

/-! ### (*isochron/vm.cpu).move: function 51 -/
noncomputable def vm_cpu_move.f (a670 : List api_Instr) (a674 : Int) (a675 : List api_Link) (a679 : Int) (a680 : Int) (a681 : Int) (a682 : Int) (a683 : Int) (a684 : Int) (a685 : Int) (a686 : Bool) (a687 : Int) (a691 : List api_Out) (a692 : Int) (fn693 : (Nat → Int)) (a694 : api_Instr) : Option ((Nat → Int)) := (if 0 ≤ a694.B ∧ a694.B < 16 then (if 0 ≤ a694.A ∧ a694.A < 16 then some (upd fn693 (a694.A.toNat * 1) (fn693 (a694.B.toNat * 1))) else none) else none)
set_option maxRecDepth 100000 in
set_option maxHeartbeats 4000000 in
theorem vm_cpu_move.ok {B : Base} {w : World} {l : List HProp} {hf : Hp} (a670 : List api_Instr) (a674 : Int) (a675 : List api_Link) (a679 : Int) (a680 : Int) (a681 : Int) (a682 : Int) (a683 : Int) (a684 : Int) (a685 : Int) (a686 : Bool) (a687 : Int) (a691 : List api_Out) (a692 : Int) (fn693 : (Nat → Int)) (a694 : api_Instr) (b669 : Nat) (A671 : Option Addr) (c672 : Nat) (A676 : Option Addr) (c677 : Nat) (A689 : Option Addr) (c690 : Nat) (hr673 : SlR E_api_Instr.rep hf A671 c672 a670) (hr678 : SlR E_api_Link.rep hf A676 c677 a675) (r : (Nat → Int)) (h : vm_cpu_move.f a670 a674 a675 a679 a680 a681 a682 a683 a684 a685 a686 a687 a691 a692 fn693 a694 = some r) (hS : St B w (Cl b669 [.slice A671 a670.length c672, .int .i64 a674, .slice A676 a675.length c677, .int .u64 a679, .int .i64 a680, .int .i64 a681, .int .i64 a682, .int .i64 a683, .int .i64 a684, .int .i64 a685, .bool a686, .int .i64 (fn693 0), .int .i64 (fn693 1), .int .i64 (fn693 2), .int .i64 (fn693 3), .int .i64 (fn693 4), .int .i64 (fn693 5), .int .i64 (fn693 6), .int .i64 (fn693 7), .int .i64 (fn693 8), .int .i64 (fn693 9), .int .i64 (fn693 10), .int .i64 (fn693 11), .int .i64 (fn693 12), .int .i64 (fn693 13), .int .i64 (fn693 14), .int .i64 (fn693 15), .int .i64 a687, .slice A689 a691.length c690, .int .i64 a692] 66 :: OSf E_api_Out 58 (.slice A689 a691.length c690) a691 :: l) hf) :
    Calls Tryd.prog 51 #[.pointer (some ⟨b669, 0, none⟩), .agg #[.int .i64 a694.Op, .int .i64 a694.A, .int .i64 a694.B, .int .i64 a694.C]] w (Ret fun v w => v = .tuple #[] ∧ St B w (Cl b669 [.slice A671 a670.length c672, .int .i64 a674, .slice A676 a675.length c677, .int .u64 a679, .int .i64 a680, .int .i64 a681, .int .i64 a682, .int .i64 a683, .int .i64 a684, .int .i64 a685, .bool a686, .int .i64 (r 0), .int .i64 (r 1), .int .i64 (r 2), .int .i64 (r 3), .int .i64 (r 4), .int .i64 (r 5), .int .i64 (r 6), .int .i64 (r 7), .int .i64 (r 8), .int .i64 (r 9), .int .i64 (r 10), .int .i64 (r 11), .int .i64 (r 12), .int .i64 (r 13), .int .i64 (r 14), .int .i64 (r 15), .int .i64 a687, .slice A689 a691.length c690, .int .i64 a692] 66 :: OSf E_api_Out 58 (.slice A689 a691.length c690) a691 :: l) hf) := by
  have h := Holds.of h
  refine enter (args := [.pointer (some ⟨b669, 0, none⟩), .agg #[.int .i64 a694.Op, .int .i64 a694.A, .int .i64 a694.B, .int .i64 a694.C]]) Tryd.func51 rfl Tryd.ntmps51 (Nat.le_of_ble_eq_true rfl) ?_
  refine RC.seq ?_
  refine RC.region ?_
  refine RL.e (OW.box (cs := [.int .i64 a694.Op, .int .i64 a694.A, .int .i64 a694.B, .int .i64 a694.C]) hS rfl rfl) rfl rfl ?_
  rintro _ w ⟨b702, rfl, hS⟩
  have hS : St B w (Cl b702 [.int .i64 a694.Op, .int .i64 a694.A, .int .i64 a694.B, .int .i64 a694.C] 48 :: Cl b669 [.slice A671 a670.length c672, .int .i64 a674, .slice A676 a675.length c677, .int .u64 a679, .int .i64 a680, .int .i64 a681, .int .i64 a682, .int .i64 a683, .int .i64 a684, .int .i64 a685, .bool a686, .int .i64 (fn693 0), .int .i64 (fn693 1), .int .i64 (fn693 2), .int .i64 (fn693 3), .int .i64 (fn693 4), .int .i64 (fn693 5), .int .i64 (fn693 6), .int .i64 (fn693 7), .int .i64 (fn693 8), .int .i64 (fn693 9), .int .i64 (fn693 10), .int .i64 (fn693 11), .int .i64 (fn693 12), .int .i64 (fn693 13), .int .i64 (fn693 14), .int .i64 (fn693 15), .int .i64 a687, .slice A689 a691.length c690, .int .i64 a692] 66 :: OSf E_api_Out 58 (.slice A689 a691.length c690) a691 :: l) hf := hS
  refine RL.nil ?_
  refine RQ.then_n ?_
  refine RC.plan (.pure 0 (.pure 1 (.cons 2 true (.pure 3 (.pure 4 (.cons 5 true (.pure 6 (.pure 7 (.pure 8 (.cons 9 true (.cons 10 false (.cons 11 false (.cons 12 false (.cons 13 false .nil)))))))))))))) [12, 13] (fun w => St B w (Cl b702 [.int .i64 a694.Op, .int .i64 a694.A, .int .i64 a694.B, .int .i64 a694.C] 48 :: Cl b669 [.slice A671 a670.length c672, .int .i64 a674, .slice A676 a675.length c677, .int .u64 a679, .int .i64 a680, .int .i64 a681, .int .i64 a682, .int .i64 a683, .int .i64 a684, .int .i64 a685, .bool a686, .int .i64 (fn693 0), .int .i64 (fn693 1), .int .i64 (fn693 2), .int .i64 (fn693 3), .int .i64 (fn693 4), .int .i64 (fn693 5), .int .i64 (fn693 6), .int .i64 (fn693 7), .int .i64 (fn693 8), .int .i64 (fn693 9), .int .i64 (fn693 10), .int .i64 (fn693 11), .int .i64 (fn693 12), .int .i64 (fn693 13), .int .i64 (fn693 14), .int .i64 (fn693 15), .int .i64 a687, .slice A689 a691.length c690, .int .i64 a692] 66 :: OSf E_api_Out 58 (.slice A689 a691.length c690) a691 :: l) hf) follows rfl (by kernel_rfl) NoTmp.body ?_
  have hS := hS.same (w' := { w with drawn := w.drawn + 1 }) rfl rfl
  revert hS
  generalize { w with drawn := w.drawn + 1 } = w
  intro hS
  refine RP.s0 0 rfl (fun w => Vl.move rfl) rfl ?_
  refine RP.s0 1 rfl (fun w => Vl.fieldAddr (a'' := ⟨b702, 1, none⟩) Tryd.underlying48 rfl Tryd.sizeOf3 rfl rfl) rfl ?_
  refine RP.s 2 rfl rfl hS (fun w hS => Vl.load Tryd.isAgg3 rfl (hS.cell 0 rfl rfl)) rfl ?_
  refine RP.s0 3 rfl (fun w => Vl.move rfl) rfl ?_
  refine RP.s0 4 rfl (fun w => Vl.fieldAddr (a'' := ⟨b702, 2, none⟩) Tryd.underlying48 rfl Tryd.sizeOf3 rfl rfl) rfl ?_
  refine RP.s 5 rfl rfl hS (fun w hS => Vl.load Tryd.isAgg3 rfl (hS.cell 0 rfl rfl)) rfl ?_
  refine RP.s0 6 rfl (fun w => Vl.nilCheck rfl) rfl ?_
  refine RP.s0 7 rfl (fun w => Vl.fieldAddr (a'' := ⟨b669, 11, none⟩) Tryd.underlying66 rfl Tryd.sizeOf64 rfl rfl) rfl ?_
  obtain ⟨⟨hq703, hq704⟩, h⟩ := h.req
  refine RP.s0 8 rfl (fun w => Vl.indexAddrA (a'' := ⟨b669, 11 + a694.B.toNat * 1, none⟩) Tryd.underlying64 Tryd.sizeOf2 rfl rfl hq703 hq704 (add_mk _ _ _)) rfl ?_
  refine RP.s 9 rfl rfl hS (fun w hS => Vl.load Tryd.isAgg2 rfl (hS.cell (off := 11 + a694.B.toNat * 1) (cs := [.slice A671 a670.length c672, .int .i64 a674, .slice A676 a675.length c677, .int .u64 a679, .int .i64 a680, .int .i64 a681, .int .i64 a682, .int .i64 a683, .int .i64 a684, .int .i64 a685, .bool a686] ++ (fc (Value.int .i64) 16 fn693 ++ [.int .i64 a687, .slice A689 a691.length c690, .int .i64 a692])) 1 rfl (seg_get rfl (by omega)))) rfl ?_
  refine RP.v1 10 rfl (Vl.nilCheck rfl) rfl rfl ?_
  refine RP.v1 11 rfl (Vl.fieldAddr (a'' := ⟨b669, 11, none⟩) Tryd.underlying66 rfl Tryd.sizeOf64 rfl rfl) rfl rfl ?_
  obtain ⟨⟨hq705, hq706⟩, h⟩ := h.req
  refine RP.v1 12 rfl (Vl.indexAddrA (a'' := ⟨b669, 11 + a694.A.toNat * 1, none⟩) Tryd.underlying64 Tryd.sizeOf2 rfl rfl hq705 hq706 (add_mk _ _ _)) rfl rfl ?_
  refine RP.e0 13 rfl (OW.storeSeg (mk := (Value.int .i64)) (f := fn693) (n := 16) (m := 11) (pre := [.slice A671 a670.length c672, .int .i64 a674, .slice A676 a675.length c677, .int .u64 a679, .int .i64 a680, .int .i64 a681, .int .i64 a682, .int .i64 a683, .int .i64 a684, .int .i64 a685, .bool a686]) (post := [.int .i64 a687, .slice A689 a691.length c690, .int .i64 a692]) (l' := Cl b702 [.int .i64 a694.Op, .int .i64 a694.A, .int .i64 a694.B, .int .i64 a694.C] 48 :: Cl b669 [.slice A671 a670.length c672, .int .i64 a674, .slice A676 a675.length c677, .int .u64 a679, .int .i64 a680, .int .i64 a681, .int .i64 a682, .int .i64 a683, .int .i64 a684, .int .i64 a685, .bool a686, .int .i64 ((upd fn693 (a694.A.toNat * 1) (fn693 (a694.B.toNat * 1))) 0), .int .i64 ((upd fn693 (a694.A.toNat * 1) (fn693 (a694.B.toNat * 1))) 1), .int .i64 ((upd fn693 (a694.A.toNat * 1) (fn693 (a694.B.toNat * 1))) 2), .int .i64 ((upd fn693 (a694.A.toNat * 1) (fn693 (a694.B.toNat * 1))) 3), .int .i64 ((upd fn693 (a694.A.toNat * 1) (fn693 (a694.B.toNat * 1))) 4), .int .i64 ((upd fn693 (a694.A.toNat * 1) (fn693 (a694.B.toNat * 1))) 5), .int .i64 ((upd fn693 (a694.A.toNat * 1) (fn693 (a694.B.toNat * 1))) 6), .int .i64 ((upd fn693 (a694.A.toNat * 1) (fn693 (a694.B.toNat * 1))) 7), .int .i64 ((upd fn693 (a694.A.toNat * 1) (fn693 (a694.B.toNat * 1))) 8), .int .i64 ((upd fn693 (a694.A.toNat * 1) (fn693 (a694.B.toNat * 1))) 9), .int .i64 ((upd fn693 (a694.A.toNat * 1) (fn693 (a694.B.toNat * 1))) 10), .int .i64 ((upd fn693 (a694.A.toNat * 1) (fn693 (a694.B.toNat * 1))) 11), .int .i64 ((upd fn693 (a694.A.toNat * 1) (fn693 (a694.B.toNat * 1))) 12), .int .i64 ((upd fn693 (a694.A.toNat * 1) (fn693 (a694.B.toNat * 1))) 13), .int .i64 ((upd fn693 (a694.A.toNat * 1) (fn693 (a694.B.toNat * 1))) 14), .int .i64 ((upd fn693 (a694.A.toNat * 1) (fn693 (a694.B.toNat * 1))) 15), .int .i64 a687, .slice A689 a691.length c690, .int .i64 a692] 66 :: OSf E_api_Out 58 (.slice A689 a691.length c690) a691 :: l) 1 hS rfl rfl rfl rfl Tryd.sizeOf2 (by omega) (fun _ => rfl) (fun _ => rfl) rfl) rfl ?_
  rintro _ w ⟨rfl, hS⟩
  have hS : St B w (Cl b702 [.int .i64 a694.Op, .int .i64 a694.A, .int .i64 a694.B, .int .i64 a694.C] 48 :: Cl b669 [.slice A671 a670.length c672, .int .i64 a674, .slice A676 a675.length c677, .int .u64 a679, .int .i64 a680, .int .i64 a681, .int .i64 a682, .int .i64 a683, .int .i64 a684, .int .i64 a685, .bool a686, .int .i64 ((upd fn693 (a694.A.toNat * 1) (fn693 (a694.B.toNat * 1))) 0), .int .i64 ((upd fn693 (a694.A.toNat * 1) (fn693 (a694.B.toNat * 1))) 1), .int .i64 ((upd fn693 (a694.A.toNat * 1) (fn693 (a694.B.toNat * 1))) 2), .int .i64 ((upd fn693 (a694.A.toNat * 1) (fn693 (a694.B.toNat * 1))) 3), .int .i64 ((upd fn693 (a694.A.toNat * 1) (fn693 (a694.B.toNat * 1))) 4), .int .i64 ((upd fn693 (a694.A.toNat * 1) (fn693 (a694.B.toNat * 1))) 5), .int .i64 ((upd fn693 (a694.A.toNat * 1) (fn693 (a694.B.toNat * 1))) 6), .int .i64 ((upd fn693 (a694.A.toNat * 1) (fn693 (a694.B.toNat * 1))) 7), .int .i64 ((upd fn693 (a694.A.toNat * 1) (fn693 (a694.B.toNat * 1))) 8), .int .i64 ((upd fn693 (a694.A.toNat * 1) (fn693 (a694.B.toNat * 1))) 9), .int .i64 ((upd fn693 (a694.A.toNat * 1) (fn693 (a694.B.toNat * 1))) 10), .int .i64 ((upd fn693 (a694.A.toNat * 1) (fn693 (a694.B.toNat * 1))) 11), .int .i64 ((upd fn693 (a694.A.toNat * 1) (fn693 (a694.B.toNat * 1))) 12), .int .i64 ((upd fn693 (a694.A.toNat * 1) (fn693 (a694.B.toNat * 1))) 13), .int .i64 ((upd fn693 (a694.A.toNat * 1) (fn693 (a694.B.toNat * 1))) 14), .int .i64 ((upd fn693 (a694.A.toNat * 1) (fn693 (a694.B.toNat * 1))) 15), .int .i64 a687, .slice A689 a691.length c690, .int .i64 a692] 66 :: OSf E_api_Out 58 (.slice A689 a691.length c690) a691 :: l) hf := hS
  refine ⟨(by intro hx; cases hx), ?_⟩
  refine RP.nil ?_
  have e := h.some
  subst e
  refine RQ.end0 (vs := []) Tryd.results51 trivial ?_
  exact ⟨rfl, (hS.dropAt 0 rfl)⟩

/-! ### (*isochron/vm.cpu).add: function 52 -/
noncomputable def vm_cpu_add.f (a712 : List api_Instr) (a716 : Int) (a717 : List api_Link) (a721 : Int) (a722 : Int) (a723 : Int) (a724 : Int) (a725 : Int) (a726 : Int) (a727 : Int) (a728 : Bool) (a729 : Int) (a733 : List api_Out) (a734 : Int) (fn735 : (Nat → Int)) (a736 : api_Instr) : Option ((Nat → Int)) := (if 0 ≤ a736.B ∧ a736.B < 16 then (if 0 ≤ a736.C ∧ a736.C < 16 then (if 0 ≤ a736.A ∧ a736.A < 16 then some (upd fn735 (a736.A.toNat * 1) (IntKind.i64.wrap ((fn735 (a736.B.toNat * 1)) + (fn735 (a736.C.toNat * 1))))) else none) else none) else none)
set_option maxRecDepth 100000 in
set_option maxHeartbeats 4000000 in
theorem vm_cpu_add.ok {B : Base} {w : World} {l : List HProp} {hf : Hp} (a712 : List api_Instr) (a716 : Int) (a717 : List api_Link) (a721 : Int) (a722 : Int) (a723 : Int) (a724 : Int) (a725 : Int) (a726 : Int) (a727 : Int) (a728 : Bool) (a729 : Int) (a733 : List api_Out) (a734 : Int) (fn735 : (Nat → Int)) (a736 : api_Instr) (b711 : Nat) (A713 : Option Addr) (c714 : Nat) (A718 : Option Addr) (c719 : Nat) (A731 : Option Addr) (c732 : Nat) (hr715 : SlR E_api_Instr.rep hf A713 c714 a712) (hr720 : SlR E_api_Link.rep hf A718 c719 a717) (r : (Nat → Int)) (h : vm_cpu_add.f a712 a716 a717 a721 a722 a723 a724 a725 a726 a727 a728 a729 a733 a734 fn735 a736 = some r) (hS : St B w (Cl b711 [.slice A713 a712.length c714, .int .i64 a716, .slice A718 a717.length c719, .int .u64 a721, .int .i64 a722, .int .i64 a723, .int .i64 a724, .int .i64 a725, .int .i64 a726, .int .i64 a727, .bool a728, .int .i64 (fn735 0), .int .i64 (fn735 1), .int .i64 (fn735 2), .int .i64 (fn735 3), .int .i64 (fn735 4), .int .i64 (fn735 5), .int .i64 (fn735 6), .int .i64 (fn735 7), .int .i64 (fn735 8), .int .i64 (fn735 9), .int .i64 (fn735 10), .int .i64 (fn735 11), .int .i64 (fn735 12), .int .i64 (fn735 13), .int .i64 (fn735 14), .int .i64 (fn735 15), .int .i64 a729, .slice A731 a733.length c732, .int .i64 a734] 66 :: OSf E_api_Out 58 (.slice A731 a733.length c732) a733 :: l) hf) :
    Calls Tryd.prog 52 #[.pointer (some ⟨b711, 0, none⟩), .agg #[.int .i64 a736.Op, .int .i64 a736.A, .int .i64 a736.B, .int .i64 a736.C]] w (Ret fun v w => v = .tuple #[] ∧ St B w (Cl b711 [.slice A713 a712.length c714, .int .i64 a716, .slice A718 a717.length c719, .int .u64 a721, .int .i64 a722, .int .i64 a723, .int .i64 a724, .int .i64 a725, .int .i64 a726, .int .i64 a727, .bool a728, .int .i64 (r 0), .int .i64 (r 1), .int .i64 (r 2), .int .i64 (r 3), .int .i64 (r 4), .int .i64 (r 5), .int .i64 (r 6), .int .i64 (r 7), .int .i64 (r 8), .int .i64 (r 9), .int .i64 (r 10), .int .i64 (r 11), .int .i64 (r 12), .int .i64 (r 13), .int .i64 (r 14), .int .i64 (r 15), .int .i64 a729, .slice A731 a733.length c732, .int .i64 a734] 66 :: OSf E_api_Out 58 (.slice A731 a733.length c732) a733 :: l) hf) := by
  have h := Holds.of h
  refine enter (args := [.pointer (some ⟨b711, 0, none⟩), .agg #[.int .i64 a736.Op, .int .i64 a736.A, .int .i64 a736.B, .int .i64 a736.C]]) Tryd.func52 rfl Tryd.ntmps52 (Nat.le_of_ble_eq_true rfl) ?_
  refine RC.seq ?_
  refine RC.region ?_
  refine RL.e (OW.box (cs := [.int .i64 a736.Op, .int .i64 a736.A, .int .i64 a736.B, .int .i64 a736.C]) hS rfl rfl) rfl rfl ?_
  rintro _ w ⟨b746, rfl, hS⟩
  have hS : St B w (Cl b746 [.int .i64 a736.Op, .int .i64 a736.A, .int .i64 a736.B, .int .i64 a736.C] 48 :: Cl b711 [.slice A713 a712.length c714, .int .i64 a716, .slice A718 a717.length c719, .int .u64 a721, .int .i64 a722, .int .i64 a723, .int .i64 a724, .int .i64 a725, .int .i64 a726, .int .i64 a727, .bool a728, .int .i64 (fn735 0), .int .i64 (fn735 1), .int .i64 (fn735 2), .int .i64 (fn735 3), .int .i64 (fn735 4), .int .i64 (fn735 5), .int .i64 (fn735 6), .int .i64 (fn735 7), .int .i64 (fn735 8), .int .i64 (fn735 9), .int .i64 (fn735 10), .int .i64 (fn735 11), .int .i64 (fn735 12), .int .i64 (fn735 13), .int .i64 (fn735 14), .int .i64 (fn735 15), .int .i64 a729, .slice A731 a733.length c732, .int .i64 a734] 66 :: OSf E_api_Out 58 (.slice A731 a733.length c732) a733 :: l) hf := hS
  refine RL.nil ?_
  refine RQ.then_n ?_
  refine RC.plan (.pure 0 (.pure 1 (.cons 2 true (.pure 3 (.pure 4 (.cons 5 true (.pure 6 (.pure 7 (.pure 8 (.cons 9 true (.pure 10 (.pure 11 (.cons 12 true (.pure 13 (.pure 14 (.pure 15 (.cons 16 true (.pure 17 (.cons 18 false (.cons 19 false (.cons 20 false (.cons 21 false .nil)))))))))))))))))))))) [20, 21] (fun w => St B w (Cl b746 [.int .i64 a736.Op, .int .i64 a736.A, .int .i64 a736.B, .int .i64 a736.C] 48 :: Cl b711 [.slice A713 a712.length c714, .int .i64 a716, .slice A718 a717.length c719, .int .u64 a721, .int .i64 a722, .int .i64 a723, .int .i64 a724, .int .i64 a725, .int .i64 a726, .int .i64 a727, .bool a728, .int .i64 (fn735 0), .int .i64 (fn735 1), .int .i64 (fn735 2), .int .i64 (fn735 3), .int .i64 (fn735 4), .int .i64 (fn735 5), .int .i64 (fn735 6), .int .i64 (fn735 7), .int .i64 (fn735 8), .int .i64 (fn735 9), .int .i64 (fn735 10), .int .i64 (fn735 11), .int .i64 (fn735 12), .int .i64 (fn735 13), .int .i64 (fn735 14), .int .i64 (fn735 15), .int .i64 a729, .slice A731 a733.length c732, .int .i64 a734] 66 :: OSf E_api_Out 58 (.slice A731 a733.length c732) a733 :: l) hf) follows rfl (by kernel_rfl) NoTmp.body ?_
  have hS := hS.same (w' := { w with drawn := w.drawn + 1 }) rfl rfl
  revert hS
  generalize { w with drawn := w.drawn + 1 } = w
  intro hS
  refine RP.s0 0 rfl (fun w => Vl.move rfl) rfl ?_
  refine RP.s0 1 rfl (fun w => Vl.fieldAddr (a'' := ⟨b746, 1, none⟩) Tryd.underlying48 rfl Tryd.sizeOf3 rfl rfl) rfl ?_
  refine RP.s 2 rfl rfl hS (fun w hS => Vl.load Tryd.isAgg3 rfl (hS.cell 0 rfl rfl)) rfl ?_
  refine RP.s0 3 rfl (fun w => Vl.move rfl) rfl ?_
  refine RP.s0 4 rfl (fun w => Vl.fieldAddr (a'' := ⟨b746, 2, none⟩) Tryd.underlying48 rfl Tryd.sizeOf3 rfl rfl) rfl ?_
  refine RP.s 5 rfl rfl hS (fun w hS => Vl.load Tryd.isAgg3 rfl (hS.cell 0 rfl rfl)) rfl ?_
  refine RP.s0 6 rfl (fun w => Vl.nilCheck rfl) rfl ?_
  refine RP.s0 7 rfl (fun w => Vl.fieldAddr (a'' := ⟨b711, 11, none⟩) Tryd.underlying66 rfl Tryd.sizeOf64 rfl rfl) rfl ?_
  obtain ⟨⟨hq747, hq748⟩, h⟩ := h.req
  refine RP.s0 8 rfl (fun w => Vl.indexAddrA (a'' := ⟨b711, 11 + a736.B.toNat * 1, none⟩) Tryd.underlying64 Tryd.sizeOf2 rfl rfl hq747 hq748 (add_mk _ _ _)) rfl ?_
  refine RP.s 9 rfl rfl hS (fun w hS => Vl.load Tryd.isAgg2 rfl (hS.cell (off := 11 + a736.B.toNat * 1) (cs := [.slice A713 a712.length c714, .int .i64 a716, .slice A718 a717.length c719, .int .u64 a721, .int .i64 a722, .int .i64 a723, .int .i64 a724, .int .i64 a725, .int .i64 a726, .int .i64 a727, .bool a728] ++ (fc (Value.int .i64) 16 fn735 ++ [.int .i64 a729, .slice A731 a733.length c732, .int .i64 a734])) 1 rfl (seg_get rfl (by omega)))) rfl ?_
  refine RP.s0 10 rfl (fun w => Vl.move rfl) rfl ?_
  refine RP.s0 11 rfl (fun w => Vl.fieldAddr (a'' := ⟨b746, 3, none⟩) Tryd.underlying48 rfl Tryd.sizeOf3 rfl rfl) rfl ?_
  refine RP.s 12 rfl rfl hS (fun w hS => Vl.load Tryd.isAgg3 rfl (hS.cell 0 rfl rfl)) rfl ?_
  refine RP.s0 13 rfl (fun w => Vl.nilCheck rfl) rfl ?_
  refine RP.s0 14 rfl (fun w => Vl.fieldAddr (a'' := ⟨b711, 11, none⟩) Tryd.underlying66 rfl Tryd.sizeOf64 rfl rfl) rfl ?_
  obtain ⟨⟨hq749, hq750⟩, h⟩ := h.req
  refine RP.s0 15 rfl (fun w => Vl.indexAddrA (a'' := ⟨b711, 11 + a736.C.toNat * 1, none⟩) Tryd.underlying64 Tryd.sizeOf2 rfl rfl hq749 hq750 (add_mk _ _ _)) rfl ?_
  refine RP.s 16 rfl rfl hS (fun w hS => Vl.load Tryd.isAgg2 rfl (hS.cell (off := 11 + a736.C.toNat * 1) (cs := [.slice A713 a712.length c714, .int .i64 a716, .slice A718 a717.length c719, .int .u64 a721, .int .i64 a722, .int .i64 a723, .int .i64 a724, .int .i64 a725, .int .i64 a726, .int .i64 a727, .bool a728] ++ (fc (Value.int .i64) 16 fn735 ++ [.int .i64 a729, .slice A731 a733.length c732, .int .i64 a734])) 1 rfl (seg_get rfl (by omega)))) rfl ?_
  refine RP.s0 17 rfl (fun w => Vl.int rfl rfl rfl) rfl ?_
  refine RP.v1 18 rfl (Vl.nilCheck rfl) rfl rfl ?_
  refine RP.v1 19 rfl (Vl.fieldAddr (a'' := ⟨b711, 11, none⟩) Tryd.underlying66 rfl Tryd.sizeOf64 rfl rfl) rfl rfl ?_
  obtain ⟨⟨hq751, hq752⟩, h⟩ := h.req
  refine RP.v1 20 rfl (Vl.indexAddrA (a'' := ⟨b711, 11 + a736.A.toNat * 1, none⟩) Tryd.underlying64 Tryd.sizeOf2 rfl rfl hq751 hq752 (add_mk _ _ _)) rfl rfl ?_
  refine RP.e0 21 rfl (OW.storeSeg (mk := (Value.int .i64)) (f := fn735) (n := 16) (m := 11) (pre := [.slice A713 a712.length c714, .int .i64 a716, .slice A718 a717.length c719, .int .u64 a721, .int .i64 a722, .int .i64 a723, .int .i64 a724, .int .i64 a725, .int .i64 a726, .int .i64 a727, .bool a728]) (post := [.int .i64 a729, .slice A731 a733.length c732, .int .i64 a734]) (l' := Cl b746 [.int .i64 a736.Op, .int .i64 a736.A, .int .i64 a736.B, .int .i64 a736.C] 48 :: Cl b711 [.slice A713 a712.length c714, .int .i64 a716, .slice A718 a717.length c719, .int .u64 a721, .int .i64 a722, .int .i64 a723, .int .i64 a724, .int .i64 a725, .int .i64 a726, .int .i64 a727, .bool a728, .int .i64 ((upd fn735 (a736.A.toNat * 1) (IntKind.i64.wrap ((fn735 (a736.B.toNat * 1)) + (fn735 (a736.C.toNat * 1))))) 0), .int .i64 ((upd fn735 (a736.A.toNat * 1) (IntKind.i64.wrap ((fn735 (a736.B.toNat * 1)) + (fn735 (a736.C.toNat * 1))))) 1), .int .i64 ((upd fn735 (a736.A.toNat * 1) (IntKind.i64.wrap ((fn735 (a736.B.toNat * 1)) + (fn735 (a736.C.toNat * 1))))) 2), .int .i64 ((upd fn735 (a736.A.toNat * 1) (IntKind.i64.wrap ((fn735 (a736.B.toNat * 1)) + (fn735 (a736.C.toNat * 1))))) 3), .int .i64 ((upd fn735 (a736.A.toNat * 1) (IntKind.i64.wrap ((fn735 (a736.B.toNat * 1)) + (fn735 (a736.C.toNat * 1))))) 4), .int .i64 ((upd fn735 (a736.A.toNat * 1) (IntKind.i64.wrap ((fn735 (a736.B.toNat * 1)) + (fn735 (a736.C.toNat * 1))))) 5), .int .i64 ((upd fn735 (a736.A.toNat * 1) (IntKind.i64.wrap ((fn735 (a736.B.toNat * 1)) + (fn735 (a736.C.toNat * 1))))) 6), .int .i64 ((upd fn735 (a736.A.toNat * 1) (IntKind.i64.wrap ((fn735 (a736.B.toNat * 1)) + (fn735 (a736.C.toNat * 1))))) 7), .int .i64 ((upd fn735 (a736.A.toNat * 1) (IntKind.i64.wrap ((fn735 (a736.B.toNat * 1)) + (fn735 (a736.C.toNat * 1))))) 8), .int .i64 ((upd fn735 (a736.A.toNat * 1) (IntKind.i64.wrap ((fn735 (a736.B.toNat * 1)) + (fn735 (a736.C.toNat * 1))))) 9), .int .i64 ((upd fn735 (a736.A.toNat * 1) (IntKind.i64.wrap ((fn735 (a736.B.toNat * 1)) + (fn735 (a736.C.toNat * 1))))) 10), .int .i64 ((upd fn735 (a736.A.toNat * 1) (IntKind.i64.wrap ((fn735 (a736.B.toNat * 1)) + (fn735 (a736.C.toNat * 1))))) 11), .int .i64 ((upd fn735 (a736.A.toNat * 1) (IntKind.i64.wrap ((fn735 (a736.B.toNat * 1)) + (fn735 (a736.C.toNat * 1))))) 12), .int .i64 ((upd fn735 (a736.A.toNat * 1) (IntKind.i64.wrap ((fn735 (a736.B.toNat * 1)) + (fn735 (a736.C.toNat * 1))))) 13), .int .i64 ((upd fn735 (a736.A.toNat * 1) (IntKind.i64.wrap ((fn735 (a736.B.toNat * 1)) + (fn735 (a736.C.toNat * 1))))) 14), .int .i64 ((upd fn735 (a736.A.toNat * 1) (IntKind.i64.wrap ((fn735 (a736.B.toNat * 1)) + (fn735 (a736.C.toNat * 1))))) 15), .int .i64 a729, .slice A731 a733.length c732, .int .i64 a734] 66 :: OSf E_api_Out 58 (.slice A731 a733.length c732) a733 :: l) 1 hS rfl rfl rfl rfl Tryd.sizeOf2 (by omega) (fun _ => rfl) (fun _ => rfl) rfl) rfl ?_
  rintro _ w ⟨rfl, hS⟩
  have hS : St B w (Cl b746 [.int .i64 a736.Op, .int .i64 a736.A, .int .i64 a736.B, .int .i64 a736.C] 48 :: Cl b711 [.slice A713 a712.length c714, .int .i64 a716, .slice A718 a717.length c719, .int .u64 a721, .int .i64 a722, .int .i64 a723, .int .i64 a724, .int .i64 a725, .int .i64 a726, .int .i64 a727, .bool a728, .int .i64 ((upd fn735 (a736.A.toNat * 1) (IntKind.i64.wrap ((fn735 (a736.B.toNat * 1)) + (fn735 (a736.C.toNat * 1))))) 0), .int .i64 ((upd fn735 (a736.A.toNat * 1) (IntKind.i64.wrap ((fn735 (a736.B.toNat * 1)) + (fn735 (a736.C.toNat * 1))))) 1), .int .i64 ((upd fn735 (a736.A.toNat * 1) (IntKind.i64.wrap ((fn735 (a736.B.toNat * 1)) + (fn735 (a736.C.toNat * 1))))) 2), .int .i64 ((upd fn735 (a736.A.toNat * 1) (IntKind.i64.wrap ((fn735 (a736.B.toNat * 1)) + (fn735 (a736.C.toNat * 1))))) 3), .int .i64 ((upd fn735 (a736.A.toNat * 1) (IntKind.i64.wrap ((fn735 (a736.B.toNat * 1)) + (fn735 (a736.C.toNat * 1))))) 4), .int .i64 ((upd fn735 (a736.A.toNat * 1) (IntKind.i64.wrap ((fn735 (a736.B.toNat * 1)) + (fn735 (a736.C.toNat * 1))))) 5), .int .i64 ((upd fn735 (a736.A.toNat * 1) (IntKind.i64.wrap ((fn735 (a736.B.toNat * 1)) + (fn735 (a736.C.toNat * 1))))) 6), .int .i64 ((upd fn735 (a736.A.toNat * 1) (IntKind.i64.wrap ((fn735 (a736.B.toNat * 1)) + (fn735 (a736.C.toNat * 1))))) 7), .int .i64 ((upd fn735 (a736.A.toNat * 1) (IntKind.i64.wrap ((fn735 (a736.B.toNat * 1)) + (fn735 (a736.C.toNat * 1))))) 8), .int .i64 ((upd fn735 (a736.A.toNat * 1) (IntKind.i64.wrap ((fn735 (a736.B.toNat * 1)) + (fn735 (a736.C.toNat * 1))))) 9), .int .i64 ((upd fn735 (a736.A.toNat * 1) (IntKind.i64.wrap ((fn735 (a736.B.toNat * 1)) + (fn735 (a736.C.toNat * 1))))) 10), .int .i64 ((upd fn735 (a736.A.toNat * 1) (IntKind.i64.wrap ((fn735 (a736.B.toNat * 1)) + (fn735 (a736.C.toNat * 1))))) 11), .int .i64 ((upd fn735 (a736.A.toNat * 1) (IntKind.i64.wrap ((fn735 (a736.B.toNat * 1)) + (fn735 (a736.C.toNat * 1))))) 12), .int .i64 ((upd fn735 (a736.A.toNat * 1) (IntKind.i64.wrap ((fn735 (a736.B.toNat * 1)) + (fn735 (a736.C.toNat * 1))))) 13), .int .i64 ((upd fn735 (a736.A.toNat * 1) (IntKind.i64.wrap ((fn735 (a736.B.toNat * 1)) + (fn735 (a736.C.toNat * 1))))) 14), .int .i64 ((upd fn735 (a736.A.toNat * 1) (IntKind.i64.wrap ((fn735 (a736.B.toNat * 1)) + (fn735 (a736.C.toNat * 1))))) 15), .int .i64 a729, .slice A731 a733.length c732, .int .i64 a734] 66 :: OSf E_api_Out 58 (.slice A731 a733.length c732) a733 :: l) hf := hS
  refine ⟨(by intro hx; cases hx), ?_⟩
  refine RP.nil ?_
  have e := h.some
  subst e
  refine RQ.end0 (vs := []) Tryd.results52 trivial ?_
  exact ⟨rfl, (hS.dropAt 0 rfl)⟩

/-! ### (*isochron/vm.cpu).sub: function 53 -/
noncomputable def vm_cpu_sub.f (a758 : List api_Instr) (a762 : Int) (a763 : List api_Link) (a767 : Int) (a768 : Int) (a769 : Int) (a770 : Int) (a771 : Int) (a772 : Int) (a773 : Int) (a774 : Bool) (a775 : Int) (a779 : List api_Out) (a780 : Int) (fn781 : (Nat → Int)) (a782 : api_Instr) : Option ((Nat → Int)) := (if 0 ≤ a782.B ∧ a782.B < 16 then (if 0 ≤ a782.C ∧ a782.C < 16 then (if 0 ≤ a782.A ∧ a782.A < 16 then some (upd fn781 (a782.A.toNat * 1) (IntKind.i64.wrap ((fn781 (a782.B.toNat * 1)) - (fn781 (a782.C.toNat * 1))))) else none) else none) else none)
set_option maxRecDepth 100000 in
set_option maxHeartbeats 4000000 in
theorem vm_cpu_sub.ok {B : Base} {w : World} {l : List HProp} {hf : Hp} (a758 : List api_Instr) (a762 : Int) (a763 : List api_Link) (a767 : Int) (a768 : Int) (a769 : Int) (a770 : Int) (a771 : Int) (a772 : Int) (a773 : Int) (a774 : Bool) (a775 : Int) (a779 : List api_Out) (a780 : Int) (fn781 : (Nat → Int)) (a782 : api_Instr) (b757 : Nat) (A759 : Option Addr) (c760 : Nat) (A764 : Option Addr) (c765 : Nat) (A777 : Option Addr) (c778 : Nat) (hr761 : SlR E_api_Instr.rep hf A759 c760 a758) (hr766 : SlR E_api_Link.rep hf A764 c765 a763) (r : (Nat → Int)) (h : vm_cpu_sub.f a758 a762 a763 a767 a768 a769 a770 a771 a772 a773 a774 a775 a779 a780 fn781 a782 = some r) (hS : St B w (Cl b757 [.slice A759 a758.length c760, .int .i64 a762, .slice A764 a763.length c765, .int .u64 a767, .int .i64 a768, .int .i64 a769, .int .i64 a770, .int .i64 a771, .int .i64 a772, .int .i64 a773, .bool a774, .int .i64 (fn781 0), .int .i64 (fn781 1), .int .i64 (fn781 2), .int .i64 (fn781 3), .int .i64 (fn781 4), .int .i64 (fn781 5), .int .i64 (fn781 6), .int .i64 (fn781 7), .int .i64 (fn781 8), .int .i64 (fn781 9), .int .i64 (fn781 10), .int .i64 (fn781 11), .int .i64 (fn781 12), .int .i64 (fn781 13), .int .i64 (fn781 14), .int .i64 (fn781 15), .int .i64 a775, .slice A777 a779.length c778, .int .i64 a780] 66 :: OSf E_api_Out 58 (.slice A777 a779.length c778) a779 :: l) hf) :
    Calls Tryd.prog 53 #[.pointer (some ⟨b757, 0, none⟩), .agg #[.int .i64 a782.Op, .int .i64 a782.A, .int .i64 a782.B, .int .i64 a782.C]] w (Ret fun v w => v = .tuple #[] ∧ St B w (Cl b757 [.slice A759 a758.length c760, .int .i64 a762, .slice A764 a763.length c765, .int .u64 a767, .int .i64 a768, .int .i64 a769, .int .i64 a770, .int .i64 a771, .int .i64 a772, .int .i64 a773, .bool a774, .int .i64 (r 0), .int .i64 (r 1), .int .i64 (r 2), .int .i64 (r 3), .int .i64 (r 4), .int .i64 (r 5), .int .i64 (r 6), .int .i64 (r 7), .int .i64 (r 8), .int .i64 (r 9), .int .i64 (r 10), .int .i64 (r 11), .int .i64 (r 12), .int .i64 (r 13), .int .i64 (r 14), .int .i64 (r 15), .int .i64 a775, .slice A777 a779.length c778, .int .i64 a780] 66 :: OSf E_api_Out 58 (.slice A777 a779.length c778) a779 :: l) hf) := by
  have h := Holds.of h
  refine enter (args := [.pointer (some ⟨b757, 0, none⟩), .agg #[.int .i64 a782.Op, .int .i64 a782.A, .int .i64 a782.B, .int .i64 a782.C]]) Tryd.func53 rfl Tryd.ntmps53 (Nat.le_of_ble_eq_true rfl) ?_
  refine RC.seq ?_
  refine RC.region ?_
  refine RL.e (OW.box (cs := [.int .i64 a782.Op, .int .i64 a782.A, .int .i64 a782.B, .int .i64 a782.C]) hS rfl rfl) rfl rfl ?_
  rintro _ w ⟨b792, rfl, hS⟩
  have hS : St B w (Cl b792 [.int .i64 a782.Op, .int .i64 a782.A, .int .i64 a782.B, .int .i64 a782.C] 48 :: Cl b757 [.slice A759 a758.length c760, .int .i64 a762, .slice A764 a763.length c765, .int .u64 a767, .int .i64 a768, .int .i64 a769, .int .i64 a770, .int .i64 a771, .int .i64 a772, .int .i64 a773, .bool a774, .int .i64 (fn781 0), .int .i64 (fn781 1), .int .i64 (fn781 2), .int .i64 (fn781 3), .int .i64 (fn781 4), .int .i64 (fn781 5), .int .i64 (fn781 6), .int .i64 (fn781 7), .int .i64 (fn781 8), .int .i64 (fn781 9), .int .i64 (fn781 10), .int .i64 (fn781 11), .int .i64 (fn781 12), .int .i64 (fn781 13), .int .i64 (fn781 14), .int .i64 (fn781 15), .int .i64 a775, .slice A777 a779.length c778, .int .i64 a780] 66 :: OSf E_api_Out 58 (.slice A777 a779.length c778) a779 :: l) hf := hS
  refine RL.nil ?_
  refine RQ.then_n ?_
  refine RC.plan (.pure 0 (.pure 1 (.cons 2 true (.pure 3 (.pure 4 (.cons 5 true (.pure 6 (.pure 7 (.pure 8 (.cons 9 true (.pure 10 (.pure 11 (.cons 12 true (.pure 13 (.pure 14 (.pure 15 (.cons 16 true (.pure 17 (.cons 18 false (.cons 19 false (.cons 20 false (.cons 21 false .nil)))))))))))))))))))))) [20, 21] (fun w => St B w (Cl b792 [.int .i64 a782.Op, .int .i64 a782.A, .int .i64 a782.B, .int .i64 a782.C] 48 :: Cl b757 [.slice A759 a758.length c760, .int .i64 a762, .slice A764 a763.length c765, .int .u64 a767, .int .i64 a768, .int .i64 a769, .int .i64 a770, .int .i64 a771, .int .i64 a772, .int .i64 a773, .bool a774, .int .i64 (fn781 0), .int .i64 (fn781 1), .int .i64 (fn781 2), .int .i64 (fn781 3), .int .i64 (fn781 4), .int .i64 (fn781 5), .int .i64 (fn781 6), .int .i64 (fn781 7), .int .i64 (fn781 8), .int .i64 (fn781 9), .int .i64 (fn781 10), .int .i64 (fn781 11), .int .i64 (fn781 12), .int .i64 (fn781 13), .int .i64 (fn781 14), .int .i64 (fn781 15), .int .i64 a775, .slice A777 a779.length c778, .int .i64 a780] 66 :: OSf E_api_Out 58 (.slice A777 a779.length c778) a779 :: l) hf) follows rfl (by kernel_rfl) NoTmp.body ?_
  have hS := hS.same (w' := { w with drawn := w.drawn + 1 }) rfl rfl
  revert hS
  generalize { w with drawn := w.drawn + 1 } = w
  intro hS
  refine RP.s0 0 rfl (fun w => Vl.move rfl) rfl ?_
  refine RP.s0 1 rfl (fun w => Vl.fieldAddr (a'' := ⟨b792, 1, none⟩) Tryd.underlying48 rfl Tryd.sizeOf3 rfl rfl) rfl ?_
  refine RP.s 2 rfl rfl hS (fun w hS => Vl.load Tryd.isAgg3 rfl (hS.cell 0 rfl rfl)) rfl ?_
  refine RP.s0 3 rfl (fun w => Vl.move rfl) rfl ?_
  refine RP.s0 4 rfl (fun w => Vl.fieldAddr (a'' := ⟨b792, 2, none⟩) Tryd.underlying48 rfl Tryd.sizeOf3 rfl rfl) rfl ?_
  refine RP.s 5 rfl rfl hS (fun w hS => Vl.load Tryd.isAgg3 rfl (hS.cell 0 rfl rfl)) rfl ?_
  refine RP.s0 6 rfl (fun w => Vl.nilCheck rfl) rfl ?_
  refine RP.s0 7 rfl (fun w => Vl.fieldAddr (a'' := ⟨b757, 11, none⟩) Tryd.underlying66 rfl Tryd.sizeOf64 rfl rfl) rfl ?_
  obtain ⟨⟨hq793, hq794⟩, h⟩ := h.req
  refine RP.s0 8 rfl (fun w => Vl.indexAddrA (a'' := ⟨b757, 11 + a782.B.toNat * 1, none⟩) Tryd.underlying64 Tryd.sizeOf2 rfl rfl hq793 hq794 (add_mk _ _ _)) rfl ?_
  refine RP.s 9 rfl rfl hS (fun w hS => Vl.load Tryd.isAgg2 rfl (hS.cell (off := 11 + a782.B.toNat * 1) (cs := [.slice A759 a758.length c760, .int .i64 a762, .slice A764 a763.length c765, .int .u64 a767, .int .i64 a768, .int .i64 a769, .int .i64 a770, .int .i64 a771, .int .i64 a772, .int .i64 a773, .bool a774] ++ (fc (Value.int .i64) 16 fn781 ++ [.int .i64 a775, .slice A777 a779.length c778, .int .i64 a780])) 1 rfl (seg_get rfl (by omega)))) rfl ?_
  refine RP.s0 10 rfl (fun w => Vl.move rfl) rfl ?_
  refine RP.s0 11 rfl (fun w => Vl.fieldAddr (a'' := ⟨b792, 3, none⟩) Tryd.underlying48 rfl Tryd.sizeOf3 rfl rfl) rfl ?_
  refine RP.s 12 rfl rfl hS (fun w hS => Vl.load Tryd.isAgg3 rfl (hS.cell 0 rfl rfl)) rfl ?_
  refine RP.s0 13 rfl (fun w => Vl.nilCheck rfl) rfl ?_
  refine RP.s0 14 rfl (fun w => Vl.fieldAddr (a'' := ⟨b757, 11, none⟩) Tryd.underlying66 rfl Tryd.sizeOf64 rfl rfl) rfl ?_
  obtain ⟨⟨hq795, hq796⟩, h⟩ := h.req
  refine RP.s0 15 rfl (fun w => Vl.indexAddrA (a'' := ⟨b757, 11 + a782.C.toNat * 1, none⟩) Tryd.underlying64 Tryd.sizeOf2 rfl rfl hq795 hq796 (add_mk _ _ _)) rfl ?_
  refine RP.s 16 rfl rfl hS (fun w hS => Vl.load Tryd.isAgg2 rfl (hS.cell (off := 11 + a782.C.toNat * 1) (cs := [.slice A759 a758.length c760, .int .i64 a762, .slice A764 a763.length c765, .int .u64 a767, .int .i64 a768, .int .i64 a769, .int .i64 a770, .int .i64 a771, .int .i64 a772, .int .i64 a773, .bool a774] ++ (fc (Value.int .i64) 16 fn781 ++ [.int .i64 a775, .slice A777 a779.length c778, .int .i64 a780])) 1 rfl (seg_get rfl (by omega)))) rfl ?_
  refine RP.s0 17 rfl (fun w => Vl.int rfl rfl rfl) rfl ?_
  refine RP.v1 18 rfl (Vl.nilCheck rfl) rfl rfl ?_
  refine RP.v1 19 rfl (Vl.fieldAddr (a'' := ⟨b757, 11, none⟩) Tryd.underlying66 rfl Tryd.sizeOf64 rfl rfl) rfl rfl ?_
  obtain ⟨⟨hq797, hq798⟩, h⟩ := h.req
  refine RP.v1 20 rfl (Vl.indexAddrA (a'' := ⟨b757, 11 + a782.A.toNat * 1, none⟩) Tryd.underlying64 Tryd.sizeOf2 rfl rfl hq797 hq798 (add_mk _ _ _)) rfl rfl ?_
  refine RP.e0 21 rfl (OW.storeSeg (mk := (Value.int .i64)) (f := fn781) (n := 16) (m := 11) (pre := [.slice A759 a758.length c760, .int .i64 a762, .slice A764 a763.length c765, .int .u64 a767, .int .i64 a768, .int .i64 a769, .int .i64 a770, .int .i64 a771, .int .i64 a772, .int .i64 a773, .bool a774]) (post := [.int .i64 a775, .slice A777 a779.length c778, .int .i64 a780]) (l' := Cl b792 [.int .i64 a782.Op, .int .i64 a782.A, .int .i64 a782.B, .int .i64 a782.C] 48 :: Cl b757 [.slice A759 a758.length c760, .int .i64 a762, .slice A764 a763.length c765, .int .u64 a767, .int .i64 a768, .int .i64 a769, .int .i64 a770, .int .i64 a771, .int .i64 a772, .int .i64 a773, .bool a774, .int .i64 ((upd fn781 (a782.A.toNat * 1) (IntKind.i64.wrap ((fn781 (a782.B.toNat * 1)) - (fn781 (a782.C.toNat * 1))))) 0), .int .i64 ((upd fn781 (a782.A.toNat * 1) (IntKind.i64.wrap ((fn781 (a782.B.toNat * 1)) - (fn781 (a782.C.toNat * 1))))) 1), .int .i64 ((upd fn781 (a782.A.toNat * 1) (IntKind.i64.wrap ((fn781 (a782.B.toNat * 1)) - (fn781 (a782.C.toNat * 1))))) 2), .int .i64 ((upd fn781 (a782.A.toNat * 1) (IntKind.i64.wrap ((fn781 (a782.B.toNat * 1)) - (fn781 (a782.C.toNat * 1))))) 3), .int .i64 ((upd fn781 (a782.A.toNat * 1) (IntKind.i64.wrap ((fn781 (a782.B.toNat * 1)) - (fn781 (a782.C.toNat * 1))))) 4), .int .i64 ((upd fn781 (a782.A.toNat * 1) (IntKind.i64.wrap ((fn781 (a782.B.toNat * 1)) - (fn781 (a782.C.toNat * 1))))) 5), .int .i64 ((upd fn781 (a782.A.toNat * 1) (IntKind.i64.wrap ((fn781 (a782.B.toNat * 1)) - (fn781 (a782.C.toNat * 1))))) 6), .int .i64 ((upd fn781 (a782.A.toNat * 1) (IntKind.i64.wrap ((fn781 (a782.B.toNat * 1)) - (fn781 (a782.C.toNat * 1))))) 7), .int .i64 ((upd fn781 (a782.A.toNat * 1) (IntKind.i64.wrap ((fn781 (a782.B.toNat * 1)) - (fn781 (a782.C.toNat * 1))))) 8), .int .i64 ((upd fn781 (a782.A.toNat * 1) (IntKind.i64.wrap ((fn781 (a782.B.toNat * 1)) - (fn781 (a782.C.toNat * 1))))) 9), .int .i64 ((upd fn781 (a782.A.toNat * 1) (IntKind.i64.wrap ((fn781 (a782.B.toNat * 1)) - (fn781 (a782.C.toNat * 1))))) 10), .int .i64 ((upd fn781 (a782.A.toNat * 1) (IntKind.i64.wrap ((fn781 (a782.B.toNat * 1)) - (fn781 (a782.C.toNat * 1))))) 11), .int .i64 ((upd fn781 (a782.A.toNat * 1) (IntKind.i64.wrap ((fn781 (a782.B.toNat * 1)) - (fn781 (a782.C.toNat * 1))))) 12), .int .i64 ((upd fn781 (a782.A.toNat * 1) (IntKind.i64.wrap ((fn781 (a782.B.toNat * 1)) - (fn781 (a782.C.toNat * 1))))) 13), .int .i64 ((upd fn781 (a782.A.toNat * 1) (IntKind.i64.wrap ((fn781 (a782.B.toNat * 1)) - (fn781 (a782.C.toNat * 1))))) 14), .int .i64 ((upd fn781 (a782.A.toNat * 1) (IntKind.i64.wrap ((fn781 (a782.B.toNat * 1)) - (fn781 (a782.C.toNat * 1))))) 15), .int .i64 a775, .slice A777 a779.length c778, .int .i64 a780] 66 :: OSf E_api_Out 58 (.slice A777 a779.length c778) a779 :: l) 1 hS rfl rfl rfl rfl Tryd.sizeOf2 (by omega) (fun _ => rfl) (fun _ => rfl) rfl) rfl ?_
  rintro _ w ⟨rfl, hS⟩
  have hS : St B w (Cl b792 [.int .i64 a782.Op, .int .i64 a782.A, .int .i64 a782.B, .int .i64 a782.C] 48 :: Cl b757 [.slice A759 a758.length c760, .int .i64 a762, .slice A764 a763.length c765, .int .u64 a767, .int .i64 a768, .int .i64 a769, .int .i64 a770, .int .i64 a771, .int .i64 a772, .int .i64 a773, .bool a774, .int .i64 ((upd fn781 (a782.A.toNat * 1) (IntKind.i64.wrap ((fn781 (a782.B.toNat * 1)) - (fn781 (a782.C.toNat * 1))))) 0), .int .i64 ((upd fn781 (a782.A.toNat * 1) (IntKind.i64.wrap ((fn781 (a782.B.toNat * 1)) - (fn781 (a782.C.toNat * 1))))) 1), .int .i64 ((upd fn781 (a782.A.toNat * 1) (IntKind.i64.wrap ((fn781 (a782.B.toNat * 1)) - (fn781 (a782.C.toNat * 1))))) 2), .int .i64 ((upd fn781 (a782.A.toNat * 1) (IntKind.i64.wrap ((fn781 (a782.B.toNat * 1)) - (fn781 (a782.C.toNat * 1))))) 3), .int .i64 ((upd fn781 (a782.A.toNat * 1) (IntKind.i64.wrap ((fn781 (a782.B.toNat * 1)) - (fn781 (a782.C.toNat * 1))))) 4), .int .i64 ((upd fn781 (a782.A.toNat * 1) (IntKind.i64.wrap ((fn781 (a782.B.toNat * 1)) - (fn781 (a782.C.toNat * 1))))) 5), .int .i64 ((upd fn781 (a782.A.toNat * 1) (IntKind.i64.wrap ((fn781 (a782.B.toNat * 1)) - (fn781 (a782.C.toNat * 1))))) 6), .int .i64 ((upd fn781 (a782.A.toNat * 1) (IntKind.i64.wrap ((fn781 (a782.B.toNat * 1)) - (fn781 (a782.C.toNat * 1))))) 7), .int .i64 ((upd fn781 (a782.A.toNat * 1) (IntKind.i64.wrap ((fn781 (a782.B.toNat * 1)) - (fn781 (a782.C.toNat * 1))))) 8), .int .i64 ((upd fn781 (a782.A.toNat * 1) (IntKind.i64.wrap ((fn781 (a782.B.toNat * 1)) - (fn781 (a782.C.toNat * 1))))) 9), .int .i64 ((upd fn781 (a782.A.toNat * 1) (IntKind.i64.wrap ((fn781 (a782.B.toNat * 1)) - (fn781 (a782.C.toNat * 1))))) 10), .int .i64 ((upd fn781 (a782.A.toNat * 1) (IntKind.i64.wrap ((fn781 (a782.B.toNat * 1)) - (fn781 (a782.C.toNat * 1))))) 11), .int .i64 ((upd fn781 (a782.A.toNat * 1) (IntKind.i64.wrap ((fn781 (a782.B.toNat * 1)) - (fn781 (a782.C.toNat * 1))))) 12), .int .i64 ((upd fn781 (a782.A.toNat * 1) (IntKind.i64.wrap ((fn781 (a782.B.toNat * 1)) - (fn781 (a782.C.toNat * 1))))) 13), .int .i64 ((upd fn781 (a782.A.toNat * 1) (IntKind.i64.wrap ((fn781 (a782.B.toNat * 1)) - (fn781 (a782.C.toNat * 1))))) 14), .int .i64 ((upd fn781 (a782.A.toNat * 1) (IntKind.i64.wrap ((fn781 (a782.B.toNat * 1)) - (fn781 (a782.C.toNat * 1))))) 15), .int .i64 a775, .slice A777 a779.length c778, .int .i64 a780] 66 :: OSf E_api_Out 58 (.slice A777 a779.length c778) a779 :: l) hf := hS
  refine ⟨(by intro hx; cases hx), ?_⟩
  refine RP.nil ?_
  have e := h.some
  subst e
  refine RQ.end0 (vs := []) Tryd.results53 trivial ?_
  exact ⟨rfl, (hS.dropAt 0 rfl)⟩

end Go.Proofs.Gx
