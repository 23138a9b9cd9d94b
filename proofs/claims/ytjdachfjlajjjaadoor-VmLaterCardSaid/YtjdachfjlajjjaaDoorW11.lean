/-
  The walks of functions, each with what it computes: printed by wip/gx.py.
-/
import Derived.Test.YtjdachfjlajjjaaDoorW0
set_option linter.unusedVariables false
namespace Go.Proofs.Gx
open Go.Sl
/-! ### isochron/isochronref03.reg: function 73 -/
noncomputable def isochronref03vreg.f (a4745 : Int) : Option (Bool) := (if 0 ≤ a4745 then some (decide (a4745 ≤ 15)) else some false)
set_option maxRecDepth 100000 in
set_option maxHeartbeats 4000000 in
theorem isochronref03vreg.ok {B : Base} {w : World} {l : List HProp} {hf : Hp} (a4745 : Int) (r : Bool) (h : isochronref03vreg.f a4745 = some r) (hS : St B w (l) hf) :
    Calls Tryd.prog 73 #[.int .i64 a4745] w (Ret fun v w => v = .bool r ∧ St B w (l) hf) := by
  have h := Holds.of h
  refine enter (args := [.int .i64 a4745]) Tryd.func73 rfl Tryd.ntmps73 (Nat.le_of_ble_eq_true rfl) ?_
  refine RC.seq ?_
  refine RC.region ?_
  refine RL.s (Vl.assign rfl) rfl ?_
  refine RL.nil ?_
  refine RQ.then_n ?_
  refine RC.seq ?_
  refine RC.region ?_
  refine RL.s (Vl.move rfl) rfl ?_
  refine RL.s (Vl.int rfl rfl rfl) rfl ?_
  refine RL.s (Vl.move rfl) rfl ?_
  by_cases hc4747 : 0 ≤ a4745
  case pos =>
   have h := h.pos hc4747
   refine RL.re 5 rfl (congrArg Value.bool (decide_eq_true hc4747)) ?_
   refine RL.sg (Vl.move rfl) rfl rfl ?_
   refine RL.sg (Vl.int rfl rfl rfl) rfl rfl ?_
   refine RL.s (Vl.pickT rfl rfl) rfl ?_
   refine RL.s (Vl.assign rfl) rfl ?_
   refine RL.nil ?_
   refine RQ.then_n ?_
   refine RC.ret ?_
   have e := h.some
   subst e
   refine RQ.ret0 (vs := [.bool (decide (a4745 ≤ 15))]) Tryd.results73 ⟨rfl, trivial⟩ ?_
   exact ⟨rfl, hS⟩
  case neg =>
   have h := h.neg hc4747
   refine RL.re 5 rfl (congrArg Value.bool (decide_eq_false hc4747)) ?_
   refine RL.nn rfl rfl ?_
   refine RL.nn rfl rfl ?_
   refine RL.s (Vl.pickF rfl rfl) rfl ?_
   refine RL.s (Vl.assign rfl) rfl ?_
   refine RL.nil ?_
   refine RQ.then_n ?_
   refine RC.ret ?_
   have e := h.some
   subst e
   refine RQ.ret0 (vs := [.bool false]) Tryd.results73 ⟨rfl, trivial⟩ ?_
   exact ⟨rfl, hS⟩

/-! ### isochron/isochronref03.may: function 46 -/
noncomputable def isochronref03vmay.j6 (a4737 : api_Instr) (q4856 : Bool) : Option (Bool) := (if q4856 = true then ((isochronref03vreg.f a4737.A).bind fun t4858 => (if t4858 = true then (if a4737.B = 0 then some (decide (a4737.C = 0)) else some false) else some false)) else some false)
noncomputable def isochronref03vmay.j5 (a4737 : api_Instr) (a4738 : Int) (q4834 : Bool) : Option (Bool) := (if q4834 = true then ((isochronref03vreg.f a4737.A).bind fun t4836 => (if t4836 = true then ((isochronref03vreg.f a4737.B).bind fun t4839 => (if t4839 = true then ((isochronref03vreg.f a4737.C).bind fun t4842 => some t4842) else some false)) else some false)) else (if a4737.Op = 10 then (if 0 ≤ a4737.A then (if a4737.A ≤ a4738 then (if a4737.B = 0 then some (decide (a4737.C = 0)) else some false) else some false) else some false) else (if a4737.Op = 11 then ((isochronref03vreg.f a4737.A).bind fun t4849 => (if t4849 = true then (if 0 ≤ a4737.B then (if a4737.B ≤ a4738 then some (decide (a4737.C = 0)) else some false) else some false) else some false)) else (if a4737.Op = 14 then isochronref03vmay.j6 a4737 true else (if a4737.Op = 15 then isochronref03vmay.j6 a4737 true else isochronref03vmay.j6 a4737 (decide (a4737.Op = 16)))))))
noncomputable def isochronref03vmay.j4 (a4737 : api_Instr) (a4738 : Int) (q4819 : Bool) : Option (Bool) := (if q4819 = true then ((isochronref03vreg.f a4737.A).bind fun t4821 => (if t4821 = true then ((isochronref03vreg.f a4737.B).bind fun t4824 => (if t4824 = true then some (decide (a4737.C = 0)) else some false)) else some false)) else (if a4737.Op = 3 then isochronref03vmay.j5 a4737 a4738 true else (if a4737.Op = 4 then isochronref03vmay.j5 a4737 a4738 true else (if a4737.Op = 5 then isochronref03vmay.j5 a4737 a4738 true else (if a4737.Op = 6 then isochronref03vmay.j5 a4737 a4738 true else (if a4737.Op = 7 then isochronref03vmay.j5 a4737 a4738 true else (if a4737.Op = 8 then isochronref03vmay.j5 a4737 a4738 true else (if a4737.Op = 9 then isochronref03vmay.j5 a4737 a4738 true else isochronref03vmay.j5 a4737 a4738 (decide (a4737.Op = 12))))))))))
noncomputable def isochronref03vmay.f (a4737 : api_Instr) (a4738 : Int) : Option (Bool) := (if a4737.Op = 0 then (if a4737.A = 0 then (if a4737.B = 0 then some (decide (a4737.C = 0)) else some false) else some false) else (if a4737.Op = 1 then ((isochronref03vreg.f a4737.A).bind fun t4813 => (if t4813 = true then (if (-2147483648) ≤ a4737.B then (if a4737.B ≤ 2147483647 then some (decide (a4737.C = 0)) else some false) else some false) else some false)) else (if a4737.Op = 2 then isochronref03vmay.j4 a4737 a4738 true else isochronref03vmay.j4 a4737 a4738 (decide (a4737.Op = 13)))))
set_option maxRecDepth 100000 in
set_option maxHeartbeats 4000000 in
theorem isochronref03vmay.ok {B : Base} {w : World} {l : List HProp} {hf : Hp} (a4737 : api_Instr) (a4738 : Int) (r : Bool) (h : isochronref03vmay.f a4737 a4738 = some r) (hS : St B w (l) hf) :
    Calls Tryd.prog 46 #[.agg #[.int .i64 a4737.Op, .int .i64 a4737.A, .int .i64 a4737.B, .int .i64 a4737.C], .int .i64 a4738] w (Ret fun v w => v = .bool r ∧ St B w (l) hf) := by
  have h := Holds.of h
  refine enter (args := [.agg #[.int .i64 a4737.Op, .int .i64 a4737.A, .int .i64 a4737.B, .int .i64 a4737.C], .int .i64 a4738]) Tryd.func46 rfl Tryd.ntmps46 (Nat.le_of_ble_eq_true rfl) ?_
  refine RC.seq ?_
  refine RC.region ?_
  refine RL.e (OW.box (cs := [.int .i64 a4737.Op, .int .i64 a4737.A, .int .i64 a4737.B, .int .i64 a4737.C]) hS rfl rfl) rfl rfl ?_
  rintro _ w ⟨b4808, rfl, hS⟩
  have hS : St B w (Cl b4808 [.int .i64 a4737.Op, .int .i64 a4737.A, .int .i64 a4737.B, .int .i64 a4737.C] 48 :: l) hf := hS
  refine RL.s (Vl.assign rfl) rfl ?_
  refine RL.nil ?_
  refine RQ.then_n ?_
  refine RC.seq ?_
  refine RC.seq ?_
  refine RC.region ?_
  refine RL.s (Vl.fieldAddr (a'' := ⟨b4808, 0, none⟩) Tryd.underlying48 rfl Tryd.sizeOf3 rfl rfl) rfl ?_
  refine RL.s (Vl.load Tryd.isAgg3 rfl (hS.cell 0 rfl rfl)) rfl ?_
  refine RL.nil ?_
  refine RQ.then_n ?_
  refine RC.block ?_
  refine RC.seq ?_
  refine RC.region ?_
  refine RL.s (Vl.int rfl rfl rfl) rfl ?_
  refine RL.s (Vl.assign rfl) rfl ?_
  refine RL.nil ?_
  refine RQ.then_n ?_
  by_cases hc4809 : a4737.Op = 0
  case pos =>
   have h := h.pos hc4809
   refine RC.re 7 rfl (congrArg Value.bool (decide_eq_true hc4809)) ?_
   refine RC.condT rfl ?_
   refine RC.seq ?_
   refine RC.region ?_
   refine RL.s (Vl.fieldAddr (a'' := ⟨b4808, 1, none⟩) Tryd.underlying48 rfl Tryd.sizeOf3 rfl rfl) rfl ?_
   refine RL.s (Vl.load Tryd.isAgg3 rfl (hS.cell 0 rfl rfl)) rfl ?_
   refine RL.s (Vl.int rfl rfl rfl) rfl ?_
   refine RL.s (Vl.move rfl) rfl ?_
   by_cases hc4810 : a4737.A = 0
   case pos =>
    have h := h.pos hc4810
    refine RL.re 12 rfl (congrArg Value.bool (decide_eq_true hc4810)) ?_
    refine RL.sg (Vl.fieldAddr (a'' := ⟨b4808, 2, none⟩) Tryd.underlying48 rfl Tryd.sizeOf3 rfl rfl) rfl rfl ?_
    refine RL.sg (Vl.load Tryd.isAgg3 rfl (hS.cell 0 rfl rfl)) rfl rfl ?_
    refine RL.sg (Vl.int rfl rfl rfl) rfl rfl ?_
    refine RL.s (Vl.pickT rfl rfl) rfl ?_
    refine RL.s (Vl.move rfl) rfl ?_
    by_cases hc4811 : a4737.B = 0
    case pos =>
     have h := h.pos hc4811
     refine RL.re 17 rfl (congrArg Value.bool (decide_eq_true hc4811)) ?_
     refine RL.sg (Vl.fieldAddr (a'' := ⟨b4808, 3, none⟩) Tryd.underlying48 rfl Tryd.sizeOf3 rfl rfl) rfl rfl ?_
     refine RL.sg (Vl.load Tryd.isAgg3 rfl (hS.cell 0 rfl rfl)) rfl rfl ?_
     refine RL.sg (Vl.int rfl rfl rfl) rfl rfl ?_
     refine RL.s (Vl.pickT rfl rfl) rfl ?_
     refine RL.s (Vl.assign rfl) rfl ?_
     refine RL.nil ?_
     refine RQ.then_n ?_
     refine RC.ret ?_
     refine RQ.inB_ret ?_
     refine RQ.ret ?_
     have e := h.some
     subst e
     refine RQ.ret0 (vs := [.bool (decide (a4737.C = 0))]) Tryd.results46 ⟨rfl, trivial⟩ ?_
     exact ⟨rfl, (hS.dropAt 0 rfl)⟩
    case neg =>
     have h := h.neg hc4811
     refine RL.re 17 rfl (congrArg Value.bool (decide_eq_false hc4811)) ?_
     refine RL.nn rfl rfl ?_
     refine RL.nn rfl rfl ?_
     refine RL.nn rfl rfl ?_
     refine RL.s (Vl.pickF rfl rfl) rfl ?_
     refine RL.s (Vl.assign rfl) rfl ?_
     refine RL.nil ?_
     refine RQ.then_n ?_
     refine RC.ret ?_
     refine RQ.inB_ret ?_
     refine RQ.ret ?_
     have e := h.some
     subst e
     refine RQ.ret0 (vs := [.bool false]) Tryd.results46 ⟨rfl, trivial⟩ ?_
     exact ⟨rfl, (hS.dropAt 0 rfl)⟩
   case neg =>
    have h := h.neg hc4810
    refine RL.re 12 rfl (congrArg Value.bool (decide_eq_false hc4810)) ?_
    refine RL.nn rfl rfl ?_
    refine RL.nn rfl rfl ?_
    refine RL.nn rfl rfl ?_
    refine RL.s (Vl.pickF rfl rfl) rfl ?_
    refine RL.s (Vl.move rfl) rfl ?_
    refine RL.nn rfl rfl ?_
    refine RL.nn rfl rfl ?_
    refine RL.nn rfl rfl ?_
    refine RL.s (Vl.pickF rfl rfl) rfl ?_
    refine RL.s (Vl.assign rfl) rfl ?_
    refine RL.nil ?_
    refine RQ.then_n ?_
    refine RC.ret ?_
    refine RQ.inB_ret ?_
    refine RQ.ret ?_
    have e := h.some
    subst e
    refine RQ.ret0 (vs := [.bool false]) Tryd.results46 ⟨rfl, trivial⟩ ?_
    exact ⟨rfl, (hS.dropAt 0 rfl)⟩
  case neg =>
   have h := h.neg hc4809
   refine RC.re 7 rfl (congrArg Value.bool (decide_eq_false hc4809)) ?_
   refine RC.condF rfl ?_
   refine RC.seq ?_
   refine RC.region ?_
   refine RL.s (Vl.int rfl rfl rfl) rfl ?_
   refine RL.s (Vl.assign rfl) rfl ?_
   refine RL.nil ?_
   refine RQ.then_n ?_
   by_cases hc4812 : a4737.Op = 1
   case pos =>
    have h := h.pos hc4812
    refine RC.re 22 rfl (congrArg Value.bool (decide_eq_true hc4812)) ?_
    refine RC.condT rfl ?_
    refine RC.seq ?_
    refine RC.region ?_
    refine RL.s (Vl.fieldAddr (a'' := ⟨b4808, 1, none⟩) Tryd.underlying48 rfl Tryd.sizeOf3 rfl rfl) rfl ?_
    refine RL.s (Vl.load Tryd.isAgg3 rfl (hS.cell 0 rfl rfl)) rfl ?_
    obtain ⟨t4813, hg4814, h⟩ := h.bind
    refine RL.e (OW.callF (ls := [.tmp 25]) rfl Tryd.call73 (isochronref03vreg.ok a4737.A _ hg4814 hS)) rfl rfl ?_
    rintro _ w ⟨rfl, hS⟩
    have hS : St B w (Cl b4808 [.int .i64 a4737.Op, .int .i64 a4737.A, .int .i64 a4737.B, .int .i64 a4737.C] 48 :: l) hf := hS
    refine RL.s (Vl.move rfl) rfl ?_
    by_cases hc4815 : t4813 = true
    case pos =>
     have h := h.pos hc4815
     refine RL.re 27 rfl (congrArg Value.bool (id hc4815)) ?_
     refine RL.sg (Vl.fieldAddr (a'' := ⟨b4808, 2, none⟩) Tryd.underlying48 rfl Tryd.sizeOf3 rfl rfl) rfl rfl ?_
     refine RL.sg (Vl.load Tryd.isAgg3 rfl (hS.cell 0 rfl rfl)) rfl rfl ?_
     refine RL.sg (Vl.int rfl rfl rfl) rfl rfl ?_
     refine RL.s (Vl.pickT rfl rfl) rfl ?_
     refine RL.s (Vl.move rfl) rfl ?_
     by_cases hc4816 : (-2147483648) ≤ a4737.B
     case pos =>
      have h := h.pos hc4816
      refine RL.re 32 rfl (congrArg Value.bool (decide_eq_true hc4816)) ?_
      refine RL.sg (Vl.fieldAddr (a'' := ⟨b4808, 2, none⟩) Tryd.underlying48 rfl Tryd.sizeOf3 rfl rfl) rfl rfl ?_
      refine RL.sg (Vl.load Tryd.isAgg3 rfl (hS.cell 0 rfl rfl)) rfl rfl ?_
      refine RL.sg (Vl.int rfl rfl rfl) rfl rfl ?_
      refine RL.s (Vl.pickT rfl rfl) rfl ?_
      refine RL.s (Vl.move rfl) rfl ?_
      by_cases hc4817 : a4737.B ≤ 2147483647
      case pos =>
       have h := h.pos hc4817
       refine RL.re 37 rfl (congrArg Value.bool (decide_eq_true hc4817)) ?_
       refine RL.sg (Vl.fieldAddr (a'' := ⟨b4808, 3, none⟩) Tryd.underlying48 rfl Tryd.sizeOf3 rfl rfl) rfl rfl ?_
       refine RL.sg (Vl.load Tryd.isAgg3 rfl (hS.cell 0 rfl rfl)) rfl rfl ?_
       refine RL.sg (Vl.int rfl rfl rfl) rfl rfl ?_
       refine RL.s (Vl.pickT rfl rfl) rfl ?_
       refine RL.s (Vl.assign rfl) rfl ?_
       refine RL.nil ?_
       refine RQ.then_n ?_
       refine RC.ret ?_
       refine RQ.inB_ret ?_
       refine RQ.ret ?_
       have e := h.some
       subst e
       refine RQ.ret0 (vs := [.bool (decide (a4737.C = 0))]) Tryd.results46 ⟨rfl, trivial⟩ ?_
       exact ⟨rfl, (hS.dropAt 0 rfl)⟩
      case neg =>
       have h := h.neg hc4817
       refine RL.re 37 rfl (congrArg Value.bool (decide_eq_false hc4817)) ?_
       refine RL.nn rfl rfl ?_
       refine RL.nn rfl rfl ?_
       refine RL.nn rfl rfl ?_
       refine RL.s (Vl.pickF rfl rfl) rfl ?_
       refine RL.s (Vl.assign rfl) rfl ?_
       refine RL.nil ?_
       refine RQ.then_n ?_
       refine RC.ret ?_
       refine RQ.inB_ret ?_
       refine RQ.ret ?_
       have e := h.some
       subst e
       refine RQ.ret0 (vs := [.bool false]) Tryd.results46 ⟨rfl, trivial⟩ ?_
       exact ⟨rfl, (hS.dropAt 0 rfl)⟩
     case neg =>
      have h := h.neg hc4816
      refine RL.re 32 rfl (congrArg Value.bool (decide_eq_false hc4816)) ?_
      refine RL.nn rfl rfl ?_
      refine RL.nn rfl rfl ?_
      refine RL.nn rfl rfl ?_
      refine RL.s (Vl.pickF rfl rfl) rfl ?_
      refine RL.s (Vl.move rfl) rfl ?_
      refine RL.nn rfl rfl ?_
      refine RL.nn rfl rfl ?_
      refine RL.nn rfl rfl ?_
      refine RL.s (Vl.pickF rfl rfl) rfl ?_
      refine RL.s (Vl.assign rfl) rfl ?_
      refine RL.nil ?_
      refine RQ.then_n ?_
      refine RC.ret ?_
      refine RQ.inB_ret ?_
      refine RQ.ret ?_
      have e := h.some
      subst e
      refine RQ.ret0 (vs := [.bool false]) Tryd.results46 ⟨rfl, trivial⟩ ?_
      exact ⟨rfl, (hS.dropAt 0 rfl)⟩
    case neg =>
     have h := h.neg hc4815
     refine RL.re 27 rfl (congrArg Value.bool (eq_false_of hc4815)) ?_
     refine RL.nn rfl rfl ?_
     refine RL.nn rfl rfl ?_
     refine RL.nn rfl rfl ?_
     refine RL.s (Vl.pickF rfl rfl) rfl ?_
     refine RL.s (Vl.move rfl) rfl ?_
     refine RL.nn rfl rfl ?_
     refine RL.nn rfl rfl ?_
     refine RL.nn rfl rfl ?_
     refine RL.s (Vl.pickF rfl rfl) rfl ?_
     refine RL.s (Vl.move rfl) rfl ?_
     refine RL.nn rfl rfl ?_
     refine RL.nn rfl rfl ?_
     refine RL.nn rfl rfl ?_
     refine RL.s (Vl.pickF rfl rfl) rfl ?_
     refine RL.s (Vl.assign rfl) rfl ?_
     refine RL.nil ?_
     refine RQ.then_n ?_
     refine RC.ret ?_
     refine RQ.inB_ret ?_
     refine RQ.ret ?_
     have e := h.some
     subst e
     refine RQ.ret0 (vs := [.bool false]) Tryd.results46 ⟨rfl, trivial⟩ ?_
     exact ⟨rfl, (hS.dropAt 0 rfl)⟩
   case neg =>
    have h := h.neg hc4812
    refine RC.re 22 rfl (congrArg Value.bool (decide_eq_false hc4812)) ?_
    refine RC.condF rfl ?_
    refine RC.join (fun (s : Bool) a w => ∃ (q4819 : Bool), s = (q4819) ∧ Has 139 [(1, .int .i64 a4738), (2, .pointer (some ⟨b4808, 0, none⟩)), (6, .int .i64 a4737.Op), (42, .bool q4819)] a ∧ St B w (Cl b4808 [.int .i64 a4737.Op, .int .i64 a4737.A, .int .i64 a4737.B, .int .i64 a4737.C] 48 :: l) hf ∧ Holds (· = r) (isochronref03vmay.j4 a4737 a4738 q4819)) ?_ ?_
    · rintro q4819 a w ⟨_, rfl, ha, hS, h⟩
      revert a
      show RC _ _ _ _ _ _
      by_cases hc4820 : q4819 = true
      case pos =>
       have h := h.pos hc4820
       refine RC.re 42 rfl (congrArg Value.bool (id hc4820)) ?_
       refine RC.condT rfl ?_
       refine RC.seq ?_
       refine RC.region ?_
       refine RL.s (Vl.fieldAddr (a'' := ⟨b4808, 1, none⟩) Tryd.underlying48 rfl Tryd.sizeOf3 rfl rfl) rfl ?_
       refine RL.s (Vl.load Tryd.isAgg3 rfl (hS.cell 0 rfl rfl)) rfl ?_
       obtain ⟨t4821, hg4822, h⟩ := h.bind
       refine RL.e (OW.callF (ls := [.tmp 46]) rfl Tryd.call73 (isochronref03vreg.ok a4737.A _ hg4822 hS)) rfl rfl ?_
       rintro _ w ⟨rfl, hS⟩
       have hS : St B w (Cl b4808 [.int .i64 a4737.Op, .int .i64 a4737.A, .int .i64 a4737.B, .int .i64 a4737.C] 48 :: l) hf := hS
       refine RL.s (Vl.move rfl) rfl ?_
       by_cases hc4823 : t4821 = true
       case pos =>
        have h := h.pos hc4823
        refine RL.re 48 rfl (congrArg Value.bool (id hc4823)) ?_
        refine RL.sg (Vl.fieldAddr (a'' := ⟨b4808, 2, none⟩) Tryd.underlying48 rfl Tryd.sizeOf3 rfl rfl) rfl rfl ?_
        refine RL.sg (Vl.load Tryd.isAgg3 rfl (hS.cell 0 rfl rfl)) rfl rfl ?_
        obtain ⟨t4824, hg4825, h⟩ := h.bind
        refine RL.e (OW.callF (ls := [.tmp 50]) rfl Tryd.call73 (isochronref03vreg.ok a4737.B _ hg4825 hS)) rfl rfl ?_
        rintro _ w ⟨rfl, hS⟩
        have hS : St B w (Cl b4808 [.int .i64 a4737.Op, .int .i64 a4737.A, .int .i64 a4737.B, .int .i64 a4737.C] 48 :: l) hf := hS
        refine RL.s (Vl.pickT rfl rfl) rfl ?_
        refine RL.s (Vl.move rfl) rfl ?_
        by_cases hc4826 : t4824 = true
        case pos =>
         have h := h.pos hc4826
         refine RL.re 53 rfl (congrArg Value.bool (id hc4826)) ?_
         refine RL.sg (Vl.fieldAddr (a'' := ⟨b4808, 3, none⟩) Tryd.underlying48 rfl Tryd.sizeOf3 rfl rfl) rfl rfl ?_
         refine RL.sg (Vl.load Tryd.isAgg3 rfl (hS.cell 0 rfl rfl)) rfl rfl ?_
         refine RL.sg (Vl.int rfl rfl rfl) rfl rfl ?_
         refine RL.s (Vl.pickT rfl rfl) rfl ?_
         refine RL.s (Vl.assign rfl) rfl ?_
         refine RL.nil ?_
         refine RQ.then_n ?_
         refine RC.ret ?_
         refine RQ.inB_ret ?_
         refine RQ.ret ?_
         have e := h.some
         subst e
         refine RQ.ret0 (vs := [.bool (decide (a4737.C = 0))]) Tryd.results46 ⟨rfl, trivial⟩ ?_
         exact ⟨rfl, (hS.dropAt 0 rfl)⟩
        case neg =>
         have h := h.neg hc4826
         refine RL.re 53 rfl (congrArg Value.bool (eq_false_of hc4826)) ?_
         refine RL.nn rfl rfl ?_
         refine RL.nn rfl rfl ?_
         refine RL.nn rfl rfl ?_
         refine RL.s (Vl.pickF rfl rfl) rfl ?_
         refine RL.s (Vl.assign rfl) rfl ?_
         refine RL.nil ?_
         refine RQ.then_n ?_
         refine RC.ret ?_
         refine RQ.inB_ret ?_
         refine RQ.ret ?_
         have e := h.some
         subst e
         refine RQ.ret0 (vs := [.bool false]) Tryd.results46 ⟨rfl, trivial⟩ ?_
         exact ⟨rfl, (hS.dropAt 0 rfl)⟩
       case neg =>
        have h := h.neg hc4823
        refine RL.re 48 rfl (congrArg Value.bool (eq_false_of hc4823)) ?_
        refine RL.nn rfl rfl ?_
        refine RL.nn rfl rfl ?_
        refine RL.nn rfl rfl ?_
        refine RL.s (Vl.pickF rfl rfl) rfl ?_
        refine RL.s (Vl.move rfl) rfl ?_
        refine RL.nn rfl rfl ?_
        refine RL.nn rfl rfl ?_
        refine RL.nn rfl rfl ?_
        refine RL.s (Vl.pickF rfl rfl) rfl ?_
        refine RL.s (Vl.assign rfl) rfl ?_
        refine RL.nil ?_
        refine RQ.then_n ?_
        refine RC.ret ?_
        refine RQ.inB_ret ?_
        refine RQ.ret ?_
        have e := h.some
        subst e
        refine RQ.ret0 (vs := [.bool false]) Tryd.results46 ⟨rfl, trivial⟩ ?_
        exact ⟨rfl, (hS.dropAt 0 rfl)⟩
      case neg =>
       have h := h.neg hc4820
       refine RC.re 42 rfl (congrArg Value.bool (eq_false_of hc4820)) ?_
       refine RC.condF rfl ?_
       refine RC.join (fun (s : Bool) a w => ∃ (q4834 : Bool), s = (q4834) ∧ Has 139 [(1, .int .i64 a4738), (2, .pointer (some ⟨b4808, 0, none⟩)), (6, .int .i64 a4737.Op), (58, .bool q4834)] a ∧ St B w (Cl b4808 [.int .i64 a4737.Op, .int .i64 a4737.A, .int .i64 a4737.B, .int .i64 a4737.C] 48 :: l) hf ∧ Holds (· = r) (isochronref03vmay.j5 a4737 a4738 q4834)) ?_ ?_
       · rintro q4834 a w ⟨_, rfl, ha, hS, h⟩
         revert a
         show RC _ _ _ _ _ _
         by_cases hc4835 : q4834 = true
         case pos =>
          have h := h.pos hc4835
          refine RC.re 58 rfl (congrArg Value.bool (id hc4835)) ?_
          refine RC.condT rfl ?_
          refine RC.seq ?_
          refine RC.region ?_
          refine RL.s (Vl.fieldAddr (a'' := ⟨b4808, 1, none⟩) Tryd.underlying48 rfl Tryd.sizeOf3 rfl rfl) rfl ?_
          refine RL.s (Vl.load Tryd.isAgg3 rfl (hS.cell 0 rfl rfl)) rfl ?_
          obtain ⟨t4836, hg4837, h⟩ := h.bind
          refine RL.e (OW.callF (ls := [.tmp 68]) rfl Tryd.call73 (isochronref03vreg.ok a4737.A _ hg4837 hS)) rfl rfl ?_
          rintro _ w ⟨rfl, hS⟩
          have hS : St B w (Cl b4808 [.int .i64 a4737.Op, .int .i64 a4737.A, .int .i64 a4737.B, .int .i64 a4737.C] 48 :: l) hf := hS
          refine RL.s (Vl.move rfl) rfl ?_
          by_cases hc4838 : t4836 = true
          case pos =>
           have h := h.pos hc4838
           refine RL.re 70 rfl (congrArg Value.bool (id hc4838)) ?_
           refine RL.sg (Vl.fieldAddr (a'' := ⟨b4808, 2, none⟩) Tryd.underlying48 rfl Tryd.sizeOf3 rfl rfl) rfl rfl ?_
           refine RL.sg (Vl.load Tryd.isAgg3 rfl (hS.cell 0 rfl rfl)) rfl rfl ?_
           obtain ⟨t4839, hg4840, h⟩ := h.bind
           refine RL.e (OW.callF (ls := [.tmp 72]) rfl Tryd.call73 (isochronref03vreg.ok a4737.B _ hg4840 hS)) rfl rfl ?_
           rintro _ w ⟨rfl, hS⟩
           have hS : St B w (Cl b4808 [.int .i64 a4737.Op, .int .i64 a4737.A, .int .i64 a4737.B, .int .i64 a4737.C] 48 :: l) hf := hS
           refine RL.s (Vl.pickT rfl rfl) rfl ?_
           refine RL.s (Vl.move rfl) rfl ?_
           by_cases hc4841 : t4839 = true
           case pos =>
            have h := h.pos hc4841
            refine RL.re 75 rfl (congrArg Value.bool (id hc4841)) ?_
            refine RL.sg (Vl.fieldAddr (a'' := ⟨b4808, 3, none⟩) Tryd.underlying48 rfl Tryd.sizeOf3 rfl rfl) rfl rfl ?_
            refine RL.sg (Vl.load Tryd.isAgg3 rfl (hS.cell 0 rfl rfl)) rfl rfl ?_
            obtain ⟨t4842, hg4843, h⟩ := h.bind
            refine RL.e (OW.callF (ls := [.tmp 77]) rfl Tryd.call73 (isochronref03vreg.ok a4737.C _ hg4843 hS)) rfl rfl ?_
            rintro _ w ⟨rfl, hS⟩
            have hS : St B w (Cl b4808 [.int .i64 a4737.Op, .int .i64 a4737.A, .int .i64 a4737.B, .int .i64 a4737.C] 48 :: l) hf := hS
            refine RL.s (Vl.pickT rfl rfl) rfl ?_
            refine RL.s (Vl.assign rfl) rfl ?_
            refine RL.nil ?_
            refine RQ.then_n ?_
            refine RC.ret ?_
            refine RQ.inB_ret ?_
            refine RQ.ret ?_
            have e := h.some
            subst e
            refine RQ.ret0 (vs := [.bool t4842]) Tryd.results46 ⟨rfl, trivial⟩ ?_
            exact ⟨rfl, (hS.dropAt 0 rfl)⟩
           case neg =>
            have h := h.neg hc4841
            refine RL.re 75 rfl (congrArg Value.bool (eq_false_of hc4841)) ?_
            refine RL.nn rfl rfl ?_
            refine RL.nn rfl rfl ?_
            refine RL.nn rfl rfl ?_
            refine RL.s (Vl.pickF rfl rfl) rfl ?_
            refine RL.s (Vl.assign rfl) rfl ?_
            refine RL.nil ?_
            refine RQ.then_n ?_
            refine RC.ret ?_
            refine RQ.inB_ret ?_
            refine RQ.ret ?_
            have e := h.some
            subst e
            refine RQ.ret0 (vs := [.bool false]) Tryd.results46 ⟨rfl, trivial⟩ ?_
            exact ⟨rfl, (hS.dropAt 0 rfl)⟩
          case neg =>
           have h := h.neg hc4838
           refine RL.re 70 rfl (congrArg Value.bool (eq_false_of hc4838)) ?_
           refine RL.nn rfl rfl ?_
           refine RL.nn rfl rfl ?_
           refine RL.nn rfl rfl ?_
           refine RL.s (Vl.pickF rfl rfl) rfl ?_
           refine RL.s (Vl.move rfl) rfl ?_
           refine RL.nn rfl rfl ?_
           refine RL.nn rfl rfl ?_
           refine RL.nn rfl rfl ?_
           refine RL.s (Vl.pickF rfl rfl) rfl ?_
           refine RL.s (Vl.assign rfl) rfl ?_
           refine RL.nil ?_
           refine RQ.then_n ?_
           refine RC.ret ?_
           refine RQ.inB_ret ?_
           refine RQ.ret ?_
           have e := h.some
           subst e
           refine RQ.ret0 (vs := [.bool false]) Tryd.results46 ⟨rfl, trivial⟩ ?_
           exact ⟨rfl, (hS.dropAt 0 rfl)⟩
         case neg =>
          have h := h.neg hc4835
          refine RC.re 58 rfl (congrArg Value.bool (eq_false_of hc4835)) ?_
          refine RC.condF rfl ?_
          refine RC.seq ?_
          refine RC.region ?_
          refine RL.s (Vl.int rfl rfl rfl) rfl ?_
          refine RL.s (Vl.assign rfl) rfl ?_
          refine RL.nil ?_
          refine RQ.then_n ?_
          by_cases hc4844 : a4737.Op = 10
          case pos =>
           have h := h.pos hc4844
           refine RC.re 80 rfl (congrArg Value.bool (decide_eq_true hc4844)) ?_
           refine RC.condT rfl ?_
           refine RC.seq ?_
           refine RC.region ?_
           refine RL.s (Vl.fieldAddr (a'' := ⟨b4808, 1, none⟩) Tryd.underlying48 rfl Tryd.sizeOf3 rfl rfl) rfl ?_
           refine RL.s (Vl.load Tryd.isAgg3 rfl (hS.cell 0 rfl rfl)) rfl ?_
           refine RL.s (Vl.int rfl rfl rfl) rfl ?_
           refine RL.s (Vl.move rfl) rfl ?_
           by_cases hc4845 : 0 ≤ a4737.A
           case pos =>
            have h := h.pos hc4845
            refine RL.re 85 rfl (congrArg Value.bool (decide_eq_true hc4845)) ?_
            refine RL.sg (Vl.fieldAddr (a'' := ⟨b4808, 1, none⟩) Tryd.underlying48 rfl Tryd.sizeOf3 rfl rfl) rfl rfl ?_
            refine RL.sg (Vl.load Tryd.isAgg3 rfl (hS.cell 0 rfl rfl)) rfl rfl ?_
            refine RL.sg (Vl.move rfl) rfl rfl ?_
            refine RL.sg (Vl.int rfl rfl rfl) rfl rfl ?_
            refine RL.s (Vl.pickT rfl rfl) rfl ?_
            refine RL.s (Vl.move rfl) rfl ?_
            by_cases hc4846 : a4737.A ≤ a4738
            case pos =>
             have h := h.pos hc4846
             refine RL.re 91 rfl (congrArg Value.bool (decide_eq_true hc4846)) ?_
             refine RL.sg (Vl.fieldAddr (a'' := ⟨b4808, 2, none⟩) Tryd.underlying48 rfl Tryd.sizeOf3 rfl rfl) rfl rfl ?_
             refine RL.sg (Vl.load Tryd.isAgg3 rfl (hS.cell 0 rfl rfl)) rfl rfl ?_
             refine RL.sg (Vl.int rfl rfl rfl) rfl rfl ?_
             refine RL.s (Vl.pickT rfl rfl) rfl ?_
             refine RL.s (Vl.move rfl) rfl ?_
             by_cases hc4847 : a4737.B = 0
             case pos =>
              have h := h.pos hc4847
              refine RL.re 96 rfl (congrArg Value.bool (decide_eq_true hc4847)) ?_
              refine RL.sg (Vl.fieldAddr (a'' := ⟨b4808, 3, none⟩) Tryd.underlying48 rfl Tryd.sizeOf3 rfl rfl) rfl rfl ?_
              refine RL.sg (Vl.load Tryd.isAgg3 rfl (hS.cell 0 rfl rfl)) rfl rfl ?_
              refine RL.sg (Vl.int rfl rfl rfl) rfl rfl ?_
              refine RL.s (Vl.pickT rfl rfl) rfl ?_
              refine RL.s (Vl.assign rfl) rfl ?_
              refine RL.nil ?_
              refine RQ.then_n ?_
              refine RC.ret ?_
              refine RQ.inB_ret ?_
              refine RQ.ret ?_
              have e := h.some
              subst e
              refine RQ.ret0 (vs := [.bool (decide (a4737.C = 0))]) Tryd.results46 ⟨rfl, trivial⟩ ?_
              exact ⟨rfl, (hS.dropAt 0 rfl)⟩
             case neg =>
              have h := h.neg hc4847
              refine RL.re 96 rfl (congrArg Value.bool (decide_eq_false hc4847)) ?_
              refine RL.nn rfl rfl ?_
              refine RL.nn rfl rfl ?_
              refine RL.nn rfl rfl ?_
              refine RL.s (Vl.pickF rfl rfl) rfl ?_
              refine RL.s (Vl.assign rfl) rfl ?_
              refine RL.nil ?_
              refine RQ.then_n ?_
              refine RC.ret ?_
              refine RQ.inB_ret ?_
              refine RQ.ret ?_
              have e := h.some
              subst e
              refine RQ.ret0 (vs := [.bool false]) Tryd.results46 ⟨rfl, trivial⟩ ?_
              exact ⟨rfl, (hS.dropAt 0 rfl)⟩
            case neg =>
             have h := h.neg hc4846
             refine RL.re 91 rfl (congrArg Value.bool (decide_eq_false hc4846)) ?_
             refine RL.nn rfl rfl ?_
             refine RL.nn rfl rfl ?_
             refine RL.nn rfl rfl ?_
             refine RL.s (Vl.pickF rfl rfl) rfl ?_
             refine RL.s (Vl.move rfl) rfl ?_
             refine RL.nn rfl rfl ?_
             refine RL.nn rfl rfl ?_
             refine RL.nn rfl rfl ?_
             refine RL.s (Vl.pickF rfl rfl) rfl ?_
             refine RL.s (Vl.assign rfl) rfl ?_
             refine RL.nil ?_
             refine RQ.then_n ?_
             refine RC.ret ?_
             refine RQ.inB_ret ?_
             refine RQ.ret ?_
             have e := h.some
             subst e
             refine RQ.ret0 (vs := [.bool false]) Tryd.results46 ⟨rfl, trivial⟩ ?_
             exact ⟨rfl, (hS.dropAt 0 rfl)⟩
           case neg =>
            have h := h.neg hc4845
            refine RL.re 85 rfl (congrArg Value.bool (decide_eq_false hc4845)) ?_
            refine RL.nn rfl rfl ?_
            refine RL.nn rfl rfl ?_
            refine RL.nn rfl rfl ?_
            refine RL.nn rfl rfl ?_
            refine RL.s (Vl.pickF rfl rfl) rfl ?_
            refine RL.s (Vl.move rfl) rfl ?_
            refine RL.nn rfl rfl ?_
            refine RL.nn rfl rfl ?_
            refine RL.nn rfl rfl ?_
            refine RL.s (Vl.pickF rfl rfl) rfl ?_
            refine RL.s (Vl.move rfl) rfl ?_
            refine RL.nn rfl rfl ?_
            refine RL.nn rfl rfl ?_
            refine RL.nn rfl rfl ?_
            refine RL.s (Vl.pickF rfl rfl) rfl ?_
            refine RL.s (Vl.assign rfl) rfl ?_
            refine RL.nil ?_
            refine RQ.then_n ?_
            refine RC.ret ?_
            refine RQ.inB_ret ?_
            refine RQ.ret ?_
            have e := h.some
            subst e
            refine RQ.ret0 (vs := [.bool false]) Tryd.results46 ⟨rfl, trivial⟩ ?_
            exact ⟨rfl, (hS.dropAt 0 rfl)⟩
          case neg =>
           have h := h.neg hc4844
           refine RC.re 80 rfl (congrArg Value.bool (decide_eq_false hc4844)) ?_
           refine RC.condF rfl ?_
           refine RC.seq ?_
           refine RC.region ?_
           refine RL.s (Vl.int rfl rfl rfl) rfl ?_
           refine RL.s (Vl.assign rfl) rfl ?_
           refine RL.nil ?_
           refine RQ.then_n ?_
           by_cases hc4848 : a4737.Op = 11
           case pos =>
            have h := h.pos hc4848
            refine RC.re 101 rfl (congrArg Value.bool (decide_eq_true hc4848)) ?_
            refine RC.condT rfl ?_
            refine RC.seq ?_
            refine RC.region ?_
            refine RL.s (Vl.fieldAddr (a'' := ⟨b4808, 1, none⟩) Tryd.underlying48 rfl Tryd.sizeOf3 rfl rfl) rfl ?_
            refine RL.s (Vl.load Tryd.isAgg3 rfl (hS.cell 0 rfl rfl)) rfl ?_
            obtain ⟨t4849, hg4850, h⟩ := h.bind
            refine RL.e (OW.callF (ls := [.tmp 104]) rfl Tryd.call73 (isochronref03vreg.ok a4737.A _ hg4850 hS)) rfl rfl ?_
            rintro _ w ⟨rfl, hS⟩
            have hS : St B w (Cl b4808 [.int .i64 a4737.Op, .int .i64 a4737.A, .int .i64 a4737.B, .int .i64 a4737.C] 48 :: l) hf := hS
            refine RL.s (Vl.move rfl) rfl ?_
            by_cases hc4851 : t4849 = true
            case pos =>
             have h := h.pos hc4851
             refine RL.re 106 rfl (congrArg Value.bool (id hc4851)) ?_
             refine RL.sg (Vl.fieldAddr (a'' := ⟨b4808, 2, none⟩) Tryd.underlying48 rfl Tryd.sizeOf3 rfl rfl) rfl rfl ?_
             refine RL.sg (Vl.load Tryd.isAgg3 rfl (hS.cell 0 rfl rfl)) rfl rfl ?_
             refine RL.sg (Vl.int rfl rfl rfl) rfl rfl ?_
             refine RL.s (Vl.pickT rfl rfl) rfl ?_
             refine RL.s (Vl.move rfl) rfl ?_
             by_cases hc4852 : 0 ≤ a4737.B
             case pos =>
              have h := h.pos hc4852
              refine RL.re 111 rfl (congrArg Value.bool (decide_eq_true hc4852)) ?_
              refine RL.sg (Vl.fieldAddr (a'' := ⟨b4808, 2, none⟩) Tryd.underlying48 rfl Tryd.sizeOf3 rfl rfl) rfl rfl ?_
              refine RL.sg (Vl.load Tryd.isAgg3 rfl (hS.cell 0 rfl rfl)) rfl rfl ?_
              refine RL.sg (Vl.move rfl) rfl rfl ?_
              refine RL.sg (Vl.int rfl rfl rfl) rfl rfl ?_
              refine RL.s (Vl.pickT rfl rfl) rfl ?_
              refine RL.s (Vl.move rfl) rfl ?_
              by_cases hc4853 : a4737.B ≤ a4738
              case pos =>
               have h := h.pos hc4853
               refine RL.re 117 rfl (congrArg Value.bool (decide_eq_true hc4853)) ?_
               refine RL.sg (Vl.fieldAddr (a'' := ⟨b4808, 3, none⟩) Tryd.underlying48 rfl Tryd.sizeOf3 rfl rfl) rfl rfl ?_
               refine RL.sg (Vl.load Tryd.isAgg3 rfl (hS.cell 0 rfl rfl)) rfl rfl ?_
               refine RL.sg (Vl.int rfl rfl rfl) rfl rfl ?_
               refine RL.s (Vl.pickT rfl rfl) rfl ?_
               refine RL.s (Vl.assign rfl) rfl ?_
               refine RL.nil ?_
               refine RQ.then_n ?_
               refine RC.ret ?_
               refine RQ.inB_ret ?_
               refine RQ.ret ?_
               have e := h.some
               subst e
               refine RQ.ret0 (vs := [.bool (decide (a4737.C = 0))]) Tryd.results46 ⟨rfl, trivial⟩ ?_
               exact ⟨rfl, (hS.dropAt 0 rfl)⟩
              case neg =>
               have h := h.neg hc4853
               refine RL.re 117 rfl (congrArg Value.bool (decide_eq_false hc4853)) ?_
               refine RL.nn rfl rfl ?_
               refine RL.nn rfl rfl ?_
               refine RL.nn rfl rfl ?_
               refine RL.s (Vl.pickF rfl rfl) rfl ?_
               refine RL.s (Vl.assign rfl) rfl ?_
               refine RL.nil ?_
               refine RQ.then_n ?_
               refine RC.ret ?_
               refine RQ.inB_ret ?_
               refine RQ.ret ?_
               have e := h.some
               subst e
               refine RQ.ret0 (vs := [.bool false]) Tryd.results46 ⟨rfl, trivial⟩ ?_
               exact ⟨rfl, (hS.dropAt 0 rfl)⟩
             case neg =>
              have h := h.neg hc4852
              refine RL.re 111 rfl (congrArg Value.bool (decide_eq_false hc4852)) ?_
              refine RL.nn rfl rfl ?_
              refine RL.nn rfl rfl ?_
              refine RL.nn rfl rfl ?_
              refine RL.nn rfl rfl ?_
              refine RL.s (Vl.pickF rfl rfl) rfl ?_
              refine RL.s (Vl.move rfl) rfl ?_
              refine RL.nn rfl rfl ?_
              refine RL.nn rfl rfl ?_
              refine RL.nn rfl rfl ?_
              refine RL.s (Vl.pickF rfl rfl) rfl ?_
              refine RL.s (Vl.assign rfl) rfl ?_
              refine RL.nil ?_
              refine RQ.then_n ?_
              refine RC.ret ?_
              refine RQ.inB_ret ?_
              refine RQ.ret ?_
              have e := h.some
              subst e
              refine RQ.ret0 (vs := [.bool false]) Tryd.results46 ⟨rfl, trivial⟩ ?_
              exact ⟨rfl, (hS.dropAt 0 rfl)⟩
            case neg =>
             have h := h.neg hc4851
             refine RL.re 106 rfl (congrArg Value.bool (eq_false_of hc4851)) ?_
             refine RL.nn rfl rfl ?_
             refine RL.nn rfl rfl ?_
             refine RL.nn rfl rfl ?_
             refine RL.s (Vl.pickF rfl rfl) rfl ?_
             refine RL.s (Vl.move rfl) rfl ?_
             refine RL.nn rfl rfl ?_
             refine RL.nn rfl rfl ?_
             refine RL.nn rfl rfl ?_
             refine RL.nn rfl rfl ?_
             refine RL.s (Vl.pickF rfl rfl) rfl ?_
             refine RL.s (Vl.move rfl) rfl ?_
             refine RL.nn rfl rfl ?_
             refine RL.nn rfl rfl ?_
             refine RL.nn rfl rfl ?_
             refine RL.s (Vl.pickF rfl rfl) rfl ?_
             refine RL.s (Vl.assign rfl) rfl ?_
             refine RL.nil ?_
             refine RQ.then_n ?_
             refine RC.ret ?_
             refine RQ.inB_ret ?_
             refine RQ.ret ?_
             have e := h.some
             subst e
             refine RQ.ret0 (vs := [.bool false]) Tryd.results46 ⟨rfl, trivial⟩ ?_
             exact ⟨rfl, (hS.dropAt 0 rfl)⟩
           case neg =>
            have h := h.neg hc4848
            refine RC.re 101 rfl (congrArg Value.bool (decide_eq_false hc4848)) ?_
            refine RC.condF rfl ?_
            refine RC.join (fun (s : Bool) a w => ∃ (q4856 : Bool), s = (q4856) ∧ Has 139 [(2, .pointer (some ⟨b4808, 0, none⟩)), (122, .bool q4856)] a ∧ St B w (Cl b4808 [.int .i64 a4737.Op, .int .i64 a4737.A, .int .i64 a4737.B, .int .i64 a4737.C] 48 :: l) hf ∧ Holds (· = r) (isochronref03vmay.j6 a4737 q4856)) ?_ ?_
            · rintro q4856 a w ⟨_, rfl, ha, hS, h⟩
              revert a
              show RC _ _ _ _ _ _
              by_cases hc4857 : q4856 = true
              case pos =>
               have h := h.pos hc4857
               refine RC.re 122 rfl (congrArg Value.bool (id hc4857)) ?_
               refine RC.condT rfl ?_
               refine RC.seq ?_
               refine RC.region ?_
               refine RL.s (Vl.fieldAddr (a'' := ⟨b4808, 1, none⟩) Tryd.underlying48 rfl Tryd.sizeOf3 rfl rfl) rfl ?_
               refine RL.s (Vl.load Tryd.isAgg3 rfl (hS.cell 0 rfl rfl)) rfl ?_
               obtain ⟨t4858, hg4859, h⟩ := h.bind
               refine RL.e (OW.callF (ls := [.tmp 127]) rfl Tryd.call73 (isochronref03vreg.ok a4737.A _ hg4859 hS)) rfl rfl ?_
               rintro _ w ⟨rfl, hS⟩
               have hS : St B w (Cl b4808 [.int .i64 a4737.Op, .int .i64 a4737.A, .int .i64 a4737.B, .int .i64 a4737.C] 48 :: l) hf := hS
               refine RL.s (Vl.move rfl) rfl ?_
               by_cases hc4860 : t4858 = true
               case pos =>
                have h := h.pos hc4860
                refine RL.re 129 rfl (congrArg Value.bool (id hc4860)) ?_
                refine RL.sg (Vl.fieldAddr (a'' := ⟨b4808, 2, none⟩) Tryd.underlying48 rfl Tryd.sizeOf3 rfl rfl) rfl rfl ?_
                refine RL.sg (Vl.load Tryd.isAgg3 rfl (hS.cell 0 rfl rfl)) rfl rfl ?_
                refine RL.sg (Vl.int rfl rfl rfl) rfl rfl ?_
                refine RL.s (Vl.pickT rfl rfl) rfl ?_
                refine RL.s (Vl.move rfl) rfl ?_
                by_cases hc4861 : a4737.B = 0
                case pos =>
                 have h := h.pos hc4861
                 refine RL.re 134 rfl (congrArg Value.bool (decide_eq_true hc4861)) ?_
                 refine RL.sg (Vl.fieldAddr (a'' := ⟨b4808, 3, none⟩) Tryd.underlying48 rfl Tryd.sizeOf3 rfl rfl) rfl rfl ?_
                 refine RL.sg (Vl.load Tryd.isAgg3 rfl (hS.cell 0 rfl rfl)) rfl rfl ?_
                 refine RL.sg (Vl.int rfl rfl rfl) rfl rfl ?_
                 refine RL.s (Vl.pickT rfl rfl) rfl ?_
                 refine RL.s (Vl.assign rfl) rfl ?_
                 refine RL.nil ?_
                 refine RQ.then_n ?_
                 refine RC.ret ?_
                 refine RQ.inB_ret ?_
                 refine RQ.ret ?_
                 have e := h.some
                 subst e
                 refine RQ.ret0 (vs := [.bool (decide (a4737.C = 0))]) Tryd.results46 ⟨rfl, trivial⟩ ?_
                 exact ⟨rfl, (hS.dropAt 0 rfl)⟩
                case neg =>
                 have h := h.neg hc4861
                 refine RL.re 134 rfl (congrArg Value.bool (decide_eq_false hc4861)) ?_
                 refine RL.nn rfl rfl ?_
                 refine RL.nn rfl rfl ?_
                 refine RL.nn rfl rfl ?_
                 refine RL.s (Vl.pickF rfl rfl) rfl ?_
                 refine RL.s (Vl.assign rfl) rfl ?_
                 refine RL.nil ?_
                 refine RQ.then_n ?_
                 refine RC.ret ?_
                 refine RQ.inB_ret ?_
                 refine RQ.ret ?_
                 have e := h.some
                 subst e
                 refine RQ.ret0 (vs := [.bool false]) Tryd.results46 ⟨rfl, trivial⟩ ?_
                 exact ⟨rfl, (hS.dropAt 0 rfl)⟩
               case neg =>
                have h := h.neg hc4860
                refine RL.re 129 rfl (congrArg Value.bool (eq_false_of hc4860)) ?_
                refine RL.nn rfl rfl ?_
                refine RL.nn rfl rfl ?_
                refine RL.nn rfl rfl ?_
                refine RL.s (Vl.pickF rfl rfl) rfl ?_
                refine RL.s (Vl.move rfl) rfl ?_
                refine RL.nn rfl rfl ?_
                refine RL.nn rfl rfl ?_
                refine RL.nn rfl rfl ?_
                refine RL.s (Vl.pickF rfl rfl) rfl ?_
                refine RL.s (Vl.assign rfl) rfl ?_
                refine RL.nil ?_
                refine RQ.then_n ?_
                refine RC.ret ?_
                refine RQ.inB_ret ?_
                refine RQ.ret ?_
                have e := h.some
                subst e
                refine RQ.ret0 (vs := [.bool false]) Tryd.results46 ⟨rfl, trivial⟩ ?_
                exact ⟨rfl, (hS.dropAt 0 rfl)⟩
              case neg =>
               have h := h.neg hc4857
               refine RC.re 122 rfl (congrArg Value.bool (eq_false_of hc4857)) ?_
               refine RC.condF rfl ?_
               refine RC.skip ?_
               refine RQ.inB_n ?_
               refine RQ.then_n ?_
               refine RC.seq ?_
               refine RC.region ?_
               refine RL.s (Vl.assign rfl) rfl ?_
               refine RL.nil ?_
               refine RQ.then_n ?_
               refine RC.ret ?_
               have e := h.some
               subst e
               refine RQ.ret0 (vs := [.bool false]) Tryd.results46 ⟨rfl, trivial⟩ ?_
               exact ⟨rfl, (hS.dropAt 0 rfl)⟩
            · refine RC.seq ?_
              refine RC.region ?_
              refine RL.s (Vl.int rfl rfl rfl) rfl ?_
              refine RL.s (Vl.assign rfl) rfl ?_
              refine RL.nil ?_
              refine RQ.then_n ?_
              by_cases hc4862 : a4737.Op = 14
              case pos =>
               have h := h.pos hc4862
               refine RC.re 122 rfl (congrArg Value.bool (decide_eq_true hc4862)) ?_
               refine RC.condT rfl ?_
               refine RC.skip ?_
               exact fun a ha => ⟨(true), true, rfl, ha.to ⟨rfl, rfl, trivial⟩, hS, h⟩
              case neg =>
               have h := h.neg hc4862
               refine RC.re 122 rfl (congrArg Value.bool (decide_eq_false hc4862)) ?_
               refine RC.condF rfl ?_
               refine RC.seq ?_
               refine RC.region ?_
               refine RL.s (Vl.int rfl rfl rfl) rfl ?_
               refine RL.s (Vl.assign rfl) rfl ?_
               refine RL.nil ?_
               refine RQ.then_n ?_
               by_cases hc4863 : a4737.Op = 15
               case pos =>
                have h := h.pos hc4863
                refine RC.re 122 rfl (congrArg Value.bool (decide_eq_true hc4863)) ?_
                refine RC.condT rfl ?_
                refine RC.skip ?_
                exact fun a ha => ⟨(true), true, rfl, ha.to ⟨rfl, rfl, trivial⟩, hS, h⟩
               case neg =>
                have h := h.neg hc4863
                refine RC.re 122 rfl (congrArg Value.bool (decide_eq_false hc4863)) ?_
                refine RC.condF rfl ?_
                refine RC.region ?_
                refine RL.s (Vl.int rfl rfl rfl) rfl ?_
                refine RL.s (Vl.assign rfl) rfl ?_
                refine RL.nil ?_
                exact fun a ha => ⟨((decide (a4737.Op = 16))), (decide (a4737.Op = 16)), rfl, ha.to ⟨rfl, rfl, trivial⟩, hS, h⟩
       · refine RC.seq ?_
         refine RC.region ?_
         refine RL.s (Vl.int rfl rfl rfl) rfl ?_
         refine RL.s (Vl.assign rfl) rfl ?_
         refine RL.nil ?_
         refine RQ.then_n ?_
         by_cases hc4864 : a4737.Op = 3
         case pos =>
          have h := h.pos hc4864
          refine RC.re 58 rfl (congrArg Value.bool (decide_eq_true hc4864)) ?_
          refine RC.condT rfl ?_
          refine RC.skip ?_
          exact fun a ha => ⟨(true), true, rfl, ha.to ⟨rfl, rfl, rfl, rfl, trivial⟩, hS, h⟩
         case neg =>
          have h := h.neg hc4864
          refine RC.re 58 rfl (congrArg Value.bool (decide_eq_false hc4864)) ?_
          refine RC.condF rfl ?_
          refine RC.seq ?_
          refine RC.region ?_
          refine RL.s (Vl.int rfl rfl rfl) rfl ?_
          refine RL.s (Vl.assign rfl) rfl ?_
          refine RL.nil ?_
          refine RQ.then_n ?_
          by_cases hc4865 : a4737.Op = 4
          case pos =>
           have h := h.pos hc4865
           refine RC.re 58 rfl (congrArg Value.bool (decide_eq_true hc4865)) ?_
           refine RC.condT rfl ?_
           refine RC.skip ?_
           exact fun a ha => ⟨(true), true, rfl, ha.to ⟨rfl, rfl, rfl, rfl, trivial⟩, hS, h⟩
          case neg =>
           have h := h.neg hc4865
           refine RC.re 58 rfl (congrArg Value.bool (decide_eq_false hc4865)) ?_
           refine RC.condF rfl ?_
           refine RC.seq ?_
           refine RC.region ?_
           refine RL.s (Vl.int rfl rfl rfl) rfl ?_
           refine RL.s (Vl.assign rfl) rfl ?_
           refine RL.nil ?_
           refine RQ.then_n ?_
           by_cases hc4866 : a4737.Op = 5
           case pos =>
            have h := h.pos hc4866
            refine RC.re 58 rfl (congrArg Value.bool (decide_eq_true hc4866)) ?_
            refine RC.condT rfl ?_
            refine RC.skip ?_
            exact fun a ha => ⟨(true), true, rfl, ha.to ⟨rfl, rfl, rfl, rfl, trivial⟩, hS, h⟩
           case neg =>
            have h := h.neg hc4866
            refine RC.re 58 rfl (congrArg Value.bool (decide_eq_false hc4866)) ?_
            refine RC.condF rfl ?_
            refine RC.seq ?_
            refine RC.region ?_
            refine RL.s (Vl.int rfl rfl rfl) rfl ?_
            refine RL.s (Vl.assign rfl) rfl ?_
            refine RL.nil ?_
            refine RQ.then_n ?_
            by_cases hc4867 : a4737.Op = 6
            case pos =>
             have h := h.pos hc4867
             refine RC.re 58 rfl (congrArg Value.bool (decide_eq_true hc4867)) ?_
             refine RC.condT rfl ?_
             refine RC.skip ?_
             exact fun a ha => ⟨(true), true, rfl, ha.to ⟨rfl, rfl, rfl, rfl, trivial⟩, hS, h⟩
            case neg =>
             have h := h.neg hc4867
             refine RC.re 58 rfl (congrArg Value.bool (decide_eq_false hc4867)) ?_
             refine RC.condF rfl ?_
             refine RC.seq ?_
             refine RC.region ?_
             refine RL.s (Vl.int rfl rfl rfl) rfl ?_
             refine RL.s (Vl.assign rfl) rfl ?_
             refine RL.nil ?_
             refine RQ.then_n ?_
             by_cases hc4868 : a4737.Op = 7
             case pos =>
              have h := h.pos hc4868
              refine RC.re 58 rfl (congrArg Value.bool (decide_eq_true hc4868)) ?_
              refine RC.condT rfl ?_
              refine RC.skip ?_
              exact fun a ha => ⟨(true), true, rfl, ha.to ⟨rfl, rfl, rfl, rfl, trivial⟩, hS, h⟩
             case neg =>
              have h := h.neg hc4868
              refine RC.re 58 rfl (congrArg Value.bool (decide_eq_false hc4868)) ?_
              refine RC.condF rfl ?_
              refine RC.seq ?_
              refine RC.region ?_
              refine RL.s (Vl.int rfl rfl rfl) rfl ?_
              refine RL.s (Vl.assign rfl) rfl ?_
              refine RL.nil ?_
              refine RQ.then_n ?_
              by_cases hc4869 : a4737.Op = 8
              case pos =>
               have h := h.pos hc4869
               refine RC.re 58 rfl (congrArg Value.bool (decide_eq_true hc4869)) ?_
               refine RC.condT rfl ?_
               refine RC.skip ?_
               exact fun a ha => ⟨(true), true, rfl, ha.to ⟨rfl, rfl, rfl, rfl, trivial⟩, hS, h⟩
              case neg =>
               have h := h.neg hc4869
               refine RC.re 58 rfl (congrArg Value.bool (decide_eq_false hc4869)) ?_
               refine RC.condF rfl ?_
               refine RC.seq ?_
               refine RC.region ?_
               refine RL.s (Vl.int rfl rfl rfl) rfl ?_
               refine RL.s (Vl.assign rfl) rfl ?_
               refine RL.nil ?_
               refine RQ.then_n ?_
               by_cases hc4870 : a4737.Op = 9
               case pos =>
                have h := h.pos hc4870
                refine RC.re 58 rfl (congrArg Value.bool (decide_eq_true hc4870)) ?_
                refine RC.condT rfl ?_
                refine RC.skip ?_
                exact fun a ha => ⟨(true), true, rfl, ha.to ⟨rfl, rfl, rfl, rfl, trivial⟩, hS, h⟩
               case neg =>
                have h := h.neg hc4870
                refine RC.re 58 rfl (congrArg Value.bool (decide_eq_false hc4870)) ?_
                refine RC.condF rfl ?_
                refine RC.region ?_
                refine RL.s (Vl.int rfl rfl rfl) rfl ?_
                refine RL.s (Vl.assign rfl) rfl ?_
                refine RL.nil ?_
                exact fun a ha => ⟨((decide (a4737.Op = 12))), (decide (a4737.Op = 12)), rfl, ha.to ⟨rfl, rfl, rfl, rfl, trivial⟩, hS, h⟩
    · refine RC.seq ?_
      refine RC.region ?_
      refine RL.s (Vl.int rfl rfl rfl) rfl ?_
      refine RL.s (Vl.assign rfl) rfl ?_
      refine RL.nil ?_
      refine RQ.then_n ?_
      by_cases hc4871 : a4737.Op = 2
      case pos =>
       have h := h.pos hc4871
       refine RC.re 42 rfl (congrArg Value.bool (decide_eq_true hc4871)) ?_
       refine RC.condT rfl ?_
       refine RC.skip ?_
       exact fun a ha => ⟨(true), true, rfl, ha.to ⟨rfl, rfl, rfl, rfl, trivial⟩, hS, h⟩
      case neg =>
       have h := h.neg hc4871
       refine RC.re 42 rfl (congrArg Value.bool (decide_eq_false hc4871)) ?_
       refine RC.condF rfl ?_
       refine RC.region ?_
       refine RL.s (Vl.int rfl rfl rfl) rfl ?_
       refine RL.s (Vl.assign rfl) rfl ?_
       refine RL.nil ?_
       exact fun a ha => ⟨((decide (a4737.Op = 13))), (decide (a4737.Op = 13)), rfl, ha.to ⟨rfl, rfl, rfl, rfl, trivial⟩, hS, h⟩

/-! ### isochron/isochronref03.Check: function 28 -/
noncomputable def isochronref03vCheck.l2b (a4729 : List api_Instr) : Int → Option ((Int) ⊕ (Int))
  | (x4913) => (if x4913 < (a4729.length : Int) then (if 0 ≤ x4913 then ((isochronref03vmay.f (nth a4729 x4913) (a4729.length : Int)).bind fun t4933 => (if t4933 = true then some (.inl (IntKind.i64.wrap (x4913 + 1))) else some (.inr 130))) else none) else some (.inr 0))
noncomputable def isochronref03vCheck.l2 (a4729 : List api_Instr) (s : Int) : Option (Int) := loopR (isochronref03vCheck.l2b a4729) s
noncomputable def isochronref03vCheck.f (a4729 : List api_Instr) : Option (Int) := (if 256 < (a4729.length : Int) then some 2 else isochronref03vCheck.l2 a4729 (0))
set_option maxRecDepth 100000 in
set_option maxHeartbeats 4000000 in
theorem isochronref03vCheck.ok {B : Base} {w : World} {l : List HProp} {hf : Hp} (a4729 : List api_Instr) (A4730 : Option Addr) (c4731 : Nat) (hr4732 : SlR E_api_Instr.rep hf A4730 c4731 a4729) (r : Int) (h : isochronref03vCheck.f a4729 = some r) (hS : St B w (l) hf) :
    Calls Tryd.prog 28 #[.slice A4730 a4729.length c4731] w (Ret fun v w => v = .int .i64 r ∧ St B w (l) hf) := by
  have h := Holds.of h
  refine enter (args := [.slice A4730 a4729.length c4731]) Tryd.func28 rfl Tryd.ntmps28 (Nat.le_of_ble_eq_true rfl) ?_
  refine RC.seq ?_
  refine RC.region ?_
  refine RL.s (Vl.assign rfl) rfl ?_
  refine RL.nil ?_
  refine RQ.then_n ?_
  refine RC.seq ?_
  refine RC.seq ?_
  refine RC.region ?_
  refine RL.s (Vl.move rfl) rfl ?_
  refine RL.s (Vl.lenSl Tryd.underlying22 rfl) rfl ?_
  refine RL.s (Vl.int rfl rfl rfl) rfl ?_
  refine RL.nil ?_
  refine RQ.then_n ?_
  by_cases hc4903 : 256 < (a4729.length : Int)
  case pos =>
   have h := h.pos hc4903
   refine RC.re 6 rfl (congrArg Value.bool (decide_eq_true hc4903)) ?_
   refine RC.condT rfl ?_
   refine RC.seq ?_
   refine RC.region ?_
   refine RL.s (Vl.assign rfl) rfl ?_
   refine RL.nil ?_
   refine RQ.then_n ?_
   refine RC.ret ?_
   refine RQ.ret ?_
   have e := h.some
   subst e
   refine RQ.ret0 (vs := [.int .i64 2]) Tryd.results28 ⟨rfl, trivial⟩ ?_
   exact ⟨rfl, hS⟩
  case neg =>
   have h := h.neg hc4903
   refine RC.re 6 rfl (congrArg Value.bool (decide_eq_false hc4903)) ?_
   refine RC.condF rfl ?_
   refine RC.skip ?_
   refine RQ.then_n ?_
   refine RC.seq ?_
   refine RC.seq ?_
   refine RC.region ?_
   refine RL.s (Vl.assign rfl) rfl ?_
   refine RL.nil ?_
   refine RQ.then_n ?_
   refine RC.block ?_
   refine fun a ha => RC.loop (N := 21) (body := (isochronref03vCheck.l2b a4729)) (φ := (· = r)) (fun (s : Int) a w => ∃ (x4913 : Int), s = (x4913) ∧ Has 21 [(0, .slice A4730 a4729.length c4731), (3, .int .i64 x4913)] a ∧ St B w (l) hf) ?_ (s0 := (0)) h ⟨0, rfl, ha.to ⟨rfl, rfl, trivial⟩, hS⟩
   rintro G4925 x4913 a w ⟨_, rfl, ha, hS⟩ h
   revert a
   show RC _ _ _ _ _ _
   refine RC.seq ?_
   refine RC.seq ?_
   refine RC.region ?_
   refine RL.s (Vl.move rfl) rfl ?_
   refine RL.s (Vl.move rfl) rfl ?_
   refine RL.s (Vl.lenSl Tryd.underlying22 rfl) rfl ?_
   refine RL.s (Vl.int rfl rfl rfl) rfl ?_
   refine RL.nil ?_
   refine RQ.then_n ?_
   by_cases hc4927 : x4913 < (a4729.length : Int)
   case pos =>
    have h := h.pos hc4927
    refine RC.re 10 rfl (congrArg Value.bool (decide_eq_true hc4927)) ?_
    refine RC.condT rfl ?_
    refine RC.skip ?_
    refine RQ.then_n ?_
    refine RC.seq ?_
    refine RC.block ?_
    refine RC.seq ?_
    refine RC.region ?_
    refine RL.s (Vl.move rfl) rfl ?_
    refine RL.s (Vl.move rfl) rfl ?_
    obtain ⟨hq4932, h⟩ := h.req
    refine RL.s (Vl.indexAddr Tryd.underlying22 Tryd.sizeOf48 rfl rfl ((hr4732.2.world hS.sub).adr hq4932 hc4927) hq4932 hc4927 rfl) rfl ?_
    refine RL.s (Vl.loadA Tryd.isAgg48 Tryd.sizeOf48 rfl rfl ((hr4732.2.world hS.sub).cells hq4932 hc4927)) rfl ?_
    refine RL.s (Vl.move rfl) rfl ?_
    refine RL.s (Vl.lenSl Tryd.underlying22 rfl) rfl ?_
    obtain ⟨t4933, hg4934, h⟩ := h.bind
    refine RL.e (OW.callF (ls := [.tmp 16, .tmp 18]) rfl Tryd.call46 (isochronref03vmay.ok (nth a4729 x4913) (a4729.length : Int) _ hg4934 hS)) rfl rfl ?_
    rintro _ w ⟨rfl, hS⟩
    have hS : St B w (l) hf := hS
    refine RL.s (Vl.not rfl) rfl ?_
    refine RL.nil ?_
    refine RQ.then_n ?_
    by_cases hc4935 : t4933 = true
    case pos =>
     have h := h.pos hc4935
     refine RC.re 20 rfl (congrArg Value.bool (notb_pos hc4935)) ?_
     refine RC.condF rfl ?_
     refine RC.skip ?_
     refine RQ.inB_n ?_
     refine RQ.then_n ?_
     refine RC.region ?_
     refine RL.s (Vl.move rfl) rfl ?_
     refine RL.s (Vl.int rfl rfl rfl) rfl ?_
     refine RL.s (Vl.assign rfl) rfl ?_
     refine RL.nil ?_
     exact fun a ha => ⟨(IntKind.i64.wrap (x4913 + 1)), ⟨(IntKind.i64.wrap (x4913 + 1)), rfl, ha.to ⟨rfl, rfl, trivial⟩, hS⟩, h.some⟩
    case neg =>
     have h := h.neg hc4935
     refine RC.re 20 rfl (congrArg Value.bool (notb_neg hc4935)) ?_
     refine RC.condT rfl ?_
     refine RC.seq ?_
     refine RC.region ?_
     refine RL.s (Vl.assign rfl) rfl ?_
     refine RL.nil ?_
     refine RQ.then_n ?_
     refine RC.ret ?_
     refine RQ.inB_ret ?_
     refine RQ.ret ?_
     have h := h.inrS
     refine RQ.ret ?_
     refine RQ.inB_ret ?_
     refine RQ.ret ?_
     have e := h.some
     subst e
     refine RQ.ret0 (vs := [.int .i64 130]) Tryd.results28 ⟨rfl, trivial⟩ ?_
     exact ⟨rfl, hS⟩
   case neg =>
    have h := h.neg hc4927
    refine RC.re 10 rfl (congrArg Value.bool (decide_eq_false hc4927)) ?_
    refine RC.condF rfl ?_
    refine RC.exit ?_
    refine RQ.exitT ?_
    have h := h.inrS
    refine RQ.exitT ?_
    refine RQ.inB_hit ?_
    refine RQ.then_n ?_
    refine RC.seq ?_
    refine RC.region ?_
    refine RL.s (Vl.assign rfl) rfl ?_
    refine RL.nil ?_
    refine RQ.then_n ?_
    refine RC.ret ?_
    have e := h.some
    subst e
    refine RQ.ret0 (vs := [.int .i64 0]) Tryd.results28 ⟨rfl, trivial⟩ ?_
    exact ⟨rfl, hS⟩

/-! ### isochron/isochronref05.Check: function 16 -/
noncomputable def isochronref05vCheck.l2b (a4720 : api_World) : Int → Option ((Int) ⊕ (Int))
  | (x5023) => (if x5023 < (a4720.Links.length : Int) then (if 0 ≤ x5023 then (if (nth a4720.Links x5023).To < 0 then some (.inr 1) else (if 16 ≤ (nth a4720.Links x5023).To then some (.inr 1) else (if (nth a4720.Links x5023).Look < 1 then some (.inr 1) else (if 4611686018427387903 < (nth a4720.Links x5023).Look then some (.inr 1) else some (.inl (IntKind.i64.wrap (x5023 + 1))))))) else none) else some (.inr 0))
noncomputable def isochronref05vCheck.l2 (a4720 : api_World) (s : Int) : Option (Int) := loopR (isochronref05vCheck.l2b a4720) s
noncomputable def isochronref05vCheck.f (a4720 : api_World) : Option (Int) := ((isochronref03vCheck.f a4720.Prog).bind fun t4998 => (if t4998 = 0 then (if a4720.Self < 0 then some 1 else (if 16 ≤ a4720.Self then some 1 else (if 1024 < (a4720.Links.length : Int) then some 1 else isochronref05vCheck.l2 a4720 (0)))) else some t4998))
set_option maxRecDepth 100000 in
set_option maxHeartbeats 4000000 in
theorem isochronref05vCheck.ok {B : Base} {w : World} {l : List HProp} {hf : Hp} (a4720 : api_World) (A4721 : Option Addr) (c4722 : Nat) (A4724 : Option Addr) (c4725 : Nat) (hr4723 : SlR E_api_Instr.rep hf A4721 c4722 a4720.Prog) (hr4726 : SlR E_api_Link.rep hf A4724 c4725 a4720.Links) (r : Int) (h : isochronref05vCheck.f a4720 = some r) (hS : St B w (l) hf) :
    Calls Tryd.prog 16 #[.agg #[.slice A4721 a4720.Prog.length c4722, .int .i64 a4720.Self, .slice A4724 a4720.Links.length c4725, .int .u64 a4720.Seed]] w (Ret fun v w => v = .int .i64 r ∧ St B w (l) hf) := by
  have h := Holds.of h
  refine enter (args := [.agg #[.slice A4721 a4720.Prog.length c4722, .int .i64 a4720.Self, .slice A4724 a4720.Links.length c4725, .int .u64 a4720.Seed]]) Tryd.func16 rfl Tryd.ntmps16 (Nat.le_of_ble_eq_true rfl) ?_
  refine RC.seq ?_
  refine RC.region ?_
  refine RL.e (OW.box (cs := [.slice A4721 a4720.Prog.length c4722, .int .i64 a4720.Self, .slice A4724 a4720.Links.length c4725, .int .u64 a4720.Seed]) hS rfl rfl) rfl rfl ?_
  rintro _ w ⟨b4997, rfl, hS⟩
  have hS : St B w (Cl b4997 [.slice A4721 a4720.Prog.length c4722, .int .i64 a4720.Self, .slice A4724 a4720.Links.length c4725, .int .u64 a4720.Seed] 26 :: l) hf := hS
  refine RL.s (Vl.assign rfl) rfl ?_
  refine RL.nil ?_
  refine RQ.then_n ?_
  refine RC.seq ?_
  refine RC.region ?_
  refine RL.s (Vl.fieldAddr (a'' := ⟨b4997, 0, none⟩) Tryd.underlying26 rfl Tryd.sizeOf22 rfl rfl) rfl ?_
  refine RL.s (Vl.load Tryd.isAgg22 rfl (hS.cell 0 rfl rfl)) rfl ?_
  obtain ⟨t4998, hg4999, h⟩ := h.bind
  refine RL.e (OW.callF (ls := [.tmp 7]) rfl Tryd.call28 (isochronref03vCheck.ok a4720.Prog A4721 c4722 hr4723 _ hg4999 hS)) rfl rfl ?_
  rintro _ w ⟨rfl, hS⟩
  have hS : St B w (Cl b4997 [.slice A4721 a4720.Prog.length c4722, .int .i64 a4720.Self, .slice A4724 a4720.Links.length c4725, .int .u64 a4720.Seed] 26 :: l) hf := hS
  refine RL.s (Vl.assign rfl) rfl ?_
  refine RL.nil ?_
  refine RQ.then_n ?_
  refine RC.seq ?_
  refine RC.seq ?_
  refine RC.region ?_
  refine RL.s (Vl.move rfl) rfl ?_
  refine RL.s (Vl.int rfl rfl rfl) rfl ?_
  refine RL.nil ?_
  refine RQ.then_n ?_
  by_cases hc5001 : t4998 = 0
  case pos =>
   have h := h.pos hc5001
   refine RC.re 10 rfl (congrArg Value.bool (notdec_pos hc5001)) ?_
   refine RC.condF rfl ?_
   refine RC.skip ?_
   refine RQ.then_n ?_
   refine RC.seq ?_
   refine RC.seq ?_
   refine RC.region ?_
   refine RL.s (Vl.fieldAddr (a'' := ⟨b4997, 1, none⟩) Tryd.underlying26 rfl Tryd.sizeOf3 rfl rfl) rfl ?_
   refine RL.s (Vl.load Tryd.isAgg3 rfl (hS.cell 0 rfl rfl)) rfl ?_
   refine RL.s (Vl.int rfl rfl rfl) rfl ?_
   refine RL.s (Vl.move rfl) rfl ?_
   by_cases hc5005 : a4720.Self < 0
   case pos =>
    have h := h.pos hc5005
    refine RL.re 15 rfl (congrArg Value.bool (decide_eq_true hc5005)) ?_
    refine RL.nn rfl rfl ?_
    refine RL.nn rfl rfl ?_
    refine RL.nn rfl rfl ?_
    refine RL.s (Vl.pickT rfl rfl) rfl ?_
    refine RL.s (Vl.move rfl) rfl ?_
    refine RL.nn rfl rfl ?_
    refine RL.nn rfl rfl ?_
    refine RL.nn rfl rfl ?_
    refine RL.nn rfl rfl ?_
    refine RL.s (Vl.pickT rfl rfl) rfl ?_
    refine RL.nil ?_
    refine RQ.then_n ?_
    refine RC.condT rfl ?_
    refine RC.seq ?_
    refine RC.region ?_
    refine RL.s (Vl.assign rfl) rfl ?_
    refine RL.nil ?_
    refine RQ.then_n ?_
    refine RC.ret ?_
    refine RQ.ret ?_
    have e := h.some
    subst e
    refine RQ.ret0 (vs := [.int .i64 1]) Tryd.results16 ⟨rfl, trivial⟩ ?_
    exact ⟨rfl, (hS.dropAt 0 rfl)⟩
   case neg =>
    have h := h.neg hc5005
    refine RL.re 15 rfl (congrArg Value.bool (decide_eq_false hc5005)) ?_
    refine RL.sg (Vl.fieldAddr (a'' := ⟨b4997, 1, none⟩) Tryd.underlying26 rfl Tryd.sizeOf3 rfl rfl) rfl rfl ?_
    refine RL.sg (Vl.load Tryd.isAgg3 rfl (hS.cell 0 rfl rfl)) rfl rfl ?_
    refine RL.sg (Vl.int rfl rfl rfl) rfl rfl ?_
    refine RL.s (Vl.pickF rfl rfl) rfl ?_
    refine RL.s (Vl.move rfl) rfl ?_
    by_cases hc5006 : 16 ≤ a4720.Self
    case pos =>
     have h := h.pos hc5006
     refine RL.re 20 rfl (congrArg Value.bool (decide_eq_true hc5006)) ?_
     refine RL.nn rfl rfl ?_
     refine RL.nn rfl rfl ?_
     refine RL.nn rfl rfl ?_
     refine RL.nn rfl rfl ?_
     refine RL.s (Vl.pickT rfl rfl) rfl ?_
     refine RL.nil ?_
     refine RQ.then_n ?_
     refine RC.condT rfl ?_
     refine RC.seq ?_
     refine RC.region ?_
     refine RL.s (Vl.assign rfl) rfl ?_
     refine RL.nil ?_
     refine RQ.then_n ?_
     refine RC.ret ?_
     refine RQ.ret ?_
     have e := h.some
     subst e
     refine RQ.ret0 (vs := [.int .i64 1]) Tryd.results16 ⟨rfl, trivial⟩ ?_
     exact ⟨rfl, (hS.dropAt 0 rfl)⟩
    case neg =>
     have h := h.neg hc5006
     refine RL.re 20 rfl (congrArg Value.bool (decide_eq_false hc5006)) ?_
     refine RL.sg (Vl.fieldAddr (a'' := ⟨b4997, 2, none⟩) Tryd.underlying26 rfl Tryd.sizeOf23 rfl rfl) rfl rfl ?_
     refine RL.sg (Vl.load Tryd.isAgg23 rfl (hS.cell 0 rfl rfl)) rfl rfl ?_
     refine RL.sg (Vl.lenSl Tryd.underlying23 rfl) rfl rfl ?_
     refine RL.sg (Vl.int rfl rfl rfl) rfl rfl ?_
     refine RL.s (Vl.pickF rfl rfl) rfl ?_
     refine RL.nil ?_
     refine RQ.then_n ?_
     by_cases hc5007 : 1024 < (a4720.Links.length : Int)
     case pos =>
      have h := h.pos hc5007
      refine RC.re 25 rfl (congrArg Value.bool (decide_eq_true hc5007)) ?_
      refine RC.condT rfl ?_
      refine RC.seq ?_
      refine RC.region ?_
      refine RL.s (Vl.assign rfl) rfl ?_
      refine RL.nil ?_
      refine RQ.then_n ?_
      refine RC.ret ?_
      refine RQ.ret ?_
      have e := h.some
      subst e
      refine RQ.ret0 (vs := [.int .i64 1]) Tryd.results16 ⟨rfl, trivial⟩ ?_
      exact ⟨rfl, (hS.dropAt 0 rfl)⟩
     case neg =>
      have h := h.neg hc5007
      refine RC.re 25 rfl (congrArg Value.bool (decide_eq_false hc5007)) ?_
      refine RC.condF rfl ?_
      refine RC.skip ?_
      refine RQ.then_n ?_
      refine RC.seq ?_
      refine RC.seq ?_
      refine RC.region ?_
      refine RL.s (Vl.assign rfl) rfl ?_
      refine RL.nil ?_
      refine RQ.then_n ?_
      refine RC.block ?_
      refine fun a ha => RC.loop (N := 56) (body := (isochronref05vCheck.l2b a4720)) (φ := (· = r)) (fun (s : Int) a w => ∃ (x5023 : Int), s = (x5023) ∧ Has 56 [(1, .pointer (some ⟨b4997, 0, none⟩)), (4, .int .i64 x5023)] a ∧ St B w (Cl b4997 [.slice A4721 a4720.Prog.length c4722, .int .i64 a4720.Self, .slice A4724 a4720.Links.length c4725, .int .u64 a4720.Seed] 26 :: l) hf) ?_ (s0 := (0)) h ⟨0, rfl, ha.to ⟨rfl, rfl, trivial⟩, hS⟩
      rintro G5041 x5023 a w ⟨_, rfl, ha, hS⟩ h
      revert a
      show RC _ _ _ _ _ _
      refine RC.seq ?_
      refine RC.seq ?_
      refine RC.region ?_
      refine RL.s (Vl.move rfl) rfl ?_
      refine RL.s (Vl.fieldAddr (a'' := ⟨b4997, 2, none⟩) Tryd.underlying26 rfl Tryd.sizeOf23 rfl rfl) rfl ?_
      refine RL.s (Vl.load Tryd.isAgg23 rfl (hS.cell 0 rfl rfl)) rfl ?_
      refine RL.s (Vl.lenSl Tryd.underlying23 rfl) rfl ?_
      refine RL.s (Vl.int rfl rfl rfl) rfl ?_
      refine RL.nil ?_
      refine RQ.then_n ?_
      by_cases hc5043 : x5023 < (a4720.Links.length : Int)
      case pos =>
       have h := h.pos hc5043
       refine RC.re 30 rfl (congrArg Value.bool (decide_eq_true hc5043)) ?_
       refine RC.condT rfl ?_
       refine RC.skip ?_
       refine RQ.then_n ?_
       refine RC.seq ?_
       refine RC.block ?_
       refine RC.seq ?_
       refine RC.region ?_
       refine RL.s (Vl.fieldAddr (a'' := ⟨b4997, 2, none⟩) Tryd.underlying26 rfl Tryd.sizeOf23 rfl rfl) rfl ?_
       refine RL.s (Vl.load Tryd.isAgg23 rfl (hS.cell 0 rfl rfl)) rfl ?_
       refine RL.s (Vl.move rfl) rfl ?_
       obtain ⟨hq5051, h⟩ := h.req
       refine RL.s (Vl.indexAddr Tryd.underlying23 Tryd.sizeOf56 rfl rfl ((hr4726.2.world hS.sub).adr hq5051 hc5043) hq5051 hc5043 rfl) rfl ?_
       refine RL.s (Vl.loadA Tryd.isAgg56 Tryd.sizeOf56 rfl rfl ((hr4726.2.world hS.sub).cells hq5051 hc5043)) rfl ?_
       refine RL.e (OW.alloc (cs := [.int .i64 0, .int .i64 0, .int .i64 0, .bool false]) hS Tryd.zeroValue56 rfl) rfl rfl ?_
       rintro _ w ⟨b5053, rfl, hS⟩
       have hS : St B w (Cl b5053 [.int .i64 0, .int .i64 0, .int .i64 0, .bool false] 56 :: Cl b4997 [.slice A4721 a4720.Prog.length c4722, .int .i64 a4720.Self, .slice A4724 a4720.Links.length c4725, .int .u64 a4720.Seed] 26 :: l) hf := hS
       refine RL.e0 (OW.store (cs := [.int .i64 0, .int .i64 0, .int .i64 0, .bool false]) (vs := [.int .i64 ((nth a4720.Links x5023).From), .int .i64 ((nth a4720.Links x5023).To), .int .i64 ((nth a4720.Links x5023).Look), .bool ((nth a4720.Links x5023).Loose)]) (l' := Cl b5053 [.int .i64 ((nth a4720.Links x5023).From), .int .i64 ((nth a4720.Links x5023).To), .int .i64 ((nth a4720.Links x5023).Look), .bool ((nth a4720.Links x5023).Loose)] 56 :: Cl b4997 [.slice A4721 a4720.Prog.length c4722, .int .i64 a4720.Self, .slice A4724 a4720.Links.length c4725, .int .u64 a4720.Seed] 26 :: l) 0 hS rfl rfl rfl rfl Tryd.sizeOf56 rfl rfl rfl rfl) rfl ?_
       rintro _ w ⟨rfl, hS⟩
       have hS : St B w (Cl b5053 [.int .i64 ((nth a4720.Links x5023).From), .int .i64 ((nth a4720.Links x5023).To), .int .i64 ((nth a4720.Links x5023).Look), .bool ((nth a4720.Links x5023).Loose)] 56 :: Cl b4997 [.slice A4721 a4720.Prog.length c4722, .int .i64 a4720.Self, .slice A4724 a4720.Links.length c4725, .int .u64 a4720.Seed] 26 :: l) hf := hS
       refine RL.nil ?_
       refine RQ.then_n ?_
       refine RC.seq ?_
       refine RC.region ?_
       refine RL.s (Vl.fieldAddr (a'' := ⟨b5053, 1, none⟩) Tryd.underlying56 rfl Tryd.sizeOf3 rfl rfl) rfl ?_
       refine RL.s (Vl.load Tryd.isAgg3 rfl (hS.cell 0 rfl rfl)) rfl ?_
       refine RL.s (Vl.int rfl rfl rfl) rfl ?_
       refine RL.s (Vl.move rfl) rfl ?_
       by_cases hc5054 : (nth a4720.Links x5023).To < 0
       case pos =>
        have h := h.pos hc5054
        refine RL.re 41 rfl (congrArg Value.bool (decide_eq_true hc5054)) ?_
        refine RL.nn rfl rfl ?_
        refine RL.nn rfl rfl ?_
        refine RL.nn rfl rfl ?_
        refine RL.s (Vl.pickT rfl rfl) rfl ?_
        refine RL.s (Vl.move rfl) rfl ?_
        refine RL.nn rfl rfl ?_
        refine RL.nn rfl rfl ?_
        refine RL.nn rfl rfl ?_
        refine RL.s (Vl.pickT rfl rfl) rfl ?_
        refine RL.s (Vl.move rfl) rfl ?_
        refine RL.nn rfl rfl ?_
        refine RL.nn rfl rfl ?_
        refine RL.nn rfl rfl ?_
        refine RL.s (Vl.pickT rfl rfl) rfl ?_
        refine RL.nil ?_
        refine RQ.then_n ?_
        refine RC.condT rfl ?_
        refine RC.seq ?_
        refine RC.region ?_
        refine RL.s (Vl.assign rfl) rfl ?_
        refine RL.nil ?_
        refine RQ.then_n ?_
        refine RC.ret ?_
        refine RQ.inB_ret ?_
        refine RQ.ret ?_
        have h := h.inrS
        refine RQ.ret ?_
        refine RQ.inB_ret ?_
        refine RQ.ret ?_
        have e := h.some
        subst e
        refine RQ.ret0 (vs := [.int .i64 1]) Tryd.results16 ⟨rfl, trivial⟩ ?_
        exact ⟨rfl, ((hS.dropAt 0 rfl).dropAt 0 rfl)⟩
       case neg =>
        have h := h.neg hc5054
        refine RL.re 41 rfl (congrArg Value.bool (decide_eq_false hc5054)) ?_
        refine RL.sg (Vl.fieldAddr (a'' := ⟨b5053, 1, none⟩) Tryd.underlying56 rfl Tryd.sizeOf3 rfl rfl) rfl rfl ?_
        refine RL.sg (Vl.load Tryd.isAgg3 rfl (hS.cell 0 rfl rfl)) rfl rfl ?_
        refine RL.sg (Vl.int rfl rfl rfl) rfl rfl ?_
        refine RL.s (Vl.pickF rfl rfl) rfl ?_
        refine RL.s (Vl.move rfl) rfl ?_
        by_cases hc5055 : 16 ≤ (nth a4720.Links x5023).To
        case pos =>
         have h := h.pos hc5055
         refine RL.re 46 rfl (congrArg Value.bool (decide_eq_true hc5055)) ?_
         refine RL.nn rfl rfl ?_
         refine RL.nn rfl rfl ?_
         refine RL.nn rfl rfl ?_
         refine RL.s (Vl.pickT rfl rfl) rfl ?_
         refine RL.s (Vl.move rfl) rfl ?_
         refine RL.nn rfl rfl ?_
         refine RL.nn rfl rfl ?_
         refine RL.nn rfl rfl ?_
         refine RL.s (Vl.pickT rfl rfl) rfl ?_
         refine RL.nil ?_
         refine RQ.then_n ?_
         refine RC.condT rfl ?_
         refine RC.seq ?_
         refine RC.region ?_
         refine RL.s (Vl.assign rfl) rfl ?_
         refine RL.nil ?_
         refine RQ.then_n ?_
         refine RC.ret ?_
         refine RQ.inB_ret ?_
         refine RQ.ret ?_
         have h := h.inrS
         refine RQ.ret ?_
         refine RQ.inB_ret ?_
         refine RQ.ret ?_
         have e := h.some
         subst e
         refine RQ.ret0 (vs := [.int .i64 1]) Tryd.results16 ⟨rfl, trivial⟩ ?_
         exact ⟨rfl, ((hS.dropAt 0 rfl).dropAt 0 rfl)⟩
        case neg =>
         have h := h.neg hc5055
         refine RL.re 46 rfl (congrArg Value.bool (decide_eq_false hc5055)) ?_
         refine RL.sg (Vl.fieldAddr (a'' := ⟨b5053, 2, none⟩) Tryd.underlying56 rfl Tryd.sizeOf2 rfl rfl) rfl rfl ?_
         refine RL.sg (Vl.load Tryd.isAgg2 rfl (hS.cell 0 rfl rfl)) rfl rfl ?_
         refine RL.sg (Vl.int rfl rfl rfl) rfl rfl ?_
         refine RL.s (Vl.pickF rfl rfl) rfl ?_
         refine RL.s (Vl.move rfl) rfl ?_
         by_cases hc5056 : (nth a4720.Links x5023).Look < 1
         case pos =>
          have h := h.pos hc5056
          refine RL.re 51 rfl (congrArg Value.bool (decide_eq_true hc5056)) ?_
          refine RL.nn rfl rfl ?_
          refine RL.nn rfl rfl ?_
          refine RL.nn rfl rfl ?_
          refine RL.s (Vl.pickT rfl rfl) rfl ?_
          refine RL.nil ?_
          refine RQ.then_n ?_
          refine RC.condT rfl ?_
          refine RC.seq ?_
          refine RC.region ?_
          refine RL.s (Vl.assign rfl) rfl ?_
          refine RL.nil ?_
          refine RQ.then_n ?_
          refine RC.ret ?_
          refine RQ.inB_ret ?_
          refine RQ.ret ?_
          have h := h.inrS
          refine RQ.ret ?_
          refine RQ.inB_ret ?_
          refine RQ.ret ?_
          have e := h.some
          subst e
          refine RQ.ret0 (vs := [.int .i64 1]) Tryd.results16 ⟨rfl, trivial⟩ ?_
          exact ⟨rfl, ((hS.dropAt 0 rfl).dropAt 0 rfl)⟩
         case neg =>
          have h := h.neg hc5056
          refine RL.re 51 rfl (congrArg Value.bool (decide_eq_false hc5056)) ?_
          refine RL.sg (Vl.fieldAddr (a'' := ⟨b5053, 2, none⟩) Tryd.underlying56 rfl Tryd.sizeOf2 rfl rfl) rfl rfl ?_
          refine RL.sg (Vl.load Tryd.isAgg2 rfl (hS.cell 0 rfl rfl)) rfl rfl ?_
          refine RL.sg (Vl.int rfl rfl rfl) rfl rfl ?_
          refine RL.s (Vl.pickF rfl rfl) rfl ?_
          refine RL.nil ?_
          refine RQ.then_n ?_
          by_cases hc5057 : 4611686018427387903 < (nth a4720.Links x5023).Look
          case pos =>
           have h := h.pos hc5057
           refine RC.re 55 rfl (congrArg Value.bool (decide_eq_true hc5057)) ?_
           refine RC.condT rfl ?_
           refine RC.seq ?_
           refine RC.region ?_
           refine RL.s (Vl.assign rfl) rfl ?_
           refine RL.nil ?_
           refine RQ.then_n ?_
           refine RC.ret ?_
           refine RQ.inB_ret ?_
           refine RQ.ret ?_
           have h := h.inrS
           refine RQ.ret ?_
           refine RQ.inB_ret ?_
           refine RQ.ret ?_
           have e := h.some
           subst e
           refine RQ.ret0 (vs := [.int .i64 1]) Tryd.results16 ⟨rfl, trivial⟩ ?_
           exact ⟨rfl, ((hS.dropAt 0 rfl).dropAt 0 rfl)⟩
          case neg =>
           have h := h.neg hc5057
           refine RC.re 55 rfl (congrArg Value.bool (decide_eq_false hc5057)) ?_
           refine RC.condF rfl ?_
           refine RC.skip ?_
           refine RQ.inB_n ?_
           refine RQ.then_n ?_
           refine RC.region ?_
           refine RL.s (Vl.move rfl) rfl ?_
           refine RL.s (Vl.int rfl rfl rfl) rfl ?_
           refine RL.s (Vl.assign rfl) rfl ?_
           refine RL.nil ?_
           exact fun a ha => ⟨(IntKind.i64.wrap (x5023 + 1)), ⟨(IntKind.i64.wrap (x5023 + 1)), rfl, ha.to ⟨rfl, rfl, trivial⟩, (hS.dropAt 0 rfl)⟩, h.some⟩
      case neg =>
       have h := h.neg hc5043
       refine RC.re 30 rfl (congrArg Value.bool (decide_eq_false hc5043)) ?_
       refine RC.condF rfl ?_
       refine RC.exit ?_
       refine RQ.exitT ?_
       have h := h.inrS
       refine RQ.exitT ?_
       refine RQ.inB_hit ?_
       refine RQ.then_n ?_
       refine RC.seq ?_
       refine RC.region ?_
       refine RL.s (Vl.assign rfl) rfl ?_
       refine RL.nil ?_
       refine RQ.then_n ?_
       refine RC.ret ?_
       have e := h.some
       subst e
       refine RQ.ret0 (vs := [.int .i64 0]) Tryd.results16 ⟨rfl, trivial⟩ ?_
       exact ⟨rfl, (hS.dropAt 0 rfl)⟩
  case neg =>
   have h := h.neg hc5001
   refine RC.re 10 rfl (congrArg Value.bool (notdec_neg hc5001)) ?_
   refine RC.condT rfl ?_
   refine RC.seq ?_
   refine RC.region ?_
   refine RL.s (Vl.move rfl) rfl ?_
   refine RL.s (Vl.assign rfl) rfl ?_
   refine RL.nil ?_
   refine RQ.then_n ?_
   refine RC.ret ?_
   refine RQ.ret ?_
   have e := h.some
   subst e
   refine RQ.ret0 (vs := [.int .i64 t4998]) Tryd.results16 ⟨rfl, trivial⟩ ?_
   exact ⟨rfl, (hS.dropAt 0 rfl)⟩

end Go.Proofs.Gx
