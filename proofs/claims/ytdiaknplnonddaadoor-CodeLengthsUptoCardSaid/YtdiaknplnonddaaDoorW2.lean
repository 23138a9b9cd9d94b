/-
  The walks of functions, each with what it computes: printed by wip/gx.py.
-/
import Derived.Test.YtdiaknplnonddaaDoorW0
import Derived.Test.YtdiaknplnonddaaDoorW1
set_option linter.unusedVariables false
namespace Go.Proofs.Gx
open Go.Sl
/-! ### isochron/isochronref03.may: function 26 -/
noncomputable def isochronref03vmay.j6 (a1814 : api_Instr) (q1933 : Bool) : Option (Bool) := (if q1933 = true then ((isochronref03vreg.f a1814.A).bind fun t1935 => (if t1935 = true then (if a1814.B = 0 then some (decide (a1814.C = 0)) else some false) else some false)) else some false)
noncomputable def isochronref03vmay.j5 (a1814 : api_Instr) (a1815 : Int) (q1911 : Bool) : Option (Bool) := (if q1911 = true then ((isochronref03vreg.f a1814.A).bind fun t1913 => (if t1913 = true then ((isochronref03vreg.f a1814.B).bind fun t1916 => (if t1916 = true then ((isochronref03vreg.f a1814.C).bind fun t1919 => some t1919) else some false)) else some false)) else (if a1814.Op = 10 then (if 0 ≤ a1814.A then (if a1814.A ≤ a1815 then (if a1814.B = 0 then some (decide (a1814.C = 0)) else some false) else some false) else some false) else (if a1814.Op = 11 then ((isochronref03vreg.f a1814.A).bind fun t1926 => (if t1926 = true then (if 0 ≤ a1814.B then (if a1814.B ≤ a1815 then some (decide (a1814.C = 0)) else some false) else some false) else some false)) else (if a1814.Op = 14 then isochronref03vmay.j6 a1814 true else (if a1814.Op = 15 then isochronref03vmay.j6 a1814 true else isochronref03vmay.j6 a1814 (decide (a1814.Op = 16)))))))
noncomputable def isochronref03vmay.j4 (a1814 : api_Instr) (a1815 : Int) (q1896 : Bool) : Option (Bool) := (if q1896 = true then ((isochronref03vreg.f a1814.A).bind fun t1898 => (if t1898 = true then ((isochronref03vreg.f a1814.B).bind fun t1901 => (if t1901 = true then some (decide (a1814.C = 0)) else some false)) else some false)) else (if a1814.Op = 3 then isochronref03vmay.j5 a1814 a1815 true else (if a1814.Op = 4 then isochronref03vmay.j5 a1814 a1815 true else (if a1814.Op = 5 then isochronref03vmay.j5 a1814 a1815 true else (if a1814.Op = 6 then isochronref03vmay.j5 a1814 a1815 true else (if a1814.Op = 7 then isochronref03vmay.j5 a1814 a1815 true else (if a1814.Op = 8 then isochronref03vmay.j5 a1814 a1815 true else (if a1814.Op = 9 then isochronref03vmay.j5 a1814 a1815 true else isochronref03vmay.j5 a1814 a1815 (decide (a1814.Op = 12))))))))))
noncomputable def isochronref03vmay.f (a1814 : api_Instr) (a1815 : Int) : Option (Bool) := (if a1814.Op = 0 then (if a1814.A = 0 then (if a1814.B = 0 then some (decide (a1814.C = 0)) else some false) else some false) else (if a1814.Op = 1 then ((isochronref03vreg.f a1814.A).bind fun t1890 => (if t1890 = true then (if (-2147483648) ≤ a1814.B then (if a1814.B ≤ 2147483647 then some (decide (a1814.C = 0)) else some false) else some false) else some false)) else (if a1814.Op = 2 then isochronref03vmay.j4 a1814 a1815 true else isochronref03vmay.j4 a1814 a1815 (decide (a1814.Op = 13)))))
set_option maxRecDepth 100000 in
set_option maxHeartbeats 4000000 in
theorem isochronref03vmay.ok {B : Base} {w : World} {l : List HProp} {hf : Hp} (a1814 : api_Instr) (a1815 : Int) (r : Bool) (h : isochronref03vmay.f a1814 a1815 = some r) (hS : St B w (l) hf) :
    Calls Tryd.prog 26 #[.agg #[.int .i64 a1814.Op, .int .i64 a1814.A, .int .i64 a1814.B, .int .i64 a1814.C], .int .i64 a1815] w (Ret fun v w => v = .bool r ∧ St B w (l) hf) := by
  have h := Holds.of h
  refine enter (args := [.agg #[.int .i64 a1814.Op, .int .i64 a1814.A, .int .i64 a1814.B, .int .i64 a1814.C], .int .i64 a1815]) Tryd.func26 rfl Tryd.ntmps26 (Nat.le_of_ble_eq_true rfl) ?_
  refine RC.seq ?_
  refine RC.region ?_
  refine RL.e (OW.box (cs := [.int .i64 a1814.Op, .int .i64 a1814.A, .int .i64 a1814.B, .int .i64 a1814.C]) hS rfl rfl) rfl rfl ?_
  rintro _ w ⟨b1885, rfl, hS⟩
  have hS : St B w (Cl b1885 [.int .i64 a1814.Op, .int .i64 a1814.A, .int .i64 a1814.B, .int .i64 a1814.C] 23 :: l) hf := hS
  refine RL.s (Vl.assign rfl) rfl ?_
  refine RL.nil ?_
  refine RQ.then_n ?_
  refine RC.seq ?_
  refine RC.seq ?_
  refine RC.region ?_
  refine RL.s (Vl.fieldAddr (a'' := ⟨b1885, 0, none⟩) Tryd.underlying23 rfl Tryd.sizeOf3 rfl rfl) rfl ?_
  refine RL.s (Vl.load Tryd.isAgg3 rfl (hS.cell 0 rfl rfl)) rfl ?_
  refine RL.nil ?_
  refine RQ.then_n ?_
  refine RC.block ?_
  refine RC.seq ?_
  refine RC.region ?_
  refine RL.s (Vl.int rfl rfl rfl) rfl ?_
  refine RL.s (Vl.assign rfl) rfl ?_
  refine RL.nil ?_
  refine RQ.then_n ?_
  by_cases hc1886 : a1814.Op = 0
  case pos =>
    have h := h.pos hc1886
    refine RC.re 7 rfl (congrArg Value.bool (decide_eq_true hc1886)) ?_
    refine RC.condT rfl ?_
    refine RC.seq ?_
    refine RC.region ?_
    refine RL.s (Vl.fieldAddr (a'' := ⟨b1885, 1, none⟩) Tryd.underlying23 rfl Tryd.sizeOf3 rfl rfl) rfl ?_
    refine RL.s (Vl.load Tryd.isAgg3 rfl (hS.cell 0 rfl rfl)) rfl ?_
    refine RL.s (Vl.int rfl rfl rfl) rfl ?_
    refine RL.s (Vl.move rfl) rfl ?_
    by_cases hc1887 : a1814.A = 0
    case pos =>
      have h := h.pos hc1887
      refine RL.re 12 rfl (congrArg Value.bool (decide_eq_true hc1887)) ?_
      refine RL.sg (Vl.fieldAddr (a'' := ⟨b1885, 2, none⟩) Tryd.underlying23 rfl Tryd.sizeOf3 rfl rfl) rfl rfl ?_
      refine RL.sg (Vl.load Tryd.isAgg3 rfl (hS.cell 0 rfl rfl)) rfl rfl ?_
      refine RL.sg (Vl.int rfl rfl rfl) rfl rfl ?_
      refine RL.s (Vl.pickT rfl rfl) rfl ?_
      refine RL.s (Vl.move rfl) rfl ?_
      by_cases hc1888 : a1814.B = 0
      case pos =>
        have h := h.pos hc1888
        refine RL.re 17 rfl (congrArg Value.bool (decide_eq_true hc1888)) ?_
        refine RL.sg (Vl.fieldAddr (a'' := ⟨b1885, 3, none⟩) Tryd.underlying23 rfl Tryd.sizeOf3 rfl rfl) rfl rfl ?_
        refine RL.sg (Vl.load Tryd.isAgg3 rfl (hS.cell 0 rfl rfl)) rfl rfl ?_
        refine RL.sg (Vl.int rfl rfl rfl) rfl rfl ?_
        refine RL.s (Vl.pickT rfl rfl) rfl ?_
        refine RL.s (Vl.assign rfl) rfl ?_
        refine RL.nil ?_
        refine RQ.then_n ?_
        refine RC.ret ?_
        refine RQ.inB_ret ?_
        refine RQ.ret ?_
        have e := h.some
        subst e
        refine RQ.ret0 (vs := [.bool (decide (a1814.C = 0))]) Tryd.results26 ⟨rfl, trivial⟩ ?_
        exact ⟨rfl, (hS.dropAt 0 rfl)⟩
      case neg =>
        have h := h.neg hc1888
        refine RL.re 17 rfl (congrArg Value.bool (decide_eq_false hc1888)) ?_
        refine RL.nn rfl rfl ?_
        refine RL.nn rfl rfl ?_
        refine RL.nn rfl rfl ?_
        refine RL.s (Vl.pickF rfl rfl) rfl ?_
        refine RL.s (Vl.assign rfl) rfl ?_
        refine RL.nil ?_
        refine RQ.then_n ?_
        refine RC.ret ?_
        refine RQ.inB_ret ?_
        refine RQ.ret ?_
        have e := h.some
        subst e
        refine RQ.ret0 (vs := [.bool false]) Tryd.results26 ⟨rfl, trivial⟩ ?_
        exact ⟨rfl, (hS.dropAt 0 rfl)⟩
    case neg =>
      have h := h.neg hc1887
      refine RL.re 12 rfl (congrArg Value.bool (decide_eq_false hc1887)) ?_
      refine RL.nn rfl rfl ?_
      refine RL.nn rfl rfl ?_
      refine RL.nn rfl rfl ?_
      refine RL.s (Vl.pickF rfl rfl) rfl ?_
      refine RL.s (Vl.move rfl) rfl ?_
      refine RL.nn rfl rfl ?_
      refine RL.nn rfl rfl ?_
      refine RL.nn rfl rfl ?_
      refine RL.s (Vl.pickF rfl rfl) rfl ?_
      refine RL.s (Vl.assign rfl) rfl ?_
      refine RL.nil ?_
      refine RQ.then_n ?_
      refine RC.ret ?_
      refine RQ.inB_ret ?_
      refine RQ.ret ?_
      have e := h.some
      subst e
      refine RQ.ret0 (vs := [.bool false]) Tryd.results26 ⟨rfl, trivial⟩ ?_
      exact ⟨rfl, (hS.dropAt 0 rfl)⟩
  case neg =>
    have h := h.neg hc1886
    refine RC.re 7 rfl (congrArg Value.bool (decide_eq_false hc1886)) ?_
    refine RC.condF rfl ?_
    refine RC.seq ?_
    refine RC.region ?_
    refine RL.s (Vl.int rfl rfl rfl) rfl ?_
    refine RL.s (Vl.assign rfl) rfl ?_
    refine RL.nil ?_
    refine RQ.then_n ?_
    by_cases hc1889 : a1814.Op = 1
    case pos =>
      have h := h.pos hc1889
      refine RC.re 22 rfl (congrArg Value.bool (decide_eq_true hc1889)) ?_
      refine RC.condT rfl ?_
      refine RC.seq ?_
      refine RC.region ?_
      refine RL.s (Vl.fieldAddr (a'' := ⟨b1885, 1, none⟩) Tryd.underlying23 rfl Tryd.sizeOf3 rfl rfl) rfl ?_
      refine RL.s (Vl.load Tryd.isAgg3 rfl (hS.cell 0 rfl rfl)) rfl ?_
      obtain ⟨t1890, hg1891, h⟩ := h.bind
      refine RL.e (OW.callF (ls := [.tmp 25]) rfl Tryd.call31 (isochronref03vreg.ok a1814.A _ hg1891 hS)) rfl rfl ?_
      rintro _ w ⟨rfl, hS⟩
      have hS : St B w (Cl b1885 [.int .i64 a1814.Op, .int .i64 a1814.A, .int .i64 a1814.B, .int .i64 a1814.C] 23 :: l) hf := hS
      refine RL.s (Vl.move rfl) rfl ?_
      by_cases hc1892 : t1890 = true
      case pos =>
        have h := h.pos hc1892
        refine RL.re 27 rfl (congrArg Value.bool (id hc1892)) ?_
        refine RL.sg (Vl.fieldAddr (a'' := ⟨b1885, 2, none⟩) Tryd.underlying23 rfl Tryd.sizeOf3 rfl rfl) rfl rfl ?_
        refine RL.sg (Vl.load Tryd.isAgg3 rfl (hS.cell 0 rfl rfl)) rfl rfl ?_
        refine RL.sg (Vl.int rfl rfl rfl) rfl rfl ?_
        refine RL.s (Vl.pickT rfl rfl) rfl ?_
        refine RL.s (Vl.move rfl) rfl ?_
        by_cases hc1893 : (-2147483648) ≤ a1814.B
        case pos =>
          have h := h.pos hc1893
          refine RL.re 32 rfl (congrArg Value.bool (decide_eq_true hc1893)) ?_
          refine RL.sg (Vl.fieldAddr (a'' := ⟨b1885, 2, none⟩) Tryd.underlying23 rfl Tryd.sizeOf3 rfl rfl) rfl rfl ?_
          refine RL.sg (Vl.load Tryd.isAgg3 rfl (hS.cell 0 rfl rfl)) rfl rfl ?_
          refine RL.sg (Vl.int rfl rfl rfl) rfl rfl ?_
          refine RL.s (Vl.pickT rfl rfl) rfl ?_
          refine RL.s (Vl.move rfl) rfl ?_
          by_cases hc1894 : a1814.B ≤ 2147483647
          case pos =>
            have h := h.pos hc1894
            refine RL.re 37 rfl (congrArg Value.bool (decide_eq_true hc1894)) ?_
            refine RL.sg (Vl.fieldAddr (a'' := ⟨b1885, 3, none⟩) Tryd.underlying23 rfl Tryd.sizeOf3 rfl rfl) rfl rfl ?_
            refine RL.sg (Vl.load Tryd.isAgg3 rfl (hS.cell 0 rfl rfl)) rfl rfl ?_
            refine RL.sg (Vl.int rfl rfl rfl) rfl rfl ?_
            refine RL.s (Vl.pickT rfl rfl) rfl ?_
            refine RL.s (Vl.assign rfl) rfl ?_
            refine RL.nil ?_
            refine RQ.then_n ?_
            refine RC.ret ?_
            refine RQ.inB_ret ?_
            refine RQ.ret ?_
            have e := h.some
            subst e
            refine RQ.ret0 (vs := [.bool (decide (a1814.C = 0))]) Tryd.results26 ⟨rfl, trivial⟩ ?_
            exact ⟨rfl, (hS.dropAt 0 rfl)⟩
          case neg =>
            have h := h.neg hc1894
            refine RL.re 37 rfl (congrArg Value.bool (decide_eq_false hc1894)) ?_
            refine RL.nn rfl rfl ?_
            refine RL.nn rfl rfl ?_
            refine RL.nn rfl rfl ?_
            refine RL.s (Vl.pickF rfl rfl) rfl ?_
            refine RL.s (Vl.assign rfl) rfl ?_
            refine RL.nil ?_
            refine RQ.then_n ?_
            refine RC.ret ?_
            refine RQ.inB_ret ?_
            refine RQ.ret ?_
            have e := h.some
            subst e
            refine RQ.ret0 (vs := [.bool false]) Tryd.results26 ⟨rfl, trivial⟩ ?_
            exact ⟨rfl, (hS.dropAt 0 rfl)⟩
        case neg =>
          have h := h.neg hc1893
          refine RL.re 32 rfl (congrArg Value.bool (decide_eq_false hc1893)) ?_
          refine RL.nn rfl rfl ?_
          refine RL.nn rfl rfl ?_
          refine RL.nn rfl rfl ?_
          refine RL.s (Vl.pickF rfl rfl) rfl ?_
          refine RL.s (Vl.move rfl) rfl ?_
          refine RL.nn rfl rfl ?_
          refine RL.nn rfl rfl ?_
          refine RL.nn rfl rfl ?_
          refine RL.s (Vl.pickF rfl rfl) rfl ?_
          refine RL.s (Vl.assign rfl) rfl ?_
          refine RL.nil ?_
          refine RQ.then_n ?_
          refine RC.ret ?_
          refine RQ.inB_ret ?_
          refine RQ.ret ?_
          have e := h.some
          subst e
          refine RQ.ret0 (vs := [.bool false]) Tryd.results26 ⟨rfl, trivial⟩ ?_
          exact ⟨rfl, (hS.dropAt 0 rfl)⟩
      case neg =>
        have h := h.neg hc1892
        refine RL.re 27 rfl (congrArg Value.bool (eq_false_of hc1892)) ?_
        refine RL.nn rfl rfl ?_
        refine RL.nn rfl rfl ?_
        refine RL.nn rfl rfl ?_
        refine RL.s (Vl.pickF rfl rfl) rfl ?_
        refine RL.s (Vl.move rfl) rfl ?_
        refine RL.nn rfl rfl ?_
        refine RL.nn rfl rfl ?_
        refine RL.nn rfl rfl ?_
        refine RL.s (Vl.pickF rfl rfl) rfl ?_
        refine RL.s (Vl.move rfl) rfl ?_
        refine RL.nn rfl rfl ?_
        refine RL.nn rfl rfl ?_
        refine RL.nn rfl rfl ?_
        refine RL.s (Vl.pickF rfl rfl) rfl ?_
        refine RL.s (Vl.assign rfl) rfl ?_
        refine RL.nil ?_
        refine RQ.then_n ?_
        refine RC.ret ?_
        refine RQ.inB_ret ?_
        refine RQ.ret ?_
        have e := h.some
        subst e
        refine RQ.ret0 (vs := [.bool false]) Tryd.results26 ⟨rfl, trivial⟩ ?_
        exact ⟨rfl, (hS.dropAt 0 rfl)⟩
    case neg =>
      have h := h.neg hc1889
      refine RC.re 22 rfl (congrArg Value.bool (decide_eq_false hc1889)) ?_
      refine RC.condF rfl ?_
      refine RC.join (fun (s : Bool) a w => ∃ (q1896 : Bool), s = (q1896) ∧ Has 139 [(1, .int .i64 a1815), (2, .pointer (some ⟨b1885, 0, none⟩)), (6, .int .i64 a1814.Op), (42, .bool q1896)] a ∧ St B w (Cl b1885 [.int .i64 a1814.Op, .int .i64 a1814.A, .int .i64 a1814.B, .int .i64 a1814.C] 23 :: l) hf ∧ Holds (· = r) (isochronref03vmay.j4 a1814 a1815 q1896)) ?_ ?_
      · rintro q1896 a w ⟨_, rfl, ha, hS, h⟩
        revert a
        show RC _ _ _ _ _ _
        by_cases hc1897 : q1896 = true
        case pos =>
          have h := h.pos hc1897
          refine RC.re 42 rfl (congrArg Value.bool (id hc1897)) ?_
          refine RC.condT rfl ?_
          refine RC.seq ?_
          refine RC.region ?_
          refine RL.s (Vl.fieldAddr (a'' := ⟨b1885, 1, none⟩) Tryd.underlying23 rfl Tryd.sizeOf3 rfl rfl) rfl ?_
          refine RL.s (Vl.load Tryd.isAgg3 rfl (hS.cell 0 rfl rfl)) rfl ?_
          obtain ⟨t1898, hg1899, h⟩ := h.bind
          refine RL.e (OW.callF (ls := [.tmp 46]) rfl Tryd.call31 (isochronref03vreg.ok a1814.A _ hg1899 hS)) rfl rfl ?_
          rintro _ w ⟨rfl, hS⟩
          have hS : St B w (Cl b1885 [.int .i64 a1814.Op, .int .i64 a1814.A, .int .i64 a1814.B, .int .i64 a1814.C] 23 :: l) hf := hS
          refine RL.s (Vl.move rfl) rfl ?_
          by_cases hc1900 : t1898 = true
          case pos =>
            have h := h.pos hc1900
            refine RL.re 48 rfl (congrArg Value.bool (id hc1900)) ?_
            refine RL.sg (Vl.fieldAddr (a'' := ⟨b1885, 2, none⟩) Tryd.underlying23 rfl Tryd.sizeOf3 rfl rfl) rfl rfl ?_
            refine RL.sg (Vl.load Tryd.isAgg3 rfl (hS.cell 0 rfl rfl)) rfl rfl ?_
            obtain ⟨t1901, hg1902, h⟩ := h.bind
            refine RL.e (OW.callF (ls := [.tmp 50]) rfl Tryd.call31 (isochronref03vreg.ok a1814.B _ hg1902 hS)) rfl rfl ?_
            rintro _ w ⟨rfl, hS⟩
            have hS : St B w (Cl b1885 [.int .i64 a1814.Op, .int .i64 a1814.A, .int .i64 a1814.B, .int .i64 a1814.C] 23 :: l) hf := hS
            refine RL.s (Vl.pickT rfl rfl) rfl ?_
            refine RL.s (Vl.move rfl) rfl ?_
            by_cases hc1903 : t1901 = true
            case pos =>
              have h := h.pos hc1903
              refine RL.re 53 rfl (congrArg Value.bool (id hc1903)) ?_
              refine RL.sg (Vl.fieldAddr (a'' := ⟨b1885, 3, none⟩) Tryd.underlying23 rfl Tryd.sizeOf3 rfl rfl) rfl rfl ?_
              refine RL.sg (Vl.load Tryd.isAgg3 rfl (hS.cell 0 rfl rfl)) rfl rfl ?_
              refine RL.sg (Vl.int rfl rfl rfl) rfl rfl ?_
              refine RL.s (Vl.pickT rfl rfl) rfl ?_
              refine RL.s (Vl.assign rfl) rfl ?_
              refine RL.nil ?_
              refine RQ.then_n ?_
              refine RC.ret ?_
              refine RQ.inB_ret ?_
              refine RQ.ret ?_
              have e := h.some
              subst e
              refine RQ.ret0 (vs := [.bool (decide (a1814.C = 0))]) Tryd.results26 ⟨rfl, trivial⟩ ?_
              exact ⟨rfl, (hS.dropAt 0 rfl)⟩
            case neg =>
              have h := h.neg hc1903
              refine RL.re 53 rfl (congrArg Value.bool (eq_false_of hc1903)) ?_
              refine RL.nn rfl rfl ?_
              refine RL.nn rfl rfl ?_
              refine RL.nn rfl rfl ?_
              refine RL.s (Vl.pickF rfl rfl) rfl ?_
              refine RL.s (Vl.assign rfl) rfl ?_
              refine RL.nil ?_
              refine RQ.then_n ?_
              refine RC.ret ?_
              refine RQ.inB_ret ?_
              refine RQ.ret ?_
              have e := h.some
              subst e
              refine RQ.ret0 (vs := [.bool false]) Tryd.results26 ⟨rfl, trivial⟩ ?_
              exact ⟨rfl, (hS.dropAt 0 rfl)⟩
          case neg =>
            have h := h.neg hc1900
            refine RL.re 48 rfl (congrArg Value.bool (eq_false_of hc1900)) ?_
            refine RL.nn rfl rfl ?_
            refine RL.nn rfl rfl ?_
            refine RL.nn rfl rfl ?_
            refine RL.s (Vl.pickF rfl rfl) rfl ?_
            refine RL.s (Vl.move rfl) rfl ?_
            refine RL.nn rfl rfl ?_
            refine RL.nn rfl rfl ?_
            refine RL.nn rfl rfl ?_
            refine RL.s (Vl.pickF rfl rfl) rfl ?_
            refine RL.s (Vl.assign rfl) rfl ?_
            refine RL.nil ?_
            refine RQ.then_n ?_
            refine RC.ret ?_
            refine RQ.inB_ret ?_
            refine RQ.ret ?_
            have e := h.some
            subst e
            refine RQ.ret0 (vs := [.bool false]) Tryd.results26 ⟨rfl, trivial⟩ ?_
            exact ⟨rfl, (hS.dropAt 0 rfl)⟩
        case neg =>
          have h := h.neg hc1897
          refine RC.re 42 rfl (congrArg Value.bool (eq_false_of hc1897)) ?_
          refine RC.condF rfl ?_
          refine RC.join (fun (s : Bool) a w => ∃ (q1911 : Bool), s = (q1911) ∧ Has 139 [(1, .int .i64 a1815), (2, .pointer (some ⟨b1885, 0, none⟩)), (6, .int .i64 a1814.Op), (58, .bool q1911)] a ∧ St B w (Cl b1885 [.int .i64 a1814.Op, .int .i64 a1814.A, .int .i64 a1814.B, .int .i64 a1814.C] 23 :: l) hf ∧ Holds (· = r) (isochronref03vmay.j5 a1814 a1815 q1911)) ?_ ?_
          · rintro q1911 a w ⟨_, rfl, ha, hS, h⟩
            revert a
            show RC _ _ _ _ _ _
            by_cases hc1912 : q1911 = true
            case pos =>
              have h := h.pos hc1912
              refine RC.re 58 rfl (congrArg Value.bool (id hc1912)) ?_
              refine RC.condT rfl ?_
              refine RC.seq ?_
              refine RC.region ?_
              refine RL.s (Vl.fieldAddr (a'' := ⟨b1885, 1, none⟩) Tryd.underlying23 rfl Tryd.sizeOf3 rfl rfl) rfl ?_
              refine RL.s (Vl.load Tryd.isAgg3 rfl (hS.cell 0 rfl rfl)) rfl ?_
              obtain ⟨t1913, hg1914, h⟩ := h.bind
              refine RL.e (OW.callF (ls := [.tmp 68]) rfl Tryd.call31 (isochronref03vreg.ok a1814.A _ hg1914 hS)) rfl rfl ?_
              rintro _ w ⟨rfl, hS⟩
              have hS : St B w (Cl b1885 [.int .i64 a1814.Op, .int .i64 a1814.A, .int .i64 a1814.B, .int .i64 a1814.C] 23 :: l) hf := hS
              refine RL.s (Vl.move rfl) rfl ?_
              by_cases hc1915 : t1913 = true
              case pos =>
                have h := h.pos hc1915
                refine RL.re 70 rfl (congrArg Value.bool (id hc1915)) ?_
                refine RL.sg (Vl.fieldAddr (a'' := ⟨b1885, 2, none⟩) Tryd.underlying23 rfl Tryd.sizeOf3 rfl rfl) rfl rfl ?_
                refine RL.sg (Vl.load Tryd.isAgg3 rfl (hS.cell 0 rfl rfl)) rfl rfl ?_
                obtain ⟨t1916, hg1917, h⟩ := h.bind
                refine RL.e (OW.callF (ls := [.tmp 72]) rfl Tryd.call31 (isochronref03vreg.ok a1814.B _ hg1917 hS)) rfl rfl ?_
                rintro _ w ⟨rfl, hS⟩
                have hS : St B w (Cl b1885 [.int .i64 a1814.Op, .int .i64 a1814.A, .int .i64 a1814.B, .int .i64 a1814.C] 23 :: l) hf := hS
                refine RL.s (Vl.pickT rfl rfl) rfl ?_
                refine RL.s (Vl.move rfl) rfl ?_
                by_cases hc1918 : t1916 = true
                case pos =>
                  have h := h.pos hc1918
                  refine RL.re 75 rfl (congrArg Value.bool (id hc1918)) ?_
                  refine RL.sg (Vl.fieldAddr (a'' := ⟨b1885, 3, none⟩) Tryd.underlying23 rfl Tryd.sizeOf3 rfl rfl) rfl rfl ?_
                  refine RL.sg (Vl.load Tryd.isAgg3 rfl (hS.cell 0 rfl rfl)) rfl rfl ?_
                  obtain ⟨t1919, hg1920, h⟩ := h.bind
                  refine RL.e (OW.callF (ls := [.tmp 77]) rfl Tryd.call31 (isochronref03vreg.ok a1814.C _ hg1920 hS)) rfl rfl ?_
                  rintro _ w ⟨rfl, hS⟩
                  have hS : St B w (Cl b1885 [.int .i64 a1814.Op, .int .i64 a1814.A, .int .i64 a1814.B, .int .i64 a1814.C] 23 :: l) hf := hS
                  refine RL.s (Vl.pickT rfl rfl) rfl ?_
                  refine RL.s (Vl.assign rfl) rfl ?_
                  refine RL.nil ?_
                  refine RQ.then_n ?_
                  refine RC.ret ?_
                  refine RQ.inB_ret ?_
                  refine RQ.ret ?_
                  have e := h.some
                  subst e
                  refine RQ.ret0 (vs := [.bool t1919]) Tryd.results26 ⟨rfl, trivial⟩ ?_
                  exact ⟨rfl, (hS.dropAt 0 rfl)⟩
                case neg =>
                  have h := h.neg hc1918
                  refine RL.re 75 rfl (congrArg Value.bool (eq_false_of hc1918)) ?_
                  refine RL.nn rfl rfl ?_
                  refine RL.nn rfl rfl ?_
                  refine RL.nn rfl rfl ?_
                  refine RL.s (Vl.pickF rfl rfl) rfl ?_
                  refine RL.s (Vl.assign rfl) rfl ?_
                  refine RL.nil ?_
                  refine RQ.then_n ?_
                  refine RC.ret ?_
                  refine RQ.inB_ret ?_
                  refine RQ.ret ?_
                  have e := h.some
                  subst e
                  refine RQ.ret0 (vs := [.bool false]) Tryd.results26 ⟨rfl, trivial⟩ ?_
                  exact ⟨rfl, (hS.dropAt 0 rfl)⟩
              case neg =>
                have h := h.neg hc1915
                refine RL.re 70 rfl (congrArg Value.bool (eq_false_of hc1915)) ?_
                refine RL.nn rfl rfl ?_
                refine RL.nn rfl rfl ?_
                refine RL.nn rfl rfl ?_
                refine RL.s (Vl.pickF rfl rfl) rfl ?_
                refine RL.s (Vl.move rfl) rfl ?_
                refine RL.nn rfl rfl ?_
                refine RL.nn rfl rfl ?_
                refine RL.nn rfl rfl ?_
                refine RL.s (Vl.pickF rfl rfl) rfl ?_
                refine RL.s (Vl.assign rfl) rfl ?_
                refine RL.nil ?_
                refine RQ.then_n ?_
                refine RC.ret ?_
                refine RQ.inB_ret ?_
                refine RQ.ret ?_
                have e := h.some
                subst e
                refine RQ.ret0 (vs := [.bool false]) Tryd.results26 ⟨rfl, trivial⟩ ?_
                exact ⟨rfl, (hS.dropAt 0 rfl)⟩
            case neg =>
              have h := h.neg hc1912
              refine RC.re 58 rfl (congrArg Value.bool (eq_false_of hc1912)) ?_
              refine RC.condF rfl ?_
              refine RC.seq ?_
              refine RC.region ?_
              refine RL.s (Vl.int rfl rfl rfl) rfl ?_
              refine RL.s (Vl.assign rfl) rfl ?_
              refine RL.nil ?_
              refine RQ.then_n ?_
              by_cases hc1921 : a1814.Op = 10
              case pos =>
                have h := h.pos hc1921
                refine RC.re 80 rfl (congrArg Value.bool (decide_eq_true hc1921)) ?_
                refine RC.condT rfl ?_
                refine RC.seq ?_
                refine RC.region ?_
                refine RL.s (Vl.fieldAddr (a'' := ⟨b1885, 1, none⟩) Tryd.underlying23 rfl Tryd.sizeOf3 rfl rfl) rfl ?_
                refine RL.s (Vl.load Tryd.isAgg3 rfl (hS.cell 0 rfl rfl)) rfl ?_
                refine RL.s (Vl.int rfl rfl rfl) rfl ?_
                refine RL.s (Vl.move rfl) rfl ?_
                by_cases hc1922 : 0 ≤ a1814.A
                case pos =>
                  have h := h.pos hc1922
                  refine RL.re 85 rfl (congrArg Value.bool (decide_eq_true hc1922)) ?_
                  refine RL.sg (Vl.fieldAddr (a'' := ⟨b1885, 1, none⟩) Tryd.underlying23 rfl Tryd.sizeOf3 rfl rfl) rfl rfl ?_
                  refine RL.sg (Vl.load Tryd.isAgg3 rfl (hS.cell 0 rfl rfl)) rfl rfl ?_
                  refine RL.sg (Vl.move rfl) rfl rfl ?_
                  refine RL.sg (Vl.int rfl rfl rfl) rfl rfl ?_
                  refine RL.s (Vl.pickT rfl rfl) rfl ?_
                  refine RL.s (Vl.move rfl) rfl ?_
                  by_cases hc1923 : a1814.A ≤ a1815
                  case pos =>
                    have h := h.pos hc1923
                    refine RL.re 91 rfl (congrArg Value.bool (decide_eq_true hc1923)) ?_
                    refine RL.sg (Vl.fieldAddr (a'' := ⟨b1885, 2, none⟩) Tryd.underlying23 rfl Tryd.sizeOf3 rfl rfl) rfl rfl ?_
                    refine RL.sg (Vl.load Tryd.isAgg3 rfl (hS.cell 0 rfl rfl)) rfl rfl ?_
                    refine RL.sg (Vl.int rfl rfl rfl) rfl rfl ?_
                    refine RL.s (Vl.pickT rfl rfl) rfl ?_
                    refine RL.s (Vl.move rfl) rfl ?_
                    by_cases hc1924 : a1814.B = 0
                    case pos =>
                      have h := h.pos hc1924
                      refine RL.re 96 rfl (congrArg Value.bool (decide_eq_true hc1924)) ?_
                      refine RL.sg (Vl.fieldAddr (a'' := ⟨b1885, 3, none⟩) Tryd.underlying23 rfl Tryd.sizeOf3 rfl rfl) rfl rfl ?_
                      refine RL.sg (Vl.load Tryd.isAgg3 rfl (hS.cell 0 rfl rfl)) rfl rfl ?_
                      refine RL.sg (Vl.int rfl rfl rfl) rfl rfl ?_
                      refine RL.s (Vl.pickT rfl rfl) rfl ?_
                      refine RL.s (Vl.assign rfl) rfl ?_
                      refine RL.nil ?_
                      refine RQ.then_n ?_
                      refine RC.ret ?_
                      refine RQ.inB_ret ?_
                      refine RQ.ret ?_
                      have e := h.some
                      subst e
                      refine RQ.ret0 (vs := [.bool (decide (a1814.C = 0))]) Tryd.results26 ⟨rfl, trivial⟩ ?_
                      exact ⟨rfl, (hS.dropAt 0 rfl)⟩
                    case neg =>
                      have h := h.neg hc1924
                      refine RL.re 96 rfl (congrArg Value.bool (decide_eq_false hc1924)) ?_
                      refine RL.nn rfl rfl ?_
                      refine RL.nn rfl rfl ?_
                      refine RL.nn rfl rfl ?_
                      refine RL.s (Vl.pickF rfl rfl) rfl ?_
                      refine RL.s (Vl.assign rfl) rfl ?_
                      refine RL.nil ?_
                      refine RQ.then_n ?_
                      refine RC.ret ?_
                      refine RQ.inB_ret ?_
                      refine RQ.ret ?_
                      have e := h.some
                      subst e
                      refine RQ.ret0 (vs := [.bool false]) Tryd.results26 ⟨rfl, trivial⟩ ?_
                      exact ⟨rfl, (hS.dropAt 0 rfl)⟩
                  case neg =>
                    have h := h.neg hc1923
                    refine RL.re 91 rfl (congrArg Value.bool (decide_eq_false hc1923)) ?_
                    refine RL.nn rfl rfl ?_
                    refine RL.nn rfl rfl ?_
                    refine RL.nn rfl rfl ?_
                    refine RL.s (Vl.pickF rfl rfl) rfl ?_
                    refine RL.s (Vl.move rfl) rfl ?_
                    refine RL.nn rfl rfl ?_
                    refine RL.nn rfl rfl ?_
                    refine RL.nn rfl rfl ?_
                    refine RL.s (Vl.pickF rfl rfl) rfl ?_
                    refine RL.s (Vl.assign rfl) rfl ?_
                    refine RL.nil ?_
                    refine RQ.then_n ?_
                    refine RC.ret ?_
                    refine RQ.inB_ret ?_
                    refine RQ.ret ?_
                    have e := h.some
                    subst e
                    refine RQ.ret0 (vs := [.bool false]) Tryd.results26 ⟨rfl, trivial⟩ ?_
                    exact ⟨rfl, (hS.dropAt 0 rfl)⟩
                case neg =>
                  have h := h.neg hc1922
                  refine RL.re 85 rfl (congrArg Value.bool (decide_eq_false hc1922)) ?_
                  refine RL.nn rfl rfl ?_
                  refine RL.nn rfl rfl ?_
                  refine RL.nn rfl rfl ?_
                  refine RL.nn rfl rfl ?_
                  refine RL.s (Vl.pickF rfl rfl) rfl ?_
                  refine RL.s (Vl.move rfl) rfl ?_
                  refine RL.nn rfl rfl ?_
                  refine RL.nn rfl rfl ?_
                  refine RL.nn rfl rfl ?_
                  refine RL.s (Vl.pickF rfl rfl) rfl ?_
                  refine RL.s (Vl.move rfl) rfl ?_
                  refine RL.nn rfl rfl ?_
                  refine RL.nn rfl rfl ?_
                  refine RL.nn rfl rfl ?_
                  refine RL.s (Vl.pickF rfl rfl) rfl ?_
                  refine RL.s (Vl.assign rfl) rfl ?_
                  refine RL.nil ?_
                  refine RQ.then_n ?_
                  refine RC.ret ?_
                  refine RQ.inB_ret ?_
                  refine RQ.ret ?_
                  have e := h.some
                  subst e
                  refine RQ.ret0 (vs := [.bool false]) Tryd.results26 ⟨rfl, trivial⟩ ?_
                  exact ⟨rfl, (hS.dropAt 0 rfl)⟩
              case neg =>
                have h := h.neg hc1921
                refine RC.re 80 rfl (congrArg Value.bool (decide_eq_false hc1921)) ?_
                refine RC.condF rfl ?_
                refine RC.seq ?_
                refine RC.region ?_
                refine RL.s (Vl.int rfl rfl rfl) rfl ?_
                refine RL.s (Vl.assign rfl) rfl ?_
                refine RL.nil ?_
                refine RQ.then_n ?_
                by_cases hc1925 : a1814.Op = 11
                case pos =>
                  have h := h.pos hc1925
                  refine RC.re 101 rfl (congrArg Value.bool (decide_eq_true hc1925)) ?_
                  refine RC.condT rfl ?_
                  refine RC.seq ?_
                  refine RC.region ?_
                  refine RL.s (Vl.fieldAddr (a'' := ⟨b1885, 1, none⟩) Tryd.underlying23 rfl Tryd.sizeOf3 rfl rfl) rfl ?_
                  refine RL.s (Vl.load Tryd.isAgg3 rfl (hS.cell 0 rfl rfl)) rfl ?_
                  obtain ⟨t1926, hg1927, h⟩ := h.bind
                  refine RL.e (OW.callF (ls := [.tmp 104]) rfl Tryd.call31 (isochronref03vreg.ok a1814.A _ hg1927 hS)) rfl rfl ?_
                  rintro _ w ⟨rfl, hS⟩
                  have hS : St B w (Cl b1885 [.int .i64 a1814.Op, .int .i64 a1814.A, .int .i64 a1814.B, .int .i64 a1814.C] 23 :: l) hf := hS
                  refine RL.s (Vl.move rfl) rfl ?_
                  by_cases hc1928 : t1926 = true
                  case pos =>
                    have h := h.pos hc1928
                    refine RL.re 106 rfl (congrArg Value.bool (id hc1928)) ?_
                    refine RL.sg (Vl.fieldAddr (a'' := ⟨b1885, 2, none⟩) Tryd.underlying23 rfl Tryd.sizeOf3 rfl rfl) rfl rfl ?_
                    refine RL.sg (Vl.load Tryd.isAgg3 rfl (hS.cell 0 rfl rfl)) rfl rfl ?_
                    refine RL.sg (Vl.int rfl rfl rfl) rfl rfl ?_
                    refine RL.s (Vl.pickT rfl rfl) rfl ?_
                    refine RL.s (Vl.move rfl) rfl ?_
                    by_cases hc1929 : 0 ≤ a1814.B
                    case pos =>
                      have h := h.pos hc1929
                      refine RL.re 111 rfl (congrArg Value.bool (decide_eq_true hc1929)) ?_
                      refine RL.sg (Vl.fieldAddr (a'' := ⟨b1885, 2, none⟩) Tryd.underlying23 rfl Tryd.sizeOf3 rfl rfl) rfl rfl ?_
                      refine RL.sg (Vl.load Tryd.isAgg3 rfl (hS.cell 0 rfl rfl)) rfl rfl ?_
                      refine RL.sg (Vl.move rfl) rfl rfl ?_
                      refine RL.sg (Vl.int rfl rfl rfl) rfl rfl ?_
                      refine RL.s (Vl.pickT rfl rfl) rfl ?_
                      refine RL.s (Vl.move rfl) rfl ?_
                      by_cases hc1930 : a1814.B ≤ a1815
                      case pos =>
                        have h := h.pos hc1930
                        refine RL.re 117 rfl (congrArg Value.bool (decide_eq_true hc1930)) ?_
                        refine RL.sg (Vl.fieldAddr (a'' := ⟨b1885, 3, none⟩) Tryd.underlying23 rfl Tryd.sizeOf3 rfl rfl) rfl rfl ?_
                        refine RL.sg (Vl.load Tryd.isAgg3 rfl (hS.cell 0 rfl rfl)) rfl rfl ?_
                        refine RL.sg (Vl.int rfl rfl rfl) rfl rfl ?_
                        refine RL.s (Vl.pickT rfl rfl) rfl ?_
                        refine RL.s (Vl.assign rfl) rfl ?_
                        refine RL.nil ?_
                        refine RQ.then_n ?_
                        refine RC.ret ?_
                        refine RQ.inB_ret ?_
                        refine RQ.ret ?_
                        have e := h.some
                        subst e
                        refine RQ.ret0 (vs := [.bool (decide (a1814.C = 0))]) Tryd.results26 ⟨rfl, trivial⟩ ?_
                        exact ⟨rfl, (hS.dropAt 0 rfl)⟩
                      case neg =>
                        have h := h.neg hc1930
                        refine RL.re 117 rfl (congrArg Value.bool (decide_eq_false hc1930)) ?_
                        refine RL.nn rfl rfl ?_
                        refine RL.nn rfl rfl ?_
                        refine RL.nn rfl rfl ?_
                        refine RL.s (Vl.pickF rfl rfl) rfl ?_
                        refine RL.s (Vl.assign rfl) rfl ?_
                        refine RL.nil ?_
                        refine RQ.then_n ?_
                        refine RC.ret ?_
                        refine RQ.inB_ret ?_
                        refine RQ.ret ?_
                        have e := h.some
                        subst e
                        refine RQ.ret0 (vs := [.bool false]) Tryd.results26 ⟨rfl, trivial⟩ ?_
                        exact ⟨rfl, (hS.dropAt 0 rfl)⟩
                    case neg =>
                      have h := h.neg hc1929
                      refine RL.re 111 rfl (congrArg Value.bool (decide_eq_false hc1929)) ?_
                      refine RL.nn rfl rfl ?_
                      refine RL.nn rfl rfl ?_
                      refine RL.nn rfl rfl ?_
                      refine RL.nn rfl rfl ?_
                      refine RL.s (Vl.pickF rfl rfl) rfl ?_
                      refine RL.s (Vl.move rfl) rfl ?_
                      refine RL.nn rfl rfl ?_
                      refine RL.nn rfl rfl ?_
                      refine RL.nn rfl rfl ?_
                      refine RL.s (Vl.pickF rfl rfl) rfl ?_
                      refine RL.s (Vl.assign rfl) rfl ?_
                      refine RL.nil ?_
                      refine RQ.then_n ?_
                      refine RC.ret ?_
                      refine RQ.inB_ret ?_
                      refine RQ.ret ?_
                      have e := h.some
                      subst e
                      refine RQ.ret0 (vs := [.bool false]) Tryd.results26 ⟨rfl, trivial⟩ ?_
                      exact ⟨rfl, (hS.dropAt 0 rfl)⟩
                  case neg =>
                    have h := h.neg hc1928
                    refine RL.re 106 rfl (congrArg Value.bool (eq_false_of hc1928)) ?_
                    refine RL.nn rfl rfl ?_
                    refine RL.nn rfl rfl ?_
                    refine RL.nn rfl rfl ?_
                    refine RL.s (Vl.pickF rfl rfl) rfl ?_
                    refine RL.s (Vl.move rfl) rfl ?_
                    refine RL.nn rfl rfl ?_
                    refine RL.nn rfl rfl ?_
                    refine RL.nn rfl rfl ?_
                    refine RL.nn rfl rfl ?_
                    refine RL.s (Vl.pickF rfl rfl) rfl ?_
                    refine RL.s (Vl.move rfl) rfl ?_
                    refine RL.nn rfl rfl ?_
                    refine RL.nn rfl rfl ?_
                    refine RL.nn rfl rfl ?_
                    refine RL.s (Vl.pickF rfl rfl) rfl ?_
                    refine RL.s (Vl.assign rfl) rfl ?_
                    refine RL.nil ?_
                    refine RQ.then_n ?_
                    refine RC.ret ?_
                    refine RQ.inB_ret ?_
                    refine RQ.ret ?_
                    have e := h.some
                    subst e
                    refine RQ.ret0 (vs := [.bool false]) Tryd.results26 ⟨rfl, trivial⟩ ?_
                    exact ⟨rfl, (hS.dropAt 0 rfl)⟩
                case neg =>
                  have h := h.neg hc1925
                  refine RC.re 101 rfl (congrArg Value.bool (decide_eq_false hc1925)) ?_
                  refine RC.condF rfl ?_
                  refine RC.join (fun (s : Bool) a w => ∃ (q1933 : Bool), s = (q1933) ∧ Has 139 [(2, .pointer (some ⟨b1885, 0, none⟩)), (122, .bool q1933)] a ∧ St B w (Cl b1885 [.int .i64 a1814.Op, .int .i64 a1814.A, .int .i64 a1814.B, .int .i64 a1814.C] 23 :: l) hf ∧ Holds (· = r) (isochronref03vmay.j6 a1814 q1933)) ?_ ?_
                  · rintro q1933 a w ⟨_, rfl, ha, hS, h⟩
                    revert a
                    show RC _ _ _ _ _ _
                    by_cases hc1934 : q1933 = true
                    case pos =>
                      have h := h.pos hc1934
                      refine RC.re 122 rfl (congrArg Value.bool (id hc1934)) ?_
                      refine RC.condT rfl ?_
                      refine RC.seq ?_
                      refine RC.region ?_
                      refine RL.s (Vl.fieldAddr (a'' := ⟨b1885, 1, none⟩) Tryd.underlying23 rfl Tryd.sizeOf3 rfl rfl) rfl ?_
                      refine RL.s (Vl.load Tryd.isAgg3 rfl (hS.cell 0 rfl rfl)) rfl ?_
                      obtain ⟨t1935, hg1936, h⟩ := h.bind
                      refine RL.e (OW.callF (ls := [.tmp 127]) rfl Tryd.call31 (isochronref03vreg.ok a1814.A _ hg1936 hS)) rfl rfl ?_
                      rintro _ w ⟨rfl, hS⟩
                      have hS : St B w (Cl b1885 [.int .i64 a1814.Op, .int .i64 a1814.A, .int .i64 a1814.B, .int .i64 a1814.C] 23 :: l) hf := hS
                      refine RL.s (Vl.move rfl) rfl ?_
                      by_cases hc1937 : t1935 = true
                      case pos =>
                        have h := h.pos hc1937
                        refine RL.re 129 rfl (congrArg Value.bool (id hc1937)) ?_
                        refine RL.sg (Vl.fieldAddr (a'' := ⟨b1885, 2, none⟩) Tryd.underlying23 rfl Tryd.sizeOf3 rfl rfl) rfl rfl ?_
                        refine RL.sg (Vl.load Tryd.isAgg3 rfl (hS.cell 0 rfl rfl)) rfl rfl ?_
                        refine RL.sg (Vl.int rfl rfl rfl) rfl rfl ?_
                        refine RL.s (Vl.pickT rfl rfl) rfl ?_
                        refine RL.s (Vl.move rfl) rfl ?_
                        by_cases hc1938 : a1814.B = 0
                        case pos =>
                          have h := h.pos hc1938
                          refine RL.re 134 rfl (congrArg Value.bool (decide_eq_true hc1938)) ?_
                          refine RL.sg (Vl.fieldAddr (a'' := ⟨b1885, 3, none⟩) Tryd.underlying23 rfl Tryd.sizeOf3 rfl rfl) rfl rfl ?_
                          refine RL.sg (Vl.load Tryd.isAgg3 rfl (hS.cell 0 rfl rfl)) rfl rfl ?_
                          refine RL.sg (Vl.int rfl rfl rfl) rfl rfl ?_
                          refine RL.s (Vl.pickT rfl rfl) rfl ?_
                          refine RL.s (Vl.assign rfl) rfl ?_
                          refine RL.nil ?_
                          refine RQ.then_n ?_
                          refine RC.ret ?_
                          refine RQ.inB_ret ?_
                          refine RQ.ret ?_
                          have e := h.some
                          subst e
                          refine RQ.ret0 (vs := [.bool (decide (a1814.C = 0))]) Tryd.results26 ⟨rfl, trivial⟩ ?_
                          exact ⟨rfl, (hS.dropAt 0 rfl)⟩
                        case neg =>
                          have h := h.neg hc1938
                          refine RL.re 134 rfl (congrArg Value.bool (decide_eq_false hc1938)) ?_
                          refine RL.nn rfl rfl ?_
                          refine RL.nn rfl rfl ?_
                          refine RL.nn rfl rfl ?_
                          refine RL.s (Vl.pickF rfl rfl) rfl ?_
                          refine RL.s (Vl.assign rfl) rfl ?_
                          refine RL.nil ?_
                          refine RQ.then_n ?_
                          refine RC.ret ?_
                          refine RQ.inB_ret ?_
                          refine RQ.ret ?_
                          have e := h.some
                          subst e
                          refine RQ.ret0 (vs := [.bool false]) Tryd.results26 ⟨rfl, trivial⟩ ?_
                          exact ⟨rfl, (hS.dropAt 0 rfl)⟩
                      case neg =>
                        have h := h.neg hc1937
                        refine RL.re 129 rfl (congrArg Value.bool (eq_false_of hc1937)) ?_
                        refine RL.nn rfl rfl ?_
                        refine RL.nn rfl rfl ?_
                        refine RL.nn rfl rfl ?_
                        refine RL.s (Vl.pickF rfl rfl) rfl ?_
                        refine RL.s (Vl.move rfl) rfl ?_
                        refine RL.nn rfl rfl ?_
                        refine RL.nn rfl rfl ?_
                        refine RL.nn rfl rfl ?_
                        refine RL.s (Vl.pickF rfl rfl) rfl ?_
                        refine RL.s (Vl.assign rfl) rfl ?_
                        refine RL.nil ?_
                        refine RQ.then_n ?_
                        refine RC.ret ?_
                        refine RQ.inB_ret ?_
                        refine RQ.ret ?_
                        have e := h.some
                        subst e
                        refine RQ.ret0 (vs := [.bool false]) Tryd.results26 ⟨rfl, trivial⟩ ?_
                        exact ⟨rfl, (hS.dropAt 0 rfl)⟩
                    case neg =>
                      have h := h.neg hc1934
                      refine RC.re 122 rfl (congrArg Value.bool (eq_false_of hc1934)) ?_
                      refine RC.condF rfl ?_
                      refine RC.skip ?_
                      refine RQ.inB_n ?_
                      refine RQ.then_n ?_
                      refine RC.seq ?_
                      refine RC.region ?_
                      refine RL.s (Vl.assign rfl) rfl ?_
                      refine RL.nil ?_
                      refine RQ.then_n ?_
                      refine RC.ret ?_
                      have e := h.some
                      subst e
                      refine RQ.ret0 (vs := [.bool false]) Tryd.results26 ⟨rfl, trivial⟩ ?_
                      exact ⟨rfl, (hS.dropAt 0 rfl)⟩
                  · refine RC.seq ?_
                    refine RC.region ?_
                    refine RL.s (Vl.int rfl rfl rfl) rfl ?_
                    refine RL.s (Vl.assign rfl) rfl ?_
                    refine RL.nil ?_
                    refine RQ.then_n ?_
                    by_cases hc1939 : a1814.Op = 14
                    case pos =>
                      have h := h.pos hc1939
                      refine RC.re 122 rfl (congrArg Value.bool (decide_eq_true hc1939)) ?_
                      refine RC.condT rfl ?_
                      refine RC.skip ?_
                      exact fun a ha => ⟨(true), true, rfl, ha.to ⟨rfl, rfl, trivial⟩, hS, h⟩
                    case neg =>
                      have h := h.neg hc1939
                      refine RC.re 122 rfl (congrArg Value.bool (decide_eq_false hc1939)) ?_
                      refine RC.condF rfl ?_
                      refine RC.seq ?_
                      refine RC.region ?_
                      refine RL.s (Vl.int rfl rfl rfl) rfl ?_
                      refine RL.s (Vl.assign rfl) rfl ?_
                      refine RL.nil ?_
                      refine RQ.then_n ?_
                      by_cases hc1940 : a1814.Op = 15
                      case pos =>
                        have h := h.pos hc1940
                        refine RC.re 122 rfl (congrArg Value.bool (decide_eq_true hc1940)) ?_
                        refine RC.condT rfl ?_
                        refine RC.skip ?_
                        exact fun a ha => ⟨(true), true, rfl, ha.to ⟨rfl, rfl, trivial⟩, hS, h⟩
                      case neg =>
                        have h := h.neg hc1940
                        refine RC.re 122 rfl (congrArg Value.bool (decide_eq_false hc1940)) ?_
                        refine RC.condF rfl ?_
                        refine RC.region ?_
                        refine RL.s (Vl.int rfl rfl rfl) rfl ?_
                        refine RL.s (Vl.assign rfl) rfl ?_
                        refine RL.nil ?_
                        exact fun a ha => ⟨((decide (a1814.Op = 16))), (decide (a1814.Op = 16)), rfl, ha.to ⟨rfl, rfl, trivial⟩, hS, h⟩
          · refine RC.seq ?_
            refine RC.region ?_
            refine RL.s (Vl.int rfl rfl rfl) rfl ?_
            refine RL.s (Vl.assign rfl) rfl ?_
            refine RL.nil ?_
            refine RQ.then_n ?_
            by_cases hc1941 : a1814.Op = 3
            case pos =>
              have h := h.pos hc1941
              refine RC.re 58 rfl (congrArg Value.bool (decide_eq_true hc1941)) ?_
              refine RC.condT rfl ?_
              refine RC.skip ?_
              exact fun a ha => ⟨(true), true, rfl, ha.to ⟨rfl, rfl, rfl, rfl, trivial⟩, hS, h⟩
            case neg =>
              have h := h.neg hc1941
              refine RC.re 58 rfl (congrArg Value.bool (decide_eq_false hc1941)) ?_
              refine RC.condF rfl ?_
              refine RC.seq ?_
              refine RC.region ?_
              refine RL.s (Vl.int rfl rfl rfl) rfl ?_
              refine RL.s (Vl.assign rfl) rfl ?_
              refine RL.nil ?_
              refine RQ.then_n ?_
              by_cases hc1942 : a1814.Op = 4
              case pos =>
                have h := h.pos hc1942
                refine RC.re 58 rfl (congrArg Value.bool (decide_eq_true hc1942)) ?_
                refine RC.condT rfl ?_
                refine RC.skip ?_
                exact fun a ha => ⟨(true), true, rfl, ha.to ⟨rfl, rfl, rfl, rfl, trivial⟩, hS, h⟩
              case neg =>
                have h := h.neg hc1942
                refine RC.re 58 rfl (congrArg Value.bool (decide_eq_false hc1942)) ?_
                refine RC.condF rfl ?_
                refine RC.seq ?_
                refine RC.region ?_
                refine RL.s (Vl.int rfl rfl rfl) rfl ?_
                refine RL.s (Vl.assign rfl) rfl ?_
                refine RL.nil ?_
                refine RQ.then_n ?_
                by_cases hc1943 : a1814.Op = 5
                case pos =>
                  have h := h.pos hc1943
                  refine RC.re 58 rfl (congrArg Value.bool (decide_eq_true hc1943)) ?_
                  refine RC.condT rfl ?_
                  refine RC.skip ?_
                  exact fun a ha => ⟨(true), true, rfl, ha.to ⟨rfl, rfl, rfl, rfl, trivial⟩, hS, h⟩
                case neg =>
                  have h := h.neg hc1943
                  refine RC.re 58 rfl (congrArg Value.bool (decide_eq_false hc1943)) ?_
                  refine RC.condF rfl ?_
                  refine RC.seq ?_
                  refine RC.region ?_
                  refine RL.s (Vl.int rfl rfl rfl) rfl ?_
                  refine RL.s (Vl.assign rfl) rfl ?_
                  refine RL.nil ?_
                  refine RQ.then_n ?_
                  by_cases hc1944 : a1814.Op = 6
                  case pos =>
                    have h := h.pos hc1944
                    refine RC.re 58 rfl (congrArg Value.bool (decide_eq_true hc1944)) ?_
                    refine RC.condT rfl ?_
                    refine RC.skip ?_
                    exact fun a ha => ⟨(true), true, rfl, ha.to ⟨rfl, rfl, rfl, rfl, trivial⟩, hS, h⟩
                  case neg =>
                    have h := h.neg hc1944
                    refine RC.re 58 rfl (congrArg Value.bool (decide_eq_false hc1944)) ?_
                    refine RC.condF rfl ?_
                    refine RC.seq ?_
                    refine RC.region ?_
                    refine RL.s (Vl.int rfl rfl rfl) rfl ?_
                    refine RL.s (Vl.assign rfl) rfl ?_
                    refine RL.nil ?_
                    refine RQ.then_n ?_
                    by_cases hc1945 : a1814.Op = 7
                    case pos =>
                      have h := h.pos hc1945
                      refine RC.re 58 rfl (congrArg Value.bool (decide_eq_true hc1945)) ?_
                      refine RC.condT rfl ?_
                      refine RC.skip ?_
                      exact fun a ha => ⟨(true), true, rfl, ha.to ⟨rfl, rfl, rfl, rfl, trivial⟩, hS, h⟩
                    case neg =>
                      have h := h.neg hc1945
                      refine RC.re 58 rfl (congrArg Value.bool (decide_eq_false hc1945)) ?_
                      refine RC.condF rfl ?_
                      refine RC.seq ?_
                      refine RC.region ?_
                      refine RL.s (Vl.int rfl rfl rfl) rfl ?_
                      refine RL.s (Vl.assign rfl) rfl ?_
                      refine RL.nil ?_
                      refine RQ.then_n ?_
                      by_cases hc1946 : a1814.Op = 8
                      case pos =>
                        have h := h.pos hc1946
                        refine RC.re 58 rfl (congrArg Value.bool (decide_eq_true hc1946)) ?_
                        refine RC.condT rfl ?_
                        refine RC.skip ?_
                        exact fun a ha => ⟨(true), true, rfl, ha.to ⟨rfl, rfl, rfl, rfl, trivial⟩, hS, h⟩
                      case neg =>
                        have h := h.neg hc1946
                        refine RC.re 58 rfl (congrArg Value.bool (decide_eq_false hc1946)) ?_
                        refine RC.condF rfl ?_
                        refine RC.seq ?_
                        refine RC.region ?_
                        refine RL.s (Vl.int rfl rfl rfl) rfl ?_
                        refine RL.s (Vl.assign rfl) rfl ?_
                        refine RL.nil ?_
                        refine RQ.then_n ?_
                        by_cases hc1947 : a1814.Op = 9
                        case pos =>
                          have h := h.pos hc1947
                          refine RC.re 58 rfl (congrArg Value.bool (decide_eq_true hc1947)) ?_
                          refine RC.condT rfl ?_
                          refine RC.skip ?_
                          exact fun a ha => ⟨(true), true, rfl, ha.to ⟨rfl, rfl, rfl, rfl, trivial⟩, hS, h⟩
                        case neg =>
                          have h := h.neg hc1947
                          refine RC.re 58 rfl (congrArg Value.bool (decide_eq_false hc1947)) ?_
                          refine RC.condF rfl ?_
                          refine RC.region ?_
                          refine RL.s (Vl.int rfl rfl rfl) rfl ?_
                          refine RL.s (Vl.assign rfl) rfl ?_
                          refine RL.nil ?_
                          exact fun a ha => ⟨((decide (a1814.Op = 12))), (decide (a1814.Op = 12)), rfl, ha.to ⟨rfl, rfl, rfl, rfl, trivial⟩, hS, h⟩
      · refine RC.seq ?_
        refine RC.region ?_
        refine RL.s (Vl.int rfl rfl rfl) rfl ?_
        refine RL.s (Vl.assign rfl) rfl ?_
        refine RL.nil ?_
        refine RQ.then_n ?_
        by_cases hc1948 : a1814.Op = 2
        case pos =>
          have h := h.pos hc1948
          refine RC.re 42 rfl (congrArg Value.bool (decide_eq_true hc1948)) ?_
          refine RC.condT rfl ?_
          refine RC.skip ?_
          exact fun a ha => ⟨(true), true, rfl, ha.to ⟨rfl, rfl, rfl, rfl, trivial⟩, hS, h⟩
        case neg =>
          have h := h.neg hc1948
          refine RC.re 42 rfl (congrArg Value.bool (decide_eq_false hc1948)) ?_
          refine RC.condF rfl ?_
          refine RC.region ?_
          refine RL.s (Vl.int rfl rfl rfl) rfl ?_
          refine RL.s (Vl.assign rfl) rfl ?_
          refine RL.nil ?_
          exact fun a ha => ⟨((decide (a1814.Op = 13))), (decide (a1814.Op = 13)), rfl, ha.to ⟨rfl, rfl, rfl, rfl, trivial⟩, hS, h⟩

/-! ### isochron/isochronref03.Decode: function 15 -/
noncomputable def isochronref03vDecode.j28 (a1779 : List Int) (l2943 : List api_Instr) (x2947 : Int) (x3115 : Int) (x3116 : Int) (q3117 : Bool) : Option ((List api_Instr × Int) ⊕ (List api_Instr × Int × Int)) := (if q3117 = true then some (.inr (([] : List api_Instr), x2947, 4)) else (if 0 ≤ IntKind.i64.wrap (x2947 + 7) ∧ IntKind.i64.wrap (x2947 + 7) < (a1779.length : Int) then (if nth a1779 (IntKind.i64.wrap (x2947 + 7)) = 0 then (if 0 ≤ IntKind.i64.wrap (x2947 + 8) ∧ IntKind.i64.wrap (x2947 + 8) < (a1779.length : Int) then (if nth a1779 (IntKind.i64.wrap (x2947 + 8)) = 0 then ((isochronref03vmay.f (⟨IntKind.i64.wrap (nth a1779 x2947), x3115, x3116, IntKind.i64.wrap (nth a1779 (IntKind.i64.wrap (x2947 + 6)))⟩ : api_Instr) (IntKind.i64.wrap (Int.tdiv (a1779.length : Int) 9))).bind fun t3136 => (if t3136 = true then (if (l2943.length + 1) * 32 ≤ 140737488355328 then some (.inl ((l2943 ++ ([(⟨IntKind.i64.wrap (nth a1779 x2947), x3115, x3116, IntKind.i64.wrap (nth a1779 (IntKind.i64.wrap (x2947 + 6)))⟩ : api_Instr)])), IntKind.i64.wrap (x2947 + 9))) else none) else some (.inr (([] : List api_Instr), x2947, 4)))) else some (.inr (([] : List api_Instr), x2947, 4))) else none) else some (.inr (([] : List api_Instr), x2947, 4))) else none))
noncomputable def isochronref03vDecode.l26b (a1779 : List Int) : List api_Instr × Int → Option ((List api_Instr × Int) ⊕ (List api_Instr × Int × Int))
  | (l2943, x2947) => (if x2947 < (a1779.length : Int) then (if 0 ≤ IntKind.i64.wrap (x2947 + 2) ∧ IntKind.i64.wrap (x2947 + 2) < (a1779.length : Int) then (if 0 ≤ IntKind.i64.wrap (x2947 + 3) ∧ IntKind.i64.wrap (x2947 + 3) < (a1779.length : Int) then (if 0 ≤ IntKind.i64.wrap (x2947 + 4) ∧ IntKind.i64.wrap (x2947 + 4) < (a1779.length : Int) then (if 0 ≤ IntKind.i64.wrap (x2947 + 5) ∧ IntKind.i64.wrap (x2947 + 5) < (a1779.length : Int) then (if 0 ≤ x2947 then (if 0 ≤ IntKind.i64.wrap (x2947 + 1) ∧ IntKind.i64.wrap (x2947 + 1) < (a1779.length : Int) then (if 0 ≤ IntKind.i64.wrap (x2947 + 6) ∧ IntKind.i64.wrap (x2947 + 6) < (a1779.length : Int) then (if IntKind.i64.wrap (nth a1779 x2947) = 10 then isochronref03vDecode.j28 a1779 l2943 x2947 (IntKind.i64.wrap (IntKind.i32.wrap (IntKind.u32.wrap (BitVec.ofInt IntKind.u32.bits (IntKind.u32.wrap (BitVec.ofInt IntKind.u32.bits (IntKind.u32.wrap (BitVec.ofInt IntKind.u32.bits (IntKind.u32.wrap ((IntKind.u32.wrap (nth a1779 (IntKind.i64.wrap (x2947 + 2)))) * 2 ^ (min (24 : Int).toNat IntKind.u32.bits))) ||| BitVec.ofInt IntKind.u32.bits (IntKind.u32.wrap ((IntKind.u32.wrap (nth a1779 (IntKind.i64.wrap (x2947 + 3)))) * 2 ^ (min (16 : Int).toNat IntKind.u32.bits)))).toNat) ||| BitVec.ofInt IntKind.u32.bits (IntKind.u32.wrap ((IntKind.u32.wrap (nth a1779 (IntKind.i64.wrap (x2947 + 4)))) * 2 ^ (min (8 : Int).toNat IntKind.u32.bits)))).toNat) ||| BitVec.ofInt IntKind.u32.bits (IntKind.u32.wrap (nth a1779 (IntKind.i64.wrap (x2947 + 5))))).toNat))) 0 (!decide (IntKind.i64.wrap (nth a1779 (IntKind.i64.wrap (x2947 + 1))) = 0)) else isochronref03vDecode.j28 a1779 l2943 x2947 (IntKind.i64.wrap (nth a1779 (IntKind.i64.wrap (x2947 + 1)))) (IntKind.i64.wrap (IntKind.i32.wrap (IntKind.u32.wrap (BitVec.ofInt IntKind.u32.bits (IntKind.u32.wrap (BitVec.ofInt IntKind.u32.bits (IntKind.u32.wrap (BitVec.ofInt IntKind.u32.bits (IntKind.u32.wrap ((IntKind.u32.wrap (nth a1779 (IntKind.i64.wrap (x2947 + 2)))) * 2 ^ (min (24 : Int).toNat IntKind.u32.bits))) ||| BitVec.ofInt IntKind.u32.bits (IntKind.u32.wrap ((IntKind.u32.wrap (nth a1779 (IntKind.i64.wrap (x2947 + 3)))) * 2 ^ (min (16 : Int).toNat IntKind.u32.bits)))).toNat) ||| BitVec.ofInt IntKind.u32.bits (IntKind.u32.wrap ((IntKind.u32.wrap (nth a1779 (IntKind.i64.wrap (x2947 + 4)))) * 2 ^ (min (8 : Int).toNat IntKind.u32.bits)))).toNat) ||| BitVec.ofInt IntKind.u32.bits (IntKind.u32.wrap (nth a1779 (IntKind.i64.wrap (x2947 + 5))))).toNat))) false) else none) else none) else none) else none) else none) else none) else none) else some (.inr (l2943, (a1779.length : Int), 0)))
noncomputable def isochronref03vDecode.l26 (a1779 : List Int) (s : List api_Instr × Int) : Option (List api_Instr × Int × Int) := loopR (isochronref03vDecode.l26b a1779) s
noncomputable def isochronref03vDecode.f (a1779 : List Int) : Option (List api_Instr × Int × Int) := (if 2304 < (a1779.length : Int) then some (([] : List api_Instr), 0, 2) else (if Int.tmod (a1779.length : Int) 9 = 0 then isochronref03vDecode.l26 a1779 ([], 0) else some (([] : List api_Instr), IntKind.i64.wrap ((IntKind.i64.wrap (Int.tdiv (a1779.length : Int) 9)) * 9), 3)))
set_option maxRecDepth 100000 in
set_option maxHeartbeats 4000000 in
theorem isochronref03vDecode.ok {B : Base} {w : World} {l : List HProp} {hf : Hp} (a1779 : List Int) (A1780 : Option Addr) (c1781 : Nat) (hr1782 : SlR ((FI .u8).rep) hf A1780 c1781 a1779) (r : List api_Instr × Int × Int) (h : isochronref03vDecode.f a1779 = some r) (hS : St B w (l) hf) :
    Calls Tryd.prog 15 #[.slice A1780 a1779.length c1781] w (Ret fun v w => ∃ (A_1 : Option Addr) (c_2 : Nat), v = .tuple #[.slice A_1 r.1.length c_2, .int .i64 r.2.1, .int .i64 r.2.2] ∧ St B w (OSf E_api_Instr 23 (.slice A_1 r.1.length c_2) r.1 :: l) hf) := by
  have h := Holds.of h
  refine enter (args := [.slice A1780 a1779.length c1781]) Tryd.func15 rfl Tryd.ntmps15 (Nat.le_of_ble_eq_true rfl) ?_
  refine RC.seq ?_
  refine RC.region ?_
  refine RL.s (Vl.assign rfl) rfl ?_
  refine RL.s (Vl.assign rfl) rfl ?_
  refine RL.s (Vl.assign rfl) rfl ?_
  refine RL.nil ?_
  refine RQ.then_n ?_
  refine RC.seq ?_
  refine RC.seq ?_
  refine RC.region ?_
  refine RL.s (Vl.move rfl) rfl ?_
  refine RL.s (Vl.lenSl Tryd.underlying28 rfl) rfl ?_
  refine RL.s (Vl.int rfl rfl rfl) rfl ?_
  refine RL.nil ?_
  refine RQ.then_n ?_
  by_cases hc2533 : 2304 < (a1779.length : Int)
  case pos =>
    have h := h.pos hc2533
    refine RC.re 12 rfl (congrArg Value.bool (decide_eq_true hc2533)) ?_
    refine RC.condT rfl ?_
    refine RC.seq ?_
    refine RC.region ?_
    refine RL.s (Vl.assign rfl) rfl ?_
    refine RL.s (Vl.assign rfl) rfl ?_
    refine RL.s (Vl.assign rfl) rfl ?_
    refine RL.nil ?_
    refine RQ.then_n ?_
    refine RC.ret ?_
    refine RQ.ret ?_
    have hS := hS.nilSl E_api_Instr 23
    have e := h.some
    subst e
    refine RQ.ret0 (vs := [.slice none 0 0, .int .i64 0, .int .i64 2]) Tryd.results15 ⟨rfl, rfl, rfl, trivial⟩ ?_
    exact ⟨none, 0, rfl, hS⟩
  case neg =>
    have h := h.neg hc2533
    refine RC.re 12 rfl (congrArg Value.bool (decide_eq_false hc2533)) ?_
    refine RC.condF rfl ?_
    refine RC.skip ?_
    refine RQ.then_n ?_
    refine RC.seq ?_
    refine RC.seq ?_
    refine RC.region ?_
    refine RL.s (Vl.move rfl) rfl ?_
    refine RL.s (Vl.lenSl Tryd.underlying28 rfl) rfl ?_
    refine RL.s (Vl.rem rfl rfl (by decide)) rfl ?_
    refine RL.s (Vl.int rfl rfl rfl) rfl ?_
    refine RL.nil ?_
    refine RQ.then_n ?_
    by_cases hc2536 : Int.tmod (a1779.length : Int) 9 = 0
    case pos =>
      have h := h.pos hc2536
      refine RC.re 16 rfl (congrArg Value.bool (notdec_pos hc2536)) ?_
      refine RC.condF rfl ?_
      refine RC.skip ?_
      refine RQ.then_n ?_
      refine RC.seq ?_
      refine RC.region ?_
      refine RL.s (Vl.assign rfl) rfl ?_
      refine RL.nil ?_
      refine RQ.then_n ?_
      refine RC.seq ?_
      refine RC.seq ?_
      refine RC.region ?_
      refine RL.s (Vl.assign rfl) rfl ?_
      refine RL.nil ?_
      refine RQ.then_n ?_
      refine RC.block ?_
      have hS := hS.nilSl E_api_Instr 23
      refine fun a ha => RC.loop (N := 121) (body := (isochronref03vDecode.l26b a1779)) (φ := (· = r)) (fun (s : List api_Instr × Int) a w => ∃ (l2943 : List api_Instr) (x2947 : Int), s = (l2943, x2947) ∧ ∃ (A2944 : Option Addr) (c2945 : Nat), Has 121 [(0, .slice A1780 a1779.length c1781), (5, .slice A2944 l2943.length c2945), (6, .int .i64 x2947)] a ∧ St B w (OSf E_api_Instr 23 (.slice A2944 l2943.length c2945) l2943 :: l) hf) ?_ (s0 := ([], 0)) h ⟨([]), 0, rfl, none, 0, ha.to ⟨rfl, rfl, rfl, trivial⟩, hS⟩
      rintro G3049 _ a w ⟨l2943, x2947, rfl, A2944, c2945, ha, hS⟩ h
      revert a
      show RC _ _ _ _ _ _
      refine RC.seq ?_
      refine RC.seq ?_
      refine RC.region ?_
      refine RL.s (Vl.move rfl) rfl ?_
      refine RL.s (Vl.move rfl) rfl ?_
      refine RL.s (Vl.lenSl Tryd.underlying28 rfl) rfl ?_
      refine RL.s (Vl.int rfl rfl rfl) rfl ?_
      refine RL.nil ?_
      refine RQ.then_n ?_
      by_cases hc3051 : x2947 < (a1779.length : Int)
      case pos =>
        have h := h.pos hc3051
        refine RC.re 24 rfl (congrArg Value.bool (decide_eq_true hc3051)) ?_
        refine RC.condT rfl ?_
        refine RC.skip ?_
        refine RQ.then_n ?_
        refine RC.seq ?_
        refine RC.block ?_
        refine RC.seq ?_
        refine RC.plan [(0, true), (1, true), (2, true), (3, true), (4, true), (5, true), (6, true), (7, true), (8, true), (9, true), (10, true), (11, true), (12, true), (13, true), (14, true), (15, true), (16, true), (17, true), (18, true), (19, true), (20, true), (21, true), (22, true), (23, true), (24, false), (25, false), (26, false), (27, false), (28, false), (29, false), (30, false)] [30] (fun w => St B w (OSf E_api_Instr 23 (.slice A2944 l2943.length c2945) l2943 :: l) hf) follows rfl (by kernel_rfl) (NoTmp.then (NoTmp.block (NoTmp.then (NoTmp.then (NoTmp.block (NoTmp.then NoTmp.body)))))) ?_
        have hS := hS.same (w' := { w with drawn := w.drawn + 1 }) rfl rfl
        revert hS
        generalize { w with drawn := w.drawn + 1 } = w
        intro hS
        refine RP.s 0 rfl rfl hS (fun w hS => Vl.move rfl) rfl ?_
        refine RP.s 1 rfl rfl hS (fun w hS => Vl.move rfl) rfl ?_
        refine RP.s 2 rfl rfl hS (fun w hS => Vl.int rfl rfl rfl) rfl ?_
        obtain ⟨⟨hq3099, hq3100⟩, h⟩ := h.req
        refine RP.s 3 rfl rfl hS (fun w hS => Vl.indexAddr Tryd.underlying28 Tryd.sizeOf5 rfl rfl ((hr1782.2.world hS.sub).adr hq3099 hq3100) hq3099 hq3100 rfl) rfl ?_
        refine RP.s 4 rfl rfl hS (fun w hS => Vl.load Tryd.isAgg5 rfl ((hr1782.2.world hS.sub).cell (j := 0) hq3099 hq3100 rfl)) rfl ?_
        refine RP.s 5 rfl rfl hS (fun w hS => Vl.conv Tryd.underlying5 Tryd.underlying50 rfl) rfl ?_
        refine RP.s 6 rfl rfl hS (fun w hS => Vl.shl rfl rfl (by decide)) rfl ?_
        refine RP.s 7 rfl rfl hS (fun w hS => Vl.move rfl) rfl ?_
        refine RP.s 8 rfl rfl hS (fun w hS => Vl.move rfl) rfl ?_
        refine RP.s 9 rfl rfl hS (fun w hS => Vl.int rfl rfl rfl) rfl ?_
        obtain ⟨⟨hq3101, hq3102⟩, h⟩ := h.req
        refine RP.s 10 rfl rfl hS (fun w hS => Vl.indexAddr Tryd.underlying28 Tryd.sizeOf5 rfl rfl ((hr1782.2.world hS.sub).adr hq3101 hq3102) hq3101 hq3102 rfl) rfl ?_
        refine RP.s 11 rfl rfl hS (fun w hS => Vl.load Tryd.isAgg5 rfl ((hr1782.2.world hS.sub).cell (j := 0) hq3101 hq3102 rfl)) rfl ?_
        refine RP.s 12 rfl rfl hS (fun w hS => Vl.conv Tryd.underlying5 Tryd.underlying50 rfl) rfl ?_
        refine RP.s 13 rfl rfl hS (fun w hS => Vl.shl rfl rfl (by decide)) rfl ?_
        refine RP.s 14 rfl rfl hS (fun w hS => Vl.int rfl rfl rfl) rfl ?_
        refine RP.s 15 rfl rfl hS (fun w hS => Vl.move rfl) rfl ?_
        refine RP.s 16 rfl rfl hS (fun w hS => Vl.move rfl) rfl ?_
        refine RP.s 17 rfl rfl hS (fun w hS => Vl.int rfl rfl rfl) rfl ?_
        obtain ⟨⟨hq3103, hq3104⟩, h⟩ := h.req
        refine RP.s 18 rfl rfl hS (fun w hS => Vl.indexAddr Tryd.underlying28 Tryd.sizeOf5 rfl rfl ((hr1782.2.world hS.sub).adr hq3103 hq3104) hq3103 hq3104 rfl) rfl ?_
        refine RP.s 19 rfl rfl hS (fun w hS => Vl.load Tryd.isAgg5 rfl ((hr1782.2.world hS.sub).cell (j := 0) hq3103 hq3104 rfl)) rfl ?_
        refine RP.s 20 rfl rfl hS (fun w hS => Vl.conv Tryd.underlying5 Tryd.underlying50 rfl) rfl ?_
        refine RP.s 21 rfl rfl hS (fun w hS => Vl.shl rfl rfl (by decide)) rfl ?_
        refine RP.s 22 rfl rfl hS (fun w hS => Vl.int rfl rfl rfl) rfl ?_
        refine RP.s 23 rfl rfl hS (fun w hS => Vl.move rfl) rfl ?_
        refine RP.v1 24 rfl (fun _ => hS) (Vl.move rfl) rfl rfl ?_
        refine RP.v1 25 rfl (fun _ => hS) (Vl.int rfl rfl rfl) rfl rfl ?_
        obtain ⟨⟨hq3105, hq3106⟩, h⟩ := h.req
        refine RP.v1 26 rfl (fun _ => hS) (Vl.indexAddr Tryd.underlying28 Tryd.sizeOf5 rfl rfl ((hr1782.2.world hS.sub).adr hq3105 hq3106) hq3105 hq3106 rfl) rfl rfl ?_
        refine RP.v1 27 rfl (fun _ => hS) (Vl.load Tryd.isAgg5 rfl ((hr1782.2.world hS.sub).cell (j := 0) hq3105 hq3106 rfl)) rfl rfl ?_
        refine RP.v1 28 rfl (fun _ => hS) (Vl.conv Tryd.underlying5 Tryd.underlying50 rfl) rfl rfl ?_
        refine RP.v1 29 rfl (fun _ => hS) (Vl.int rfl rfl rfl) rfl rfl ?_
        refine RP.v1 30 rfl (by intro hx; cases hx) (Vl.assign rfl) rfl rfl ?_
        refine RP.nil ?_
        refine RQ.then_n ?_
        refine RC.seq ?_
        refine RC.plan [(0, true), (1, true), (2, true), (3, true), (4, true), (5, true), (6, true), (7, true), (8, true), (9, true), (10, true), (11, true), (12, true), (13, true), (14, true), (15, true), (16, true), (17, true), (18, true), (19, true), (20, true), (21, false), (22, false)] [22] (fun w => St B w (OSf E_api_Instr 23 (.slice A2944 l2943.length c2945) l2943 :: l) hf) follows rfl (by kernel_rfl) (NoTmp.then (NoTmp.block (NoTmp.then (NoTmp.then (NoTmp.block (NoTmp.then NoTmp.body)))))) ?_
        have hS := hS.same (w' := { w with drawn := w.drawn + 1 }) rfl rfl
        revert hS
        generalize { w with drawn := w.drawn + 1 } = w
        intro hS
        refine RP.s 0 rfl rfl hS (fun w hS => Vl.move rfl) rfl ?_
        refine RP.s 1 rfl rfl hS (fun w hS => Vl.move rfl) rfl ?_
        obtain ⟨hq3107, h⟩ := h.req
        refine RP.s 2 rfl rfl hS (fun w hS => Vl.indexAddr Tryd.underlying28 Tryd.sizeOf5 rfl rfl ((hr1782.2.world hS.sub).adr hq3107 hc3051) hq3107 hc3051 rfl) rfl ?_
        refine RP.s 3 rfl rfl hS (fun w hS => Vl.load Tryd.isAgg5 rfl ((hr1782.2.world hS.sub).cell (j := 0) hq3107 hc3051 rfl)) rfl ?_
        refine RP.s 4 rfl rfl hS (fun w hS => Vl.conv Tryd.underlying5 Tryd.underlying3 rfl) rfl ?_
        refine RP.s 5 rfl rfl hS (fun w hS => Vl.move rfl) rfl ?_
        refine RP.s 6 rfl rfl hS (fun w hS => Vl.move rfl) rfl ?_
        refine RP.s 7 rfl rfl hS (fun w hS => Vl.int rfl rfl rfl) rfl ?_
        obtain ⟨⟨hq3108, hq3109⟩, h⟩ := h.req
        refine RP.s 8 rfl rfl hS (fun w hS => Vl.indexAddr Tryd.underlying28 Tryd.sizeOf5 rfl rfl ((hr1782.2.world hS.sub).adr hq3108 hq3109) hq3108 hq3109 rfl) rfl ?_
        refine RP.s 9 rfl rfl hS (fun w hS => Vl.load Tryd.isAgg5 rfl ((hr1782.2.world hS.sub).cell (j := 0) hq3108 hq3109 rfl)) rfl ?_
        refine RP.s 10 rfl rfl hS (fun w hS => Vl.conv Tryd.underlying5 Tryd.underlying3 rfl) rfl ?_
        refine RP.s 11 rfl rfl hS (fun w hS => Vl.move rfl) rfl ?_
        refine RP.s 12 rfl rfl hS (fun w hS => Vl.conv Tryd.underlying50 Tryd.underlying21 rfl) rfl ?_
        refine RP.s 13 rfl rfl hS (fun w hS => Vl.conv Tryd.underlying21 Tryd.underlying3 rfl) rfl ?_
        refine RP.s 14 rfl rfl hS (fun w hS => Vl.move rfl) rfl ?_
        refine RP.s 15 rfl rfl hS (fun w hS => Vl.move rfl) rfl ?_
        refine RP.s 16 rfl rfl hS (fun w hS => Vl.int rfl rfl rfl) rfl ?_
        obtain ⟨⟨hq3110, hq3111⟩, h⟩ := h.req
        refine RP.s 17 rfl rfl hS (fun w hS => Vl.indexAddr Tryd.underlying28 Tryd.sizeOf5 rfl rfl ((hr1782.2.world hS.sub).adr hq3110 hq3111) hq3110 hq3111 rfl) rfl ?_
        refine RP.s 18 rfl rfl hS (fun w hS => Vl.load Tryd.isAgg5 rfl ((hr1782.2.world hS.sub).cell (j := 0) hq3110 hq3111 rfl)) rfl ?_
        refine RP.s 19 rfl rfl hS (fun w hS => Vl.conv Tryd.underlying5 Tryd.underlying3 rfl) rfl ?_
        refine RP.s 20 rfl rfl hS (fun w hS => Vl.build (v := .agg #[.int .i64 (IntKind.i64.wrap (nth a1779 x2947)), .int .i64 (IntKind.i64.wrap (nth a1779 (IntKind.i64.wrap (x2947 + 1)))), .int .i64 (IntKind.i64.wrap (IntKind.i32.wrap (IntKind.u32.wrap (BitVec.ofInt IntKind.u32.bits (IntKind.u32.wrap (BitVec.ofInt IntKind.u32.bits (IntKind.u32.wrap (BitVec.ofInt IntKind.u32.bits (IntKind.u32.wrap ((IntKind.u32.wrap (nth a1779 (IntKind.i64.wrap (x2947 + 2)))) * 2 ^ (min (24 : Int).toNat IntKind.u32.bits))) ||| BitVec.ofInt IntKind.u32.bits (IntKind.u32.wrap ((IntKind.u32.wrap (nth a1779 (IntKind.i64.wrap (x2947 + 3)))) * 2 ^ (min (16 : Int).toNat IntKind.u32.bits)))).toNat) ||| BitVec.ofInt IntKind.u32.bits (IntKind.u32.wrap ((IntKind.u32.wrap (nth a1779 (IntKind.i64.wrap (x2947 + 4)))) * 2 ^ (min (8 : Int).toNat IntKind.u32.bits)))).toNat) ||| BitVec.ofInt IntKind.u32.bits (IntKind.u32.wrap (nth a1779 (IntKind.i64.wrap (x2947 + 5))))).toNat))), .int .i64 (IntKind.i64.wrap (nth a1779 (IntKind.i64.wrap (x2947 + 6))))]) (parts := [(0, .tmp 61), (1, .tmp 67), (2, .tmp 70), (3, .tmp 76)]) rfl (by kernel_rfl)) rfl ?_
        refine RP.e 21 rfl (OW.alloc (cs := [.int .i64 0, .int .i64 0, .int .i64 0, .int .i64 0]) hS Tryd.zeroValue23 rfl) rfl rfl ?_
        rintro _ w ⟨b3113, rfl, hS⟩
        have hS : St B w (Cl b3113 [.int .i64 0, .int .i64 0, .int .i64 0, .int .i64 0] 23 :: OSf E_api_Instr 23 (.slice A2944 l2943.length c2945) l2943 :: l) hf := hS
        refine ⟨fun _ => (hS.dropAt 0 rfl), ?_⟩
        refine RP.e0 22 rfl (OW.store (cs := [.int .i64 0, .int .i64 0, .int .i64 0, .int .i64 0]) (vs := [.int .i64 (IntKind.i64.wrap (nth a1779 x2947)), .int .i64 (IntKind.i64.wrap (nth a1779 (IntKind.i64.wrap (x2947 + 1)))), .int .i64 (IntKind.i64.wrap (IntKind.i32.wrap (IntKind.u32.wrap (BitVec.ofInt IntKind.u32.bits (IntKind.u32.wrap (BitVec.ofInt IntKind.u32.bits (IntKind.u32.wrap (BitVec.ofInt IntKind.u32.bits (IntKind.u32.wrap ((IntKind.u32.wrap (nth a1779 (IntKind.i64.wrap (x2947 + 2)))) * 2 ^ (min (24 : Int).toNat IntKind.u32.bits))) ||| BitVec.ofInt IntKind.u32.bits (IntKind.u32.wrap ((IntKind.u32.wrap (nth a1779 (IntKind.i64.wrap (x2947 + 3)))) * 2 ^ (min (16 : Int).toNat IntKind.u32.bits)))).toNat) ||| BitVec.ofInt IntKind.u32.bits (IntKind.u32.wrap ((IntKind.u32.wrap (nth a1779 (IntKind.i64.wrap (x2947 + 4)))) * 2 ^ (min (8 : Int).toNat IntKind.u32.bits)))).toNat) ||| BitVec.ofInt IntKind.u32.bits (IntKind.u32.wrap (nth a1779 (IntKind.i64.wrap (x2947 + 5))))).toNat))), .int .i64 (IntKind.i64.wrap (nth a1779 (IntKind.i64.wrap (x2947 + 6))))]) (l' := Cl b3113 [.int .i64 (IntKind.i64.wrap (nth a1779 x2947)), .int .i64 (IntKind.i64.wrap (nth a1779 (IntKind.i64.wrap (x2947 + 1)))), .int .i64 (IntKind.i64.wrap (IntKind.i32.wrap (IntKind.u32.wrap (BitVec.ofInt IntKind.u32.bits (IntKind.u32.wrap (BitVec.ofInt IntKind.u32.bits (IntKind.u32.wrap (BitVec.ofInt IntKind.u32.bits (IntKind.u32.wrap ((IntKind.u32.wrap (nth a1779 (IntKind.i64.wrap (x2947 + 2)))) * 2 ^ (min (24 : Int).toNat IntKind.u32.bits))) ||| BitVec.ofInt IntKind.u32.bits (IntKind.u32.wrap ((IntKind.u32.wrap (nth a1779 (IntKind.i64.wrap (x2947 + 3)))) * 2 ^ (min (16 : Int).toNat IntKind.u32.bits)))).toNat) ||| BitVec.ofInt IntKind.u32.bits (IntKind.u32.wrap ((IntKind.u32.wrap (nth a1779 (IntKind.i64.wrap (x2947 + 4)))) * 2 ^ (min (8 : Int).toNat IntKind.u32.bits)))).toNat) ||| BitVec.ofInt IntKind.u32.bits (IntKind.u32.wrap (nth a1779 (IntKind.i64.wrap (x2947 + 5))))).toNat))), .int .i64 (IntKind.i64.wrap (nth a1779 (IntKind.i64.wrap (x2947 + 6))))] 23 :: OSf E_api_Instr 23 (.slice A2944 l2943.length c2945) l2943 :: l) 0 hS rfl rfl rfl rfl Tryd.sizeOf23 rfl rfl rfl rfl) rfl ?_
        rintro _ w ⟨rfl, hS⟩
        have hS : St B w (Cl b3113 [.int .i64 (IntKind.i64.wrap (nth a1779 x2947)), .int .i64 (IntKind.i64.wrap (nth a1779 (IntKind.i64.wrap (x2947 + 1)))), .int .i64 (IntKind.i64.wrap (IntKind.i32.wrap (IntKind.u32.wrap (BitVec.ofInt IntKind.u32.bits (IntKind.u32.wrap (BitVec.ofInt IntKind.u32.bits (IntKind.u32.wrap (BitVec.ofInt IntKind.u32.bits (IntKind.u32.wrap ((IntKind.u32.wrap (nth a1779 (IntKind.i64.wrap (x2947 + 2)))) * 2 ^ (min (24 : Int).toNat IntKind.u32.bits))) ||| BitVec.ofInt IntKind.u32.bits (IntKind.u32.wrap ((IntKind.u32.wrap (nth a1779 (IntKind.i64.wrap (x2947 + 3)))) * 2 ^ (min (16 : Int).toNat IntKind.u32.bits)))).toNat) ||| BitVec.ofInt IntKind.u32.bits (IntKind.u32.wrap ((IntKind.u32.wrap (nth a1779 (IntKind.i64.wrap (x2947 + 4)))) * 2 ^ (min (8 : Int).toNat IntKind.u32.bits)))).toNat) ||| BitVec.ofInt IntKind.u32.bits (IntKind.u32.wrap (nth a1779 (IntKind.i64.wrap (x2947 + 5))))).toNat))), .int .i64 (IntKind.i64.wrap (nth a1779 (IntKind.i64.wrap (x2947 + 6))))] 23 :: OSf E_api_Instr 23 (.slice A2944 l2943.length c2945) l2943 :: l) hf := hS
        refine ⟨(by intro hx; cases hx), ?_⟩
        refine RP.nil ?_
        refine RQ.then_n ?_
        refine RC.seq ?_
        refine RC.region ?_
        refine RL.s (Vl.assign rfl) rfl ?_
        refine RL.nil ?_
        refine RQ.then_n ?_
        refine RC.join (fun (s : Int × Int × Bool) a w => ∃ (x3115 : Int) (x3116 : Int) (q3117 : Bool), s = (x3115, x3116, q3117) ∧ Has 121 [(0, .slice A1780 a1779.length c1781), (5, .slice A2944 l2943.length c2945), (6, .int .i64 x2947), (8, .pointer (some ⟨b3113, 0, none⟩)), (9, .bool q3117)] a ∧ St B w (OSf E_api_Instr 23 (.slice A2944 l2943.length c2945) l2943 :: Cl b3113 [.int .i64 (IntKind.i64.wrap (nth a1779 x2947)), .int .i64 x3115, .int .i64 x3116, .int .i64 (IntKind.i64.wrap (nth a1779 (IntKind.i64.wrap (x2947 + 6))))] 23 :: l) hf ∧ Holds (Sum.elim G3049 (· = r)) (isochronref03vDecode.j28 a1779 l2943 x2947 x3115 x3116 q3117)) ?_ ?_
        · rintro _ a w ⟨x3115, x3116, q3117, rfl, ha, hS, h⟩
          revert a
          show RC _ _ _ _ _ _
          refine RC.seq ?_
          refine RC.seq ?_
          refine RC.region ?_
          refine RL.s (Vl.move rfl) rfl ?_
          refine RL.s (Vl.move rfl) rfl ?_
          by_cases hc3128 : q3117 = true
          case pos =>
            have h := h.pos hc3128
            refine RL.re 89 rfl (congrArg Value.bool (id hc3128)) ?_
            refine RL.nn rfl rfl ?_
            refine RL.nn rfl rfl ?_
            refine RL.nn rfl rfl ?_
            refine RL.nn rfl rfl ?_
            refine RL.nn rfl rfl ?_
            refine RL.nn rfl rfl ?_
            refine RL.s (Vl.pickT rfl rfl) rfl ?_
            refine RL.s (Vl.move rfl) rfl ?_
            refine RL.nn rfl rfl ?_
            refine RL.nn rfl rfl ?_
            refine RL.nn rfl rfl ?_
            refine RL.nn rfl rfl ?_
            refine RL.nn rfl rfl ?_
            refine RL.nn rfl rfl ?_
            refine RL.s (Vl.pickT rfl rfl) rfl ?_
            refine RL.s (Vl.move rfl) rfl ?_
            refine RL.nn rfl rfl ?_
            refine RL.nn rfl rfl ?_
            refine RL.nn rfl rfl ?_
            refine RL.nn rfl rfl ?_
            refine RL.nn rfl rfl ?_
            refine RL.nn rfl rfl ?_
            refine RL.s (Vl.pickT rfl rfl) rfl ?_
            refine RL.nil ?_
            refine RQ.then_n ?_
            refine RC.condT rfl ?_
            refine RC.seq ?_
            refine RC.region ?_
            refine RL.s (Vl.move rfl) rfl ?_
            refine RL.s (Vl.assign rfl) rfl ?_
            refine RL.s (Vl.assign rfl) rfl ?_
            refine RL.s (Vl.assign rfl) rfl ?_
            refine RL.nil ?_
            refine RQ.then_n ?_
            refine RC.ret ?_
            refine RQ.ret ?_
            refine RQ.inB_ret ?_
            refine RQ.ret ?_
            have h := h.inrS
            refine RQ.ret ?_
            refine RQ.inB_ret ?_
            refine RQ.ret ?_
            have hS := hS.nilSl E_api_Instr 23
            have e := h.some
            subst e
            refine RQ.ret0 (vs := [.slice none 0 0, .int .i64 x2947, .int .i64 4]) Tryd.results15 ⟨rfl, rfl, rfl, trivial⟩ ?_
            exact ⟨none, 0, rfl, ((hS.dropAt 1 rfl).dropAt 1 rfl)⟩
          case neg =>
            have h := h.neg hc3128
            refine RL.re 89 rfl (congrArg Value.bool (eq_false_of hc3128)) ?_
            refine RL.sg (Vl.move rfl) rfl rfl ?_
            refine RL.sg (Vl.move rfl) rfl rfl ?_
            refine RL.sg (Vl.int rfl rfl rfl) rfl rfl ?_
            obtain ⟨⟨hq3130, hq3131⟩, h⟩ := h.req
            refine RL.sg (Vl.indexAddr Tryd.underlying28 Tryd.sizeOf5 rfl rfl ((hr1782.2.world hS.sub).adr hq3130 hq3131) hq3130 hq3131 rfl) rfl rfl ?_
            refine RL.sg (Vl.load Tryd.isAgg5 rfl ((hr1782.2.world hS.sub).cell (j := 0) hq3130 hq3131 rfl)) rfl rfl ?_
            refine RL.sg (Vl.int rfl rfl rfl) rfl rfl ?_
            refine RL.s (Vl.pickF rfl rfl) rfl ?_
            refine RL.s (Vl.move rfl) rfl ?_
            by_cases hc3132 : nth a1779 (IntKind.i64.wrap (x2947 + 7)) = 0
            case pos =>
              have h := h.pos hc3132
              refine RL.re 97 rfl (congrArg Value.bool (notdec_pos hc3132)) ?_
              refine RL.sg (Vl.move rfl) rfl rfl ?_
              refine RL.sg (Vl.move rfl) rfl rfl ?_
              refine RL.sg (Vl.int rfl rfl rfl) rfl rfl ?_
              obtain ⟨⟨hq3133, hq3134⟩, h⟩ := h.req
              refine RL.sg (Vl.indexAddr Tryd.underlying28 Tryd.sizeOf5 rfl rfl ((hr1782.2.world hS.sub).adr hq3133 hq3134) hq3133 hq3134 rfl) rfl rfl ?_
              refine RL.sg (Vl.load Tryd.isAgg5 rfl ((hr1782.2.world hS.sub).cell (j := 0) hq3133 hq3134 rfl)) rfl rfl ?_
              refine RL.sg (Vl.int rfl rfl rfl) rfl rfl ?_
              refine RL.s (Vl.pickF rfl rfl) rfl ?_
              refine RL.s (Vl.move rfl) rfl ?_
              by_cases hc3135 : nth a1779 (IntKind.i64.wrap (x2947 + 8)) = 0
              case pos =>
                have h := h.pos hc3135
                refine RL.re 105 rfl (congrArg Value.bool (notdec_pos hc3135)) ?_
                refine RL.sg (Vl.loadA (vs := [.int .i64 (IntKind.i64.wrap (nth a1779 x2947)), .int .i64 x3115, .int .i64 x3116, .int .i64 (IntKind.i64.wrap (nth a1779 (IntKind.i64.wrap (x2947 + 6))))]) Tryd.isAgg23 Tryd.sizeOf23 rfl rfl (hS.cellsAt 1 rfl rfl)) rfl rfl ?_
                refine RL.sg (Vl.move rfl) rfl rfl ?_
                refine RL.sg (Vl.lenSl Tryd.underlying28 rfl) rfl rfl ?_
                refine RL.sg (Vl.quo rfl rfl (by decide)) rfl rfl ?_
                obtain ⟨t3136, hg3137, h⟩ := h.bind
                refine RL.e (OW.callF (ls := [.tmp 106, .tmp 109]) rfl Tryd.call26 (isochronref03vmay.ok (⟨IntKind.i64.wrap (nth a1779 x2947), x3115, x3116, IntKind.i64.wrap (nth a1779 (IntKind.i64.wrap (x2947 + 6)))⟩ : api_Instr) (IntKind.i64.wrap (Int.tdiv (a1779.length : Int) 9)) _ hg3137 hS)) rfl rfl ?_
                rintro _ w ⟨rfl, hS⟩
                have hS : St B w (OSf E_api_Instr 23 (.slice A2944 l2943.length c2945) l2943 :: Cl b3113 [.int .i64 (IntKind.i64.wrap (nth a1779 x2947)), .int .i64 x3115, .int .i64 x3116, .int .i64 (IntKind.i64.wrap (nth a1779 (IntKind.i64.wrap (x2947 + 6))))] 23 :: l) hf := hS
                refine RL.sg (Vl.not rfl) rfl rfl ?_
                refine RL.s (Vl.pickF rfl rfl) rfl ?_
                refine RL.nil ?_
                refine RQ.then_n ?_
                by_cases hc3138 : t3136 = true
                case pos =>
                  have h := h.pos hc3138
                  refine RC.re 112 rfl (congrArg Value.bool (notb_pos hc3138)) ?_
                  refine RC.condF rfl ?_
                  refine RC.skip ?_
                  refine RQ.then_n ?_
                  refine RC.region ?_
                  refine RL.s (Vl.move rfl) rfl ?_
                  refine RL.s (Vl.loadA (vs := [.int .i64 (IntKind.i64.wrap (nth a1779 x2947)), .int .i64 x3115, .int .i64 x3116, .int .i64 (IntKind.i64.wrap (nth a1779 (IntKind.i64.wrap (x2947 + 6))))]) Tryd.isAgg23 Tryd.sizeOf23 rfl rfl (hS.cellsAt 1 rfl rfl)) rfl ?_
                  refine RL.e (OW.buildSlice (E := E_api_Instr) (xs := [(⟨IntKind.i64.wrap (nth a1779 x2947), x3115, x3116, IntKind.i64.wrap (nth a1779 (IntKind.i64.wrap (x2947 + 6)))⟩ : api_Instr)]) (cs := [.int .i64 (IntKind.i64.wrap (nth a1779 x2947)), .int .i64 x3115, .int .i64 x3116, .int .i64 (IntKind.i64.wrap (nth a1779 (IntKind.i64.wrap (x2947 + 6))))]) hS Tryd.underlying29 Tryd.zeroValue23 Tryd.sizeOf23 (parts := [(0, .tmp 115)]) rfl rfl (by decide) (by decide) (by kernel_rfl) rfl) rfl rfl ?_
                  rintro _ w ⟨b3140, rfl, hS⟩
                  have hS : St B w (OSf E_api_Instr 23 (.slice (some ⟨b3140, 0, none⟩) ([(⟨IntKind.i64.wrap (nth a1779 x2947), x3115, x3116, IntKind.i64.wrap (nth a1779 (IntKind.i64.wrap (x2947 + 6)))⟩ : api_Instr)]).length 1) ([(⟨IntKind.i64.wrap (nth a1779 x2947), x3115, x3116, IntKind.i64.wrap (nth a1779 (IntKind.i64.wrap (x2947 + 6)))⟩ : api_Instr)]) :: OSf E_api_Instr 23 (.slice A2944 l2943.length c2945) l2943 :: Cl b3113 [.int .i64 (IntKind.i64.wrap (nth a1779 x2947)), .int .i64 x3115, .int .i64 x3116, .int .i64 (IntKind.i64.wrap (nth a1779 (IntKind.i64.wrap (x2947 + 6))))] 23 :: l) hf := hS
                  obtain ⟨hq3141, h⟩ := h.req
                  refine RL.e (OW.append (E := E_api_Instr) (xs := l2943) (ys := [(⟨IntKind.i64.wrap (nth a1779 x2947), x3115, x3116, IntKind.i64.wrap (nth a1779 (IntKind.i64.wrap (x2947 + 6)))⟩ : api_Instr)]) 1 hS rfl Tryd.underlying29 Tryd.type23 rfl rfl rfl rfl (by decide) rfl rfl rfl (hS.slW 0 rfl).2.2.flat (by simp only [maxLen, List.length_cons, List.length_nil] at *; omega) hq3141 rfl) rfl rfl ?_
                  rintro v3145 w hS
                  obtain ⟨A3142, c3143, rfl, _⟩ := hS.osShape 0 rfl
                  have hS : St B w (OSf E_api_Instr 23 (.slice A3142 (l2943 ++ ([(⟨IntKind.i64.wrap (nth a1779 x2947), x3115, x3116, IntKind.i64.wrap (nth a1779 (IntKind.i64.wrap (x2947 + 6)))⟩ : api_Instr)])).length c3143) (l2943 ++ ([(⟨IntKind.i64.wrap (nth a1779 x2947), x3115, x3116, IntKind.i64.wrap (nth a1779 (IntKind.i64.wrap (x2947 + 6)))⟩ : api_Instr)])) :: OSf E_api_Instr 23 (.slice (some ⟨b3140, 0, none⟩) ([(⟨IntKind.i64.wrap (nth a1779 x2947), x3115, x3116, IntKind.i64.wrap (nth a1779 (IntKind.i64.wrap (x2947 + 6)))⟩ : api_Instr)]).length 1) ([(⟨IntKind.i64.wrap (nth a1779 x2947), x3115, x3116, IntKind.i64.wrap (nth a1779 (IntKind.i64.wrap (x2947 + 6)))⟩ : api_Instr)]) :: Cl b3113 [.int .i64 (IntKind.i64.wrap (nth a1779 x2947)), .int .i64 x3115, .int .i64 x3116, .int .i64 (IntKind.i64.wrap (nth a1779 (IntKind.i64.wrap (x2947 + 6))))] 23 :: l) hf := hS
                  refine RL.s (Vl.assign rfl) rfl ?_
                  refine RL.nil ?_
                  refine RQ.inB_n ?_
                  refine RQ.then_n ?_
                  refine RC.region ?_
                  refine RL.s (Vl.move rfl) rfl ?_
                  refine RL.s (Vl.int rfl rfl rfl) rfl ?_
                  refine RL.s (Vl.assign rfl) rfl ?_
                  refine RL.nil ?_
                  exact fun a ha => ⟨((l2943 ++ ([(⟨IntKind.i64.wrap (nth a1779 x2947), x3115, x3116, IntKind.i64.wrap (nth a1779 (IntKind.i64.wrap (x2947 + 6)))⟩ : api_Instr)])), IntKind.i64.wrap (x2947 + 9)), ⟨(l2943 ++ ([(⟨IntKind.i64.wrap (nth a1779 x2947), x3115, x3116, IntKind.i64.wrap (nth a1779 (IntKind.i64.wrap (x2947 + 6)))⟩ : api_Instr)])), (IntKind.i64.wrap (x2947 + 9)), rfl, A3142, c3143, ha.to ⟨rfl, rfl, rfl, trivial⟩, ((hS.dropAt 1 rfl).dropAt 1 rfl)⟩, h.some⟩
                case neg =>
                  have h := h.neg hc3138
                  refine RC.re 112 rfl (congrArg Value.bool (notb_neg hc3138)) ?_
                  refine RC.condT rfl ?_
                  refine RC.seq ?_
                  refine RC.region ?_
                  refine RL.s (Vl.move rfl) rfl ?_
                  refine RL.s (Vl.assign rfl) rfl ?_
                  refine RL.s (Vl.assign rfl) rfl ?_
                  refine RL.s (Vl.assign rfl) rfl ?_
                  refine RL.nil ?_
                  refine RQ.then_n ?_
                  refine RC.ret ?_
                  refine RQ.ret ?_
                  refine RQ.inB_ret ?_
                  refine RQ.ret ?_
                  have h := h.inrS
                  refine RQ.ret ?_
                  refine RQ.inB_ret ?_
                  refine RQ.ret ?_
                  have hS := hS.nilSl E_api_Instr 23
                  have e := h.some
                  subst e
                  refine RQ.ret0 (vs := [.slice none 0 0, .int .i64 x2947, .int .i64 4]) Tryd.results15 ⟨rfl, rfl, rfl, trivial⟩ ?_
                  exact ⟨none, 0, rfl, ((hS.dropAt 1 rfl).dropAt 1 rfl)⟩
              case neg =>
                have h := h.neg hc3135
                refine RL.re 105 rfl (congrArg Value.bool (notdec_neg hc3135)) ?_
                refine RL.nn rfl rfl ?_
                refine RL.nn rfl rfl ?_
                refine RL.nn rfl rfl ?_
                refine RL.nn rfl rfl ?_
                refine RL.nn rfl rfl ?_
                refine RL.nn rfl rfl ?_
                refine RL.s (Vl.pickT rfl rfl) rfl ?_
                refine RL.nil ?_
                refine RQ.then_n ?_
                refine RC.condT rfl ?_
                refine RC.seq ?_
                refine RC.region ?_
                refine RL.s (Vl.move rfl) rfl ?_
                refine RL.s (Vl.assign rfl) rfl ?_
                refine RL.s (Vl.assign rfl) rfl ?_
                refine RL.s (Vl.assign rfl) rfl ?_
                refine RL.nil ?_
                refine RQ.then_n ?_
                refine RC.ret ?_
                refine RQ.ret ?_
                refine RQ.inB_ret ?_
                refine RQ.ret ?_
                have h := h.inrS
                refine RQ.ret ?_
                refine RQ.inB_ret ?_
                refine RQ.ret ?_
                have hS := hS.nilSl E_api_Instr 23
                have e := h.some
                subst e
                refine RQ.ret0 (vs := [.slice none 0 0, .int .i64 x2947, .int .i64 4]) Tryd.results15 ⟨rfl, rfl, rfl, trivial⟩ ?_
                exact ⟨none, 0, rfl, ((hS.dropAt 1 rfl).dropAt 1 rfl)⟩
            case neg =>
              have h := h.neg hc3132
              refine RL.re 97 rfl (congrArg Value.bool (notdec_neg hc3132)) ?_
              refine RL.nn rfl rfl ?_
              refine RL.nn rfl rfl ?_
              refine RL.nn rfl rfl ?_
              refine RL.nn rfl rfl ?_
              refine RL.nn rfl rfl ?_
              refine RL.nn rfl rfl ?_
              refine RL.s (Vl.pickT rfl rfl) rfl ?_
              refine RL.s (Vl.move rfl) rfl ?_
              refine RL.nn rfl rfl ?_
              refine RL.nn rfl rfl ?_
              refine RL.nn rfl rfl ?_
              refine RL.nn rfl rfl ?_
              refine RL.nn rfl rfl ?_
              refine RL.nn rfl rfl ?_
              refine RL.s (Vl.pickT rfl rfl) rfl ?_
              refine RL.nil ?_
              refine RQ.then_n ?_
              refine RC.condT rfl ?_
              refine RC.seq ?_
              refine RC.region ?_
              refine RL.s (Vl.move rfl) rfl ?_
              refine RL.s (Vl.assign rfl) rfl ?_
              refine RL.s (Vl.assign rfl) rfl ?_
              refine RL.s (Vl.assign rfl) rfl ?_
              refine RL.nil ?_
              refine RQ.then_n ?_
              refine RC.ret ?_
              refine RQ.ret ?_
              refine RQ.inB_ret ?_
              refine RQ.ret ?_
              have h := h.inrS
              refine RQ.ret ?_
              refine RQ.inB_ret ?_
              refine RQ.ret ?_
              have hS := hS.nilSl E_api_Instr 23
              have e := h.some
              subst e
              refine RQ.ret0 (vs := [.slice none 0 0, .int .i64 x2947, .int .i64 4]) Tryd.results15 ⟨rfl, rfl, rfl, trivial⟩ ?_
              exact ⟨none, 0, rfl, ((hS.dropAt 1 rfl).dropAt 1 rfl)⟩
        · refine RC.seq ?_
          refine RC.region ?_
          refine RL.s (Vl.fieldAddr (a'' := ⟨b3113, 0, none⟩) Tryd.underlying23 rfl Tryd.sizeOf3 rfl rfl) rfl ?_
          refine RL.s (Vl.load Tryd.isAgg3 rfl (hS.cell 0 rfl rfl)) rfl ?_
          refine RL.s (Vl.int rfl rfl rfl) rfl ?_
          refine RL.nil ?_
          refine RQ.then_n ?_
          by_cases hc3149 : IntKind.i64.wrap (nth a1779 x2947) = 10
          case pos =>
            have h := h.pos hc3149
            refine RC.re 80 rfl (congrArg Value.bool (decide_eq_true hc3149)) ?_
            refine RC.condT rfl ?_
            refine RC.seq ?_
            refine RC.region ?_
            refine RL.s (Vl.fieldAddr (a'' := ⟨b3113, 1, none⟩) Tryd.underlying23 rfl Tryd.sizeOf3 rfl rfl) rfl ?_
            refine RL.s (Vl.load Tryd.isAgg3 rfl (hS.cell 0 rfl rfl)) rfl ?_
            refine RL.s (Vl.int rfl rfl rfl) rfl ?_
            refine RL.s (Vl.assign rfl) rfl ?_
            refine RL.nil ?_
            refine RQ.then_n ?_
            refine RC.seq ?_
            refine RC.region ?_
            refine RL.s (Vl.fieldAddr (a'' := ⟨b3113, 2, none⟩) Tryd.underlying23 rfl Tryd.sizeOf3 rfl rfl) rfl ?_
            refine RL.s (Vl.load Tryd.isAgg3 rfl (hS.cell 0 rfl rfl)) rfl ?_
            refine RL.s (Vl.fieldAddr (a'' := ⟨b3113, 1, none⟩) Tryd.underlying23 rfl Tryd.sizeOf3 rfl rfl) rfl ?_
            refine RL.e0 (OW.store (cs := [.int .i64 (IntKind.i64.wrap (nth a1779 x2947)), .int .i64 (IntKind.i64.wrap (nth a1779 (IntKind.i64.wrap (x2947 + 1)))), .int .i64 (IntKind.i64.wrap (IntKind.i32.wrap (IntKind.u32.wrap (BitVec.ofInt IntKind.u32.bits (IntKind.u32.wrap (BitVec.ofInt IntKind.u32.bits (IntKind.u32.wrap (BitVec.ofInt IntKind.u32.bits (IntKind.u32.wrap ((IntKind.u32.wrap (nth a1779 (IntKind.i64.wrap (x2947 + 2)))) * 2 ^ (min (24 : Int).toNat IntKind.u32.bits))) ||| BitVec.ofInt IntKind.u32.bits (IntKind.u32.wrap ((IntKind.u32.wrap (nth a1779 (IntKind.i64.wrap (x2947 + 3)))) * 2 ^ (min (16 : Int).toNat IntKind.u32.bits)))).toNat) ||| BitVec.ofInt IntKind.u32.bits (IntKind.u32.wrap ((IntKind.u32.wrap (nth a1779 (IntKind.i64.wrap (x2947 + 4)))) * 2 ^ (min (8 : Int).toNat IntKind.u32.bits)))).toNat) ||| BitVec.ofInt IntKind.u32.bits (IntKind.u32.wrap (nth a1779 (IntKind.i64.wrap (x2947 + 5))))).toNat))), .int .i64 (IntKind.i64.wrap (nth a1779 (IntKind.i64.wrap (x2947 + 6))))]) (vs := [.int .i64 (IntKind.i64.wrap (IntKind.i32.wrap (IntKind.u32.wrap (BitVec.ofInt IntKind.u32.bits (IntKind.u32.wrap (BitVec.ofInt IntKind.u32.bits (IntKind.u32.wrap (BitVec.ofInt IntKind.u32.bits (IntKind.u32.wrap ((IntKind.u32.wrap (nth a1779 (IntKind.i64.wrap (x2947 + 2)))) * 2 ^ (min (24 : Int).toNat IntKind.u32.bits))) ||| BitVec.ofInt IntKind.u32.bits (IntKind.u32.wrap ((IntKind.u32.wrap (nth a1779 (IntKind.i64.wrap (x2947 + 3)))) * 2 ^ (min (16 : Int).toNat IntKind.u32.bits)))).toNat) ||| BitVec.ofInt IntKind.u32.bits (IntKind.u32.wrap ((IntKind.u32.wrap (nth a1779 (IntKind.i64.wrap (x2947 + 4)))) * 2 ^ (min (8 : Int).toNat IntKind.u32.bits)))).toNat) ||| BitVec.ofInt IntKind.u32.bits (IntKind.u32.wrap (nth a1779 (IntKind.i64.wrap (x2947 + 5))))).toNat)))]) (l' := Cl b3113 [.int .i64 (IntKind.i64.wrap (nth a1779 x2947)), .int .i64 (IntKind.i64.wrap (IntKind.i32.wrap (IntKind.u32.wrap (BitVec.ofInt IntKind.u32.bits (IntKind.u32.wrap (BitVec.ofInt IntKind.u32.bits (IntKind.u32.wrap (BitVec.ofInt IntKind.u32.bits (IntKind.u32.wrap ((IntKind.u32.wrap (nth a1779 (IntKind.i64.wrap (x2947 + 2)))) * 2 ^ (min (24 : Int).toNat IntKind.u32.bits))) ||| BitVec.ofInt IntKind.u32.bits (IntKind.u32.wrap ((IntKind.u32.wrap (nth a1779 (IntKind.i64.wrap (x2947 + 3)))) * 2 ^ (min (16 : Int).toNat IntKind.u32.bits)))).toNat) ||| BitVec.ofInt IntKind.u32.bits (IntKind.u32.wrap ((IntKind.u32.wrap (nth a1779 (IntKind.i64.wrap (x2947 + 4)))) * 2 ^ (min (8 : Int).toNat IntKind.u32.bits)))).toNat) ||| BitVec.ofInt IntKind.u32.bits (IntKind.u32.wrap (nth a1779 (IntKind.i64.wrap (x2947 + 5))))).toNat))), .int .i64 (IntKind.i64.wrap (IntKind.i32.wrap (IntKind.u32.wrap (BitVec.ofInt IntKind.u32.bits (IntKind.u32.wrap (BitVec.ofInt IntKind.u32.bits (IntKind.u32.wrap (BitVec.ofInt IntKind.u32.bits (IntKind.u32.wrap ((IntKind.u32.wrap (nth a1779 (IntKind.i64.wrap (x2947 + 2)))) * 2 ^ (min (24 : Int).toNat IntKind.u32.bits))) ||| BitVec.ofInt IntKind.u32.bits (IntKind.u32.wrap ((IntKind.u32.wrap (nth a1779 (IntKind.i64.wrap (x2947 + 3)))) * 2 ^ (min (16 : Int).toNat IntKind.u32.bits)))).toNat) ||| BitVec.ofInt IntKind.u32.bits (IntKind.u32.wrap ((IntKind.u32.wrap (nth a1779 (IntKind.i64.wrap (x2947 + 4)))) * 2 ^ (min (8 : Int).toNat IntKind.u32.bits)))).toNat) ||| BitVec.ofInt IntKind.u32.bits (IntKind.u32.wrap (nth a1779 (IntKind.i64.wrap (x2947 + 5))))).toNat))), .int .i64 (IntKind.i64.wrap (nth a1779 (IntKind.i64.wrap (x2947 + 6))))] 23 :: OSf E_api_Instr 23 (.slice A2944 l2943.length c2945) l2943 :: l) 0 hS rfl rfl rfl rfl Tryd.sizeOf3 rfl rfl rfl rfl) rfl ?_
            rintro _ w ⟨rfl, hS⟩
            have hS : St B w (Cl b3113 [.int .i64 (IntKind.i64.wrap (nth a1779 x2947)), .int .i64 (IntKind.i64.wrap (IntKind.i32.wrap (IntKind.u32.wrap (BitVec.ofInt IntKind.u32.bits (IntKind.u32.wrap (BitVec.ofInt IntKind.u32.bits (IntKind.u32.wrap (BitVec.ofInt IntKind.u32.bits (IntKind.u32.wrap ((IntKind.u32.wrap (nth a1779 (IntKind.i64.wrap (x2947 + 2)))) * 2 ^ (min (24 : Int).toNat IntKind.u32.bits))) ||| BitVec.ofInt IntKind.u32.bits (IntKind.u32.wrap ((IntKind.u32.wrap (nth a1779 (IntKind.i64.wrap (x2947 + 3)))) * 2 ^ (min (16 : Int).toNat IntKind.u32.bits)))).toNat) ||| BitVec.ofInt IntKind.u32.bits (IntKind.u32.wrap ((IntKind.u32.wrap (nth a1779 (IntKind.i64.wrap (x2947 + 4)))) * 2 ^ (min (8 : Int).toNat IntKind.u32.bits)))).toNat) ||| BitVec.ofInt IntKind.u32.bits (IntKind.u32.wrap (nth a1779 (IntKind.i64.wrap (x2947 + 5))))).toNat))), .int .i64 (IntKind.i64.wrap (IntKind.i32.wrap (IntKind.u32.wrap (BitVec.ofInt IntKind.u32.bits (IntKind.u32.wrap (BitVec.ofInt IntKind.u32.bits (IntKind.u32.wrap (BitVec.ofInt IntKind.u32.bits (IntKind.u32.wrap ((IntKind.u32.wrap (nth a1779 (IntKind.i64.wrap (x2947 + 2)))) * 2 ^ (min (24 : Int).toNat IntKind.u32.bits))) ||| BitVec.ofInt IntKind.u32.bits (IntKind.u32.wrap ((IntKind.u32.wrap (nth a1779 (IntKind.i64.wrap (x2947 + 3)))) * 2 ^ (min (16 : Int).toNat IntKind.u32.bits)))).toNat) ||| BitVec.ofInt IntKind.u32.bits (IntKind.u32.wrap ((IntKind.u32.wrap (nth a1779 (IntKind.i64.wrap (x2947 + 4)))) * 2 ^ (min (8 : Int).toNat IntKind.u32.bits)))).toNat) ||| BitVec.ofInt IntKind.u32.bits (IntKind.u32.wrap (nth a1779 (IntKind.i64.wrap (x2947 + 5))))).toNat))), .int .i64 (IntKind.i64.wrap (nth a1779 (IntKind.i64.wrap (x2947 + 6))))] 23 :: OSf E_api_Instr 23 (.slice A2944 l2943.length c2945) l2943 :: l) hf := hS
            refine RL.nil ?_
            refine RQ.then_n ?_
            refine RC.region ?_
            refine RL.s (Vl.fieldAddr (a'' := ⟨b3113, 2, none⟩) Tryd.underlying23 rfl Tryd.sizeOf3 rfl rfl) rfl ?_
            refine RL.e0 (OW.store (cs := [.int .i64 (IntKind.i64.wrap (nth a1779 x2947)), .int .i64 (IntKind.i64.wrap (IntKind.i32.wrap (IntKind.u32.wrap (BitVec.ofInt IntKind.u32.bits (IntKind.u32.wrap (BitVec.ofInt IntKind.u32.bits (IntKind.u32.wrap (BitVec.ofInt IntKind.u32.bits (IntKind.u32.wrap ((IntKind.u32.wrap (nth a1779 (IntKind.i64.wrap (x2947 + 2)))) * 2 ^ (min (24 : Int).toNat IntKind.u32.bits))) ||| BitVec.ofInt IntKind.u32.bits (IntKind.u32.wrap ((IntKind.u32.wrap (nth a1779 (IntKind.i64.wrap (x2947 + 3)))) * 2 ^ (min (16 : Int).toNat IntKind.u32.bits)))).toNat) ||| BitVec.ofInt IntKind.u32.bits (IntKind.u32.wrap ((IntKind.u32.wrap (nth a1779 (IntKind.i64.wrap (x2947 + 4)))) * 2 ^ (min (8 : Int).toNat IntKind.u32.bits)))).toNat) ||| BitVec.ofInt IntKind.u32.bits (IntKind.u32.wrap (nth a1779 (IntKind.i64.wrap (x2947 + 5))))).toNat))), .int .i64 (IntKind.i64.wrap (IntKind.i32.wrap (IntKind.u32.wrap (BitVec.ofInt IntKind.u32.bits (IntKind.u32.wrap (BitVec.ofInt IntKind.u32.bits (IntKind.u32.wrap (BitVec.ofInt IntKind.u32.bits (IntKind.u32.wrap ((IntKind.u32.wrap (nth a1779 (IntKind.i64.wrap (x2947 + 2)))) * 2 ^ (min (24 : Int).toNat IntKind.u32.bits))) ||| BitVec.ofInt IntKind.u32.bits (IntKind.u32.wrap ((IntKind.u32.wrap (nth a1779 (IntKind.i64.wrap (x2947 + 3)))) * 2 ^ (min (16 : Int).toNat IntKind.u32.bits)))).toNat) ||| BitVec.ofInt IntKind.u32.bits (IntKind.u32.wrap ((IntKind.u32.wrap (nth a1779 (IntKind.i64.wrap (x2947 + 4)))) * 2 ^ (min (8 : Int).toNat IntKind.u32.bits)))).toNat) ||| BitVec.ofInt IntKind.u32.bits (IntKind.u32.wrap (nth a1779 (IntKind.i64.wrap (x2947 + 5))))).toNat))), .int .i64 (IntKind.i64.wrap (nth a1779 (IntKind.i64.wrap (x2947 + 6))))]) (vs := [.int .i64 0]) (l' := Cl b3113 [.int .i64 (IntKind.i64.wrap (nth a1779 x2947)), .int .i64 (IntKind.i64.wrap (IntKind.i32.wrap (IntKind.u32.wrap (BitVec.ofInt IntKind.u32.bits (IntKind.u32.wrap (BitVec.ofInt IntKind.u32.bits (IntKind.u32.wrap (BitVec.ofInt IntKind.u32.bits (IntKind.u32.wrap ((IntKind.u32.wrap (nth a1779 (IntKind.i64.wrap (x2947 + 2)))) * 2 ^ (min (24 : Int).toNat IntKind.u32.bits))) ||| BitVec.ofInt IntKind.u32.bits (IntKind.u32.wrap ((IntKind.u32.wrap (nth a1779 (IntKind.i64.wrap (x2947 + 3)))) * 2 ^ (min (16 : Int).toNat IntKind.u32.bits)))).toNat) ||| BitVec.ofInt IntKind.u32.bits (IntKind.u32.wrap ((IntKind.u32.wrap (nth a1779 (IntKind.i64.wrap (x2947 + 4)))) * 2 ^ (min (8 : Int).toNat IntKind.u32.bits)))).toNat) ||| BitVec.ofInt IntKind.u32.bits (IntKind.u32.wrap (nth a1779 (IntKind.i64.wrap (x2947 + 5))))).toNat))), .int .i64 0, .int .i64 (IntKind.i64.wrap (nth a1779 (IntKind.i64.wrap (x2947 + 6))))] 23 :: OSf E_api_Instr 23 (.slice A2944 l2943.length c2945) l2943 :: l) 0 hS rfl rfl rfl rfl Tryd.sizeOf3 rfl rfl rfl rfl) rfl ?_
            rintro _ w ⟨rfl, hS⟩
            have hS : St B w (Cl b3113 [.int .i64 (IntKind.i64.wrap (nth a1779 x2947)), .int .i64 (IntKind.i64.wrap (IntKind.i32.wrap (IntKind.u32.wrap (BitVec.ofInt IntKind.u32.bits (IntKind.u32.wrap (BitVec.ofInt IntKind.u32.bits (IntKind.u32.wrap (BitVec.ofInt IntKind.u32.bits (IntKind.u32.wrap ((IntKind.u32.wrap (nth a1779 (IntKind.i64.wrap (x2947 + 2)))) * 2 ^ (min (24 : Int).toNat IntKind.u32.bits))) ||| BitVec.ofInt IntKind.u32.bits (IntKind.u32.wrap ((IntKind.u32.wrap (nth a1779 (IntKind.i64.wrap (x2947 + 3)))) * 2 ^ (min (16 : Int).toNat IntKind.u32.bits)))).toNat) ||| BitVec.ofInt IntKind.u32.bits (IntKind.u32.wrap ((IntKind.u32.wrap (nth a1779 (IntKind.i64.wrap (x2947 + 4)))) * 2 ^ (min (8 : Int).toNat IntKind.u32.bits)))).toNat) ||| BitVec.ofInt IntKind.u32.bits (IntKind.u32.wrap (nth a1779 (IntKind.i64.wrap (x2947 + 5))))).toNat))), .int .i64 0, .int .i64 (IntKind.i64.wrap (nth a1779 (IntKind.i64.wrap (x2947 + 6))))] 23 :: OSf E_api_Instr 23 (.slice A2944 l2943.length c2945) l2943 :: l) hf := hS
            refine RL.nil ?_
            exact fun a ha => ⟨(IntKind.i64.wrap (IntKind.i32.wrap (IntKind.u32.wrap (BitVec.ofInt IntKind.u32.bits (IntKind.u32.wrap (BitVec.ofInt IntKind.u32.bits (IntKind.u32.wrap (BitVec.ofInt IntKind.u32.bits (IntKind.u32.wrap ((IntKind.u32.wrap (nth a1779 (IntKind.i64.wrap (x2947 + 2)))) * 2 ^ (min (24 : Int).toNat IntKind.u32.bits))) ||| BitVec.ofInt IntKind.u32.bits (IntKind.u32.wrap ((IntKind.u32.wrap (nth a1779 (IntKind.i64.wrap (x2947 + 3)))) * 2 ^ (min (16 : Int).toNat IntKind.u32.bits)))).toNat) ||| BitVec.ofInt IntKind.u32.bits (IntKind.u32.wrap ((IntKind.u32.wrap (nth a1779 (IntKind.i64.wrap (x2947 + 4)))) * 2 ^ (min (8 : Int).toNat IntKind.u32.bits)))).toNat) ||| BitVec.ofInt IntKind.u32.bits (IntKind.u32.wrap (nth a1779 (IntKind.i64.wrap (x2947 + 5))))).toNat)), 0, (!decide (IntKind.i64.wrap (nth a1779 (IntKind.i64.wrap (x2947 + 1))) = 0))), (IntKind.i64.wrap (IntKind.i32.wrap (IntKind.u32.wrap (BitVec.ofInt IntKind.u32.bits (IntKind.u32.wrap (BitVec.ofInt IntKind.u32.bits (IntKind.u32.wrap (BitVec.ofInt IntKind.u32.bits (IntKind.u32.wrap ((IntKind.u32.wrap (nth a1779 (IntKind.i64.wrap (x2947 + 2)))) * 2 ^ (min (24 : Int).toNat IntKind.u32.bits))) ||| BitVec.ofInt IntKind.u32.bits (IntKind.u32.wrap ((IntKind.u32.wrap (nth a1779 (IntKind.i64.wrap (x2947 + 3)))) * 2 ^ (min (16 : Int).toNat IntKind.u32.bits)))).toNat) ||| BitVec.ofInt IntKind.u32.bits (IntKind.u32.wrap ((IntKind.u32.wrap (nth a1779 (IntKind.i64.wrap (x2947 + 4)))) * 2 ^ (min (8 : Int).toNat IntKind.u32.bits)))).toNat) ||| BitVec.ofInt IntKind.u32.bits (IntKind.u32.wrap (nth a1779 (IntKind.i64.wrap (x2947 + 5))))).toNat))), 0, (!decide (IntKind.i64.wrap (nth a1779 (IntKind.i64.wrap (x2947 + 1))) = 0)), rfl, ha.to ⟨rfl, rfl, rfl, rfl, rfl, trivial⟩, ((hS.pull 0 rfl rfl).pull 1 rfl rfl), h⟩
          case neg =>
            have h := h.neg hc3149
            refine RC.re 80 rfl (congrArg Value.bool (decide_eq_false hc3149)) ?_
            refine RC.condF rfl ?_
            refine RC.skip ?_
            exact fun a ha => ⟨(IntKind.i64.wrap (nth a1779 (IntKind.i64.wrap (x2947 + 1))), IntKind.i64.wrap (IntKind.i32.wrap (IntKind.u32.wrap (BitVec.ofInt IntKind.u32.bits (IntKind.u32.wrap (BitVec.ofInt IntKind.u32.bits (IntKind.u32.wrap (BitVec.ofInt IntKind.u32.bits (IntKind.u32.wrap ((IntKind.u32.wrap (nth a1779 (IntKind.i64.wrap (x2947 + 2)))) * 2 ^ (min (24 : Int).toNat IntKind.u32.bits))) ||| BitVec.ofInt IntKind.u32.bits (IntKind.u32.wrap ((IntKind.u32.wrap (nth a1779 (IntKind.i64.wrap (x2947 + 3)))) * 2 ^ (min (16 : Int).toNat IntKind.u32.bits)))).toNat) ||| BitVec.ofInt IntKind.u32.bits (IntKind.u32.wrap ((IntKind.u32.wrap (nth a1779 (IntKind.i64.wrap (x2947 + 4)))) * 2 ^ (min (8 : Int).toNat IntKind.u32.bits)))).toNat) ||| BitVec.ofInt IntKind.u32.bits (IntKind.u32.wrap (nth a1779 (IntKind.i64.wrap (x2947 + 5))))).toNat)), false), (IntKind.i64.wrap (nth a1779 (IntKind.i64.wrap (x2947 + 1)))), (IntKind.i64.wrap (IntKind.i32.wrap (IntKind.u32.wrap (BitVec.ofInt IntKind.u32.bits (IntKind.u32.wrap (BitVec.ofInt IntKind.u32.bits (IntKind.u32.wrap (BitVec.ofInt IntKind.u32.bits (IntKind.u32.wrap ((IntKind.u32.wrap (nth a1779 (IntKind.i64.wrap (x2947 + 2)))) * 2 ^ (min (24 : Int).toNat IntKind.u32.bits))) ||| BitVec.ofInt IntKind.u32.bits (IntKind.u32.wrap ((IntKind.u32.wrap (nth a1779 (IntKind.i64.wrap (x2947 + 3)))) * 2 ^ (min (16 : Int).toNat IntKind.u32.bits)))).toNat) ||| BitVec.ofInt IntKind.u32.bits (IntKind.u32.wrap ((IntKind.u32.wrap (nth a1779 (IntKind.i64.wrap (x2947 + 4)))) * 2 ^ (min (8 : Int).toNat IntKind.u32.bits)))).toNat) ||| BitVec.ofInt IntKind.u32.bits (IntKind.u32.wrap (nth a1779 (IntKind.i64.wrap (x2947 + 5))))).toNat))), false, rfl, ha.to ⟨rfl, rfl, rfl, rfl, rfl, trivial⟩, ((hS.pull 0 rfl rfl).pull 1 rfl rfl), h⟩
      case neg =>
        have h := h.neg hc3051
        refine RC.re 24 rfl (congrArg Value.bool (decide_eq_false hc3051)) ?_
        refine RC.condF rfl ?_
        refine RC.exit ?_
        refine RQ.exitT ?_
        have h := h.inrS
        refine RQ.exitT ?_
        refine RQ.inB_hit ?_
        refine RQ.then_n ?_
        refine RC.seq ?_
        refine RC.region ?_
        refine RL.s (Vl.move rfl) rfl ?_
        refine RL.s (Vl.move rfl) rfl ?_
        refine RL.s (Vl.lenSl Tryd.underlying28 rfl) rfl ?_
        refine RL.s (Vl.assign rfl) rfl ?_
        refine RL.s (Vl.assign rfl) rfl ?_
        refine RL.s (Vl.assign rfl) rfl ?_
        refine RL.nil ?_
        refine RQ.then_n ?_
        refine RC.ret ?_
        have e := h.some
        subst e
        refine RQ.ret0 (vs := [.slice A2944 l2943.length c2945, .int .i64 (a1779.length : Int), .int .i64 0]) Tryd.results15 ⟨rfl, rfl, rfl, trivial⟩ ?_
        exact ⟨A2944, c2945, rfl, hS⟩
    case neg =>
      have h := h.neg hc2536
      refine RC.re 16 rfl (congrArg Value.bool (notdec_neg hc2536)) ?_
      refine RC.condT rfl ?_
      refine RC.seq ?_
      refine RC.region ?_
      refine RL.s (Vl.move rfl) rfl ?_
      refine RL.s (Vl.lenSl Tryd.underlying28 rfl) rfl ?_
      refine RL.s (Vl.quo rfl rfl (by decide)) rfl ?_
      refine RL.s (Vl.int rfl rfl rfl) rfl ?_
      refine RL.s (Vl.assign rfl) rfl ?_
      refine RL.s (Vl.assign rfl) rfl ?_
      refine RL.s (Vl.assign rfl) rfl ?_
      refine RL.nil ?_
      refine RQ.then_n ?_
      refine RC.ret ?_
      refine RQ.ret ?_
      have hS := hS.nilSl E_api_Instr 23
      have e := h.some
      subst e
      refine RQ.ret0 (vs := [.slice none 0 0, .int .i64 (IntKind.i64.wrap ((IntKind.i64.wrap (Int.tdiv (a1779.length : Int) 9)) * 9)), .int .i64 3]) Tryd.results15 ⟨rfl, rfl, rfl, trivial⟩ ?_
      exact ⟨none, 0, rfl, hS⟩

/-! ### isochron/isochronlaw03.same: function 16 -/
noncomputable def isochronlaw03vsame.l2b (a3161 : List api_Instr) (a3165 : List api_Instr) : Int → Option ((Int) ⊕ (Bool))
  | (x3206) => (if x3206 < (a3161.length : Int) then (if 0 ≤ x3206 then (if x3206 < (a3165.length : Int) then (if nth a3161 x3206 = nth a3165 x3206 then some (.inl (IntKind.i64.wrap (x3206 + 1))) else some (.inr false)) else none) else none) else some (.inr true))
noncomputable def isochronlaw03vsame.l2 (a3161 : List api_Instr) (a3165 : List api_Instr) (s : Int) : Option (Bool) := loopR (isochronlaw03vsame.l2b a3161 a3165) s
noncomputable def isochronlaw03vsame.f (a3161 : List api_Instr) (a3165 : List api_Instr) : Option (Bool) := (if (a3161.length : Int) = (a3165.length : Int) then isochronlaw03vsame.l2 a3161 a3165 (0) else some false)
set_option maxRecDepth 100000 in
set_option maxHeartbeats 4000000 in
theorem isochronlaw03vsame.ok {B : Base} {w : World} {l : List HProp} {hf : Hp} (a3161 : List api_Instr) (a3165 : List api_Instr) (A3162 : Option Addr) (c3163 : Nat) (A3166 : Option Addr) (c3167 : Nat) (hr3164 : SlR E_api_Instr.rep hf A3162 c3163 a3161) (hr3168 : SlR E_api_Instr.rep hf A3166 c3167 a3165) (r : Bool) (h : isochronlaw03vsame.f a3161 a3165 = some r) (hS : St B w (l) hf) :
    Calls Tryd.prog 16 #[.slice A3162 a3161.length c3163, .slice A3166 a3165.length c3167] w (Ret fun v w => v = .bool r ∧ St B w (l) hf) := by
  have h := Holds.of h
  refine enter (args := [.slice A3162 a3161.length c3163, .slice A3166 a3165.length c3167]) Tryd.func16 rfl Tryd.ntmps16 (Nat.le_of_ble_eq_true rfl) ?_
  refine RC.seq ?_
  refine RC.region ?_
  refine RL.s (Vl.assign rfl) rfl ?_
  refine RL.nil ?_
  refine RQ.then_n ?_
  refine RC.seq ?_
  refine RC.seq ?_
  refine RC.region ?_
  refine RL.s (Vl.move rfl) rfl ?_
  refine RL.s (Vl.lenSl Tryd.underlying29 rfl) rfl ?_
  refine RL.s (Vl.move rfl) rfl ?_
  refine RL.s (Vl.lenSl Tryd.underlying29 rfl) rfl ?_
  refine RL.s (Vl.int rfl rfl rfl) rfl ?_
  refine RL.nil ?_
  refine RQ.then_n ?_
  by_cases hc3198 : (a3161.length : Int) = (a3165.length : Int)
  case pos =>
    have h := h.pos hc3198
    refine RC.re 10 rfl (congrArg Value.bool (notdec_pos hc3198)) ?_
    refine RC.condF rfl ?_
    refine RC.skip ?_
    refine RQ.then_n ?_
    refine RC.seq ?_
    refine RC.seq ?_
    refine RC.region ?_
    refine RL.s (Vl.assign rfl) rfl ?_
    refine RL.nil ?_
    refine RQ.then_n ?_
    refine RC.block ?_
    refine fun a ha => RC.loop (N := 26) (body := (isochronlaw03vsame.l2b a3161 a3165)) (φ := (· = r)) (fun (s : Int) a w => ∃ (x3206 : Int), s = (x3206) ∧ Has 26 [(0, .slice A3162 a3161.length c3163), (1, .slice A3166 a3165.length c3167), (5, .int .i64 x3206)] a ∧ St B w (l) hf) ?_ (s0 := (0)) h ⟨0, rfl, ha.to ⟨rfl, rfl, rfl, trivial⟩, hS⟩
    rintro G3216 x3206 a w ⟨_, rfl, ha, hS⟩ h
    revert a
    show RC _ _ _ _ _ _
    refine RC.seq ?_
    refine RC.seq ?_
    refine RC.region ?_
    refine RL.s (Vl.move rfl) rfl ?_
    refine RL.s (Vl.move rfl) rfl ?_
    refine RL.s (Vl.lenSl Tryd.underlying29 rfl) rfl ?_
    refine RL.s (Vl.int rfl rfl rfl) rfl ?_
    refine RL.nil ?_
    refine RQ.then_n ?_
    by_cases hc3218 : x3206 < (a3161.length : Int)
    case pos =>
      have h := h.pos hc3218
      refine RC.re 14 rfl (congrArg Value.bool (decide_eq_true hc3218)) ?_
      refine RC.condT rfl ?_
      refine RC.skip ?_
      refine RQ.then_n ?_
      refine RC.seq ?_
      refine RC.block ?_
      refine RC.seq ?_
      refine RC.plan [(0, true), (1, true), (2, true), (3, true), (4, true), (5, false), (6, false), (7, false), (8, false)] [] (fun w => St B w (l) hf) follows rfl (by kernel_rfl) (NoTmp.then (NoTmp.block (NoTmp.then (NoTmp.then (NoTmp.block (NoTmp.then NoTmp.body)))))) ?_
      have hS := hS.same (w' := { w with drawn := w.drawn + 1 }) rfl rfl
      revert hS
      generalize { w with drawn := w.drawn + 1 } = w
      intro hS
      refine RP.s 0 rfl rfl hS (fun w hS => Vl.move rfl) rfl ?_
      refine RP.s 1 rfl rfl hS (fun w hS => Vl.move rfl) rfl ?_
      obtain ⟨hq3222, h⟩ := h.req
      refine RP.s 2 rfl rfl hS (fun w hS => Vl.indexAddr Tryd.underlying29 Tryd.sizeOf23 rfl rfl ((hr3164.2.world hS.sub).adr hq3222 hc3218) hq3222 hc3218 rfl) rfl ?_
      refine RP.s 3 rfl rfl hS (fun w hS => Vl.loadA Tryd.isAgg23 Tryd.sizeOf23 rfl rfl ((hr3164.2.world hS.sub).cells hq3222 hc3218)) rfl ?_
      refine RP.s 4 rfl rfl hS (fun w hS => Vl.move rfl) rfl ?_
      refine RP.v1 5 rfl (fun _ => hS) (Vl.move rfl) rfl rfl ?_
      obtain ⟨hq3223, h⟩ := h.req
      refine RP.v1 6 rfl (fun _ => hS) (Vl.indexAddr Tryd.underlying29 Tryd.sizeOf23 rfl rfl ((hr3168.2.world hS.sub).adr hq3222 hq3223) hq3222 hq3223 rfl) rfl rfl ?_
      refine RP.v1 7 rfl (fun _ => hS) (Vl.loadA Tryd.isAgg23 Tryd.sizeOf23 rfl rfl ((hr3168.2.world hS.sub).cells hq3222 hq3223)) rfl rfl ?_
      refine RP.v1 8 rfl (fun _ => hS) (Vl.neqS (run_neq_api_Instr _ _ (nth a3161 x3206) (nth a3165 x3206)) rfl rfl) rfl rfl ?_
      refine RP.nil ?_
      refine RQ.then_n ?_
      by_cases hc3224 : nth a3161 x3206 = nth a3165 x3206
      case pos =>
        have h := h.pos hc3224
        refine RC.re 25 rfl (congrArg Value.bool (notdec_pos hc3224)) ?_
        refine RC.condF rfl ?_
        refine RC.skip ?_
        refine RQ.inB_n ?_
        refine RQ.then_n ?_
        refine RC.region ?_
        refine RL.s (Vl.move rfl) rfl ?_
        refine RL.s (Vl.int rfl rfl rfl) rfl ?_
        refine RL.s (Vl.assign rfl) rfl ?_
        refine RL.nil ?_
        exact fun a ha => ⟨(IntKind.i64.wrap (x3206 + 1)), ⟨(IntKind.i64.wrap (x3206 + 1)), rfl, ha.to ⟨rfl, rfl, rfl, trivial⟩, hS⟩, h.some⟩
      case neg =>
        have h := h.neg hc3224
        refine RC.re 25 rfl (congrArg Value.bool (notdec_neg hc3224)) ?_
        refine RC.condT rfl ?_
        refine RC.seq ?_
        refine RC.region ?_
        refine RL.s (Vl.assign rfl) rfl ?_
        refine RL.nil ?_
        refine RQ.then_n ?_
        refine RC.ret ?_
        refine RQ.inB_ret ?_
        refine RQ.ret ?_
        have h := h.inrS
        refine RQ.ret ?_
        refine RQ.inB_ret ?_
        refine RQ.ret ?_
        have e := h.some
        subst e
        refine RQ.ret0 (vs := [.bool false]) Tryd.results16 ⟨rfl, trivial⟩ ?_
        exact ⟨rfl, hS⟩
    case neg =>
      have h := h.neg hc3218
      refine RC.re 14 rfl (congrArg Value.bool (decide_eq_false hc3218)) ?_
      refine RC.condF rfl ?_
      refine RC.exit ?_
      refine RQ.exitT ?_
      have h := h.inrS
      refine RQ.exitT ?_
      refine RQ.inB_hit ?_
      refine RQ.then_n ?_
      refine RC.seq ?_
      refine RC.region ?_
      refine RL.s (Vl.assign rfl) rfl ?_
      refine RL.nil ?_
      refine RQ.then_n ?_
      refine RC.ret ?_
      have e := h.some
      subst e
      refine RQ.ret0 (vs := [.bool true]) Tryd.results16 ⟨rfl, trivial⟩ ?_
      exact ⟨rfl, hS⟩
  case neg =>
    have h := h.neg hc3198
    refine RC.re 10 rfl (congrArg Value.bool (notdec_neg hc3198)) ?_
    refine RC.condT rfl ?_
    refine RC.seq ?_
    refine RC.region ?_
    refine RL.s (Vl.assign rfl) rfl ?_
    refine RL.nil ?_
    refine RQ.then_n ?_
    refine RC.ret ?_
    refine RQ.ret ?_
    have e := h.some
    subst e
    refine RQ.ret0 (vs := [.bool false]) Tryd.results16 ⟨rfl, trivial⟩ ?_
    exact ⟨rfl, hS⟩

/-! ### isochron/isochronlaw03.CodeDecodes: function 5 -/
noncomputable def isochronlaw03vCodeDecodes.f (a564 : List Int) : Option (Bool) := (if (([] : List Int).length + a564.length) * 1 ≤ 140737488355328 then ((code_Decode.f (([] : List Int) ++ a564)).bind fun (y3254, y3255, y3256) => ((isochronref03vDecode.f a564).bind fun (y3262, y3263, y3264) => ((isochronlaw03vsame.f y3254 y3262).bind fun t3276 => (if t3276 = true then (if y3255 = y3263 then (if y3256 = y3264 then ((isochronlaw03vawake.f).bind fun t3281 => some t3281) else some false) else some false) else some false)))) else none)
set_option maxRecDepth 100000 in
set_option maxHeartbeats 4000000 in
theorem isochronlaw03vCodeDecodes.ok {B : Base} {w : World} {l : List HProp} {hf : Hp} (a564 : List Int) (A565 : Option Addr) (c566 : Nat) (hr567 : SlR ((FI .u8).rep) hf A565 c566 a564) (hT : TabH Tryd.prog hf) (r : Bool) (h : isochronlaw03vCodeDecodes.f a564 = some r) (hS : St B w (l) hf) :
    Calls Tryd.prog 5 #[.slice A565 a564.length c566] w (Ret fun v w => v = .bool r ∧ St B w (l) hf) := by
  have h := Holds.of h
  refine enter (args := [.slice A565 a564.length c566]) Tryd.func5 rfl Tryd.ntmps5 (Nat.le_of_ble_eq_true rfl) ?_
  refine RC.seq ?_
  refine RC.region ?_
  refine RL.s (Vl.assign rfl) rfl ?_
  refine RL.nil ?_
  refine RQ.then_n ?_
  refine RC.seq ?_
  refine RC.region ?_
  refine RL.e (OW.build0 (E := (FI .u8)) hS Tryd.underlying28 Tryd.zeroValue5 Tryd.sizeOf5) rfl rfl ?_
  rintro _ w ⟨b3242, rfl, hS⟩
  have hS : St B w (OSf (FI .u8) 5 (.slice (some ⟨b3242, 0, none⟩) ([] : List Int).length 0) ([] : List Int) :: l) hf := hS
  refine RL.s (Vl.move rfl) rfl ?_
  obtain ⟨hq3243, h⟩ := h.req
  refine RL.e (OW.appendV (E := (FI .u8)) (xs := ([] : List Int)) (ys := a564) 0 hS rfl Tryd.underlying28 Tryd.type5 rfl rfl rfl rfl (by decide) (by decide) rfl rfl (hr567.2.world hS.sub) hq3243 rfl) rfl rfl ?_
  rintro v3247 w hS
  obtain ⟨A3244, c3245, rfl, _⟩ := hS.osShape 0 rfl
  have hS : St B w (OSf (FI .u8) 5 (.slice A3244 (([] : List Int) ++ a564).length c3245) (([] : List Int) ++ a564) :: l) hf := hS
  obtain ⟨hf3251, hs3249, hS, hr3248, hb3250⟩ := St.lendSl hS
  obtain ⟨t3252, hg3253, h⟩ := h.bind
  obtain ⟨y3254, y3255, y3256⟩ := t3252
  refine RL.e (OW.callF (ls := [.tmp 12]) rfl Tryd.call14 (code_Decode.ok (([] : List Int) ++ a564) A3244 c3245 hr3248 _ hg3253 hS)) rfl rfl ?_
  rintro _ w ⟨A3257, c3258, rfl, hS⟩
  have hS := hb3250 _ _ hS
  have hS : St B w (OSf (FI .u8) 5 (.slice A3244 (([] : List Int) ++ a564).length c3245) (([] : List Int) ++ a564) :: OSf E_api_Instr 23 (.slice A3257 y3254.length c3258) y3254 :: l) hf := hS
  refine RL.s (Vl.move rfl) rfl ?_
  refine RL.s (Vl.extract rfl rfl) rfl ?_
  refine RL.s (Vl.extract rfl rfl) rfl ?_
  refine RL.s (Vl.extract rfl rfl) rfl ?_
  refine RL.s (Vl.assign rfl) rfl ?_
  refine RL.s (Vl.assign rfl) rfl ?_
  refine RL.s (Vl.assign rfl) rfl ?_
  refine RL.nil ?_
  refine RQ.then_n ?_
  refine RC.seq ?_
  refine RC.region ?_
  refine RL.s (Vl.move rfl) rfl ?_
  obtain ⟨t3260, hg3261, h⟩ := h.bind
  obtain ⟨y3262, y3263, y3264⟩ := t3260
  refine RL.e (OW.callF (ls := [.tmp 18]) rfl Tryd.call15 (isochronref03vDecode.ok a564 A565 c566 hr567 _ hg3261 hS)) rfl rfl ?_
  rintro _ w ⟨A3265, c3266, rfl, hS⟩
  have hS : St B w (OSf E_api_Instr 23 (.slice A3265 y3262.length c3266) y3262 :: OSf (FI .u8) 5 (.slice A3244 (([] : List Int) ++ a564).length c3245) (([] : List Int) ++ a564) :: OSf E_api_Instr 23 (.slice A3257 y3254.length c3258) y3254 :: l) hf := hS
  refine RL.s (Vl.move rfl) rfl ?_
  refine RL.s (Vl.extract rfl rfl) rfl ?_
  refine RL.s (Vl.extract rfl rfl) rfl ?_
  refine RL.s (Vl.extract rfl rfl) rfl ?_
  refine RL.s (Vl.assign rfl) rfl ?_
  refine RL.s (Vl.assign rfl) rfl ?_
  refine RL.s (Vl.assign rfl) rfl ?_
  refine RL.nil ?_
  refine RQ.then_n ?_
  refine RC.seq ?_
  refine RC.region ?_
  refine RL.s (Vl.move rfl) rfl ?_
  refine RL.s (Vl.move rfl) rfl ?_
  obtain ⟨hf3271, hs3269, hS, hr3268, hb3270⟩ := St.lendSl (((hS.pull 1 rfl rfl).pull 1 rfl rfl).pull 2 rfl rfl)
  obtain ⟨hf3275, hs3273, hS, hr3272, hb3274⟩ := St.lendSl hS
  obtain ⟨t3276, hg3277, h⟩ := h.bind
  refine RL.e (OW.callF (ls := [.tmp 23, .tmp 24]) rfl Tryd.call16 (isochronlaw03vsame.ok y3254 y3262 A3257 c3258 A3265 c3266 (hr3268.mono hs3273) hr3272 _ hg3277 hS)) rfl rfl ?_
  rintro _ w ⟨rfl, hS⟩
  have hS := hb3274 _ _ hS
  have hS := hb3270 _ _ hS
  have hS : St B w (OSf E_api_Instr 23 (.slice A3257 y3254.length c3258) y3254 :: OSf E_api_Instr 23 (.slice A3265 y3262.length c3266) y3262 :: OSf (FI .u8) 5 (.slice A3244 (([] : List Int) ++ a564).length c3245) (([] : List Int) ++ a564) :: l) hf := hS
  refine RL.s (Vl.move rfl) rfl ?_
  by_cases hc3278 : t3276 = true
  case pos =>
    have h := h.pos hc3278
    refine RL.re 26 rfl (congrArg Value.bool (id hc3278)) ?_
    refine RL.sg (Vl.move rfl) rfl rfl ?_
    refine RL.sg (Vl.move rfl) rfl rfl ?_
    refine RL.sg (Vl.int rfl rfl rfl) rfl rfl ?_
    refine RL.s (Vl.pickT rfl rfl) rfl ?_
    refine RL.s (Vl.move rfl) rfl ?_
    by_cases hc3279 : y3255 = y3263
    case pos =>
      have h := h.pos hc3279
      refine RL.re 31 rfl (congrArg Value.bool (decide_eq_true hc3279)) ?_
      refine RL.sg (Vl.move rfl) rfl rfl ?_
      refine RL.sg (Vl.move rfl) rfl rfl ?_
      refine RL.sg (Vl.int rfl rfl rfl) rfl rfl ?_
      refine RL.s (Vl.pickT rfl rfl) rfl ?_
      refine RL.s (Vl.move rfl) rfl ?_
      by_cases hc3280 : y3256 = y3264
      case pos =>
        have h := h.pos hc3280
        refine RL.re 36 rfl (congrArg Value.bool (decide_eq_true hc3280)) ?_
        obtain ⟨t3281, hg3282, h⟩ := h.bind
        refine RL.e (OW.callF (ls := []) rfl Tryd.call13 (isochronlaw03vawake.ok hT _ hg3282 hS)) rfl rfl ?_
        rintro _ w ⟨rfl, hS⟩
        have hS : St B w (OSf E_api_Instr 23 (.slice A3257 y3254.length c3258) y3254 :: OSf E_api_Instr 23 (.slice A3265 y3262.length c3266) y3262 :: OSf (FI .u8) 5 (.slice A3244 (([] : List Int) ++ a564).length c3245) (([] : List Int) ++ a564) :: l) hf := hS
        refine RL.s (Vl.pickT rfl rfl) rfl ?_
        refine RL.s (Vl.assign rfl) rfl ?_
        refine RL.nil ?_
        refine RQ.then_n ?_
        refine RC.ret ?_
        have e := h.some
        subst e
        refine RQ.ret0 (vs := [.bool t3281]) Tryd.results5 ⟨rfl, trivial⟩ ?_
        exact ⟨rfl, (((hS.dropAt 0 rfl).dropAt 0 rfl).dropAt 0 rfl)⟩
      case neg =>
        have h := h.neg hc3280
        refine RL.re 36 rfl (congrArg Value.bool (decide_eq_false hc3280)) ?_
        refine RL.nn rfl rfl ?_
        refine RL.s (Vl.pickF rfl rfl) rfl ?_
        refine RL.s (Vl.assign rfl) rfl ?_
        refine RL.nil ?_
        refine RQ.then_n ?_
        refine RC.ret ?_
        have e := h.some
        subst e
        refine RQ.ret0 (vs := [.bool false]) Tryd.results5 ⟨rfl, trivial⟩ ?_
        exact ⟨rfl, (((hS.dropAt 0 rfl).dropAt 0 rfl).dropAt 0 rfl)⟩
    case neg =>
      have h := h.neg hc3279
      refine RL.re 31 rfl (congrArg Value.bool (decide_eq_false hc3279)) ?_
      refine RL.nn rfl rfl ?_
      refine RL.nn rfl rfl ?_
      refine RL.nn rfl rfl ?_
      refine RL.s (Vl.pickF rfl rfl) rfl ?_
      refine RL.s (Vl.move rfl) rfl ?_
      refine RL.nn rfl rfl ?_
      refine RL.s (Vl.pickF rfl rfl) rfl ?_
      refine RL.s (Vl.assign rfl) rfl ?_
      refine RL.nil ?_
      refine RQ.then_n ?_
      refine RC.ret ?_
      have e := h.some
      subst e
      refine RQ.ret0 (vs := [.bool false]) Tryd.results5 ⟨rfl, trivial⟩ ?_
      exact ⟨rfl, (((hS.dropAt 0 rfl).dropAt 0 rfl).dropAt 0 rfl)⟩
  case neg =>
    have h := h.neg hc3278
    refine RL.re 26 rfl (congrArg Value.bool (eq_false_of hc3278)) ?_
    refine RL.nn rfl rfl ?_
    refine RL.nn rfl rfl ?_
    refine RL.nn rfl rfl ?_
    refine RL.s (Vl.pickF rfl rfl) rfl ?_
    refine RL.s (Vl.move rfl) rfl ?_
    refine RL.nn rfl rfl ?_
    refine RL.nn rfl rfl ?_
    refine RL.nn rfl rfl ?_
    refine RL.s (Vl.pickF rfl rfl) rfl ?_
    refine RL.s (Vl.move rfl) rfl ?_
    refine RL.nn rfl rfl ?_
    refine RL.s (Vl.pickF rfl rfl) rfl ?_
    refine RL.s (Vl.assign rfl) rfl ?_
    refine RL.nil ?_
    refine RQ.then_n ?_
    refine RC.ret ?_
    have e := h.some
    subst e
    refine RQ.ret0 (vs := [.bool false]) Tryd.results5 ⟨rfl, trivial⟩ ?_
    exact ⟨rfl, (((hS.dropAt 0 rfl).dropAt 0 rfl).dropAt 0 rfl)⟩

/-! ### isochron/code.check: function 27 -/
noncomputable def code_check.l2b (a3291 : List api_Instr) : Int → Option ((Int) ⊕ ((Int) ⊕ (Int × Int) ⊕ (Unit)))
  | (x3372) => (if x3372 < (a3291.length : Int) then (if 0 ≤ x3372 then ((code_may.f (nth a3291 x3372) (a3291.length : Int)).bind fun t3406 => (if t3406 = true then some (.inl (IntKind.i64.wrap (x3372 + 1))) else some (.inr (.inr (.inl (x3372, 130)))))) else none) else some (.inr (.inr (.inr (())))))
noncomputable def code_check.l2 (a3291 : List api_Instr) (s : Int) : Option ((Int) ⊕ (Int × Int) ⊕ (Unit)) := loopR (code_check.l2b a3291) s
noncomputable def code_check.f (a3291 : List api_Instr) : Option ((Int) ⊕ (Int × Int) ⊕ (Unit)) := (if 256 < (a3291.length : Int) then some (.inl 2) else code_check.l2 a3291 (0))
set_option maxRecDepth 100000 in
set_option maxHeartbeats 4000000 in
theorem code_check.ok {B : Base} {w : World} {l : List HProp} {hf : Hp} (a3291 : List api_Instr) (A3292 : Option Addr) (c3293 : Nat) (hr3294 : SlR E_api_Instr.rep hf A3292 c3293 a3291) (r : (Int) ⊕ (Int × Int) ⊕ (Unit)) (h : code_check.f a3291 = some r) (hS : St B w (l) hf) :
    Calls Tryd.prog 27 #[.slice A3292 a3291.length c3293] w (Ret fun v w => match r with | .inl r_ => v = .iface 30 (.int .i64 r_) ∧ St B w (l) hf | .inr (.inl r_) => ∃ (b_1 : Nat), v = .iface 59 (.pointer (some ⟨b_1, 0, none⟩)) ∧ St B w (Cl b_1 [.int .i64 r_.1, .iface 30 (.int .i64 r_.2)] 61 :: l) hf | .inr (.inr (r_)) => v = .nilIface ∧ St B w (l) hf) := by
  have h := Holds.of h
  refine enter (args := [.slice A3292 a3291.length c3293]) Tryd.func27 rfl Tryd.ntmps27 (Nat.le_of_ble_eq_true rfl) ?_
  refine RC.seq ?_
  refine RC.region ?_
  refine RL.s (Vl.assign rfl) rfl ?_
  refine RL.nil ?_
  refine RQ.then_n ?_
  refine RC.seq ?_
  refine RC.seq ?_
  refine RC.region ?_
  refine RL.s (Vl.move rfl) rfl ?_
  refine RL.s (Vl.lenSl Tryd.underlying29 rfl) rfl ?_
  refine RL.s (Vl.int rfl rfl rfl) rfl ?_
  refine RL.nil ?_
  refine RQ.then_n ?_
  by_cases hc3354 : 256 < (a3291.length : Int)
  case pos =>
    have h := h.pos hc3354
    refine RC.re 7 rfl (congrArg Value.bool (decide_eq_true hc3354)) ?_
    refine RC.condT rfl ?_
    refine RC.seq ?_
    refine RC.region ?_
    refine RL.s (Vl.makeIface Tryd.underlying30 rfl rfl) rfl ?_
    refine RL.s (Vl.assign rfl) rfl ?_
    refine RL.nil ?_
    refine RQ.then_n ?_
    refine RC.ret ?_
    refine RQ.ret ?_
    have e := h.some
    subst e
    refine RQ.ret0 (vs := [.iface 30 (.int .i64 2)]) Tryd.results27 ⟨rfl, trivial⟩ ?_
    exact ⟨rfl, hS⟩
  case neg =>
    have h := h.neg hc3354
    refine RC.re 7 rfl (congrArg Value.bool (decide_eq_false hc3354)) ?_
    refine RC.condF rfl ?_
    refine RC.skip ?_
    refine RQ.then_n ?_
    refine RC.seq ?_
    refine RC.seq ?_
    refine RC.region ?_
    refine RL.s (Vl.move rfl) rfl ?_
    refine RL.s (Vl.lenSl Tryd.underlying29 rfl) rfl ?_
    refine RL.s (Vl.move rfl) rfl ?_
    refine RL.nil ?_
    refine RQ.then_n ?_
    refine RC.block ?_
    refine fun a ha => RC.loop (N := 27) (body := (code_check.l2b a3291)) (φ := (· = r)) (fun (s : Int) a w => ∃ (x3372 : Int), s = (x3372) ∧ Has 27 [(0, .slice A3292 a3291.length c3293), (9, .slice A3292 a3291.length c3293), (10, .int .i64 (a3291.length : Int)), (11, .int .i64 x3372)] a ∧ St B w (l) hf) ?_ (s0 := (0)) h ⟨0, rfl, ha.to ⟨rfl, rfl, rfl, rfl, trivial⟩, hS⟩
    rintro G3392 x3372 a w ⟨_, rfl, ha, hS⟩ h
    revert a
    show RC _ _ _ _ _ _
    refine RC.seq ?_
    refine RC.region ?_
    refine RL.s (Vl.int rfl rfl rfl) rfl ?_
    refine RL.nil ?_
    refine RQ.then_n ?_
    refine RC.seq ?_
    by_cases hc3394 : x3372 < (a3291.length : Int)
    case pos =>
      have h := h.pos hc3394
      refine RC.re 12 rfl (congrArg Value.bool (decide_eq_true hc3394)) ?_
      refine RC.condT rfl ?_
      refine RC.skip ?_
      refine RQ.then_n ?_
      refine RC.seq ?_
      refine RC.block ?_
      refine RC.seq ?_
      refine RC.region ?_
      refine RL.s (Vl.move rfl) rfl ?_
      obtain ⟨hq3403, h⟩ := h.req
      refine RL.s (Vl.indexAddr Tryd.underlying29 Tryd.sizeOf23 rfl rfl ((hr3294.2.world hS.sub).adr hq3403 hc3394) hq3403 hc3394 rfl) rfl ?_
      refine RL.s (Vl.loadA Tryd.isAgg23 Tryd.sizeOf23 rfl rfl ((hr3294.2.world hS.sub).cells hq3403 hc3394)) rfl ?_
      refine RL.e (OW.alloc (cs := [.int .i64 0, .int .i64 0, .int .i64 0, .int .i64 0]) hS Tryd.zeroValue23 rfl) rfl rfl ?_
      rintro _ w ⟨b3405, rfl, hS⟩
      have hS : St B w (Cl b3405 [.int .i64 0, .int .i64 0, .int .i64 0, .int .i64 0] 23 :: l) hf := hS
      refine RL.s (Vl.assign rfl) rfl ?_
      refine RL.e0 (OW.store (cs := [.int .i64 0, .int .i64 0, .int .i64 0, .int .i64 0]) (vs := [.int .i64 ((nth a3291 x3372).Op), .int .i64 ((nth a3291 x3372).A), .int .i64 ((nth a3291 x3372).B), .int .i64 ((nth a3291 x3372).C)]) (l' := Cl b3405 [.int .i64 ((nth a3291 x3372).Op), .int .i64 ((nth a3291 x3372).A), .int .i64 ((nth a3291 x3372).B), .int .i64 ((nth a3291 x3372).C)] 23 :: l) 0 hS rfl rfl rfl rfl Tryd.sizeOf23 rfl rfl rfl rfl) rfl ?_
      rintro _ w ⟨rfl, hS⟩
      have hS : St B w (Cl b3405 [.int .i64 ((nth a3291 x3372).Op), .int .i64 ((nth a3291 x3372).A), .int .i64 ((nth a3291 x3372).B), .int .i64 ((nth a3291 x3372).C)] 23 :: l) hf := hS
      refine RL.nil ?_
      refine RQ.then_n ?_
      refine RC.seq ?_
      refine RC.region ?_
      refine RL.s (Vl.loadA (vs := [.int .i64 ((nth a3291 x3372).Op), .int .i64 ((nth a3291 x3372).A), .int .i64 ((nth a3291 x3372).B), .int .i64 ((nth a3291 x3372).C)]) Tryd.isAgg23 Tryd.sizeOf23 rfl rfl (hS.cellsAt 0 rfl rfl)) rfl ?_
      refine RL.s (Vl.move rfl) rfl ?_
      refine RL.s (Vl.lenSl Tryd.underlying29 rfl) rfl ?_
      obtain ⟨t3406, hg3407, h⟩ := h.bind
      refine RL.e (OW.callF (ls := [.tmp 16, .tmp 18]) rfl Tryd.call25 (code_may.ok (nth a3291 x3372) (a3291.length : Int) _ hg3407 hS)) rfl rfl ?_
      rintro _ w ⟨rfl, hS⟩
      have hS : St B w (Cl b3405 [.int .i64 ((nth a3291 x3372).Op), .int .i64 ((nth a3291 x3372).A), .int .i64 ((nth a3291 x3372).B), .int .i64 ((nth a3291 x3372).C)] 23 :: l) hf := hS
      refine RL.s (Vl.not rfl) rfl ?_
      refine RL.nil ?_
      refine RQ.then_n ?_
      by_cases hc3408 : t3406 = true
      case pos =>
        have h := h.pos hc3408
        refine RC.re 20 rfl (congrArg Value.bool (notb_pos hc3408)) ?_
        refine RC.condF rfl ?_
        refine RC.skip ?_
        refine RQ.inB_n ?_
        refine RQ.then_n ?_
        refine RC.region ?_
        refine RL.s (Vl.int rfl rfl rfl) rfl ?_
        refine RL.s (Vl.move rfl) rfl ?_
        refine RL.nil ?_
        exact fun a ha => ⟨(IntKind.i64.wrap (x3372 + 1)), ⟨(IntKind.i64.wrap (x3372 + 1)), rfl, ha.to ⟨rfl, rfl, rfl, rfl, trivial⟩, (hS.dropAt 0 rfl)⟩, h.some⟩
      case neg =>
        have h := h.neg hc3408
        refine RC.re 20 rfl (congrArg Value.bool (notb_neg hc3408)) ?_
        refine RC.condT rfl ?_
        refine RC.seq ?_
        refine RC.region ?_
        refine RL.s (Vl.move rfl) rfl ?_
        refine RL.s (Vl.makeIface Tryd.underlying30 rfl rfl) rfl ?_
        refine RL.s (Vl.build (v := .agg #[.int .i64 x3372, .iface 30 (.int .i64 130)]) (parts := [(0, .tmp 21), (1, .tmp 22)]) rfl (by kernel_rfl)) rfl ?_
        refine RL.e (OW.box (cs := [.int .i64 x3372, .iface 30 (.int .i64 130)]) hS rfl rfl) rfl rfl ?_
        rintro _ w ⟨b3410, rfl, hS⟩
        have hS : St B w (Cl b3410 [.int .i64 x3372, .iface 30 (.int .i64 130)] 61 :: Cl b3405 [.int .i64 ((nth a3291 x3372).Op), .int .i64 ((nth a3291 x3372).A), .int .i64 ((nth a3291 x3372).B), .int .i64 ((nth a3291 x3372).C)] 23 :: l) hf := hS
        refine RL.s (Vl.makeIface Tryd.underlying59 rfl rfl) rfl ?_
        refine RL.s (Vl.assign rfl) rfl ?_
        refine RL.nil ?_
        refine RQ.then_n ?_
        refine RC.ret ?_
        refine RQ.inB_ret ?_
        refine RQ.ret ?_
        have h := h.inrS
        refine RQ.ret ?_
        refine RQ.inB_ret ?_
        refine RQ.ret ?_
        have e := h.some
        subst e
        refine RQ.ret0 (vs := [.iface 59 (.pointer (some ⟨b3410, 0, none⟩))]) Tryd.results27 ⟨rfl, trivial⟩ ?_
        exact ⟨b3410, rfl, (hS.dropAt 1 rfl)⟩
    case neg =>
      have h := h.neg hc3394
      refine RC.re 12 rfl (congrArg Value.bool (decide_eq_false hc3394)) ?_
      refine RC.condF rfl ?_
      refine RC.exit ?_
      refine RQ.exitT ?_
      have h := h.inrS
      refine RQ.exitT ?_
      refine RQ.inB_hit ?_
      refine RQ.then_n ?_
      refine RC.seq ?_
      refine RC.region ?_
      refine RL.s (Vl.assign rfl) rfl ?_
      refine RL.nil ?_
      refine RQ.then_n ?_
      refine RC.ret ?_
      have e := h.some
      subst e
      refine RQ.ret0 (vs := [.nilIface]) Tryd.results27 ⟨rfl, trivial⟩ ?_
      exact ⟨rfl, hS⟩

/-! ### errors.is: function 33 -/
noncomputable def errors_is.f (a3417 : Int) (a3418 : Int) (a3419 : Bool) : Option (Bool) := (if a3419 = true then (if a3417 = a3418 then some true else some false) else some false)
set_option maxRecDepth 100000 in
set_option maxHeartbeats 4000000 in
theorem errors_is.ok {B : Base} {w : World} {l : List HProp} {hf : Hp} (a3417 : Int) (a3418 : Int) (a3419 : Bool) (r : Bool) (h : errors_is.f a3417 a3418 a3419 = some r) (hS : St B w (l) hf) :
    Calls Tryd.prog 33 #[.iface 30 (.int .i64 a3417), .iface 30 (.int .i64 a3418), .bool a3419] w (Ret fun v w => v = .bool r ∧ St B w (l) hf) := by
  have h := Holds.of h
  refine enter (args := [.iface 30 (.int .i64 a3417), .iface 30 (.int .i64 a3418), .bool a3419]) Tryd.func33 rfl Tryd.ntmps33 (Nat.le_of_ble_eq_true rfl) ?_
  refine RC.seq ?_
  refine RC.region ?_
  refine RL.s (Vl.assign rfl) rfl ?_
  refine RL.nil ?_
  refine RQ.then_n ?_
  refine RC.block ?_
  refine RC.unroll ?_
  refine RQ.round ?_
  refine RC.block ?_
  refine RC.seq ?_
  refine RC.seq ?_
  refine RC.region ?_
  refine RL.s (Vl.move rfl) rfl ?_
  refine RL.s (Vl.move rfl) rfl ?_
  by_cases hc3426 : a3419 = true
  case pos =>
    have h := h.pos hc3426
    refine RL.re 15 rfl (congrArg Value.bool (id hc3426)) ?_
    refine RL.sg (Vl.move rfl) rfl rfl ?_
    refine RL.sg (Vl.move rfl) rfl rfl ?_
    refine RL.sg (Vl.ifaceInt rfl rfl Tryd.underlying54 Tryd.underlying30 Tryd.type30 rfl) rfl rfl ?_
    refine RL.s (Vl.pickT rfl rfl) rfl ?_
    refine RL.nil ?_
    refine RQ.then_n ?_
    by_cases hc3427 : a3417 = a3418
    case pos =>
      have h := h.pos hc3427
      refine RC.re 19 rfl (congrArg Value.bool (decide_eq_true hc3427)) ?_
      refine RC.condT rfl ?_
      refine RC.seq ?_
      refine RC.region ?_
      refine RL.s (Vl.assign rfl) rfl ?_
      refine RL.nil ?_
      refine RQ.then_n ?_
      refine RC.ret ?_
      refine RQ.ret ?_
      refine RQ.inB_ret ?_
      refine RQ.ret ?_
      refine RQ.inB_ret ?_
      have e := h.some
      subst e
      refine RQ.ret0 (vs := [.bool true]) Tryd.results33 ⟨rfl, trivial⟩ ?_
      exact ⟨rfl, hS⟩
    case neg =>
      have h := h.neg hc3427
      refine RC.re 19 rfl (congrArg Value.bool (decide_eq_false hc3427)) ?_
      refine RC.condF rfl ?_
      refine RC.skip ?_
      refine RQ.then_n ?_
      refine RC.seq ?_
      refine RC.seq ?_
      refine RC.region ?_
      refine RL.s (Vl.move rfl) rfl ?_
      refine RL.s (Vl.tassert (r := .tuple #[.nilIface, .bool false]) rfl (fun w => run_typeAssert_lacksB Tryd.underlying70 (by kernel_rfl) (by kernel_rfl) _ _ w)) rfl ?_
      refine RL.s (Vl.move rfl) rfl ?_
      refine RL.s (Vl.extract rfl rfl) rfl ?_
      refine RL.s (Vl.extract rfl rfl) rfl ?_
      refine RL.s (Vl.assign rfl) rfl ?_
      refine RL.s (Vl.assign rfl) rfl ?_
      refine RL.nil ?_
      refine RQ.then_n ?_
      refine RC.seq ?_
      refine RC.region ?_
      refine RL.s (Vl.move rfl) rfl ?_
      refine RL.s (Vl.move rfl) rfl ?_
      refine RL.nn rfl rfl ?_
      refine RL.nn rfl rfl ?_
      refine RL.nn rfl rfl ?_
      refine RL.s (Vl.pickF rfl rfl) rfl ?_
      refine RL.nil ?_
      refine RQ.then_n ?_
      refine RC.condF rfl ?_
      refine RC.skip ?_
      refine RQ.then_n ?_
      refine RC.seq ?_
      refine RC.region ?_
      refine RL.s (Vl.move rfl) rfl ?_
      refine RL.nil ?_
      refine RQ.then_n ?_
      refine RC.block ?_
      refine RC.seq ?_
      refine RC.region ?_
      refine RL.s (Vl.tassert (r := .tuple #[.nilIface, .bool false]) rfl (fun w => run_typeAssert_lacksB Tryd.underlying73 (by kernel_rfl) (by kernel_rfl) _ _ w)) rfl ?_
      refine RL.s (Vl.extract rfl rfl) rfl ?_
      refine RL.s (Vl.extract rfl rfl) rfl ?_
      refine RL.nil ?_
      refine RQ.then_n ?_
      refine RC.condF rfl ?_
      refine RC.seq ?_
      refine RC.region ?_
      refine RL.s (Vl.tassert (r := .tuple #[.nilIface, .bool false]) rfl (fun w => run_typeAssert_lacksB Tryd.underlying75 (by kernel_rfl) (by kernel_rfl) _ _ w)) rfl ?_
      refine RL.s (Vl.extract rfl rfl) rfl ?_
      refine RL.s (Vl.extract rfl rfl) rfl ?_
      refine RL.nil ?_
      refine RQ.then_n ?_
      refine RC.condF rfl ?_
      refine RC.seq ?_
      refine RC.region ?_
      refine RL.s (Vl.assign rfl) rfl ?_
      refine RL.nil ?_
      refine RQ.then_n ?_
      refine RC.seq ?_
      refine RC.region ?_
      refine RL.s (Vl.assign rfl) rfl ?_
      refine RL.nil ?_
      refine RQ.then_n ?_
      refine RC.ret ?_
      refine RQ.inB_ret ?_
      refine RQ.inB_ret ?_
      refine RQ.ret ?_
      refine RQ.inB_ret ?_
      have e := h.some
      subst e
      refine RQ.ret0 (vs := [.bool false]) Tryd.results33 ⟨rfl, trivial⟩ ?_
      exact ⟨rfl, hS⟩
  case neg =>
    have h := h.neg hc3426
    refine RL.re 15 rfl (congrArg Value.bool (eq_false_of hc3426)) ?_
    refine RL.nn rfl rfl ?_
    refine RL.nn rfl rfl ?_
    refine RL.nn rfl rfl ?_
    refine RL.s (Vl.pickF rfl rfl) rfl ?_
    refine RL.nil ?_
    refine RQ.then_n ?_
    refine RC.condF rfl ?_
    refine RC.skip ?_
    refine RQ.then_n ?_
    refine RC.seq ?_
    refine RC.seq ?_
    refine RC.region ?_
    refine RL.s (Vl.move rfl) rfl ?_
    refine RL.s (Vl.tassert (r := .tuple #[.nilIface, .bool false]) rfl (fun w => run_typeAssert_lacksB Tryd.underlying70 (by kernel_rfl) (by kernel_rfl) _ _ w)) rfl ?_
    refine RL.s (Vl.move rfl) rfl ?_
    refine RL.s (Vl.extract rfl rfl) rfl ?_
    refine RL.s (Vl.extract rfl rfl) rfl ?_
    refine RL.s (Vl.assign rfl) rfl ?_
    refine RL.s (Vl.assign rfl) rfl ?_
    refine RL.nil ?_
    refine RQ.then_n ?_
    refine RC.seq ?_
    refine RC.region ?_
    refine RL.s (Vl.move rfl) rfl ?_
    refine RL.s (Vl.move rfl) rfl ?_
    refine RL.nn rfl rfl ?_
    refine RL.nn rfl rfl ?_
    refine RL.nn rfl rfl ?_
    refine RL.s (Vl.pickF rfl rfl) rfl ?_
    refine RL.nil ?_
    refine RQ.then_n ?_
    refine RC.condF rfl ?_
    refine RC.skip ?_
    refine RQ.then_n ?_
    refine RC.seq ?_
    refine RC.region ?_
    refine RL.s (Vl.move rfl) rfl ?_
    refine RL.nil ?_
    refine RQ.then_n ?_
    refine RC.block ?_
    refine RC.seq ?_
    refine RC.region ?_
    refine RL.s (Vl.tassert (r := .tuple #[.nilIface, .bool false]) rfl (fun w => run_typeAssert_lacksB Tryd.underlying73 (by kernel_rfl) (by kernel_rfl) _ _ w)) rfl ?_
    refine RL.s (Vl.extract rfl rfl) rfl ?_
    refine RL.s (Vl.extract rfl rfl) rfl ?_
    refine RL.nil ?_
    refine RQ.then_n ?_
    refine RC.condF rfl ?_
    refine RC.seq ?_
    refine RC.region ?_
    refine RL.s (Vl.tassert (r := .tuple #[.nilIface, .bool false]) rfl (fun w => run_typeAssert_lacksB Tryd.underlying75 (by kernel_rfl) (by kernel_rfl) _ _ w)) rfl ?_
    refine RL.s (Vl.extract rfl rfl) rfl ?_
    refine RL.s (Vl.extract rfl rfl) rfl ?_
    refine RL.nil ?_
    refine RQ.then_n ?_
    refine RC.condF rfl ?_
    refine RC.seq ?_
    refine RC.region ?_
    refine RL.s (Vl.assign rfl) rfl ?_
    refine RL.nil ?_
    refine RQ.then_n ?_
    refine RC.seq ?_
    refine RC.region ?_
    refine RL.s (Vl.assign rfl) rfl ?_
    refine RL.nil ?_
    refine RQ.then_n ?_
    refine RC.ret ?_
    refine RQ.inB_ret ?_
    refine RQ.inB_ret ?_
    refine RQ.ret ?_
    refine RQ.inB_ret ?_
    have e := h.some
    subst e
    refine RQ.ret0 (vs := [.bool false]) Tryd.results33 ⟨rfl, trivial⟩ ?_
    exact ⟨rfl, hS⟩

/-! ### errors.Is: function 28 -/
noncomputable def errors_Is.f (a3415 : Int) (a3416 : Int) : Option (Bool) := ((errors_is.f a3415 a3416 true).bind fun t3430 => some t3430)
set_option maxRecDepth 100000 in
set_option maxHeartbeats 4000000 in
theorem errors_Is.ok {B : Base} {w : World} {l : List HProp} {hf : Hp} (a3415 : Int) (a3416 : Int) (r : Bool) (h : errors_Is.f a3415 a3416 = some r) (hS : St B w (l) hf) :
    Calls Tryd.prog 28 #[.iface 30 (.int .i64 a3415), .iface 30 (.int .i64 a3416)] w (Ret fun v w => v = .bool r ∧ St B w (l) hf) := by
  have h := Holds.of h
  refine enter (args := [.iface 30 (.int .i64 a3415), .iface 30 (.int .i64 a3416)]) Tryd.func28 rfl Tryd.ntmps28 (Nat.le_of_ble_eq_true rfl) ?_
  refine RC.seq ?_
  refine RC.region ?_
  refine RL.s (Vl.assign rfl) rfl ?_
  refine RL.nil ?_
  refine RQ.then_n ?_
  refine RC.seq ?_
  refine RC.seq ?_
  refine RC.region ?_
  refine RL.s (Vl.move rfl) rfl ?_
  refine RL.s (Vl.bin (v := .bool false) rfl rfl (by kernel_rfl)) rfl ?_
  refine RL.s (Vl.move rfl) rfl ?_
  refine RL.sg (Vl.move rfl) rfl rfl ?_
  refine RL.sg (Vl.bin (v := .bool false) rfl rfl (by kernel_rfl)) rfl rfl ?_
  refine RL.s (Vl.pickF rfl rfl) rfl ?_
  refine RL.nil ?_
  refine RQ.then_n ?_
  refine RC.condF rfl ?_
  refine RC.skip ?_
  refine RQ.then_n ?_
  refine RC.seq ?_
  refine RC.region ?_
  refine RL.s (Vl.move rfl) rfl ?_
  refine RL.s (Vl.extern (ls := [.tmp 15]) (v := .iface 68 (.agg #[.pointer (some ⟨3, 30, none⟩)])) rfl Tryd.func32 (by kernel_rfl) (by kernel_rfl) (by kernel_rfl) (e := Extern.ReflectliteType.typeOf) (by kernel_rfl) (fun w => by kernel_rfl)) rfl ?_
  refine RL.s (Vl.invokeX (F := 67) (ls := []) (v := .bool true) (u' := .agg #[.pointer (some ⟨3, 30, none⟩)]) rfl rfl (fun w => by kernel_rfl) Tryd.func67 (by kernel_rfl) (by kernel_rfl) (by kernel_rfl) (e := (Extern.ReflectliteType.method fun t => do Extern.Rtype.noPackHeld "Comparable" t; pure (.bool (← typeInfo t).comparable))) (by kernel_rfl) (fun w => by kernel_rfl)) rfl ?_
  refine RL.s (Vl.assign rfl) rfl ?_
  refine RL.nil ?_
  refine RQ.then_n ?_
  refine RC.seq ?_
  refine RC.region ?_
  refine RL.s (Vl.move rfl) rfl ?_
  refine RL.s (Vl.move rfl) rfl ?_
  refine RL.s (Vl.move rfl) rfl ?_
  obtain ⟨t3430, hg3431, h⟩ := h.bind
  refine RL.e (OW.callF (ls := [.tmp 18, .tmp 19, .tmp 20]) rfl Tryd.call33 (errors_is.ok a3415 a3416 true _ hg3431 hS)) rfl rfl ?_
  rintro _ w ⟨rfl, hS⟩
  have hS : St B w (l) hf := hS
  refine RL.s (Vl.assign rfl) rfl ?_
  refine RL.nil ?_
  refine RQ.then_n ?_
  refine RC.ret ?_
  have e := h.some
  subst e
  refine RQ.ret0 (vs := [.bool t3430]) Tryd.results28 ⟨rfl, trivial⟩ ?_
  exact ⟨rfl, hS⟩

/-! ### (*isochron/code.wrong).Unwrap: function 63 -/
noncomputable def code_wrong_Unwrap.f (a3454 : Int) (a3455 : Int) : Option (Int) := some a3455
set_option maxRecDepth 100000 in
set_option maxHeartbeats 4000000 in
theorem code_wrong_Unwrap.ok {B : Base} {w : World} {l : List HProp} {hf : Hp} (a3454 : Int) (a3455 : Int) (b3453 : Nat) (r : Int) (h : code_wrong_Unwrap.f a3454 a3455 = some r) (hS : St B w (Cl b3453 [.int .i64 a3454, .iface 30 (.int .i64 a3455)] 61 :: l) hf) :
    Calls Tryd.prog 63 #[.pointer (some ⟨b3453, 0, none⟩)] w (Ret fun v w => v = .iface 30 (.int .i64 r) ∧ St B w (Cl b3453 [.int .i64 a3454, .iface 30 (.int .i64 a3455)] 61 :: l) hf) := by
  have h := Holds.of h
  refine enter (args := [.pointer (some ⟨b3453, 0, none⟩)]) Tryd.func63 rfl Tryd.ntmps63 (Nat.le_of_ble_eq_true rfl) ?_
  refine RC.seq ?_
  refine RC.region ?_
  refine RL.s (Vl.assign rfl) rfl ?_
  refine RL.nil ?_
  refine RQ.then_n ?_
  refine RC.seq ?_
  refine RC.region ?_
  refine RL.s (Vl.move rfl) rfl ?_
  refine RL.s (Vl.nilCheck rfl) rfl ?_
  refine RL.s (Vl.fieldAddr (a'' := ⟨b3453, 1, none⟩) Tryd.underlying61 rfl Tryd.sizeOf54 rfl rfl) rfl ?_
  refine RL.s (Vl.load Tryd.isAgg54 rfl (hS.cell 0 rfl rfl)) rfl ?_
  refine RL.s (Vl.assign rfl) rfl ?_
  refine RL.nil ?_
  refine RQ.then_n ?_
  refine RC.ret ?_
  have e := h.some
  subst e
  refine RQ.ret0 (vs := [.iface 30 (.int .i64 a3455)]) Tryd.results63 ⟨rfl, trivial⟩ ?_
  exact ⟨rfl, hS⟩

/-! ### errors.is: function 33 -/
noncomputable def errors_is_2.f (a3446 : Int) (a3447 : Int) (a3448 : Int) (a3449 : Bool) : Option (Bool) := (if a3449 = true then ((code_wrong_Unwrap.f a3446 a3447).bind fun t3464 => (if t3464 = a3448 then some true else some false)) else ((code_wrong_Unwrap.f a3446 a3447).bind fun t3468 => some false))
set_option maxRecDepth 100000 in
set_option maxHeartbeats 4000000 in
theorem errors_is_2.ok {B : Base} {w : World} {l : List HProp} {hf : Hp} (a3446 : Int) (a3447 : Int) (a3448 : Int) (a3449 : Bool) (b3445 : Nat) (r : Bool) (h : errors_is_2.f a3446 a3447 a3448 a3449 = some r) (hS : St B w (Cl b3445 [.int .i64 a3446, .iface 30 (.int .i64 a3447)] 61 :: l) hf) :
    Calls Tryd.prog 33 #[.iface 59 (.pointer (some ⟨b3445, 0, none⟩)), .iface 30 (.int .i64 a3448), .bool a3449] w (Ret fun v w => v = .bool r ∧ St B w (Cl b3445 [.int .i64 a3446, .iface 30 (.int .i64 a3447)] 61 :: l) hf) := by
  have h := Holds.of h
  refine enter (args := [.iface 59 (.pointer (some ⟨b3445, 0, none⟩)), .iface 30 (.int .i64 a3448), .bool a3449]) Tryd.func33 rfl Tryd.ntmps33 (Nat.le_of_ble_eq_true rfl) ?_
  refine RC.seq ?_
  refine RC.region ?_
  refine RL.s (Vl.assign rfl) rfl ?_
  refine RL.nil ?_
  refine RQ.then_n ?_
  refine RC.block ?_
  refine RC.unroll ?_
  refine RQ.round ?_
  refine RC.block ?_
  refine RC.seq ?_
  refine RC.seq ?_
  refine RC.region ?_
  refine RL.s (Vl.move rfl) rfl ?_
  refine RL.s (Vl.move rfl) rfl ?_
  by_cases hc3463 : a3449 = true
  case pos =>
    have h := h.pos hc3463
    refine RL.re 15 rfl (congrArg Value.bool (id hc3463)) ?_
    refine RL.sg (Vl.move rfl) rfl rfl ?_
    refine RL.sg (Vl.move rfl) rfl rfl ?_
    refine RL.sg (Vl.ifaceNeq rfl rfl Tryd.underlying54 rfl) rfl rfl ?_
    refine RL.s (Vl.pickT rfl rfl) rfl ?_
    refine RL.nil ?_
    refine RQ.then_n ?_
    refine RC.condF rfl ?_
    refine RC.skip ?_
    refine RQ.then_n ?_
    refine RC.seq ?_
    refine RC.seq ?_
    refine RC.region ?_
    refine RL.s (Vl.move rfl) rfl ?_
    refine RL.s (Vl.tassert (r := .tuple #[.nilIface, .bool false]) rfl (fun w => run_typeAssert_lacksB Tryd.underlying70 (by kernel_rfl) (by kernel_rfl) _ _ w)) rfl ?_
    refine RL.s (Vl.move rfl) rfl ?_
    refine RL.s (Vl.extract rfl rfl) rfl ?_
    refine RL.s (Vl.extract rfl rfl) rfl ?_
    refine RL.s (Vl.assign rfl) rfl ?_
    refine RL.s (Vl.assign rfl) rfl ?_
    refine RL.nil ?_
    refine RQ.then_n ?_
    refine RC.seq ?_
    refine RC.region ?_
    refine RL.s (Vl.move rfl) rfl ?_
    refine RL.s (Vl.move rfl) rfl ?_
    refine RL.nn rfl rfl ?_
    refine RL.nn rfl rfl ?_
    refine RL.nn rfl rfl ?_
    refine RL.s (Vl.pickF rfl rfl) rfl ?_
    refine RL.nil ?_
    refine RQ.then_n ?_
    refine RC.condF rfl ?_
    refine RC.skip ?_
    refine RQ.then_n ?_
    refine RC.seq ?_
    refine RC.region ?_
    refine RL.s (Vl.move rfl) rfl ?_
    refine RL.nil ?_
    refine RQ.then_n ?_
    refine RC.block ?_
    refine RC.seq ?_
    refine RC.region ?_
    refine RL.s (Vl.tassert (r := .tuple #[.iface 59 (.pointer (some ⟨b3445, 0, none⟩)), .bool true]) rfl (fun w => run_typeAssert_hasB Tryd.underlying73 (by kernel_rfl) _ _ w)) rfl ?_
    refine RL.s (Vl.extract rfl rfl) rfl ?_
    refine RL.s (Vl.extract rfl rfl) rfl ?_
    refine RL.nil ?_
    refine RQ.then_n ?_
    refine RC.condT rfl ?_
    refine RC.seq ?_
    refine RC.region ?_
    refine RL.s (Vl.assign rfl) rfl ?_
    refine RL.nil ?_
    refine RQ.then_n ?_
    refine RC.seq ?_
    refine RC.region ?_
    refine RL.s (Vl.move rfl) rfl ?_
    obtain ⟨t3464, hg3465, h⟩ := h.bind
    refine RL.e (OW.invoke (F := 63) (u' := .pointer (some ⟨b3445, 0, none⟩)) (ls := []) rfl rfl (fun w => by kernel_rfl) Tryd.call63 rfl (code_wrong_Unwrap.ok a3446 a3447 b3445 _ hg3465 hS)) rfl rfl ?_
    rintro _ w ⟨rfl, hS⟩
    have hS : St B w (Cl b3445 [.int .i64 a3446, .iface 30 (.int .i64 a3447)] 61 :: l) hf := hS
    refine RL.s (Vl.assign rfl) rfl ?_
    refine RL.nil ?_
    refine RQ.then_n ?_
    refine RC.seq ?_
    refine RC.region ?_
    refine RL.s (Vl.move rfl) rfl ?_
    refine RL.s (Vl.bin (v := .bool false) rfl rfl (by kernel_rfl)) rfl ?_
    refine RL.nil ?_
    refine RQ.then_n ?_
    refine RC.condF rfl ?_
    refine RC.skip ?_
    refine RQ.inB_n ?_
    refine RQ.inB_n ?_
    refine RQ.then_n ?_
    refine RQ.round ?_
    refine RC.block ?_
    refine RC.seq ?_
    refine RC.seq ?_
    refine RC.region ?_
    refine RL.s (Vl.move rfl) rfl ?_
    refine RL.s (Vl.move rfl) rfl ?_
    refine RL.re 15 rfl (congrArg Value.bool (id hc3463)) ?_
    refine RL.sg (Vl.move rfl) rfl rfl ?_
    refine RL.sg (Vl.move rfl) rfl rfl ?_
    refine RL.sg (Vl.ifaceInt rfl rfl Tryd.underlying54 Tryd.underlying30 Tryd.type30 rfl) rfl rfl ?_
    refine RL.s (Vl.pickT rfl rfl) rfl ?_
    refine RL.nil ?_
    refine RQ.then_n ?_
    by_cases hc3467 : t3464 = a3448
    case pos =>
      have h := h.pos hc3467
      refine RC.re 19 rfl (congrArg Value.bool (decide_eq_true hc3467)) ?_
      refine RC.condT rfl ?_
      refine RC.seq ?_
      refine RC.region ?_
      refine RL.s (Vl.assign rfl) rfl ?_
      refine RL.nil ?_
      refine RQ.then_n ?_
      refine RC.ret ?_
      refine RQ.ret ?_
      refine RQ.inB_ret ?_
      refine RQ.ret ?_
      refine RQ.inB_ret ?_
      have e := h.some
      subst e
      refine RQ.ret0 (vs := [.bool true]) Tryd.results33 ⟨rfl, trivial⟩ ?_
      exact ⟨rfl, hS⟩
    case neg =>
      have h := h.neg hc3467
      refine RC.re 19 rfl (congrArg Value.bool (decide_eq_false hc3467)) ?_
      refine RC.condF rfl ?_
      refine RC.skip ?_
      refine RQ.then_n ?_
      refine RC.seq ?_
      refine RC.seq ?_
      refine RC.region ?_
      refine RL.s (Vl.move rfl) rfl ?_
      refine RL.s (Vl.tassert (r := .tuple #[.nilIface, .bool false]) rfl (fun w => run_typeAssert_lacksB Tryd.underlying70 (by kernel_rfl) (by kernel_rfl) _ _ w)) rfl ?_
      refine RL.s (Vl.move rfl) rfl ?_
      refine RL.s (Vl.extract rfl rfl) rfl ?_
      refine RL.s (Vl.extract rfl rfl) rfl ?_
      refine RL.s (Vl.assign rfl) rfl ?_
      refine RL.s (Vl.assign rfl) rfl ?_
      refine RL.nil ?_
      refine RQ.then_n ?_
      refine RC.seq ?_
      refine RC.region ?_
      refine RL.s (Vl.move rfl) rfl ?_
      refine RL.s (Vl.move rfl) rfl ?_
      refine RL.nn rfl rfl ?_
      refine RL.nn rfl rfl ?_
      refine RL.nn rfl rfl ?_
      refine RL.s (Vl.pickF rfl rfl) rfl ?_
      refine RL.nil ?_
      refine RQ.then_n ?_
      refine RC.condF rfl ?_
      refine RC.skip ?_
      refine RQ.then_n ?_
      refine RC.seq ?_
      refine RC.region ?_
      refine RL.s (Vl.move rfl) rfl ?_
      refine RL.nil ?_
      refine RQ.then_n ?_
      refine RC.block ?_
      refine RC.seq ?_
      refine RC.region ?_
      refine RL.s (Vl.tassert (r := .tuple #[.nilIface, .bool false]) rfl (fun w => run_typeAssert_lacksB Tryd.underlying73 (by kernel_rfl) (by kernel_rfl) _ _ w)) rfl ?_
      refine RL.s (Vl.extract rfl rfl) rfl ?_
      refine RL.s (Vl.extract rfl rfl) rfl ?_
      refine RL.nil ?_
      refine RQ.then_n ?_
      refine RC.condF rfl ?_
      refine RC.seq ?_
      refine RC.region ?_
      refine RL.s (Vl.tassert (r := .tuple #[.nilIface, .bool false]) rfl (fun w => run_typeAssert_lacksB Tryd.underlying75 (by kernel_rfl) (by kernel_rfl) _ _ w)) rfl ?_
      refine RL.s (Vl.extract rfl rfl) rfl ?_
      refine RL.s (Vl.extract rfl rfl) rfl ?_
      refine RL.nil ?_
      refine RQ.then_n ?_
      refine RC.condF rfl ?_
      refine RC.seq ?_
      refine RC.region ?_
      refine RL.s (Vl.assign rfl) rfl ?_
      refine RL.nil ?_
      refine RQ.then_n ?_
      refine RC.seq ?_
      refine RC.region ?_
      refine RL.s (Vl.assign rfl) rfl ?_
      refine RL.nil ?_
      refine RQ.then_n ?_
      refine RC.ret ?_
      refine RQ.inB_ret ?_
      refine RQ.inB_ret ?_
      refine RQ.ret ?_
      refine RQ.inB_ret ?_
      have e := h.some
      subst e
      refine RQ.ret0 (vs := [.bool false]) Tryd.results33 ⟨rfl, trivial⟩ ?_
      exact ⟨rfl, hS⟩
  case neg =>
    have h := h.neg hc3463
    refine RL.re 15 rfl (congrArg Value.bool (eq_false_of hc3463)) ?_
    refine RL.nn rfl rfl ?_
    refine RL.nn rfl rfl ?_
    refine RL.nn rfl rfl ?_
    refine RL.s (Vl.pickF rfl rfl) rfl ?_
    refine RL.nil ?_
    refine RQ.then_n ?_
    refine RC.condF rfl ?_
    refine RC.skip ?_
    refine RQ.then_n ?_
    refine RC.seq ?_
    refine RC.seq ?_
    refine RC.region ?_
    refine RL.s (Vl.move rfl) rfl ?_
    refine RL.s (Vl.tassert (r := .tuple #[.nilIface, .bool false]) rfl (fun w => run_typeAssert_lacksB Tryd.underlying70 (by kernel_rfl) (by kernel_rfl) _ _ w)) rfl ?_
    refine RL.s (Vl.move rfl) rfl ?_
    refine RL.s (Vl.extract rfl rfl) rfl ?_
    refine RL.s (Vl.extract rfl rfl) rfl ?_
    refine RL.s (Vl.assign rfl) rfl ?_
    refine RL.s (Vl.assign rfl) rfl ?_
    refine RL.nil ?_
    refine RQ.then_n ?_
    refine RC.seq ?_
    refine RC.region ?_
    refine RL.s (Vl.move rfl) rfl ?_
    refine RL.s (Vl.move rfl) rfl ?_
    refine RL.nn rfl rfl ?_
    refine RL.nn rfl rfl ?_
    refine RL.nn rfl rfl ?_
    refine RL.s (Vl.pickF rfl rfl) rfl ?_
    refine RL.nil ?_
    refine RQ.then_n ?_
    refine RC.condF rfl ?_
    refine RC.skip ?_
    refine RQ.then_n ?_
    refine RC.seq ?_
    refine RC.region ?_
    refine RL.s (Vl.move rfl) rfl ?_
    refine RL.nil ?_
    refine RQ.then_n ?_
    refine RC.block ?_
    refine RC.seq ?_
    refine RC.region ?_
    refine RL.s (Vl.tassert (r := .tuple #[.iface 59 (.pointer (some ⟨b3445, 0, none⟩)), .bool true]) rfl (fun w => run_typeAssert_hasB Tryd.underlying73 (by kernel_rfl) _ _ w)) rfl ?_
    refine RL.s (Vl.extract rfl rfl) rfl ?_
    refine RL.s (Vl.extract rfl rfl) rfl ?_
    refine RL.nil ?_
    refine RQ.then_n ?_
    refine RC.condT rfl ?_
    refine RC.seq ?_
    refine RC.region ?_
    refine RL.s (Vl.assign rfl) rfl ?_
    refine RL.nil ?_
    refine RQ.then_n ?_
    refine RC.seq ?_
    refine RC.region ?_
    refine RL.s (Vl.move rfl) rfl ?_
    obtain ⟨t3468, hg3469, h⟩ := h.bind
    refine RL.e (OW.invoke (F := 63) (u' := .pointer (some ⟨b3445, 0, none⟩)) (ls := []) rfl rfl (fun w => by kernel_rfl) Tryd.call63 rfl (code_wrong_Unwrap.ok a3446 a3447 b3445 _ hg3469 hS)) rfl rfl ?_
    rintro _ w ⟨rfl, hS⟩
    have hS : St B w (Cl b3445 [.int .i64 a3446, .iface 30 (.int .i64 a3447)] 61 :: l) hf := hS
    refine RL.s (Vl.assign rfl) rfl ?_
    refine RL.nil ?_
    refine RQ.then_n ?_
    refine RC.seq ?_
    refine RC.region ?_
    refine RL.s (Vl.move rfl) rfl ?_
    refine RL.s (Vl.bin (v := .bool false) rfl rfl (by kernel_rfl)) rfl ?_
    refine RL.nil ?_
    refine RQ.then_n ?_
    refine RC.condF rfl ?_
    refine RC.skip ?_
    refine RQ.inB_n ?_
    refine RQ.inB_n ?_
    refine RQ.then_n ?_
    refine RQ.round ?_
    refine RC.block ?_
    refine RC.seq ?_
    refine RC.seq ?_
    refine RC.region ?_
    refine RL.s (Vl.move rfl) rfl ?_
    refine RL.s (Vl.move rfl) rfl ?_
    refine RL.re 15 rfl (congrArg Value.bool (eq_false_of hc3463)) ?_
    refine RL.nn rfl rfl ?_
    refine RL.nn rfl rfl ?_
    refine RL.nn rfl rfl ?_
    refine RL.s (Vl.pickF rfl rfl) rfl ?_
    refine RL.nil ?_
    refine RQ.then_n ?_
    refine RC.condF rfl ?_
    refine RC.skip ?_
    refine RQ.then_n ?_
    refine RC.seq ?_
    refine RC.seq ?_
    refine RC.region ?_
    refine RL.s (Vl.move rfl) rfl ?_
    refine RL.s (Vl.tassert (r := .tuple #[.nilIface, .bool false]) rfl (fun w => run_typeAssert_lacksB Tryd.underlying70 (by kernel_rfl) (by kernel_rfl) _ _ w)) rfl ?_
    refine RL.s (Vl.move rfl) rfl ?_
    refine RL.s (Vl.extract rfl rfl) rfl ?_
    refine RL.s (Vl.extract rfl rfl) rfl ?_
    refine RL.s (Vl.assign rfl) rfl ?_
    refine RL.s (Vl.assign rfl) rfl ?_
    refine RL.nil ?_
    refine RQ.then_n ?_
    refine RC.seq ?_
    refine RC.region ?_
    refine RL.s (Vl.move rfl) rfl ?_
    refine RL.s (Vl.move rfl) rfl ?_
    refine RL.nn rfl rfl ?_
    refine RL.nn rfl rfl ?_
    refine RL.nn rfl rfl ?_
    refine RL.s (Vl.pickF rfl rfl) rfl ?_
    refine RL.nil ?_
    refine RQ.then_n ?_
    refine RC.condF rfl ?_
    refine RC.skip ?_
    refine RQ.then_n ?_
    refine RC.seq ?_
    refine RC.region ?_
    refine RL.s (Vl.move rfl) rfl ?_
    refine RL.nil ?_
    refine RQ.then_n ?_
    refine RC.block ?_
    refine RC.seq ?_
    refine RC.region ?_
    refine RL.s (Vl.tassert (r := .tuple #[.nilIface, .bool false]) rfl (fun w => run_typeAssert_lacksB Tryd.underlying73 (by kernel_rfl) (by kernel_rfl) _ _ w)) rfl ?_
    refine RL.s (Vl.extract rfl rfl) rfl ?_
    refine RL.s (Vl.extract rfl rfl) rfl ?_
    refine RL.nil ?_
    refine RQ.then_n ?_
    refine RC.condF rfl ?_
    refine RC.seq ?_
    refine RC.region ?_
    refine RL.s (Vl.tassert (r := .tuple #[.nilIface, .bool false]) rfl (fun w => run_typeAssert_lacksB Tryd.underlying75 (by kernel_rfl) (by kernel_rfl) _ _ w)) rfl ?_
    refine RL.s (Vl.extract rfl rfl) rfl ?_
    refine RL.s (Vl.extract rfl rfl) rfl ?_
    refine RL.nil ?_
    refine RQ.then_n ?_
    refine RC.condF rfl ?_
    refine RC.seq ?_
    refine RC.region ?_
    refine RL.s (Vl.assign rfl) rfl ?_
    refine RL.nil ?_
    refine RQ.then_n ?_
    refine RC.seq ?_
    refine RC.region ?_
    refine RL.s (Vl.assign rfl) rfl ?_
    refine RL.nil ?_
    refine RQ.then_n ?_
    refine RC.ret ?_
    refine RQ.inB_ret ?_
    refine RQ.inB_ret ?_
    refine RQ.ret ?_
    refine RQ.inB_ret ?_
    have e := h.some
    subst e
    refine RQ.ret0 (vs := [.bool false]) Tryd.results33 ⟨rfl, trivial⟩ ?_
    exact ⟨rfl, hS⟩

/-! ### errors.Is: function 28 -/
noncomputable def errors_Is_2.f (a3441 : Int) (a3442 : Int) (a3443 : Int) : Option (Bool) := ((errors_is_2.f a3441 a3442 a3443 true).bind fun t3472 => some t3472)
set_option maxRecDepth 100000 in
set_option maxHeartbeats 4000000 in
theorem errors_Is_2.ok {B : Base} {w : World} {l : List HProp} {hf : Hp} (a3441 : Int) (a3442 : Int) (a3443 : Int) (b3440 : Nat) (r : Bool) (h : errors_Is_2.f a3441 a3442 a3443 = some r) (hS : St B w (Cl b3440 [.int .i64 a3441, .iface 30 (.int .i64 a3442)] 61 :: l) hf) :
    Calls Tryd.prog 28 #[.iface 59 (.pointer (some ⟨b3440, 0, none⟩)), .iface 30 (.int .i64 a3443)] w (Ret fun v w => v = .bool r ∧ St B w (Cl b3440 [.int .i64 a3441, .iface 30 (.int .i64 a3442)] 61 :: l) hf) := by
  have h := Holds.of h
  refine enter (args := [.iface 59 (.pointer (some ⟨b3440, 0, none⟩)), .iface 30 (.int .i64 a3443)]) Tryd.func28 rfl Tryd.ntmps28 (Nat.le_of_ble_eq_true rfl) ?_
  refine RC.seq ?_
  refine RC.region ?_
  refine RL.s (Vl.assign rfl) rfl ?_
  refine RL.nil ?_
  refine RQ.then_n ?_
  refine RC.seq ?_
  refine RC.seq ?_
  refine RC.region ?_
  refine RL.s (Vl.move rfl) rfl ?_
  refine RL.s (Vl.bin (v := .bool false) rfl rfl (by kernel_rfl)) rfl ?_
  refine RL.s (Vl.move rfl) rfl ?_
  refine RL.sg (Vl.move rfl) rfl rfl ?_
  refine RL.sg (Vl.bin (v := .bool false) rfl rfl (by kernel_rfl)) rfl rfl ?_
  refine RL.s (Vl.pickF rfl rfl) rfl ?_
  refine RL.nil ?_
  refine RQ.then_n ?_
  refine RC.condF rfl ?_
  refine RC.skip ?_
  refine RQ.then_n ?_
  refine RC.seq ?_
  refine RC.region ?_
  refine RL.s (Vl.move rfl) rfl ?_
  refine RL.s (Vl.extern (ls := [.tmp 15]) (v := .iface 68 (.agg #[.pointer (some ⟨3, 30, none⟩)])) rfl Tryd.func32 (by kernel_rfl) (by kernel_rfl) (by kernel_rfl) (e := Extern.ReflectliteType.typeOf) (by kernel_rfl) (fun w => by kernel_rfl)) rfl ?_
  refine RL.s (Vl.invokeX (F := 67) (ls := []) (v := .bool true) (u' := .agg #[.pointer (some ⟨3, 30, none⟩)]) rfl rfl (fun w => by kernel_rfl) Tryd.func67 (by kernel_rfl) (by kernel_rfl) (by kernel_rfl) (e := (Extern.ReflectliteType.method fun t => do Extern.Rtype.noPackHeld "Comparable" t; pure (.bool (← typeInfo t).comparable))) (by kernel_rfl) (fun w => by kernel_rfl)) rfl ?_
  refine RL.s (Vl.assign rfl) rfl ?_
  refine RL.nil ?_
  refine RQ.then_n ?_
  refine RC.seq ?_
  refine RC.region ?_
  refine RL.s (Vl.move rfl) rfl ?_
  refine RL.s (Vl.move rfl) rfl ?_
  refine RL.s (Vl.move rfl) rfl ?_
  obtain ⟨t3472, hg3473, h⟩ := h.bind
  refine RL.e (OW.callF (ls := [.tmp 18, .tmp 19, .tmp 20]) rfl Tryd.call33 (errors_is_2.ok a3441 a3442 a3443 true b3440 _ hg3473 hS)) rfl rfl ?_
  rintro _ w ⟨rfl, hS⟩
  have hS : St B w (Cl b3440 [.int .i64 a3441, .iface 30 (.int .i64 a3442)] 61 :: l) hf := hS
  refine RL.s (Vl.assign rfl) rfl ?_
  refine RL.nil ?_
  refine RQ.then_n ?_
  refine RC.ret ?_
  have e := h.some
  subst e
  refine RQ.ret0 (vs := [.bool t3472]) Tryd.results28 ⟨rfl, trivial⟩ ?_
  exact ⟨rfl, hS⟩

/-! ### errors.Is: function 28 -/
noncomputable def errors_Is_3.f (a3477 : Int) : Option (Bool) := some false
set_option maxRecDepth 100000 in
set_option maxHeartbeats 4000000 in
theorem errors_Is_3.ok {B : Base} {w : World} {l : List HProp} {hf : Hp} (a3477 : Int) (r : Bool) (h : errors_Is_3.f a3477 = some r) (hS : St B w (l) hf) :
    Calls Tryd.prog 28 #[.nilIface, .iface 30 (.int .i64 a3477)] w (Ret fun v w => v = .bool r ∧ St B w (l) hf) := by
  have h := Holds.of h
  refine enter (args := [.nilIface, .iface 30 (.int .i64 a3477)]) Tryd.func28 rfl Tryd.ntmps28 (Nat.le_of_ble_eq_true rfl) ?_
  refine RC.seq ?_
  refine RC.region ?_
  refine RL.s (Vl.assign rfl) rfl ?_
  refine RL.nil ?_
  refine RQ.then_n ?_
  refine RC.seq ?_
  refine RC.seq ?_
  refine RC.region ?_
  refine RL.s (Vl.move rfl) rfl ?_
  refine RL.s (Vl.bin (v := .bool true) rfl rfl (by kernel_rfl)) rfl ?_
  refine RL.s (Vl.move rfl) rfl ?_
  refine RL.nn rfl rfl ?_
  refine RL.nn rfl rfl ?_
  refine RL.s (Vl.pickT rfl rfl) rfl ?_
  refine RL.nil ?_
  refine RQ.then_n ?_
  refine RC.condT rfl ?_
  refine RC.seq ?_
  refine RC.region ?_
  refine RL.s (Vl.move rfl) rfl ?_
  refine RL.s (Vl.move rfl) rfl ?_
  refine RL.s (Vl.bin (v := .bool false) rfl rfl (by kernel_rfl)) rfl ?_
  refine RL.s (Vl.assign rfl) rfl ?_
  refine RL.nil ?_
  refine RQ.then_n ?_
  refine RC.ret ?_
  refine RQ.ret ?_
  have e := h.some
  subst e
  refine RQ.ret0 (vs := [.bool false]) Tryd.results28 ⟨rfl, trivial⟩ ?_
  exact ⟨rfl, hS⟩

/-! ### isochron/code.Check: function 17 -/
noncomputable def code_Check.f (a3287 : List api_Instr) : Option (Int) := ((code_check.f a3287).bind fun t3481 => match t3481 with | .inl y3483 => ((errors_Is.f y3483 2).bind fun t3484 => (if t3484 = true then some 2 else some 130)) | .inr (.inl (y3487, y3488)) => ((errors_Is_2.f y3487 y3488 2).bind fun t3491 => (if t3491 = true then some 2 else some 130)) | .inr (.inr (_)) => ((errors_Is_3.f 2).bind fun t3494 => (if t3494 = true then some 2 else some 0)))
set_option maxRecDepth 100000 in
set_option maxHeartbeats 4000000 in
theorem code_Check.ok {B : Base} {w : World} {l : List HProp} {hf : Hp} (a3287 : List api_Instr) (A3288 : Option Addr) (c3289 : Nat) (hr3290 : SlR E_api_Instr.rep hf A3288 c3289 a3287) (r : Int) (h : code_Check.f a3287 = some r) (hS : St B w (l) hf) :
    Calls Tryd.prog 17 #[.slice A3288 a3287.length c3289] w (Ret fun v w => v = .int .i64 r ∧ St B w (l) hf) := by
  have h := Holds.of h
  refine enter (args := [.slice A3288 a3287.length c3289]) Tryd.func17 rfl Tryd.ntmps17 (Nat.le_of_ble_eq_true rfl) ?_
  refine RC.seq ?_
  refine RC.region ?_
  refine RL.s (Vl.assign rfl) rfl ?_
  refine RL.nil ?_
  refine RQ.then_n ?_
  refine RC.seq ?_
  refine RC.seq ?_
  refine RC.region ?_
  refine RL.s (Vl.move rfl) rfl ?_
  obtain ⟨t3481, hg3482, h⟩ := h.bind
  rcases t3481 with y3483 | ⟨y3487, y3488⟩ | _
  · refine RL.e (OW.callF (ls := [.tmp 4]) rfl Tryd.call27 (code_check.ok a3287 A3288 c3289 hr3290 _ hg3482 hS)) rfl rfl ?_
    rintro _ w ⟨rfl, hS⟩
    have hS : St B w (l) hf := hS
    refine RL.s (Vl.assign rfl) rfl ?_
    refine RL.nil ?_
    refine RQ.then_n ?_
    refine RC.block ?_
    refine RC.seq ?_
    refine RC.region ?_
    refine RL.s (Vl.move rfl) rfl ?_
    refine RL.s (Vl.makeIface Tryd.underlying30 rfl rfl) rfl ?_
    obtain ⟨t3484, hg3485, h⟩ := h.bind
    refine RL.e (OW.callF (ls := [.tmp 7, .tmp 8]) rfl Tryd.call28 (errors_Is.ok y3483 2 _ hg3485 hS)) rfl rfl ?_
    rintro _ w ⟨rfl, hS⟩
    have hS : St B w (l) hf := hS
    refine RL.s (Vl.assign rfl) rfl ?_
    refine RL.nil ?_
    refine RQ.then_n ?_
    by_cases hc3486 : t3484 = true
    case pos =>
      have h := h.pos hc3486
      refine RC.re 6 rfl (congrArg Value.bool (id hc3486)) ?_
      refine RC.condT rfl ?_
      refine RC.seq ?_
      refine RC.region ?_
      refine RL.s (Vl.assign rfl) rfl ?_
      refine RL.nil ?_
      refine RQ.then_n ?_
      refine RC.ret ?_
      refine RQ.inB_ret ?_
      refine RQ.ret ?_
      have e := h.some
      subst e
      refine RQ.ret0 (vs := [.int .i64 2]) Tryd.results17 ⟨rfl, trivial⟩ ?_
      exact ⟨rfl, hS⟩
    case neg =>
      have h := h.neg hc3486
      refine RC.re 6 rfl (congrArg Value.bool (eq_false_of hc3486)) ?_
      refine RC.condF rfl ?_
      refine RC.seq ?_
      refine RC.region ?_
      refine RL.s (Vl.move rfl) rfl ?_
      refine RL.s (Vl.bin (v := .bool true) rfl rfl (by kernel_rfl)) rfl ?_
      refine RL.s (Vl.assign rfl) rfl ?_
      refine RL.nil ?_
      refine RQ.then_n ?_
      refine RC.condT rfl ?_
      refine RC.seq ?_
      refine RC.region ?_
      refine RL.s (Vl.assign rfl) rfl ?_
      refine RL.nil ?_
      refine RQ.then_n ?_
      refine RC.ret ?_
      refine RQ.inB_ret ?_
      refine RQ.ret ?_
      have e := h.some
      subst e
      refine RQ.ret0 (vs := [.int .i64 130]) Tryd.results17 ⟨rfl, trivial⟩ ?_
      exact ⟨rfl, hS⟩
  · refine RL.e (OW.callF (ls := [.tmp 4]) rfl Tryd.call27 (code_check.ok a3287 A3288 c3289 hr3290 _ hg3482 hS)) rfl rfl ?_
    rintro _ w ⟨b3489, rfl, hS⟩
    have hS : St B w (Cl b3489 [.int .i64 y3487, .iface 30 (.int .i64 y3488)] 61 :: l) hf := hS
    refine RL.s (Vl.assign rfl) rfl ?_
    refine RL.nil ?_
    refine RQ.then_n ?_
    refine RC.block ?_
    refine RC.seq ?_
    refine RC.region ?_
    refine RL.s (Vl.move rfl) rfl ?_
    refine RL.s (Vl.makeIface Tryd.underlying30 rfl rfl) rfl ?_
    obtain ⟨t3491, hg3492, h⟩ := h.bind
    refine RL.e (OW.callF (ls := [.tmp 7, .tmp 8]) rfl Tryd.call28 (errors_Is_2.ok y3487 y3488 2 b3489 _ hg3492 hS)) rfl rfl ?_
    rintro _ w ⟨rfl, hS⟩
    have hS : St B w (Cl b3489 [.int .i64 y3487, .iface 30 (.int .i64 y3488)] 61 :: l) hf := hS
    refine RL.s (Vl.assign rfl) rfl ?_
    refine RL.nil ?_
    refine RQ.then_n ?_
    by_cases hc3493 : t3491 = true
    case pos =>
      have h := h.pos hc3493
      refine RC.re 6 rfl (congrArg Value.bool (id hc3493)) ?_
      refine RC.condT rfl ?_
      refine RC.seq ?_
      refine RC.region ?_
      refine RL.s (Vl.assign rfl) rfl ?_
      refine RL.nil ?_
      refine RQ.then_n ?_
      refine RC.ret ?_
      refine RQ.inB_ret ?_
      refine RQ.ret ?_
      have e := h.some
      subst e
      refine RQ.ret0 (vs := [.int .i64 2]) Tryd.results17 ⟨rfl, trivial⟩ ?_
      exact ⟨rfl, (hS.dropAt 0 rfl)⟩
    case neg =>
      have h := h.neg hc3493
      refine RC.re 6 rfl (congrArg Value.bool (eq_false_of hc3493)) ?_
      refine RC.condF rfl ?_
      refine RC.seq ?_
      refine RC.region ?_
      refine RL.s (Vl.move rfl) rfl ?_
      refine RL.s (Vl.bin (v := .bool true) rfl rfl (by kernel_rfl)) rfl ?_
      refine RL.s (Vl.assign rfl) rfl ?_
      refine RL.nil ?_
      refine RQ.then_n ?_
      refine RC.condT rfl ?_
      refine RC.seq ?_
      refine RC.region ?_
      refine RL.s (Vl.assign rfl) rfl ?_
      refine RL.nil ?_
      refine RQ.then_n ?_
      refine RC.ret ?_
      refine RQ.inB_ret ?_
      refine RQ.ret ?_
      have e := h.some
      subst e
      refine RQ.ret0 (vs := [.int .i64 130]) Tryd.results17 ⟨rfl, trivial⟩ ?_
      exact ⟨rfl, (hS.dropAt 0 rfl)⟩
  · refine RL.e (OW.callF (ls := [.tmp 4]) rfl Tryd.call27 (code_check.ok a3287 A3288 c3289 hr3290 _ hg3482 hS)) rfl rfl ?_
    rintro _ w ⟨rfl, hS⟩
    have hS : St B w (l) hf := hS
    refine RL.s (Vl.assign rfl) rfl ?_
    refine RL.nil ?_
    refine RQ.then_n ?_
    refine RC.block ?_
    refine RC.seq ?_
    refine RC.region ?_
    refine RL.s (Vl.move rfl) rfl ?_
    refine RL.s (Vl.makeIface Tryd.underlying30 rfl rfl) rfl ?_
    obtain ⟨t3494, hg3495, h⟩ := h.bind
    refine RL.e (OW.callF (ls := [.tmp 7, .tmp 8]) rfl Tryd.call28 (errors_Is_3.ok 2 _ hg3495 hS)) rfl rfl ?_
    rintro _ w ⟨rfl, hS⟩
    have hS : St B w (l) hf := hS
    refine RL.s (Vl.assign rfl) rfl ?_
    refine RL.nil ?_
    refine RQ.then_n ?_
    by_cases hc3496 : t3494 = true
    case pos =>
      have h := h.pos hc3496
      refine RC.re 6 rfl (congrArg Value.bool (id hc3496)) ?_
      refine RC.condT rfl ?_
      refine RC.seq ?_
      refine RC.region ?_
      refine RL.s (Vl.assign rfl) rfl ?_
      refine RL.nil ?_
      refine RQ.then_n ?_
      refine RC.ret ?_
      refine RQ.inB_ret ?_
      refine RQ.ret ?_
      have e := h.some
      subst e
      refine RQ.ret0 (vs := [.int .i64 2]) Tryd.results17 ⟨rfl, trivial⟩ ?_
      exact ⟨rfl, hS⟩
    case neg =>
      have h := h.neg hc3496
      refine RC.re 6 rfl (congrArg Value.bool (eq_false_of hc3496)) ?_
      refine RC.condF rfl ?_
      refine RC.seq ?_
      refine RC.region ?_
      refine RL.s (Vl.move rfl) rfl ?_
      refine RL.s (Vl.bin (v := .bool false) rfl rfl (by kernel_rfl)) rfl ?_
      refine RL.s (Vl.assign rfl) rfl ?_
      refine RL.nil ?_
      refine RQ.then_n ?_
      refine RC.condF rfl ?_
      refine RC.skip ?_
      refine RQ.inB_n ?_
      refine RQ.then_n ?_
      refine RC.seq ?_
      refine RC.region ?_
      refine RL.s (Vl.assign rfl) rfl ?_
      refine RL.nil ?_
      refine RQ.then_n ?_
      refine RC.ret ?_
      have e := h.some
      subst e
      refine RQ.ret0 (vs := [.int .i64 0]) Tryd.results17 ⟨rfl, trivial⟩ ?_
      exact ⟨rfl, hS⟩

/-! ### isochron/isochronref03.Check: function 18 -/
noncomputable def isochronref03vCheck.l2b (a3499 : List api_Instr) : Int → Option ((Int) ⊕ (Int))
  | (x3548) => (if x3548 < (a3499.length : Int) then (if 0 ≤ x3548 then ((isochronref03vmay.f (nth a3499 x3548) (a3499.length : Int)).bind fun t3568 => (if t3568 = true then some (.inl (IntKind.i64.wrap (x3548 + 1))) else some (.inr 130))) else none) else some (.inr 0))
noncomputable def isochronref03vCheck.l2 (a3499 : List api_Instr) (s : Int) : Option (Int) := loopR (isochronref03vCheck.l2b a3499) s
noncomputable def isochronref03vCheck.f (a3499 : List api_Instr) : Option (Int) := (if 256 < (a3499.length : Int) then some 2 else isochronref03vCheck.l2 a3499 (0))
set_option maxRecDepth 100000 in
set_option maxHeartbeats 4000000 in
theorem isochronref03vCheck.ok {B : Base} {w : World} {l : List HProp} {hf : Hp} (a3499 : List api_Instr) (A3500 : Option Addr) (c3501 : Nat) (hr3502 : SlR E_api_Instr.rep hf A3500 c3501 a3499) (r : Int) (h : isochronref03vCheck.f a3499 = some r) (hS : St B w (l) hf) :
    Calls Tryd.prog 18 #[.slice A3500 a3499.length c3501] w (Ret fun v w => v = .int .i64 r ∧ St B w (l) hf) := by
  have h := Holds.of h
  refine enter (args := [.slice A3500 a3499.length c3501]) Tryd.func18 rfl Tryd.ntmps18 (Nat.le_of_ble_eq_true rfl) ?_
  refine RC.seq ?_
  refine RC.region ?_
  refine RL.s (Vl.assign rfl) rfl ?_
  refine RL.nil ?_
  refine RQ.then_n ?_
  refine RC.seq ?_
  refine RC.seq ?_
  refine RC.region ?_
  refine RL.s (Vl.move rfl) rfl ?_
  refine RL.s (Vl.lenSl Tryd.underlying29 rfl) rfl ?_
  refine RL.s (Vl.int rfl rfl rfl) rfl ?_
  refine RL.nil ?_
  refine RQ.then_n ?_
  by_cases hc3538 : 256 < (a3499.length : Int)
  case pos =>
    have h := h.pos hc3538
    refine RC.re 6 rfl (congrArg Value.bool (decide_eq_true hc3538)) ?_
    refine RC.condT rfl ?_
    refine RC.seq ?_
    refine RC.region ?_
    refine RL.s (Vl.assign rfl) rfl ?_
    refine RL.nil ?_
    refine RQ.then_n ?_
    refine RC.ret ?_
    refine RQ.ret ?_
    have e := h.some
    subst e
    refine RQ.ret0 (vs := [.int .i64 2]) Tryd.results18 ⟨rfl, trivial⟩ ?_
    exact ⟨rfl, hS⟩
  case neg =>
    have h := h.neg hc3538
    refine RC.re 6 rfl (congrArg Value.bool (decide_eq_false hc3538)) ?_
    refine RC.condF rfl ?_
    refine RC.skip ?_
    refine RQ.then_n ?_
    refine RC.seq ?_
    refine RC.seq ?_
    refine RC.region ?_
    refine RL.s (Vl.assign rfl) rfl ?_
    refine RL.nil ?_
    refine RQ.then_n ?_
    refine RC.block ?_
    refine fun a ha => RC.loop (N := 21) (body := (isochronref03vCheck.l2b a3499)) (φ := (· = r)) (fun (s : Int) a w => ∃ (x3548 : Int), s = (x3548) ∧ Has 21 [(0, .slice A3500 a3499.length c3501), (3, .int .i64 x3548)] a ∧ St B w (l) hf) ?_ (s0 := (0)) h ⟨0, rfl, ha.to ⟨rfl, rfl, trivial⟩, hS⟩
    rintro G3560 x3548 a w ⟨_, rfl, ha, hS⟩ h
    revert a
    show RC _ _ _ _ _ _
    refine RC.seq ?_
    refine RC.seq ?_
    refine RC.region ?_
    refine RL.s (Vl.move rfl) rfl ?_
    refine RL.s (Vl.move rfl) rfl ?_
    refine RL.s (Vl.lenSl Tryd.underlying29 rfl) rfl ?_
    refine RL.s (Vl.int rfl rfl rfl) rfl ?_
    refine RL.nil ?_
    refine RQ.then_n ?_
    by_cases hc3562 : x3548 < (a3499.length : Int)
    case pos =>
      have h := h.pos hc3562
      refine RC.re 10 rfl (congrArg Value.bool (decide_eq_true hc3562)) ?_
      refine RC.condT rfl ?_
      refine RC.skip ?_
      refine RQ.then_n ?_
      refine RC.seq ?_
      refine RC.block ?_
      refine RC.seq ?_
      refine RC.region ?_
      refine RL.s (Vl.move rfl) rfl ?_
      refine RL.s (Vl.move rfl) rfl ?_
      obtain ⟨hq3567, h⟩ := h.req
      refine RL.s (Vl.indexAddr Tryd.underlying29 Tryd.sizeOf23 rfl rfl ((hr3502.2.world hS.sub).adr hq3567 hc3562) hq3567 hc3562 rfl) rfl ?_
      refine RL.s (Vl.loadA Tryd.isAgg23 Tryd.sizeOf23 rfl rfl ((hr3502.2.world hS.sub).cells hq3567 hc3562)) rfl ?_
      refine RL.s (Vl.move rfl) rfl ?_
      refine RL.s (Vl.lenSl Tryd.underlying29 rfl) rfl ?_
      obtain ⟨t3568, hg3569, h⟩ := h.bind
      refine RL.e (OW.callF (ls := [.tmp 16, .tmp 18]) rfl Tryd.call26 (isochronref03vmay.ok (nth a3499 x3548) (a3499.length : Int) _ hg3569 hS)) rfl rfl ?_
      rintro _ w ⟨rfl, hS⟩
      have hS : St B w (l) hf := hS
      refine RL.s (Vl.not rfl) rfl ?_
      refine RL.nil ?_
      refine RQ.then_n ?_
      by_cases hc3570 : t3568 = true
      case pos =>
        have h := h.pos hc3570
        refine RC.re 20 rfl (congrArg Value.bool (notb_pos hc3570)) ?_
        refine RC.condF rfl ?_
        refine RC.skip ?_
        refine RQ.inB_n ?_
        refine RQ.then_n ?_
        refine RC.region ?_
        refine RL.s (Vl.move rfl) rfl ?_
        refine RL.s (Vl.int rfl rfl rfl) rfl ?_
        refine RL.s (Vl.assign rfl) rfl ?_
        refine RL.nil ?_
        exact fun a ha => ⟨(IntKind.i64.wrap (x3548 + 1)), ⟨(IntKind.i64.wrap (x3548 + 1)), rfl, ha.to ⟨rfl, rfl, trivial⟩, hS⟩, h.some⟩
      case neg =>
        have h := h.neg hc3570
        refine RC.re 20 rfl (congrArg Value.bool (notb_neg hc3570)) ?_
        refine RC.condT rfl ?_
        refine RC.seq ?_
        refine RC.region ?_
        refine RL.s (Vl.assign rfl) rfl ?_
        refine RL.nil ?_
        refine RQ.then_n ?_
        refine RC.ret ?_
        refine RQ.inB_ret ?_
        refine RQ.ret ?_
        have h := h.inrS
        refine RQ.ret ?_
        refine RQ.inB_ret ?_
        refine RQ.ret ?_
        have e := h.some
        subst e
        refine RQ.ret0 (vs := [.int .i64 130]) Tryd.results18 ⟨rfl, trivial⟩ ?_
        exact ⟨rfl, hS⟩
    case neg =>
      have h := h.neg hc3562
      refine RC.re 10 rfl (congrArg Value.bool (decide_eq_false hc3562)) ?_
      refine RC.condF rfl ?_
      refine RC.exit ?_
      refine RQ.exitT ?_
      have h := h.inrS
      refine RQ.exitT ?_
      refine RQ.inB_hit ?_
      refine RQ.then_n ?_
      refine RC.seq ?_
      refine RC.region ?_
      refine RL.s (Vl.assign rfl) rfl ?_
      refine RL.nil ?_
      refine RQ.then_n ?_
      refine RC.ret ?_
      have e := h.some
      subst e
      refine RQ.ret0 (vs := [.int .i64 0]) Tryd.results18 ⟨rfl, trivial⟩ ?_
      exact ⟨rfl, hS⟩

/-! ### isochron/isochronlaw03.CodeChecks: function 6 -/
noncomputable def isochronlaw03vCodeChecks.f (a3283 : List api_Instr) : Option (Bool) := ((code_Check.f a3283).bind fun t3576 => ((isochronref03vCheck.f a3283).bind fun t3578 => (if t3576 = t3578 then ((isochronlaw03vawake.f).bind fun t3581 => some t3581) else some false)))
set_option maxRecDepth 100000 in
set_option maxHeartbeats 4000000 in
theorem isochronlaw03vCodeChecks.ok {B : Base} {w : World} {l : List HProp} {hf : Hp} (a3283 : List api_Instr) (A3284 : Option Addr) (c3285 : Nat) (hr3286 : SlR E_api_Instr.rep hf A3284 c3285 a3283) (hT : TabH Tryd.prog hf) (r : Bool) (h : isochronlaw03vCodeChecks.f a3283 = some r) (hS : St B w (l) hf) :
    Calls Tryd.prog 6 #[.slice A3284 a3283.length c3285] w (Ret fun v w => v = .bool r ∧ St B w (l) hf) := by
  have h := Holds.of h
  refine enter (args := [.slice A3284 a3283.length c3285]) Tryd.func6 rfl Tryd.ntmps6 (Nat.le_of_ble_eq_true rfl) ?_
  refine RC.seq ?_
  refine RC.region ?_
  refine RL.s (Vl.assign rfl) rfl ?_
  refine RL.nil ?_
  refine RQ.then_n ?_
  refine RC.seq ?_
  refine RC.region ?_
  refine RL.s (Vl.move rfl) rfl ?_
  obtain ⟨t3576, hg3577, h⟩ := h.bind
  refine RL.e (OW.callF (ls := [.tmp 3]) rfl Tryd.call17 (code_Check.ok a3283 A3284 c3285 hr3286 _ hg3577 hS)) rfl rfl ?_
  rintro _ w ⟨rfl, hS⟩
  have hS : St B w (l) hf := hS
  refine RL.s (Vl.move rfl) rfl ?_
  obtain ⟨t3578, hg3579, h⟩ := h.bind
  refine RL.e (OW.callF (ls := [.tmp 5]) rfl Tryd.call18 (isochronref03vCheck.ok a3283 A3284 c3285 hr3286 _ hg3579 hS)) rfl rfl ?_
  rintro _ w ⟨rfl, hS⟩
  have hS : St B w (l) hf := hS
  refine RL.s (Vl.int rfl rfl rfl) rfl ?_
  refine RL.s (Vl.move rfl) rfl ?_
  by_cases hc3580 : t3576 = t3578
  case pos =>
    have h := h.pos hc3580
    refine RL.re 8 rfl (congrArg Value.bool (decide_eq_true hc3580)) ?_
    obtain ⟨t3581, hg3582, h⟩ := h.bind
    refine RL.e (OW.callF (ls := []) rfl Tryd.call13 (isochronlaw03vawake.ok hT _ hg3582 hS)) rfl rfl ?_
    rintro _ w ⟨rfl, hS⟩
    have hS : St B w (l) hf := hS
    refine RL.s (Vl.pickT rfl rfl) rfl ?_
    refine RL.s (Vl.assign rfl) rfl ?_
    refine RL.nil ?_
    refine RQ.then_n ?_
    refine RC.ret ?_
    have e := h.some
    subst e
    refine RQ.ret0 (vs := [.bool t3581]) Tryd.results6 ⟨rfl, trivial⟩ ?_
    exact ⟨rfl, hS⟩
  case neg =>
    have h := h.neg hc3580
    refine RL.re 8 rfl (congrArg Value.bool (decide_eq_false hc3580)) ?_
    refine RL.nn rfl rfl ?_
    refine RL.s (Vl.pickF rfl rfl) rfl ?_
    refine RL.s (Vl.assign rfl) rfl ?_
    refine RL.nil ?_
    refine RQ.then_n ?_
    refine RC.ret ?_
    have e := h.some
    subst e
    refine RQ.ret0 (vs := [.bool false]) Tryd.results6 ⟨rfl, trivial⟩ ?_
    exact ⟨rfl, hS⟩

/-! ### isochron/isochronlaw03.CodeParts: function 7 -/
noncomputable def isochronlaw03vCodeParts.l4b (a3583 : List api_Instr) : Bool × Int → Option ((Bool × Int) ⊕ (Bool))
  | (q4029, x4030) => (if x4030 < (a3583.length : Int) then (if 0 ≤ x4030 then (if (nth a3583 x4030).Op = 10 then ((isochronlaw03vawake.f).bind fun t4109 => some (.inr t4109)) else (if (nth a3583 x4030).Op = 11 then ((isochronlaw03vawake.f).bind fun t4112 => some (.inr t4112)) else (if q4029 = true then (if x4030 ≤ IntKind.i64.wrap (x4030 + 1) ∧ IntKind.i64.wrap (x4030 + 1) ≤ (a3583.length : Int) then ((code_Check.f (subL a3583 x4030 (IntKind.i64.wrap (x4030 + 1)))).bind fun t4118 => some (.inl ((decide (t4118 = 0)), IntKind.i64.wrap (x4030 + 1)))) else none) else some (.inl (false, IntKind.i64.wrap (x4030 + 1)))))) else none) else (Option.map Sum.inr ((code_Check.f a3583).bind fun t4120 => (if (decide (t4120 = 0)) = q4029 then ((isochronlaw03vawake.f).bind fun t4123 => some t4123) else some false))))
noncomputable def isochronlaw03vCodeParts.l4 (a3583 : List api_Instr) (s : Bool × Int) : Option (Bool) := loopR (isochronlaw03vCodeParts.l4b a3583) s
noncomputable def isochronlaw03vCodeParts.f (a3583 : List api_Instr) : Option (Bool) := isochronlaw03vCodeParts.l4 a3583 ((decide ((a3583.length : Int) ≤ 256)), 0)
set_option maxRecDepth 100000 in
set_option maxHeartbeats 4000000 in
theorem isochronlaw03vCodeParts.ok {B : Base} {w : World} {l : List HProp} {hf : Hp} (a3583 : List api_Instr) (A3584 : Option Addr) (c3585 : Nat) (hr3586 : SlR E_api_Instr.rep hf A3584 c3585 a3583) (hT : TabH Tryd.prog hf) (r : Bool) (h : isochronlaw03vCodeParts.f a3583 = some r) (hS : St B w (l) hf) :
    Calls Tryd.prog 7 #[.slice A3584 a3583.length c3585] w (Ret fun v w => v = .bool r ∧ St B w (l) hf) := by
  have h := Holds.of h
  refine enter (args := [.slice A3584 a3583.length c3585]) Tryd.func7 rfl Tryd.ntmps7 (Nat.le_of_ble_eq_true rfl) ?_
  refine RC.seq ?_
  refine RC.region ?_
  refine RL.s (Vl.assign rfl) rfl ?_
  refine RL.nil ?_
  refine RQ.then_n ?_
  refine RC.seq ?_
  refine RC.region ?_
  refine RL.s (Vl.move rfl) rfl ?_
  refine RL.s (Vl.lenSl Tryd.underlying29 rfl) rfl ?_
  refine RL.s (Vl.int rfl rfl rfl) rfl ?_
  refine RL.s (Vl.assign rfl) rfl ?_
  refine RL.nil ?_
  refine RQ.then_n ?_
  refine RC.seq ?_
  refine RC.seq ?_
  refine RC.region ?_
  refine RL.s (Vl.assign rfl) rfl ?_
  refine RL.nil ?_
  refine RQ.then_n ?_
  refine RC.block ?_
  refine fun a ha => RC.loop (N := 47) (body := (isochronlaw03vCodeParts.l4b a3583)) (φ := (· = r)) (fun (s : Bool × Int) a w => ∃ (q4029 : Bool) (x4030 : Int), s = (q4029, x4030) ∧ Has 47 [(0, .slice A3584 a3583.length c3585), (3, .bool q4029), (4, .int .i64 x4030)] a ∧ St B w (l) hf) ?_ (s0 := ((decide ((a3583.length : Int) ≤ 256)), 0)) h ⟨(decide ((a3583.length : Int) ≤ 256)), 0, rfl, ha.to ⟨rfl, rfl, rfl, trivial⟩, hS⟩
  rintro G4076 _ a w ⟨q4029, x4030, rfl, ha, hS⟩ h
  revert a
  show RC _ _ _ _ _ _
  refine RC.seq ?_
  refine RC.seq ?_
  refine RC.region ?_
  refine RL.s (Vl.move rfl) rfl ?_
  refine RL.s (Vl.move rfl) rfl ?_
  refine RL.s (Vl.lenSl Tryd.underlying29 rfl) rfl ?_
  refine RL.s (Vl.int rfl rfl rfl) rfl ?_
  refine RL.nil ?_
  refine RQ.then_n ?_
  by_cases hc4078 : x4030 < (a3583.length : Int)
  case pos =>
    have h := h.pos hc4078
    refine RC.re 11 rfl (congrArg Value.bool (decide_eq_true hc4078)) ?_
    refine RC.condT rfl ?_
    refine RC.skip ?_
    refine RQ.then_n ?_
    refine RC.seq ?_
    refine RC.block ?_
    refine RC.seq ?_
    refine RC.seq ?_
    refine RC.region ?_
    refine RL.s (Vl.move rfl) rfl ?_
    refine RL.s (Vl.move rfl) rfl ?_
    obtain ⟨hq4107, h⟩ := h.req
    refine RL.s (Vl.indexAddr Tryd.underlying29 Tryd.sizeOf23 rfl rfl ((hr3586.2.world hS.sub).adr hq4107 hc4078) hq4107 hc4078 rfl) rfl ?_
    refine RL.s (Vl.fieldAddr (a'' := (ad A3584).add (x4030.toNat * 4 + 0)) Tryd.underlying23 rfl Tryd.sizeOf3 rfl (add_add _ _ _)) rfl ?_
    refine RL.s (Vl.load Tryd.isAgg3 rfl ((hr3586.2.world hS.sub).cell (j := 0) hq4107 hc4078 rfl)) rfl ?_
    refine RL.s (Vl.int rfl rfl rfl) rfl ?_
    refine RL.s (Vl.move rfl) rfl ?_
    by_cases hc4108 : (nth a3583 x4030).Op = 10
    case pos =>
      have h := h.pos hc4108
      refine RL.re 20 rfl (congrArg Value.bool (decide_eq_true hc4108)) ?_
      refine RL.nn rfl rfl ?_
      refine RL.nn rfl rfl ?_
      refine RL.nn rfl rfl ?_
      refine RL.nn rfl rfl ?_
      refine RL.nn rfl rfl ?_
      refine RL.nn rfl rfl ?_
      refine RL.s (Vl.pickT rfl rfl) rfl ?_
      refine RL.nil ?_
      refine RQ.then_n ?_
      refine RC.condT rfl ?_
      refine RC.seq ?_
      refine RC.region ?_
      obtain ⟨t4109, hg4110, h⟩ := h.bind
      refine RL.e (OW.callF (ls := []) rfl Tryd.call13 (isochronlaw03vawake.ok hT _ hg4110 hS)) rfl rfl ?_
      rintro _ w ⟨rfl, hS⟩
      have hS : St B w (l) hf := hS
      refine RL.s (Vl.assign rfl) rfl ?_
      refine RL.nil ?_
      refine RQ.then_n ?_
      refine RC.ret ?_
      refine RQ.ret ?_
      refine RQ.inB_ret ?_
      refine RQ.ret ?_
      have h := h.inrS
      refine RQ.ret ?_
      refine RQ.inB_ret ?_
      refine RQ.ret ?_
      have e := h.some
      subst e
      refine RQ.ret0 (vs := [.bool t4109]) Tryd.results7 ⟨rfl, trivial⟩ ?_
      exact ⟨rfl, hS⟩
    case neg =>
      have h := h.neg hc4108
      refine RL.re 20 rfl (congrArg Value.bool (decide_eq_false hc4108)) ?_
      refine RL.sg (Vl.move rfl) rfl rfl ?_
      refine RL.sg (Vl.move rfl) rfl rfl ?_
      refine RL.sg (Vl.indexAddr Tryd.underlying29 Tryd.sizeOf23 rfl rfl ((hr3586.2.world hS.sub).adr hq4107 hc4078) hq4107 hc4078 rfl) rfl rfl ?_
      refine RL.sg (Vl.fieldAddr (a'' := (ad A3584).add (x4030.toNat * 4 + 0)) Tryd.underlying23 rfl Tryd.sizeOf3 rfl (add_add _ _ _)) rfl rfl ?_
      refine RL.sg (Vl.load Tryd.isAgg3 rfl ((hr3586.2.world hS.sub).cell (j := 0) hq4107 hc4078 rfl)) rfl rfl ?_
      refine RL.sg (Vl.int rfl rfl rfl) rfl rfl ?_
      refine RL.s (Vl.pickF rfl rfl) rfl ?_
      refine RL.nil ?_
      refine RQ.then_n ?_
      by_cases hc4111 : (nth a3583 x4030).Op = 11
      case pos =>
        have h := h.pos hc4111
        refine RC.re 27 rfl (congrArg Value.bool (decide_eq_true hc4111)) ?_
        refine RC.condT rfl ?_
        refine RC.seq ?_
        refine RC.region ?_
        obtain ⟨t4112, hg4113, h⟩ := h.bind
        refine RL.e (OW.callF (ls := []) rfl Tryd.call13 (isochronlaw03vawake.ok hT _ hg4113 hS)) rfl rfl ?_
        rintro _ w ⟨rfl, hS⟩
        have hS : St B w (l) hf := hS
        refine RL.s (Vl.assign rfl) rfl ?_
        refine RL.nil ?_
        refine RQ.then_n ?_
        refine RC.ret ?_
        refine RQ.ret ?_
        refine RQ.inB_ret ?_
        refine RQ.ret ?_
        have h := h.inrS
        refine RQ.ret ?_
        refine RQ.inB_ret ?_
        refine RQ.ret ?_
        have e := h.some
        subst e
        refine RQ.ret0 (vs := [.bool t4112]) Tryd.results7 ⟨rfl, trivial⟩ ?_
        exact ⟨rfl, hS⟩
      case neg =>
        have h := h.neg hc4111
        refine RC.re 27 rfl (congrArg Value.bool (decide_eq_false hc4111)) ?_
        refine RC.condF rfl ?_
        refine RC.skip ?_
        refine RQ.then_n ?_
        refine RC.region ?_
        refine RL.s (Vl.move rfl) rfl ?_
        refine RL.s (Vl.move rfl) rfl ?_
        by_cases hc4114 : q4029 = true
        case pos =>
          have h := h.pos hc4114
          refine RL.re 30 rfl (congrArg Value.bool (id hc4114)) ?_
          refine RL.sg (Vl.move rfl) rfl rfl ?_
          refine RL.sg (Vl.move rfl) rfl rfl ?_
          refine RL.sg (Vl.move rfl) rfl rfl ?_
          refine RL.sg (Vl.int rfl rfl rfl) rfl rfl ?_
          obtain ⟨⟨hq4115, hq4116⟩, h⟩ := h.req
          have hr4117 := hr3586.sub (lo := x4030) (hi := IntKind.i64.wrap (x4030 + 1)) (m := c3585) hq4107 hq4115 hq4116 (by have := hr3586.1; omega)
          refine RL.sg (Vl.slice Tryd.underlying29 Tryd.sizeOf23 rfl rfl rfl hq4107 hq4115 hq4116 hr3586.1) rfl rfl ?_
          obtain ⟨t4118, hg4119, h⟩ := h.bind
          refine RL.e (OW.callF (ls := [.tmp 35]) rfl Tryd.call17 (code_Check.ok (subL a3583 x4030 (IntKind.i64.wrap (x4030 + 1))) (subA A3584 c3585 (x4030 : Int).toNat 4) (c3585 - (x4030 : Int).toNat) hr4117 _ hg4119 hS)) rfl rfl ?_
          rintro _ w ⟨rfl, hS⟩
          have hS : St B w (l) hf := hS
          refine RL.sg (Vl.int rfl rfl rfl) rfl rfl ?_
          refine RL.s (Vl.pickT rfl rfl) rfl ?_
          refine RL.s (Vl.assign rfl) rfl ?_
          refine RL.nil ?_
          refine RQ.inB_n ?_
          refine RQ.then_n ?_
          refine RC.region ?_
          refine RL.s (Vl.move rfl) rfl ?_
          refine RL.s (Vl.int rfl rfl rfl) rfl ?_
          refine RL.s (Vl.assign rfl) rfl ?_
          refine RL.nil ?_
          exact fun a ha => ⟨((decide (t4118 = 0)), IntKind.i64.wrap (x4030 + 1)), ⟨(decide (t4118 = 0)), (IntKind.i64.wrap (x4030 + 1)), rfl, ha.to ⟨rfl, rfl, rfl, trivial⟩, hS⟩, h.some⟩
        case neg =>
          have h := h.neg hc4114
          refine RL.re 30 rfl (congrArg Value.bool (eq_false_of hc4114)) ?_
          refine RL.nn rfl rfl ?_
          refine RL.nn rfl rfl ?_
          refine RL.nn rfl rfl ?_
          refine RL.nn rfl rfl ?_
          refine RL.nn rfl rfl ?_
          refine RL.nn rfl rfl ?_
          refine RL.nn rfl rfl ?_
          refine RL.s (Vl.pickF rfl rfl) rfl ?_
          refine RL.s (Vl.assign rfl) rfl ?_
          refine RL.nil ?_
          refine RQ.inB_n ?_
          refine RQ.then_n ?_
          refine RC.region ?_
          refine RL.s (Vl.move rfl) rfl ?_
          refine RL.s (Vl.int rfl rfl rfl) rfl ?_
          refine RL.s (Vl.assign rfl) rfl ?_
          refine RL.nil ?_
          exact fun a ha => ⟨(false, IntKind.i64.wrap (x4030 + 1)), ⟨false, (IntKind.i64.wrap (x4030 + 1)), rfl, ha.to ⟨rfl, rfl, rfl, trivial⟩, hS⟩, h.some⟩
  case neg =>
    have h := h.neg hc4078
    refine RC.re 11 rfl (congrArg Value.bool (decide_eq_false hc4078)) ?_
    refine RC.condF rfl ?_
    refine RC.exit ?_
    refine RQ.exitT ?_
    have h := h.inr
    refine RQ.exitT ?_
    refine RQ.inB_hit ?_
    refine RQ.then_n ?_
    refine RC.seq ?_
    refine RC.region ?_
    refine RL.s (Vl.move rfl) rfl ?_
    obtain ⟨t4120, hg4121, h⟩ := h.bind
    refine RL.e (OW.callF (ls := [.tmp 39]) rfl Tryd.call17 (code_Check.ok a3583 A3584 c3585 hr3586 _ hg4121 hS)) rfl rfl ?_
    rintro _ w ⟨rfl, hS⟩
    have hS : St B w (l) hf := hS
    refine RL.s (Vl.int rfl rfl rfl) rfl ?_
    refine RL.s (Vl.move rfl) rfl ?_
    refine RL.s (Vl.boolEql Tryd.underlying4 rfl rfl) rfl ?_
    refine RL.s (Vl.move rfl) rfl ?_
    by_cases hc4122 : (decide (t4120 = 0)) = q4029
    case pos =>
      have h := h.pos hc4122
      refine RL.re 44 rfl (congrArg Value.bool (decide_eq_true hc4122)) ?_
      obtain ⟨t4123, hg4124, h⟩ := h.bind
      refine RL.e (OW.callF (ls := []) rfl Tryd.call13 (isochronlaw03vawake.ok hT _ hg4124 hS)) rfl rfl ?_
      rintro _ w ⟨rfl, hS⟩
      have hS : St B w (l) hf := hS
      refine RL.s (Vl.pickT rfl rfl) rfl ?_
      refine RL.s (Vl.assign rfl) rfl ?_
      refine RL.nil ?_
      refine RQ.then_n ?_
      refine RC.ret ?_
      have e := h.some
      subst e
      refine RQ.ret0 (vs := [.bool t4123]) Tryd.results7 ⟨rfl, trivial⟩ ?_
      exact ⟨rfl, hS⟩
    case neg =>
      have h := h.neg hc4122
      refine RL.re 44 rfl (congrArg Value.bool (decide_eq_false hc4122)) ?_
      refine RL.nn rfl rfl ?_
      refine RL.s (Vl.pickF rfl rfl) rfl ?_
      refine RL.s (Vl.assign rfl) rfl ?_
      refine RL.nil ?_
      refine RQ.then_n ?_
      refine RC.ret ?_
      have e := h.some
      subst e
      refine RQ.ret0 (vs := [.bool false]) Tryd.results7 ⟨rfl, trivial⟩ ?_
      exact ⟨rfl, hS⟩

end Go.Proofs.Gx
